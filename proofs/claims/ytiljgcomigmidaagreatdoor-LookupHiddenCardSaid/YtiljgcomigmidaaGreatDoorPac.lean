/- Contracts: calls answered by what is known of them; the sums and products of words. -/
import Derived.Test.YtiljgcomigmidaaGreatDoorPab
import Derived.Laws.Externs
import Derived.ChangeMaps5
import Derived.ChangeSame
import Derived.OpenShut
import Derived.Handed
import Derived.ProofKit
import Derived.LaidMore
import Derived.Stop.Joined
import Derived.HandedShaped
import Derived.SizedLaws
import Derived.Carry
import Derived.RangeFuncOwn
import Derived.RangeFuncLeaves
import Derived.KernelRfl
import Derived.Test.YtiljgcomigmidaaGreatDoorPaa
open Array renaming replicate->rN,eq_empty_of_size_eq_zero->u3
open Bool renaming and_eq_true->aO,not_eq_true'->fX,or_eq_true->ow,false_eq_true->pL
open Function renaming comp->Kg
open Go renaming World->ai,Value->az,TypeId->aQ,Program->bj,FuncId->cz,IntKind->dj,Calls->gU,DataW->nJ,Ending->pK,MemPlace->qz,Deferred->uZ
open Go.ChangeSpec renaming post_blind->aA2,plain->aA4
open Go.DataW renaming trod->Km,weightsEach->Kt,weightsAll->Ku,weights->Kv,trod_int->aaw,TrodAll->aaV,trod_array->auu,lit->auv,trod_slice->au1,trod_string->au2
open Go.DataW.Whole renaming of_heap->aA1
open Go.DataW.agg renaming injEq->azz
open Go.DataW.slice renaming injEq->aAV
open Go.Extern.BytealgIndexByte renaming indexByte->RB
open Go.Fence renaming wide->zi
open Go.Frame renaming enter->au4
open Go.Input renaming okWide->au3
open Go.OpenSpec renaming ofChange->RC
open Go.Value renaming int->rO,slice->Cr,cells->Cu,agg->Cz,okWide->Kw,bool->aus
open Go.Value.slice renaming injEq->aAU
open Go.World renaming cell?->jI,putObj_heap_other->rR,frozen?->tf,putObj_heap_same->u6,putObj_size->RD,alloc_heap_new->au8
open Go.World.Extends renaming refl->m4,drew->Gc
open Int renaming le_refl->bB,lt_or_le->hQ,le_trans->pJ,toNat_of_nonneg->aaD
open List renaming getD->aC,map_cons->cp,mem_cons_of_mem->cD,length_cons->cW,mem_of_getElem?->c0,range->c8,length_append->dn,map_nil->er,length_nil->eH,replicate->eX,map_append->fY,map_congr_left->gI,append_assoc->gJ,getElem?_eq_getElem->hP,take_append_drop->jn,nil_append->jH,mem_of_mem_take->j1,length_map->j2,take_of_length_le->kr,mem_cons->ks,length->kt,map_map->kN,append_nil->ln,getElem?_cons_zero->m1,length_take->m5,getElem?_set->oy,zipWith->o3,all_eq_true->pI,flatMap_cons->qA,length_drop->qB,mem_append->qC,not_mem_nil->s9,drop_left->tg,mem_cons_self->th,cons_append->ti,take_succ_cons->y5,map_take->y6,map_drop->y7,mem_of_find?_eq_some->y9,find?_cons->zh,drop_drop->Cs,mem_or_eq_of_mem_set->Cv,replicate_succ->Cy,drop_of_length_le->F6,take_append_of_le_length->Ge,flatten_cons->Gl,getD_cons_succ->Ki,zipWith_cons_cons->Kl,take_length->Rm,take_left->Rr,mapM_cons->aav,getElem?_eq_none->aaQ,getElem?_eq_none_iff->aaT
open List.cons renaming injEq->lp
open Nat renaming beq->aH,le_refl->aV,ble->bu,eq_of_beq_eq_true->bx,blt->bY,le_of_ble_eq_true->eh,le_trans->gk,zero_le->iF,add_zero->lq,lt_or_ge->mx,blt_eq->ov,succ_mul->rP,lt_of_lt_of_le->uX,zero_add->zb,beq_refl->Cm,le_add_right->Cn,mul_one->Gf,mul_le_mul_left->Rl,eq_zero_or_pos->aaS
open Option renaming isSome_none->rQ,bind_eq_some_iff->aaU
open Option.some renaming injEq->aL,inj->gH
open Prod.mk renaming injEq->ct
open Pure renaming pure->Cq
set_option linter.unusedVariables false
set_option linter.unusedSimpArgs false
namespace Go.ba
open M
def ay.sym (s:Nat):ay->A
 |int k lo hi=> .int k ⟨.var s,lo,hi⟩
 |str=> .str (.var s)
 |bool=> .bool (.eq (.var s) (.const 1))
 |sub _=> .con (.slice none 0 0)
 |nil=> .con (.slice none 0 0)
inductive D where
 |str
 |int (k:dj) (lo hi:Int)
 |bool
 |agg (k:dj) (n:Nat) (lo hi:Int)
 |mix (l:List ay)
 |jC (l:List UInt8)
 |n9 (k:dj) (c:Int)
def hW (lo hi:Int):Nat->List (Int×Int)
 |0=>[]
 |n+1=>(lo,hi)::hW lo hi n
noncomputable def D.bds:D->List (Int×Int)
 |str=>[(0,bp)]
 |int _ lo hi=>[(lo,hi)]
 |bool=>[(0,1)]
 |agg _ n lo hi=>hW lo hi n
 |mix l=>l.map ay.dQ
 |jC _=>[]
 |n9 .. =>[]
def D.num:D->Nat
 |str=>1
 |int .. =>1
 |bool=>1
 |agg _ n _ _=>n
 |mix l=>l.length
 |jC _=>0
 |n9 .. =>0
def D.val:D->List Int->az
 |str,zs=> .string (aG (U (zs.getD 0 0)))
 |int k _ _,zs=> .int k (zs.getD 0 0)
 |bool,zs=> .bool (decide (zs.getD 0 0=1))
 |agg k n _ _,zs=> .agg ((zs.take n).map (.int k)).toArray
 |mix l,zs=> .agg (o3 ay.val l zs).toArray
 |jC l,_=> .string (aG (qf l))
 |n9 k c,_=> .int k c
def BN (k:dj) (lo hi:Int):Nat->Nat->List A
 |_,0=>[]
 |s,n+1=> .int k ⟨.var s,lo,hi⟩::BN k lo hi (s+1) n
def Bu:Nat->List ay->List A
 |_,[]=>[]
 |s,c::r=>c.sym s::Bu (s+1) r
def D.sym (s:Nat):D->W
 |str=> .one (.str (.var s))
 |int k lo hi=> .one (.int k ⟨.var s,lo,hi⟩)
 |bool=> .one (.bool (.eq (.var s) (.const 1)))
 |agg k n lo hi=> .agg (BN k lo hi s n)
 |mix l=> .agg (Bu s l)
 |jC l=> .one (.str (.const (cZ (qf l))))
 |n9 k c=> .one (.int k (bI.const c))
noncomputable def dA:List D->List (Int×Int)
 |[]=>[]
 |d::r=>d.bds++dA r
def mq:List D->List Int->List az
 |[],_=>[]
 |d::r,zs=>d.val zs::mq r (zs.drop d.num)
def sZ:Nat->List D->List W
 |_,[]=>[]
 |s,d::r=>d.sym s::sZ (s+d.num) r
theorem gi:∀{b:List (Int×Int)} {l:List Int},bd b l->l.length=b.length
 |[],[],_=>rfl
 |_::_,_::_,h=>by simp[gi h.2.2]
 |[],_::_,h=>h.elim
 |_::_,[],h=>h.elim
theorem Yn (lo hi:Int):∀n,(hW lo hi n).length=n
 |0=>rfl
 |n+1=>by simp[hW,Yn lo hi n]
theorem D.tD (d:D):d.bds.length=d.num:=by cases d<;>simp[D.bds,D.num,Yn]
theorem IA:∀{b b':List (Int×Int)} {l:List Int},bd (b++b') l->bd b (l.take b.length)/\bd b' (l.drop b.length)
 |[],_,_,h=>⟨trivial,h⟩
 |_::_,_,_::_,h=>by
  have ih:=IA h.2.2;exact⟨⟨h.1,h.2.1,ih.1⟩,ih.2⟩
 |_::_,_,[],h=>h.elim
def fC (ρ:Env) (s:Nat) (zs:List Int):Prop:=∀j,j<zs.length->ρ (s+j)=zs.getD j 0
theorem fC.bf (ρ:Env) (s:Nat) (zs:List Int):fC (bf ρ s zs) s zs:=λj hj=>Cb zs s ρ j hj
theorem fC.tail {ρ:Env} {s:Nat} {z:Int} {zs:List Int} (h:fC ρ s (z::zs)):ρ s=z/\fC ρ (s+1) zs:=by
 refine⟨by simpa using h 0 (by simp),λj hj=>?_⟩;have:=h (j+1) (by simpa using hj);rw[show s+1+j=s+(j+1) by omega,this];simp
theorem fC.drop {ρ:Env} {s:Nat} {zs:List Int} (h:fC ρ s zs) (k:Nat):fC ρ (s+k) (zs.drop k):=λj hj=>by
 have:=h (k+j) (by simp at hj;omega);rw[show s+k+j=s+(k+j) by omega,this];simp[aC]
theorem Ym {ρ:Env} {m:Nat->Nat} {N nb:Nat} {k:dj} {lo hi:Int}:∀(n s:Nat) (zs:List Int),bd (hW lo hi n) (zs.take n)->fC ρ s zs->s+n<=N->
 (∀a∈BN k lo hi s n,A.ok N nb ρ a)/\(BN k lo hi s n).map (A.den ρ m)=(zs.take n).map (.int k)
 |0,s,zs,_,_,_=>by simp[BN]
 |n+1,s,[],h,_,_=>by simp[hW,bd]at h
 |n+1,s,z::zs,h,ha,hN=>by
  have ht:=ha.tail;simp only[hW,y5,bd]at h;obtain⟨h1,h2⟩:=Ym (m:=m) (nb:=nb) (k:=k) (N:=N) n (s+1) zs h.2.2 ht.2 (by omega);refine⟨λa hm=>?_,by simp only[BN,cp,A.den,aa.ck,ht.1,h2,y5]⟩;rcases List.mem_cons.1 hm with rfl|hm
  ·exact⟨aa.eo (by omega),by simp only[aa.ck,ht.1];exact h.1,by simp only[aa.ck,ht.1];exact h.2.1⟩
  ·exact h1 a hm
theorem ay.FE {ρ:Env} {m:Nat->Nat} {N nb:Nat} (c:ay) {s:Nat} {z:Int} (h0:c.dQ.1<=z) (h1:z<=c.dQ.2) (hz:ρ s=z) (hN:s<N):(c.sym s).ok N nb ρ/\(c.sym s).den ρ m=c.val z:=by
 cases c with
 |int k lo hi=>exact⟨⟨aa.eo hN,by simp only[aa.ck,hz];exact h0,by simp only[aa.ck,hz];exact h1⟩,by simp[ay.sym,ay.val,A.den,aa.ck,hz]⟩
 |str=>exact⟨⟨aa.eo hN,by rw[aa.ck,hz];exact h0,by rw[aa.ck,hz];exact h1⟩,by simp[ay.sym,ay.val,A.den,aa.ck,hz]⟩
 |bool=>exact⟨⟨aa.eo hN,aa.cC _ _⟩,by simp[ay.sym,ay.val,A.den,bg.den,aa.ck,aa.aR,hz]⟩
 |sub k=>exact⟨(rfl:(Cr none 0 0).oneCell'=true),rfl⟩
 |nil=>exact⟨(rfl:(Cr none 0 0).oneCell'=true),rfl⟩
theorem Xw {ρ:Env} {m:Nat->Nat} {N nb:Nat}:∀(l:List ay) (s:Nat) (zs:List Int),bd (l.map ay.dQ) (zs.take l.length)->fC ρ s zs->s+l.length<=N->
 (∀a∈Bu s l,A.ok N nb ρ a)/\(Bu s l).map (A.den ρ m)=o3 ay.val l zs
 |[],s,zs,_,_,_=>by simp[Bu]
 |_::_,s,[],h,_,_=>by simp[bd]at h
 |c::r,s,z::zs,h,ha,hN=>by
  have ht:=ha.tail;simp only[cp,cW,y5,bd]at h;obtain⟨h1,h2⟩:=Xw (m:=m) (nb:=nb) (N:=N) r (s+1) zs h.2.2 ht.2 (by simp at hN;omega);have hc:=c.FE (m:=m) (nb:=nb) (N:=N) h.1 h.2.1 ht.1 (by simp at hN;omega);refine⟨λa hm=>?_,by simp only[Bu,cp,hc.2,h2,Kl]⟩;rcases List.mem_cons.1 hm with rfl|hm
  ·exact hc.1
  ·exact h1 a hm
theorem D.FE {ρ:Env} {m:Nat->Nat} {N nb:Nat} (d:D) {s:Nat} {zs:List Int} (h:bd d.bds (zs.take d.num)) (ha:fC ρ s zs) (hN:s+d.num<=N):(d.sym s).ok N nb ρ/\(d.sym s).den ρ m=d.val zs:=by
 cases d with
 |str=>
  cases zs with
  |nil=>simp[D.bds,bd]at h
  |cons z r=>
   have ht:=ha.tail;simp only[D.bds,D.num,y5,bd]at h;simp only[D.num]at hN;exact⟨⟨aa.eo (by omega),by rw[aa.ck,ht.1];exact h.1,by rw[aa.ck,ht.1];exact h.2.1⟩,by simp[D.sym,W.den,A.den,D.val,aa.ck,ht.1]⟩
 |int k lo hi=>
  cases zs with
  |nil=>simp[D.bds,bd]at h
  |cons z r=>
   have ht:=ha.tail;simp only[D.bds,D.num,y5,bd]at h;simp only[D.num]at hN;exact⟨⟨aa.eo (by omega),by simp only[aa.ck,ht.1];exact h.1,by simp only[aa.ck,ht.1];exact h.2.1⟩,by simp[D.sym,W.den,A.den,D.val,aa.ck,ht.1]⟩
 |bool=>
  cases zs with
  |nil=>simp[D.bds,bd]at h
  |cons z r=>
   have ht:=ha.tail;simp only[D.num]at hN;exact⟨⟨aa.eo (by omega),aa.cC _ _⟩,by simp[D.sym,W.den,A.den,D.val,bg.den,aa.ck,aa.aR,ht.1]⟩
 |agg k n lo hi=>
  have:=Ym (m:=m) (nb:=nb) (k:=k) n s zs h ha hN;exact⟨this.1,by simp only[D.sym,W.den,D.val,this.2]⟩
 |mix l=>
  have:=Xw (m:=m) (nb:=nb) l s zs h ha hN;exact⟨this.1,by simp only[D.sym,W.den,D.val,this.2]⟩
 |jC l=>exact⟨⟨aa.cC _ _,by rw[aa.aR];exact ai5 l⟩,by simp[D.sym,W.den,A.den,D.val,aa.aR,dZ]⟩
 |n9 k c=>exact⟨bI.nc _ _ c,by simp[D.sym,W.den,A.den,D.val,bI.const,aa.aR]⟩
theorem QG {ρ:Env} {m:Nat->Nat} {N nb:Nat}:∀(ds:List D) {s:Nat} {zs:List Int},bd (dA ds) zs->fC ρ s zs->s+(dA ds).length<=N->(∀u∈sZ s ds,W.ok N nb ρ u)/\(sZ s ds).map (W.den ρ m)=mq ds zs
 |[],s,zs,_,_,_=>by simp[sZ,mq]
 |d::r,s,zs,h,ha,hN=>by
  have hs:=IA h;rw[D.tD]at hs;simp only[dA,dn,D.tD]at hN;have h1:=d.FE (m:=m) (nb:=nb) hs.1 ha (N:=N) (by omega);have h2:=QG (m:=m) (nb:=nb) (N:=N) r hs.2 (ha.drop d.num) (by omega);exact⟨λu hu=>by rcases List.mem_cons.1 hu with rfl|hu;exact h1.1;exact h2.1 u hu,by simp[sZ,mq,h1.2,h2.2]⟩
def BR (ds:List D) (s:Nat):V:=match sZ s ds with|[u]=> .w u|l=> .eV l
def eF (ds:List D) (zs:List Int):az:=match mq ds zs with|[x]=>x|l=> .tuple l.toArray
def nS (lo hi:Int) (x:bI):Bool:=decide (lo<=x.lo)&&decide (x.hi<=hi)
def kU (k:dj) (lo hi:Int):List A->Option (List aa)
 |[]=>some []
 | .int a6 x::r=>cond (decide (k=a6)&&nS lo hi x) (match kU k lo hi r with|some l=>some (x.l::l)|none=>none) none
 |_::_=>none
def ay.fit:ay->A->Option aa
 |int k lo hi,.int a6 x=>cond (decide (k=a6)&&nS lo hi x) (some x.l) none
 |str,.str l=>some l
 |bool,.bool (.lit b)=>some (.const (cond b 1 0))
 |nil,.con (.slice none 0 0)=>some (.const 0)
 |_,_=>none
def oN:List ay->List A->Option (List aa)
 |[],[]=>some []
 |c::r,a::s=>match c.fit a,oN r s with|some x,some l=>some (x::l)|_,_=>none
 |_,_=>none
def xm:D->V->Option (List aa)
 | .int k lo hi,.w (.one (.int a6 x))=>cond (decide (k=a6)&&nS lo hi x) (some [x.l]) none
 | .agg k n lo hi,.w (.agg l)=>cond (aH l.length n) (kU k lo hi l) none
 | .mix l,.w (.agg s)=>oN l s
 | .str,.w (.one (.str l))=>some [l]
 | .bool,.w (.one (.bool (.lit b)))=>some [.const (cond b 1 0)]
 | .jC l,.w (.one (.str x))=>match x.dt with|some c=>cond (decide (c=cZ (qf l))) (some []) none|none=>none
 | .n9 k c,.w (.one (.int a6 x))=>match x.l.dt with|some d=>cond (decide (k=a6)&&decide (d=c)) (some []) none|none=>none
 |_,_=>none
def pc:List D->List V->Option (List aa)
 |[],[]=>some []
 |d::r,v::s=>match xm d v,pc r s with|some a,some b=>some (a++b)|_,_=>none
 |_,_=>none
theorem Dg {n:Nat} {ρ:Env} {lo hi:Int} {x:bI} (h:nS lo hi x=true) (hx:x.ok n ρ):lo<=x.l.den ρ/\x.l.den ρ<=hi:=by
 simp only[nS,aO,decide_eq_true_eq]at h;have:=hx.2;omega
theorem Mz {n nb:Nat} {ρ:Env} {m:Nat->Nat} {k:dj} {lo hi:Int}:∀{l:List A} {r:List aa},kU k lo hi l=some r->(∀a∈l,A.ok n nb ρ a)->r.length=l.length/\bd (hW lo hi l.length) (r.map (·.den ρ))/\l.map (A.den ρ m)=(r.map (·.den ρ)).map (.int k)
 |[],r,h,_=>by simp[kU]at h;subst h;exact⟨rfl,trivial,rfl⟩
 | .int a6 x::s,r,h,aX=>by
  simp only[kU]at h;cases hc:(decide (k=a6)&&nS lo hi x)with
  |false=>simp[hc]at h
  |true=>
   simp only[hc,cond_true]at h;simp only[aO,decide_eq_true_eq]at hc;cases hr:kU k lo hi s with
   |none=>simp[hr]at h
   |some r'=>
    simp only[hr,aL]at h;subst h;obtain⟨h1,h2,h3⟩:=Mz (m:=m) hr λa ha=>aX a (cD _ ha);have hx:x.ok n ρ:=aX (.int a6 x) (by simp);have hf:=Dg hc.2 hx;exact⟨by simp[h1],⟨hf.1,hf.2,h2⟩,by simp only[cp,h3,A.den,hc.1]⟩
 | .bool _::_,_,h,_=>by simp[kU]at h
 | .ptr .. ::_,_,h,_=>by simp[kU]at h
 | .og .. ::_,_,h,_=>by simp[kU]at h
 | .gptr .. ::_,_,h,_=>by simp[kU]at h
 | .slc .. ::_,_,h,_=>by simp[kU]at h
 | .con _::_,_,h,_=>by simp[kU]at h
 | .str _::_,_,h,_=>by simp[kU]at h
theorem ay.adY {n nb:Nat} {ρ:Env} {m:Nat->Nat} {c:ay} {a:A} {l:aa} (h:c.fit a=some l) (aX:a.ok n nb ρ):(c.dQ.1<=l.den ρ/\l.den ρ<=c.dQ.2)/\a.den ρ m=c.val (l.den ρ):=by
 unfold ay.fit at h;split at h
 ·rename_i k lo hi a6 x;cases hc:(decide (k=a6)&&nS lo hi x)with
  |false=>simp[hc]at h
  |true=>
   simp only[hc,cond_true,aL]at h;subst h;simp only[aO,decide_eq_true_eq]at hc;exact⟨Dg hc.2 aX,by simp only[A.den,ay.val,hc.1]⟩
 ·simp only[aL]at h;subst h;exact⟨aX.2,rfl⟩
 ·rename_i b;simp only[aL]at h;subst h;cases b<;>simp[ay.dQ,ay.val,A.den,bg.den,aa.aR]
 ·simp only[aL]at h;subst h;exact⟨⟨by rw[aa.aR];exact bB _,by rw[aa.aR];exact bB _⟩,rfl⟩
 ·cases h
theorem Ut {n nb:Nat} {ρ:Env} {m:Nat->Nat}:∀{d:List ay} {l:List A} {r:List aa},oN d l=some r->(∀a∈l,A.ok n nb ρ a)->r.length=d.length/\bd (d.map ay.dQ) (r.map (·.den ρ))/\l.map (A.den ρ m)=o3 ay.val d (r.map (·.den ρ))
 |[],[],r,h,_=>by simp[oN]at h;subst h;exact⟨rfl,trivial,rfl⟩
 |c::d,a::s,r,h,aX=>by
  simp only[oN]at h;cases hx:c.fit a with
  |none=>simp[hx]at h
  |some x=>
   cases hr:oN d s with
   |none=>simp[hx,hr]at h
   |some r'=>
    simp only[hx,hr,aL]at h;subst h;obtain⟨h1,h2,h3⟩:=Ut (m:=m) hr λa ha=>aX a (cD _ ha);have hf:=ay.adY (m:=m) hx (aX a (by simp));exact⟨by simp[h1],⟨hf.1.1,hf.1.2,h2⟩,by simp only[cp,h3,hf.2,Kl]⟩
 |[],_::_,_,h,_=>by simp[oN]at h
 |_::_,[],_,h,_=>by simp[oN]at h
theorem Zo {n:Nat} {ρ:Env} {l:List UInt8} {x:aa} {c:Int} (hc:x.dt=some c) (h:c=cZ (qf l)):U (x.den ρ)=qf l:=by rw[aa.iK hc,h,dZ]
theorem Uq {n nb:Nat} {ρ:Env} {m:Nat->Nat} {d:D} {v:V} {r:List aa} {x:az} (h:xm d v=some r) (aX:v.ok n nb ρ) (hx:v.rel ρ m x):r.length=d.num/\bd d.bds (r.map (·.den ρ))/\∀zs,d.val ((r.map (·.den ρ))++zs)=x:=by
 unfold xm at h;split at h
 ·rename_i k lo hi a6 y;cases hc:(decide (k=a6)&&nS lo hi y)with
  |false=>simp[hc]at h
  |true=>
   simp only[hc,cond_true,aL]at h;subst h;simp only[aO,decide_eq_true_eq]at hc;have hf:=Dg hc.2 aX;simp only[V.rel,W.den,A.den]at hx;exact⟨rfl,⟨hf.1,hf.2,trivial⟩,λzs=>by simp[D.val,hx,hc.1]⟩
 ·rename_i k n' lo hi l;cases hc:aH l.length n' with
  |false=>simp[hc]at h
  |true=>
   simp only[hc,cond_true]at h;have hl:=bx hc;subst hl;obtain⟨h1,h2,h3⟩:=Mz (m:=m) h aX;simp only[V.rel,W.den]at hx;exact⟨h1,h2,λzs=>by rw[hx,h3];simp only[D.val];rw[Ge (by simp[h1]),kr (by simp[h1])]⟩
 ·rename_i l s;obtain⟨h1,h2,h3⟩:=Ut (m:=m) h aX;simp only[V.rel,W.den]at hx;refine⟨h1,h2,λzs=>?_⟩;rw[hx,h3];simp only[D.val]
  congr 2
  have key:∀(a:List ay) (b c:List Int),b.length=a.length->o3 ay.val a (b++c)=o3 ay.val a b:=by
   intro a;induction a with
   |nil=>intro b c _;simp
   |cons p a ih=>
    intro b c hb;cases b with
    |nil=>simp at hb
    |cons z b=>simp[ih b c (by simpa using hb)]
  exact key _ _ _ (by simp[h1])
 ·rename_i l;simp only[aL]at h;subst h;simp only[V.rel,W.den,A.den]at hx;exact⟨rfl,⟨aX.2.1,aX.2.2,trivial⟩,λzs=>by rw[hx];rfl⟩
 ·rename_i b;simp only[aL]at h;subst h;simp only[V.rel,W.den,A.den,bg.den]at hx;cases b<;>exact⟨rfl,by simp[D.bds,bd,aa.aR],λzs=>by rw[hx];simp[D.val,aa.aR]⟩
 ·rename_i l y;cases hc:y.dt with
  |none=>simp[hc]at h
  |some c=>
   simp only[hc]at h;cases hd:decide (c=cZ (qf l))with
   |false=>simp[hd]at h
   |true=>
    simp only[hd,cond_true,aL]at h;subst h;have hd:c=cZ (qf l):=by simpa using hd
    refine⟨rfl,trivial,λzs=>?_⟩;have hx:x= .string (aG (U (y.den ρ))):=hx;rw[hx,Zo (n:=n) hc hd];rfl
 ·rename_i k c a6 y;cases hc:y.l.dt with
  |none=>simp[hc]at h
  |some d=>
   simp only[hc]at h;cases hd:(decide (k=a6)&&decide (d=c))with
   |false=>simp[hd]at h
   |true=>
    simp only[hd,cond_true,aL]at h;subst h;simp only[aO,decide_eq_true_eq]at hd;refine⟨rfl,trivial,λzs=>?_⟩;have hx:x= .int a6 (y.l.den ρ):=hx;rw[hx,aa.iK hc,<-hd.1,hd.2];rfl
 ·cases h
theorem MD {n nb:Nat} {ρ:Env} {m:Nat->Nat}:∀{ds:List D} {vs:List V} {r:List aa} {xs:List az},pc ds vs=some r->(∀v∈vs,V.ok n nb ρ v)->df ρ m vs xs->bd (dA ds) (r.map (·.den ρ))/\mq ds (r.map (·.den ρ))=xs
 |[],[],r,[],h,_,_=>by simp[pc]at h;subst h;exact⟨trivial,rfl⟩
 |d::ds,v::vs,r,x::xs,h,aX,hr=>by
  simp only[pc]at h;cases h1:xm d v with
  |none=>simp[h1]at h
  |some a=>
   cases h2:pc ds vs with
   |none=>simp[h1,h2]at h
   |some b=>
    simp only[h1,h2,aL]at h;subst h;obtain⟨p1,br,bT⟩:=Uq (m:=m) h1 (aX v (by simp)) hr.1;obtain⟨q1,q2⟩:=MD h2 (λu hu=>aX u (cD _ hu)) hr.2;refine⟨by rw[fY];exact rm br q1,?_⟩;rw[fY];simp only[mq,bT];rw[show d.num=(a.map (·.den ρ)).length by simp[p1],tg,q2]
 |[],_::_,_,_,h,_,_=>by simp[pc]at h
 |_::_,[],_,_,h,_,_=>by simp[pc]at h
 |[],[],_,_::_,_,_,hr=>hr.elim
 |_::_,_::_,_,[],_,_,hr=>hr.elim
structure b9 where
 f:cz
 id:Nat
 args:List D
 res:List D
def b9.dX (P:bj) (wb:ai) (c:b9) (spec:List Int->List Int->Prop):Prop:=
 (∀args w,(callFunc c.f args).run P w= .ok (.enter c.f args) w)/\
 ∀zs,bd (dA c.args) zs->∃rs,bd (dA c.res) rs/\spec zs rs/\∀w,wb.Extends w->gU P c.f (mq c.args zs).toArray w λe w'=>e= .returned (eF c.res rs)/\w.Extends w'
noncomputable def MB (d:D) (v:V):M (List aa):=
 match d,v with
 | .bool,.w (.one (.bool e))=>bind (yh e) λl=>pure [l]
 | .mix l,.w (.agg s)=>Fu l s
 | .int k lo hi,.w (.one (.int a6 x))=>cond (decide (k=a6)) (cond (nS lo hi x) (pure [x.l]) (bind (fg 39 [x.l,.const lo,.const hi]) λ_=>pure [x.l])) fail
 |d,v=>match xm d v with|some r=>pure r|none=>fail
noncomputable def HE:List D->List V->M (List aa)
 |[],[]=>pure []
 |d::r,v::s=>bind (MB d v) λa=>bind (HE r s) λb=>pure (a++b)
 |_,_=>fail
noncomputable def b9.M (c:b9):List ao->List V->M V:=λ_ vs n k=>
 match pc c.args vs with
 |some l=> .call c.id l n (dA c.res) (k (BR c.res n) (n+(dA c.res).length))
 |none=>HE c.args vs n λl n=> .call c.id l n (dA c.res) (k (BR c.res n) (n+(dA c.res).length))
section
variable {S:Nat->List Int->List Int->Prop} {L:V->Env->Prop}
theorem My {k:dj} {lo hi:Int} {n nb:Nat} {ρ:Env}:∀{l:List A} {r:List aa},kU k lo hi l=some r->(∀a∈l,A.ok n nb ρ a)->∀x∈r,aa.aY n x
 |[],r,h,_=>by simp[kU]at h;subst h;intro x hx;simp at hx
 |a::s,r,h,aX=>by
  cases a with
  |int a6 x=>
   simp only[kU]at h;cases hc:(decide (k=a6)&&nS lo hi x)with
   |false=>simp[hc]at h
   |true=>
    cases hr:kU k lo hi s with
    |none=>simp[hc,hr]at h
    |some r'=>
     simp only[hc,hr,cond_true,aL]at h;subst h;intro y hy;rcases List.mem_cons.1 hy with hy|hy
     ·rw[hy];have h0:A.ok n nb ρ (.int a6 x):=aX _ (th ..);have h0:x.ok n ρ:=h0;exact h0.1
     ·exact My hr (λa ha=>aX a (cD _ ha)) y hy
  |_=>simp[kU]at h
theorem Us {n nb:Nat} {ρ:Env}:∀{d:List ay} {l:List A} {r:List aa},oN d l=some r->(∀a∈l,A.ok n nb ρ a)->∀x∈r,aa.aY n x
 |[],[],r,h,_=>by simp[oN]at h;subst h;intro x hx;simp at hx
 |c::d,a::s,r,h,aX=>by
  simp only[oN]at h;cases hx:c.fit a with
  |none=>simp[hx]at h
  |some x=>
   cases hr:oN d s with
   |none=>simp[hx,hr]at h
   |some r'=>
    simp only[hx,hr,aL]at h;subst h;intro y hy;rcases List.mem_cons.1 hy with hy|hy
    ·subst hy;have h0:=aX a (by simp);unfold ay.fit at hx;split at hx
     ·rename_i k lo hi a6 z;cases hc:(decide (k=a6)&&nS lo hi z)with
      |false=>simp[hc]at hx
      |true=>
       simp only[hc,cond_true,aL]at hx;subst hx;have h0:z.ok n ρ:=h0;exact h0.1
     ·simp only[aL]at hx;subst hx;exact h0.1
     ·simp only[aL]at hx;subst hx;exact aa.cC _ _
     ·simp only[aL]at hx;subst hx;exact aa.cC _ _
     ·cases hx
    ·exact Us hr (λa ha=>aX a (cD _ ha)) y hy
 |[],_::_,_,h,_=>by simp[oN]at h
 |_::_,[],_,h,_=>by simp[oN]at h
theorem ad1 {n nb:Nat} {ρ:Env} {d:D} {v:V} {r:List aa} (h:xm d v=some r) (aX:v.ok n nb ρ):∀x∈r,aa.aY n x:=by
 unfold xm at h;split at h
 ·rename_i k lo hi a6 y;cases hc:(decide (k=a6)&&nS lo hi y)with
  |false=>simp[hc]at h
  |true=>
   simp only[hc,cond_true,aL]at h;subst h;have h0:y.ok n ρ:=aX;intro x hx;simp at hx;subst hx;exact h0.1
 ·rename_i k n' lo hi l;cases hc:aH l.length n' with
  |false=>simp[hc]at h
  |true=>
   simp only[hc,cond_true]at h;exact My h aX
 ·exact Us h aX
 ·simp only[aL]at h;subst h;intro x hx;simp at hx;subst hx;exact aX.1
 ·simp only[aL]at h;subst h;intro x hx;simp at hx;subst hx;exact aa.cC _ _
 ·rename_i l y;cases hc:y.dt with
  |none=>simp[hc]at h
  |some c=>
   simp only[hc]at h;cases hd:decide (c=cZ (qf l))with
   |false=>simp[hd]at h
   |true=>
    simp only[hd,cond_true,aL]at h;subst h;intro x hx;simp at hx
 ·rename_i k c a6 y;cases hc:y.l.dt with
  |none=>simp[hc]at h
  |some d=>
   simp only[hc]at h;cases hd:(decide (k=a6)&&decide (d=c))with
   |false=>simp[hd]at h
   |true=>
    simp only[hd,cond_true,aL]at h;subst h;intro x hx;simp at hx
 ·cases h
theorem bK.OG:∀{sh:List ay} {zs:List Int},bK sh zs->bd (sh.map ay.dQ) zs/\o3 ay.val sh zs=dm sh zs
 |[],[],_=>⟨trivial,rfl⟩
 |c::sh,z::zs,h=>⟨⟨h.1.1,h.1.2,(bK.OG h.2).1⟩,by simp[dm,(bK.OG h.2).2]⟩
 |[],_::_,h=>h.elim
 |_::_,[],h=>h.elim
theorem aah {f:ay->Int->az}:∀(a:List ay) (b c:List Int),b.length=a.length->o3 f a (b++c)=o3 f a b
 |[],b,c,_=>by simp
 |_::a,[],c,h=>by simp at h
 |_::a,z::b,c,h=>by simp[aah a b c (by simpa using h)]
theorem adZ {d:D} {v:V} {X:az} {n nb:Nat} {ρ:Env} {m:Nat->Nat} (hv:v.ok n nb ρ) (bJ:v.rel ρ m X):ar S L (MB d v) n ρ λag n' ls=>(∀x∈ls,aa.aY n' x)/\ls.length=d.num/\bd d.bds (ls.map (·.den ag))/\∀zs,d.val ((ls.map (·.den ag))++zs)=X:=by
 unfold MB;split
 ·rename_i e;have bJ:X= .bool (e.den ρ):=bJ;exact IB.bind λaD n1 l hn ha ⟨g1,g2,g3⟩=>ar.pure ⟨λx hx=>by simp at hx;subst hx;exact g1,rfl,⟨g2.1,g2.2,trivial⟩,λzs=>by rw[bJ,g3];rfl⟩
 ·rename_i l s;have bJ:X= .agg (s.map (A.den ρ m)).toArray:=bJ;refine(JD (nb:=nb) (m:=m) hv).mono λaD n1 ls hn ha ⟨g1,g2,g3⟩=>?_;have h1:=bK.OG g2;have h2:=g2.len;refine⟨g1,by simpa [D.num]using h2,h1.1,λzs=>?_⟩;rw[bJ,<-g3,<-h1.2];simp only[D.val];rw[aah _ _ _ (by simpa using h2)]
 ·rename_i k lo hi a6 x;have bJ:X= .int a6 (x.l.den ρ):=bJ;have hv:x.ok n ρ:=hv;refine eg λhk=>?_;have hk:=of_decide_eq_true hk;subst hk;cases hf:nS lo hi x with
  |true=>
   have:=Dg hf hv;exact ar.pure ⟨λy hy=>by simp at hy;subst hy;exact hv.1,rfl,⟨this.1,this.2,trivial⟩,λzs=>by rw[bJ];rfl⟩
  |false=>
   refine gC λhc=>ar.pure ?_;simp only[cp,er,af,aa.aR]at hc;exact⟨λy hy=>by simp at hy;subst hy;exact hv.1,rfl,⟨hc.1,hc.2,trivial⟩,λzs=>by rw[bJ];rfl⟩
 ·split
  ·rename_i hf;obtain⟨p1,br,bT⟩:=Uq (m:=m) hf hv bJ;exact ar.pure ⟨ad1 hf hv,p1,br,bT⟩
  ·exact ar.fail
theorem df.ext {n nb:Nat} {ρ ag:Env} {m m':Nat->Nat}:∀{vs:List V} {xs:List az},df ρ m vs xs->(∀v∈vs,V.ok n nb ρ v)->agree n ρ ag->(∀b,b<nb->m' b=m b)->df ag m' vs xs
 |[],[],_,_,_,_=>trivial
 |v::vs,x::xs,h,aX,ha,hm=>⟨V.rel.ext h.1 (aX v (by simp)) ha hm,df.ext h.2 (λu hu=>aX u (cD _ hu)) ha hm⟩
 |[],_::_,h,_,_,_=>h.elim
 |_::_,[],h,_,_,_=>h.elim
theorem Ur {nb:Nat} {m:Nat->Nat}:∀{ds:List D} {vs:List V} {xs:List az} {n:Nat} {ρ:Env},(∀v∈vs,V.ok n nb ρ v)->df ρ m vs xs->ar S L (HE ds vs) n ρ λag n' ls=>(∀x∈ls,aa.aY n' x)/\bd (dA ds) (ls.map (·.den ag))/\mq ds (ls.map (·.den ag))=xs
 |[],[],[],n,ρ,_,_=>ar.pure ⟨λ_ h=>by simp at h,trivial,rfl⟩
 |d::ds,v::vs,x::xs,n,ρ,aX,hr=>by
  unfold HE;refine(adZ (nb:=nb) (aX v (by simp)) hr.1).bind λaD n1 a fi dL ⟨p0,p1,br,bT⟩=>(Ur (ds:=ds) (vs:=vs) (λu hu=>(aX u (cD _ hu)).ext dL fi (aV _)) (df.ext hr.2 (λu hu=>aX u (cD _ hu)) dL (λ_ _=>rfl))).bind λbo n2 b dY c7 ⟨q0,q1,q2⟩=>ar.pure ⟨λy hy=>?_,?_,?_⟩
  ·rcases List.mem_append.1 hy with hy|hy
   ·exact(p0 y hy).mono dY
   ·exact q0 y hy
  ·have e:a.map (·.den bo)=a.map (·.den aD):=gI λy hy=>aa.bG c7 (p0 y hy);rw[fY,e];exact rm br q1
  ·have e:a.map (·.den bo)=a.map (·.den aD):=gI λy hy=>aa.bG c7 (p0 y hy);rw[fY,e];simp only[mq,bT];rw[show d.num=(a.map (·.den aD)).length by simp[p1],tg,q2]
 |[],_::_,_,_,_,_,_=>ar.fail
 |_::_,[],_,_,_,_,_=>ar.fail
 |[],[],_::_,_,_,_,hr=>hr.elim
 |_::_,_::_,[],_,_,_,hr=>hr.elim
end
section
variable {S:Nat->List Int->List Int->Prop} {P:bj} {gl:dz} {w0:cP}
theorem L0 {L:V->Env->Prop} {id:Nat} {l:List aa} {n:Nat} {bds:List (Int×Int)} {r:T} {G:dc} {ρ:Env} (h:(T.call id l n bds r).holds S L G ρ) {rs:List Int} (hi:bd bds rs) (hs:S id (l.map (·.den ρ)) rs):r.holds S L G (bf ρ n rs):=
 kx h hi hs
theorem PX {ρ:Env} {m:Nat->Nat} {N nb:Nat} {ds:List D} {s:Nat} {zs:List Int} (h:bd (dA ds) zs) (ha:fC ρ s zs) (hN:s+(dA ds).length<=N):(BR ds s).ok N nb ρ/\(BR ds s).rel ρ m (eF ds zs):=by
 have hs:=QG (m:=m) (nb:=nb) ds h ha hN;unfold BR eF;rw[<-hs.2];split
 ·rename_i u heq;rw[heq]at hs;rw[heq];exact⟨hs.1 u (by simp),rfl⟩
 ·rename_i l hne;refine⟨hs.1,?_⟩;split
  ·rename_i x heq;have:∃u,sZ s ds=[u]:=by
    cases hl:sZ s ds with
    |nil=>rw[hl]at heq;simp at heq
    |cons u r=>
     cases r with
     |nil=>exact⟨u,rfl⟩
     |cons _ _=>rw[hl]at heq;simp at heq
   obtain⟨u,hu⟩:=this;exact absurd hu (hne u)
  ·rfl
def b9.wX (P:bj) (wb:ai) (c:b9) (spec:List Int->List Int->Prop):Prop:=
 ∀zs,bd (dA c.args) zs->∃rs,bd (dA c.res) rs/\spec zs rs/\∀w,wb.Extends w->zn P c.f (mq c.args zs).toArray w (eF c.res rs)
theorem b9.dX.f {wb:ai} {c:b9} {spec:List Int->List Int->Prop} (h:c.dX P wb spec):c.wX P wb spec:=λzs hz=>by
 obtain⟨rs,h1,h2,h3⟩:=h.2 zs hz;exact⟨rs,h1,h2,λw hw=> .inr ⟨h.1 _ _,h3 w hw⟩⟩
theorem b9.snd {c:b9} {spec:List Int->List Int->Prop} (hc:c.wX P w0.b spec) (bX:∀zs rs,spec zs rs->S c.id zs rs) (L:V->Env->Prop) (n:Nat) (ρ:Env) (m:Nat->Nat) (bl:List ao) (vs:List V) (xs:List az)
 (kg:∀v∈vs,V.ok n bl.length ρ v) (hr:df ρ m vs xs):ar S L (c.M bl vs) n ρ λag n' v=>v.ok n' bl.length ag/\∃val,v.rel ag m val/\∀w,Mem w0 ρ m bl w->zn P c.f xs.toArray w val:=by
 intro G k hk;unfold b9.M at hk;cases hl:pc c.args vs with
 |none=>
  simp only[hl]at hk;obtain⟨aD,n1,l,fi,dL,⟨_,h1,h2⟩,hk⟩:=Ur (S:=S) (L:=L) (nb:=bl.length) kg hr G _ hk;obtain⟨rs,r1,r2,r3⟩:=hc _ h1;have ah:=L0 hk r1 (bX _ _ r2);have hlen:=gi r1;have jw:=PX (m:=m) (nb:=bl.length) (N:=n1+(dA c.res).length) r1 (fC.bf aD n1 rs) (aV _);refine⟨_,_,_,gk fi (Cn _ _),dL.trans (agree.bf rs n1 aD) fi,⟨jw.1,_,jw.2,λw hw=>?_⟩,ah⟩;rw[h2]at r3;exact r3 w hw.ext
 |some l=>
  simp only[hl]at hk;obtain⟨h1,h2⟩:=MD hl kg hr;obtain⟨rs,r1,r2,r3⟩:=hc _ h1;have ah:=L0 hk r1 (bX _ _ r2);have hlen:=gi r1;have jw:=PX (m:=m) (nb:=bl.length) (N:=n+(dA c.res).length) r1 (fC.bf ρ n rs) (aV _);refine⟨_,_,_,Cn _ _,agree.bf rs n ρ,⟨jw.1,_,jw.2,λw hw=>?_⟩,ah⟩;rw[h2]at r3;exact r3 w hw.ext
def alj:List ao->List V->M V:=λ_ vs=>
 match vs with
 |[.w (.one (.int .u64 x)),.w (.one (.int .u64 y))]=>
  cond (decide (0<=x.lo)&&decide (x.hi<18446744073709551616)&&decide (0<=y.lo)&&decide (y.hi<18446744073709551616)) (bind (mulM x y) λp=>bind (r9 p 18446744073709551616) λq=>
   pure (.eV [.one (.int .u64 q),.one (.int .u64 ⟨p.l.sub (q.l.smul 18446744073709551616),0,18446744073709551615⟩)])) fail
 |_=>fail
def abN:List ao->List V->M V:=λ_ vs=>
 match vs with
 |[.w (.one (.int .u64 x)),.w (.one (.int .u64 y)),.w (.one (.int .u64 c))]=>
  cond (decide (0<=x.lo)&&decide (0<=y.lo)&&decide (0<=c.lo)&&decide (c.hi<=1)) (bind (r9 ⟨(x.l.add y.l).add c.l,x.lo+y.lo+c.lo,x.hi+y.hi+c.hi⟩ 18446744073709551616) λq=>
   pure (.eV [.one (.int .u64 ⟨((x.l.add y.l).add c.l).sub (q.l.smul 18446744073709551616),0,18446744073709551615⟩),.one (.int .u64 q)])) fail
 |_=>fail
def aqs:List ao->List V->M V:=λ_ vs=>
 match vs with
 |[.w (.one (.int .u64 x)),.w (.one (.int .u64 y)),.w (.one (.int .u64 c))]=>
  cond (decide (0<=x.lo)&&decide (x.hi<18446744073709551616)&&decide (0<=y.lo)&&decide (y.hi<18446744073709551616)&&decide (0<=c.lo)&&decide (c.hi<=1)) (bind (r9 ⟨(x.l.sub y.l).sub c.l,x.lo-y.hi-c.hi,x.hi-y.lo-c.lo⟩ 18446744073709551616) λq=>
   pure (.eV [.one (.int .u64 ⟨((x.l.sub y.l).sub c.l).sub (q.l.smul 18446744073709551616),0,18446744073709551615⟩),.one (.int .u64 ⟨q.l.smul (-1),0,1⟩)])) fail
 |_=>fail
variable {L:V->Env->Prop} {n:Nat} {ρ:Env} {m:Nat->Nat} {bl:List ao} {vs:List V} {xs:List az}
end
end Go.ba
namespace Go.ba
open M
theorem r6:∀{b:List (Int×Int)} {P:List Int->Prop},(∀rs,bd b rs->P rs)->oG b P
 |[],_,h=>h [] trivial
 |(l,u)::b,P,h=>λr h1 h2=>r6 (b:=b) (P:=λrs=>P (r::rs)) λrs hi=>h (r::rs) ⟨h1,h2,hi⟩
inductive O where
 |l (x:aa)
 |b (x:bg)
def O.den (ρ:Env):O->Int
 |l x=>x.den ρ
 |b x=>cond (x.den ρ) 1 0
def iz (k:dj):List A->Option (List O)
 |[]=>some []
 | .int a6 x::r=>cond (decide (k=a6)) (match iz k r with|some l=>some (.l x.l::l)|none=>none) none
 |_::_=>none
def ay.out:ay->A->Option O
 | .int k _ _,.int a6 x=>cond (decide (k=a6)) (some (.l x.l)) none
 | .str,.str l=>some (.l l)
 | .bool,.bool e=>some (.b e)
 | .nil,.con (.slice none 0 0)=>some (.l (.const 0))
 |_,_=>none
def oT:List ay->List A->Option (List O)
 |[],[]=>some []
 |c::d,a::r=>match c.out a,oT d r with|some o,some l=>some (o::l)|_,_=>none
 |_,_=>none
def uA:D->W->Option (List O)
 | .int k _ _,.one (.int a6 x)=>cond (decide (k=a6)) (some [.l x.l]) none
 | .bool,.one (.bool x)=>some [.b x]
 | .agg k n _ _,.agg l=>cond (aH l.length n) (iz k l) none
 | .str,.one (.str l)=>some [.l l]
 | .mix d,.agg l=>oT d l
 |_,_=>none
def vY:List D->List W->Option (List O)
 |[],[]=>some []
 |d::r,w::s=>match uA d w,vY r s with|some a,some b=>some (a++b)|_,_=>none
 |_,_=>none
def outs (ds:List D):V->Option (List O)
 | .w u=>match ds with|[d]=>uA d u|_=>none
 | .eV l=>match ds with|[_]=>none|_=>vY ds l
 |_=>none
def vb (ds:List D) (K:List Int->Prop) (v:V) (ρ:Env):Prop:=
 match outs ds v with
 |some os=>K (os.map (O.den ρ))
 |none=>False
theorem XX {ρ:Env} {m:Nat->Nat} {k:dj}:∀{l:List A} {os:List O},iz k l=some os->os.length=l.length/\l.map (A.den ρ m)=(os.map (O.den ρ)).map (.int k)
 |[],os,h=>by simp[iz]at h;subst h;exact⟨rfl,rfl⟩
 | .int a6 x::r,os,h=>by
  simp only[iz]at h;by_cases hk:k=a6
  ·simp only[hk,decide_true,cond_true]at h;cases hr:iz a6 r with
   |none=>simp[hr]at h
   |some o=>
    simp only[hr,aL]at h;subst h;subst hk;obtain⟨h1,h2⟩:=XX (ρ:=ρ) (m:=m) hr;exact⟨by simp[h1],by simp only[cp,h2,A.den,O.den]⟩
  ·simp[hk]at h
 | .bool _::_,_,h=>by simp[iz]at h
 | .ptr .. ::_,_,h=>by simp[iz]at h
 | .og .. ::_,_,h=>by simp[iz]at h
 | .gptr .. ::_,_,h=>by simp[iz]at h
 | .slc .. ::_,_,h=>by simp[iz]at h
 | .con _::_,_,h=>by simp[iz]at h
 | .str _::_,_,h=>by simp[iz]at h
theorem ay.anb {ρ:Env} {m:Nat->Nat} {c:ay} {a:A} {o:O} (h:c.out a=some o):a.den ρ m=c.val (o.den ρ):=by
 unfold ay.out at h;split at h
 ·rename_i k lo hi a6 x;by_cases hk:k=a6
  ·subst hk;simp only[decide_true,cond_true,aL]at h;subst h;rfl
  ·simp[hk]at h
 ·simp only[aL]at h;subst h;rfl
 ·rename_i e;simp only[aL]at h;subst h;have hb:∀b:Bool,aus b=aus (decide ((cond b 1 0:Int)=1)):=by intro b;cases b<;>rfl
  exact hb (e.den ρ)
 ·simp only[aL]at h;subst h;rfl
 ·cases h
theorem X0 {ρ:Env} {m:Nat->Nat}:∀{d:List ay} {l:List A} {os:List O},oT d l=some os->os.length=d.length/\l.map (A.den ρ m)=o3 ay.val d (os.map (O.den ρ))
 |[],[],os,h=>by simp[oT]at h;subst h;exact⟨rfl,rfl⟩
 |c::d,a::r,os,h=>by
  simp only[oT]at h;cases h1:c.out a with
  |none=>simp[h1]at h
  |some o=>
   cases hr:oT d r with
   |none=>simp[h1,hr]at h
   |some l=>
    simp only[h1,hr,aL]at h;subst h;obtain⟨p1,br⟩:=X0 (ρ:=ρ) (m:=m) hr;exact⟨by simp[p1],by simp only[cp,br,ay.anb h1,Kl]⟩
 |[],_::_,_,h=>by simp[oT]at h
 |_::_,[],_,h=>by simp[oT]at h
theorem Pw {ρ:Env} {m:Nat->Nat} {d:D} {u:W} {os:List O} (h:uA d u=some os):os.length=d.num/\∀zs,d.val (os.map (O.den ρ)++zs)=u.den ρ m:=by
 unfold uA at h;split at h
 ·rename_i k _ _ a6 x;by_cases hk:k=a6
  ·subst hk;simp only[decide_true,cond_true,aL]at h;subst h;exact⟨rfl,λzs=>by simp[D.val,W.den,A.den,O.den]⟩
  ·simp[hk]at h
 ·rename_i x;simp only[aL]at h;subst h;exact⟨rfl,λzs=>by cases hx:x.den ρ<;>simp[D.val,W.den,A.den,O.den,hx]⟩
 ·rename_i k n' _ _ l;cases hc:aH l.length n' with
  |false=>simp[hc]at h
  |true=>
   simp only[hc,cond_true]at h;have hl:=bx hc;subst hl;obtain⟨h1,h2⟩:=XX (ρ:=ρ) (m:=m) h;exact⟨h1,λzs=>by simp only[D.val,W.den,h2];rw[Ge (by simp[h1]),kr (by simp[h1])]⟩
 ·simp only[aL]at h;subst h;exact⟨rfl,λzs=>rfl⟩
 ·rename_i d l;obtain⟨h1,h2⟩:=X0 (ρ:=ρ) (m:=m) h;refine⟨h1,λzs=>?_⟩;simp only[D.val,W.den,h2]
  congr 2
  have key:∀(a:List ay) (b c:List Int),b.length=a.length->o3 ay.val a (b++c)=o3 ay.val a b:=by
   intro a;induction a with
   |nil=>intro b c _;simp
   |cons p a ih=>
    intro b c hb;cases b with
    |nil=>simp at hb
    |cons z b=>simp[ih b c (by simpa using hb)]
  exact key _ _ _ (by simp[h1])
 ·cases h
theorem XY {ρ:Env} {m:Nat->Nat}:∀{ds:List D} {l:List W} {os:List O},vY ds l=some os->mq ds (os.map (O.den ρ))=l.map (W.den ρ m)
 |[],[],os,h=>by simp[vY]at h;subst h;rfl
 |d::ds,u::l,os,h=>by
  simp only[vY]at h;cases h1:uA d u with
  |none=>simp[h1]at h
  |some a=>
   cases h2:vY ds l with
   |none=>simp[h1,h2]at h
   |some b=>
    simp only[h1,h2,aL]at h;subst h;obtain⟨p1,br⟩:=Pw (ρ:=ρ) (m:=m) h1;rw[fY];simp only[mq,br,cp];rw[show d.num=(a.map (O.den ρ)).length by simp[p1],tg,XY h2]
 |[],_::_,_,h=>by simp[vY]at h
 |_::_,[],_,h=>by simp[vY]at h
theorem atP (ds:List D):∀zs,(mq ds zs).length=ds.length:=by
 induction ds with
 |nil=>intro zs;rfl
 |cons d r ih=>intro zs;simp[mq,ih]
theorem GF {ds:List D} {K:List Int->Prop} {v:V} {ρ:Env} {m:Nat->Nat} {val:az} (h:vb ds K v ρ) (hr:v.rel ρ m val):∃rs,K rs/\val=eF ds rs:=by
 unfold vb at h;cases ho:outs ds v with
 |none=>simp[ho]at h
 |some os=>
  simp only[ho]at h;refine⟨_,h,?_⟩;unfold outs at ho;cases v with
  |any=>cases ho
  |oS _ _ _=>cases ho
  |mE _ _=>cases ho
  |w u=>
   simp only at ho;split at ho
   ·rename_i d;obtain⟨p1,br⟩:=Pw (ρ:=ρ) (m:=m) ho;simp only[V.rel]at hr;have:=br [];rw[ln]at this;simp[eF,mq,this,hr]
   ·cases ho
  |eV l=>
   simp only at ho;split at ho
   ·cases ho
   ·rename_i hne;have:=XY (ρ:=ρ) (m:=m) ho;simp only[V.rel]at hr;unfold eF;split
    ·rename_i x heq;exfalso;have hl:=atP ds (os.map (O.den ρ));rw[heq]at hl
     match ds,hl with
     |[d],_=>exact hne d rfl
    ·rw[hr,this]
noncomputable def av6 (cons:List b9) (alk abO aqt:cz):dW:=λf=>
 cond (aH f alk) (some alj) <| cond (aH f abO) (some abN) <| cond (aH f aqt) (some aqs) <|
 match cons.find? (λc=>aH f c.f)with
 |some c=>some c.M
 |none=>none
section
variable {S:Nat->List Int->List Int->Prop} {P:bj} {gl:dz} {wb:ai}
noncomputable def Hf (cons:List b9):dW:=λf=>
 match cons.filter (λc=>aH f c.f)with
 |[]=>none
 |l=>some λbl vs n k=>match l.find? (λc=>(pc c.args vs).isSome)with
  |some c=>c.M bl vs n k
  |none=>match l with
   |c::_=>c.M bl vs n k
   |[]=> .stuck
theorem Tp {w0:cP} {cons:List b9} (hc:∀c∈cons,c.wX P w0.b (S c.id)):fl S P gl w0 (Hf cons):=by
 intro f g q6 L n ρ m bl vs xs h1 h2 h3 h4;unfold Hf at q6;split at q6
 ·cases q6
 ·rename_i l hl;simp only[aL]at q6;subst q6;intro G k hk;simp only at hk;split at hk
  ·rename_i c Nw;have cE:=List.mem_filter.1 (y9 Nw);have DZ:=bx cE.2;subst DZ;exact b9.snd (hc c cE.1) (λ_ _ h=>h) L n ρ m bl vs xs h3 h4 G k hk
  ·split at hk
   ·rename_i c r hl2;have cE:=List.mem_filter.1 (show c∈cons.filter (λc=>aH f c.f) from by rw[hl2];exact th (a:=c) (l:=r));have DZ:=bx cE.2;subst DZ;exact b9.snd (hc c cE.1) (λ_ _ h=>h) L n ρ m bl vs xs h3 h4 G k hk
   ·exact hk.elim
theorem Calls.some {f:cz} {args:Array az} {w:ai} {R:pK->ai->Prop} (h:gU P f args w R):∃e w',R e w':=by
 obtain⟨e,w',pd,h1,_⟩:=h [];exact⟨e,w',h1⟩
noncomputable def b9.tree (P:bj) (gl:dz) (cal:dW) (li:cz->Nat->Option cX) (rounds d:Nat) (c:b9):T:=
 Hg P gl cal li rounds d c.f (dA c.args).length ((sZ 0 c.args).map V.w) [] λ_ v _=> .leaf v
theorem Sw {ρ:Env} {m:Nat->Nat}:∀(l:List W),df ρ m (l.map V.w) (l.map (W.den ρ m))
 |[]=>trivial
 |_::r=>⟨rfl,Sw r⟩
theorem b9.calls {c:b9} {cal:dW} {li:cz->Nat->Option cX} {rounds d:Nat} {L:V->Env->Prop} (hm:P.follows .mixedOrders=true) (cw:∀r ex ro,fl S P gl ⟨wb,r,ex,ro,[]⟩ cal) (hg:eL gl ⟨wb,wb,λ_=>False,λ_=>False,[]⟩) {zs:List Int} (hz:bd (dA c.args) zs)
 (ht:(c.tree P gl cal li rounds d).holds S L (λ_ _=>False) (bf (λ_=>0) 0 zs)) (w:ai) (hw:wb.Extends w):
 gU P c.f (mq c.args zs).toArray w λe w'=>∃v ag m val,e= .returned val/\v.rel ag m val/\L v ag/\w.Extends w':=by
 have hs:=QG (m:=λ_=>0) (nb:=0) (N:=(dA c.args).length) c.args hz (fC.bf (λ_=>0) 0 zs) (by omega);have:=acI (L:=L) (b:=wb) (w:=w) hm (cw w _ _) hg c.f _ _ _ ((sZ 0 c.args).map (W.den (bf (λ_=>0) 0 zs) λ_=>0)) hw (λv hv=>by
  obtain⟨u,hu,rfl⟩:=List.mem_map.1 hv;exact hs.1 u hu) (Sw _) ht
 rw[hs.2]at this;refine this.mono λe w' ⟨v,ag,m,val,nb,h1,h2,_,h3,h4⟩=>⟨v,ag,m,val,h1,h2,h3,h4⟩
end
end Go.ba
namespace Go.ba
open M
structure avm where
 f:cz
 id:Nat
 k:dj
 N:Nat
 lo:Int
 hi:Int
 ty:aQ
 off:Nat
 len:Nat
 cap:Nat
 args:List D
 res:List D
section
variable {S:Nat->List Int->List Int->Prop} {P:bj} {gl:dz} {w0:cP}
end
end Go.ba
namespace Go.ba
def qS (P:bj) (f:cz):Bool:=match P.funcs[f]? with
 |some fn=> !(fn.name== "runtime.NumGoroutine")&&fn.body.isSome
 |none=>false
theorem enters {P:bj} {f:cz} (h:qS P f=true) (args:Array az) (w:ai):(callFunc f args).run P w= .ok (.enter f args) w:=by
 unfold qS at h;cases hf:P.funcs[f]? with
 |none=>simp[hf]at h
 |some fn=>
  simp only[hf,aO,fX]at h;have h1:fn.name≠ "runtime.NumGoroutine" :=by simpa using h.1
  obtain⟨c,hc⟩:=Option.isSome_iff_exists.1 h.2;simp[callFunc,hf,h1,hc,Sem.run]
section
variable {S:Nat->List Int->List Int->Prop} {P:bj} {gl:dz} {wb:ai}
end
end Go.ba
namespace Go.ba
abbrev gp:=List (Nat×Nat)
abbrev gn:=List (List Int)
def qg:gp->gn->Nat->Int
 |(s,k)::st,l::aK,i=>cond (bu s i&&bY i (s+k)) (l.getD (i-s) 0) (qg st aK i)
 |_,_,_=>0
def O3:gp->gn->Prop
 |(_,k)::st,l::aK=>l.length=k/\O3 st aK
 |[],[]=>True
 |_,_=>False
def mB (ρ:Env) (st:gp) (aK:gn):Prop:=O3 st aK/\∀i,ρ i=qg st aK i
def zN (st:gp) (aK:gn):List (Int×Nat)->Int
 |[]=>0
 |(k,i)::r=>match r with
  |[]=>cond (k==1) (qg st aK i) (k*qg st aK i)
  |_=>cond (k==1) (qg st aK i) (k*qg st aK i)+zN st aK r
def aa.ej (st:gp) (aK:gn) (l:aa):Int:=
 match l.ts with
 |[]=>l.c
 |ts=>cond (l.c==0) (zN st aK ts) (zN st aK ts+l.c)
theorem TJ {ρ:Env} {st:gp} {aK:gn} (h:∀i,ρ i=qg st aK i):∀ts,zN st aK ts=gu ρ ts
 |[]=>rfl
 |(k,i)::[]=>by
  simp only[zN,gu,<-h i];cases hk:(k==1)with
  |true=>have:k=1:=by simpa using hk
         subst this;simp
  |false=>simp
 |(k,i)::t::r=>by
  have ih:=TJ h (t::r);rw[zN,gu,ih,<-h i]
  ·cases hk:(k==1)with
   |true=>have:k=1:=by simpa using hk
          subst this;simp
   |false=>simp
  ·intro hc;cases hc
theorem aa.ij {ρ:Env} {st:gp} {aK:gn} (h:∀i,ρ i=qg st aK i) (l:aa):l.ej st aK=l.den ρ:=by
 unfold aa.ej aa.den;cases hl:l.ts with
 |nil=>simp[gu]
 |cons t r=>
  simp only[TJ h];cases hc:(l.c==0)with
  |true=>have:l.c=0:=by simpa using hc
         rw[this];simp
  |false=>simp
def xk:gp->gn->Nat->Nat->Option (List Int)
 |(s,k)::st,l::aK,i,len=>cond (aH s i&&aH k len) (some l) (cond (bu (i+len) s||bu (s+k) i) (xk st aK i len) none)
 |_,_,_,_=>none
theorem Ue:∀{st:gp} {aK:gn} {i len:Nat} {l:List Int},xk st aK i len=some l->O3 st aK->l.length=len/\∀j,j<len->qg st aK (i+j)=l.getD j 0
 |[],_,_,_,_,h,_=>by simp[xk]at h
 |_::_,[],_,_,_,h,_=>by simp[xk]at h
 |(s,k)::st,bQ::aK,i,len,l,h,hl=>by
  unfold xk at h;cases h1:(aH s i&&aH k len)with
  |true=>
   simp only[h1,cond_true,aL]at h;subst h;simp only[aO]at h1;have e1:=bx h1.1;have e2:=bx h1.2;subst e1;subst e2;refine⟨hl.1,λj hj=>?_⟩;unfold qg;have:(bu s (s+j)&&bY (s+j) (s+k))=true:=by simp[bY];omega
   rw[this,cond_true,Nat.add_sub_cancel_left]
  |false=>
   simp only[h1,cond_false]at h;cases h2:(bu (i+len) s||bu (s+k) i)with
   |false=>simp[h2]at h
   |true=>
    simp only[h2,cond_true]at h;obtain⟨g1,g2⟩:=Ue h hl.2;refine⟨g1,λj hj=>?_⟩;rw[<-g2 j hj]
    conv=>lhs;unfold qg
    have:(bu s (i+j)&&bY (i+j) (s+k))=false:=by
     simp only[ow,Nat.ble_eq]at h2;cases h3:(bu s (i+j)&&bY (i+j) (s+k))with
     |false=>rfl
     |true=>simp[bY]at h3;omega
    rw[this,cond_false]
def EL:Nat->List aa->Bool
 |_,[]=>true
 |i,l::r=>(l.c==0&&(match l.ts with|[(k,j)]=>k==1&&aH i j|_=>false))&&EL (i+1) r
def firstVar:List aa->Nat
 |[]=>0
 |l::_=>match l.ts with|[(_,j)]=>j|_=>0
theorem WL {ρ:Env}:∀{ls:List aa} {i:Nat},EL i ls=true->∀j,j<ls.length->(ls.map (·.den ρ)).getD j 0=ρ (i+j)
 |[],_,_,j,hj=>by simp at hj
 |l::r,i,h,j,hj=>by
  simp only[EL,aO]at h;cases j with
  |zero=>
   obtain⟨⟨h1,h2⟩,_⟩:=h;have hc:l.c=0:=by simpa using h1
   cases hl:l.ts with
   |nil=>simp[hl]at h2
   |cons t s=>
    cases s with
    |cons t' jW=>simp[hl]at h2
    |nil=>
     obtain⟨k,q⟩:=t;simp only[hl,aO]at h2;have e1:k=1:=by simpa using h2.1
     have e2:=bx h2.2;subst e1;subst e2;simp[aa.den,hl,gu,hc]
  |succ j=>
   have:=WL (ρ:=ρ) h.2 j (by simpa using hj);simp only[cp,Ki];rw[this]
   congr 1;omega
def sX (st:gp) (aK:gn) (ls:List aa):List Int:=
 cond (bY 1 ls.length&&EL (firstVar ls) ls) (match xk st aK (firstVar ls) ls.length with|some l=>l|none=>ls.map (aa.ej st aK)) (ls.map (aa.ej st aK))
theorem Xf {l bQ:List Int} (hl:l.length=bQ.length) (h:∀j,j<l.length->l.getD j 0=bQ.getD j 0):l=bQ:=by
 apply List.ext_getElem hl;intro j h1 h2;have:=h j h1;simpa [List.getD_eq_getElem?_getD,hP h1,hP h2]using this
theorem JM {ρ:Env} {st:gp} {aK:gn} (h:mB ρ st aK) (ls:List aa):sX st aK ls=ls.map (·.den ρ):=by
 have e0:ls.map (aa.ej st aK)=ls.map (·.den ρ):=gI λl _=>aa.ij h.2 l;unfold sX;cases h1:(bY 1 ls.length&&EL (firstVar ls) ls)with
 |false=>simpa using e0
 |true=>
  simp only[cond_true];simp only[aO]at h1;cases h2:xk st aK (firstVar ls) ls.length with
  |none=>exact e0
  |some l=>
   obtain⟨g1,g2⟩:=Ue h2 h.1;show l=_;refine Xf (by simp[g1]) λj hj=>?_;rw[WL h1.2 j (by omega),h.2,g2 j (by omega)]
def l7:bg->Option (List aa×List aa)
 | .eq a b=>some ([a],[b])
 | .and (.eq a b) r=>match l7 r with|some (x,y)=>some (a::x,b::y)|none=>none
 |_=>none
def bg.ej (st:gp) (aK:gn):bg->Bool
 |lit b=>b
 |eq a b=>decide (a.ej st aK=b.ej st aK)
 |lt a b=>decide (a.ej st aK<b.ej st aK)
 |le a b=>decide (a.ej st aK<=b.ej st aK)
 |not a=> !a.ej st aK
 |and a b=>match l7 (.and a b)with
  |some (x,y)=>decide (sX st aK x=sX st aK y)
  |none=>a.ej st aK&&b.ej st aK
 |iff a b=>a.ej st aK==b.ej st aK
theorem T7 {ρ:Env}:∀{b:bg} {x y:List aa},l7 b=some (x,y)->b.den ρ=decide (x.map (·.den ρ)=y.map (·.den ρ))
 | .eq a b,x,y,h=>by
  simp only[l7,aL,ct]at h;obtain⟨rfl,rfl⟩:=h;simp[bg.den]
 | .and (.eq a b) r,x,y,h=>by
  simp only[l7]at h;cases hr:l7 r with
  |none=>simp[hr]at h
  |some p=>
   obtain⟨jY,jF⟩:=p;simp only[hr,aL,ct]at h;obtain⟨rfl,rfl⟩:=h;have ih:=T7 (ρ:=ρ) hr;simp only[bg.den,ih,cp,lp];simp
 | .lit _,_,_,h=>by simp[l7]at h
 | .lt _ _,_,_,h=>by simp[l7]at h
 | .le _ _,_,_,h=>by simp[l7]at h
 | .not _,_,_,h=>by simp[l7]at h
 | .iff _ _,_,_,h=>by simp[l7]at h
 | .and (.lit _) _,_,_,h=>by simp[l7]at h
 | .and (.lt _ _) _,_,_,h=>by simp[l7]at h
 | .and (.le _ _) _,_,_,h=>by simp[l7]at h
 | .and (.not _) _,_,_,h=>by simp[l7]at h
 | .and (.and _ _) _,_,_,h=>by simp[l7]at h
 | .and (.iff _ _) _,_,_,h=>by simp[l7]at h
theorem bg.ij {ρ:Env} {st:gp} {aK:gn} (h:mB ρ st aK):∀b:bg,b.ej st aK=b.den ρ
 |lit _=>rfl
 |eq a b=>by simp only[ej,den,aa.ij h.2]
 |lt a b=>by simp only[ej,den,aa.ij h.2]
 |le a b=>by simp only[ej,den,aa.ij h.2]
 |not a=>by simp only[ej,den,bg.ij h a]
 |and a b=>by
  have e1:=bg.ij h a;have e2:=bg.ij h b;unfold ej;cases hq:l7 (.and a b)with
  |none=>simp only[den,e1,e2]
  |some p=>
   obtain⟨x,y⟩:=p;simp only[T7 (ρ:=ρ) hq,JM h]
 |iff a b=>by simp only[ej,den,bg.ij h a,bg.ij h b]
def gF {α:Type}:List Nat->List α->List (List α)
 |[],[]=>[]
 |[],x::l=>[x::l]
 |k::k8,l=>l.take k::gF k8 (l.drop k)
theorem JQ {α β:Type} (f:α->β):∀(k8:List Nat) (l:List α),gF k8 (l.map f)=(gF k8 l).map (List.map f)
 |[],[]=>rfl
 |[],_::_=>rfl
 |k::k8,l=>by simp only[gF,cp,<-y6,<-y7,JQ f k8]
def vj:List Nat->Nat->List (Int×Int)->(gp->gn->List (List Int)->Prop)->gp->gn->Prop
 |[],_,[],P,st,aK=>P st aK []
 |[],_,_::_,_,_,_=>False
 |k::k8,n,bds,P,st,aK=>cond (aH k 1)
  (match bds with
  |(lo,hi)::S6=>∀z:Int,lo<=z->z<=hi->vj k8 (n+1) S6 (λnD nd ls=>P nD nd ([z]::ls)) ((n,1)::st) ([z]::aK)
  |[]=>False)
  (cond (bu k bds.length) (∀r:List Int,bd (bds.take k) r->vj k8 (n+k) (bds.drop k) (λnD nd ls=>P nD nd (r::ls)) ((n,k)::st) (r::aK)) False)
theorem ZF:∀(a b:List Int) (n:Nat) (ρ:Env),bf ρ n (a++b)=bf (bf ρ n a) (n+a.length) b
 |[],b,n,ρ=>rfl
 |z::a,b,n,ρ=>by
  simp only[ti,bf,cW];rw[ZF a b]
  congr 1;omega
theorem ZG:∀(l:List Int) (n:Nat) (ρ:Env) (i:Nat),bf ρ n l i=cond (bu n i&&bY i (n+l.length)) (l.getD (i-n) 0) (ρ i)
 |[],n,ρ,i=>by
  have:(bu n i&&bY i (n+0))=false:=by
   cases h:(bu n i&&bY i (n+0))with
   |false=>rfl
   |true=>simp[bY]at h;omega
  simp only[bf,eH,this,cond_false]
 |z::l,n,ρ,i=>by
  simp only[bf];rw[ZG l (n+1)];by_cases h1:i=n
  ·subst h1;have e1:(bu (i+1) i&&bY i (i+1+l.length))=false:=by
    have:bu (i+1) i=false:=by
     cases h:bu (i+1) i with
     |false=>rfl
     |true=>exact absurd (eh h) (by omega)
    simp[this]
   have e2:(bu i i&&bY i (i+(z::l).length))=true:=by simp[bY]
   rw[e1,e2];simp[cU]
  ·have hu:cU ρ n z i=ρ i:=QN ρ z h1;by_cases h2:n<=i/\i<n+1+l.length
   ·have e1:(bu (n+1) i&&bY i (n+1+l.length))=true:=by simp[bY];omega
    have e2:(bu n i&&bY i (n+(z::l).length))=true:=by simp[bY];omega
    rw[e1,e2];simp only[cond_true];rw[show i-n=(i-(n+1))+1 by omega,Ki]
   ·have e1:(bu (n+1) i&&bY i (n+1+l.length))=false:=by
     cases h:(bu (n+1) i&&bY i (n+1+l.length))with
     |false=>rfl
     |true=>simp[bY]at h;omega
    have e2:(bu n i&&bY i (n+(z::l).length))=false:=by
     cases h:(bu n i&&bY i (n+(z::l).length))with
     |false=>rfl
     |true=>simp[bY]at h;omega
    rw[e1,e2];simp[hu]
theorem mB.push {ρ:Env} {st:gp} {aK:gn} (h:mB ρ st aK) (n:Nat) (l:List Int):mB (bf ρ n l) ((n,l.length)::st) (l::aK):=
 ⟨⟨rfl,h.1⟩,λi=>by rw[ZG,qg,<-h.2 i]⟩
theorem WB:∀{bds:List (Int×Int)} {zs:List Int} (k:Nat),bd bds zs->bd (bds.take k) (zs.take k)/\bd (bds.drop k) (zs.drop k)
 |[],[],k,_=>by simp[bd]
 |[],_::_,_,h=>h.elim
 |(_,_)::_,[],_,h=>h.elim
 |(l,u)::b,z::zs,0,h=>by simpa [bd]using h
 |(l,u)::b,z::zs,k+1,h=>by
  obtain⟨h1,h2,h3⟩:=h;obtain⟨g1,g2⟩:=WB (bds:=b) (zs:=zs) k h3;exact⟨⟨h1,h2,g1⟩,g2⟩
theorem zu:∀{k8:List Nat} {n:Nat} {bds:List (Int×Int)} {P:gp->gn->List (List Int)->Prop} {st:gp} {aK:gn} {ρ:Env} {zs:List Int},vj k8 n bds P st aK->mB ρ st aK->bd bds zs->∃nD nd,mB (bf ρ n zs) nD nd/\P nD nd (gF k8 zs)
 |[],n,[],P,st,aK,ρ,[],h,ht,_=>⟨st,aK,ht,h⟩
 |[],_,[],_,_,_,_,_::_,_,_,hi=>hi.elim
 |[],_,_::_,_,_,_,_,_,h,_,_=>h.elim
 |k::k8,n,bds,P,st,aK,ρ,zs,h,ht,hi=>by
  unfold vj at h;cases hk:aH k 1 with
  |true=>
   have e:=bx hk;subst e;simp only[hk,cond_true]at h;cases bds with
   |nil=>exact h.elim
   |cons b S6=>
    obtain⟨lo,nn⟩:=b;cases zs with
    |nil=>exact hi.elim
    |cons z zs=>
     obtain⟨h1,h2,h3⟩:=hi;have:=zu (h z h1 h2) (ht.push n [z]) h3;obtain⟨nD,nd,g1,g2⟩:=this;refine⟨nD,nd,g1,?_⟩;simpa [gF]using g2
  |false=>
   simp only[hk,cond_false]at h;cases hb:bu k bds.length with
   |false=>simp only[hb,cond_false]at h
   |true=>
    simp only[hb,cond_true]at h;have hb':k<=bds.length:=by simpa using hb
    have hlen:=gi hi;obtain⟨i1,i2⟩:=WB k hi;have e:(zs.take k).length=k:=by simp;omega
    have gZ:=ht.push n (zs.take k);rw[e]at gZ;obtain⟨nD,nd,g1,g2⟩:=zu (h _ i1) gZ i2;refine⟨nD,nd,?_,g2⟩;have e2:=ZF (zs.take k) (zs.drop k) n ρ;rw[jn,e]at e2;rw[e2];exact g1
abbrev zk:=Nat->List (List Int)->Prop
def zk.set (A:zk) (iO:Nat) (p:List (List Int)->Prop):zk:=λi=>cond (aH i iO) p (A i)
def T.kZ (sh:Nat->List Nat×List Nat) (lsh:Nat->List Nat) (S:Nat->List (List Int)->List (List Int)->Prop) (L:V->gp->gn->Prop):T->zk->gp->gn->Prop
 |stuck,_,_,_=>False
 |leaf v,_,st,aK=>L v st aK
 |div n x d lo hi r,A,st,aK=>∀q:Int,lo<=q->q<=hi->0<=x.ej st aK-d*q->x.ej st aK-d*q<d->r.kZ sh lsh S L A ((n,1)::st) ([q]::aK)
 |mul n x y lo hi r,A,st,aK=>∀p:Int,lo<=p->p<=hi->p=x.ej st aK*y.ej st aK->r.kZ sh lsh S L A ((n,1)::st) ([p]::aK)
 |bit n op k x y r,A,st,aK=>∀z:Int,0<=z->z<=k.max->z=cy op k (x.ej st aK) (y.ej st aK)->r.kZ sh lsh S L A ((n,1)::st) ([z]::aK)
 |shr n x y lo hi r,A,st,aK=>∀z:Int,lo<=z->z<=hi->z=x.ej st aK/2^(y.ej st aK).toNat->r.kZ sh lsh S L A ((n,1)::st) ([z]::aK)
 |JN n cs bh lo hi r,A,st,aK=>∀z:Int,lo<=z->z<=hi->z=(sX st aK cs).getD (bh.ej st aK).toNat 0->r.kZ sh lsh S L A ((n,1)::st) ([z]::aK)
 |tG b t e,A,st,aK=>(b.ej st aK=true->t.kZ sh lsh S L A st aK)/\(b.ej st aK=false->e.kZ sh lsh S L A st aK)
 |call id args n bds r,A,st,aK=>vj (sh id).2 n bds (λnD nd rs=>S id ((gF (sh id).1 args).map (sX st aK)) rs->r.kZ sh lsh S L A nD nd) st aK
 |loop iO init n bds r,A,st,aK=>∃(I:List (List Int)->Prop) (j3:List (List Int)->Nat),I ((gF (lsh iO) init).map (sX st aK))/\
  vj (lsh iO) n bds (λnD nd zs=>I zs->r.kZ sh lsh S L (A.set iO λvs=>I vs/\j3 vs<j3 zs) nD nd) st aK
 |again iO vals,A,st,aK=>A iO ((gF (lsh iO) vals).map (sX st aK))
 |both a b,A,st,aK=>a.kZ sh lsh S L A st aK/\b.kZ sh lsh S L A st aK
 |fn n op args lo hi r,A,st,aK=>∀z:Int,lo<=z->z<=hi->z=aw op (args.map (aa.ej st aK))->r.kZ sh lsh S L A ((n,1)::st) ([z]::aK)
 |ind n b r,A,st,aK=>∀z:Int,0<=z->z<=1->b.ej st aK=decide (z=1)->r.kZ sh lsh S L A ((n,1)::st) ([z]::aK)
 |s3 n lo hi r,A,st,aK=>∀z:Int,lo<=z->z<=hi->r.kZ sh lsh S L A ((n,1)::st) ([z]::aK)
 |nat n r,A,st,aK=>∀z:Int,0<=z->r.kZ sh lsh S L A ((n,1)::st) ([z]::aK)
 |vn op args r,A,st,aK=>af op (args.map (aa.ej st aK))->r.kZ sh lsh S L A st aK
 |oK op args r,A,st,aK=>af op (args.map (aa.ej st aK))/\r.kZ sh lsh S L A st aK
theorem Ql {ρ:Env} {st:gp} {aK:gn} (h:mB ρ st aK) (k8:List Nat) (l:List aa):(gF k8 l).map (sX st aK)=gF k8 (l.map (·.den ρ)):=by
 rw[JQ];exact gI λx _=>JM h x
def b5 (sh:Nat->List Nat×List Nat) (S:Nat->List (List Int)->List (List Int)->Prop):Nat->List Int->List Int->Prop:=λid zs rs=>S id (gF (sh id).1 zs) (gF (sh id).2 rs)
theorem Pg {ρ:Env} {st:gp} {aK:gn} (h:mB ρ st aK) (l:List aa):l.map (aa.ej st aK)=l.map (·.den ρ):=gI λx _=>aa.ij h.2 x
theorem lG {sh:Nat->List Nat×List Nat} {lsh:Nat->List Nat} {S:Nat->List (List Int)->List (List Int)->Prop} {Sr:V->gp->gn->Prop} {L:V->Env->Prop} (bW:∀v ρ st aK,mB ρ st aK->Sr v st aK->L v ρ):
 ∀(t:T) (fN:zk) (A:dc) (ρ:Env) (st:gp) (aK:gn),(∀iO vs,fN iO (gF (lsh iO) vs)->A iO vs)->mB ρ st aK->t.kZ sh lsh S Sr fN st aK->t.holds (b5 sh S) L A ρ
 | .stuck,_,_,_,_,_,_,_,h=>h
 | .leaf v,_,_,ρ,st,aK,_,ht,h=>bW v ρ st aK ht h
 | .div n x d lo hi r,fN,A,ρ,st,aK,hA,ht,h=>λq h1 h2 h3 h4=>lG bW r fN A _ _ _ hA (ht.push n [q]) (h q h1 h2 (by rw[aa.ij ht.2];exact h3) (by rw[aa.ij ht.2];exact h4))
 | .mul n x y lo hi r,fN,A,ρ,st,aK,hA,ht,h=>λq h1 h2 h3=>lG bW r fN A _ _ _ hA (ht.push n [q]) (h q h1 h2 (by rw[aa.ij ht.2,aa.ij ht.2];exact h3))
 | .bit n op k x y r,fN,A,ρ,st,aK,hA,ht,h=>λq h1 h2 h3=>lG bW r fN A _ _ _ hA (ht.push n [q]) (h q h1 h2 (by rw[aa.ij ht.2,aa.ij ht.2];exact h3))
 | .shr n x y lo hi r,fN,A,ρ,st,aK,hA,ht,h=>λq h1 h2 h3=>lG bW r fN A _ _ _ hA (ht.push n [q]) (h q h1 h2 (by rw[aa.ij ht.2,aa.ij ht.2];exact h3))
 | .JN n cs bh lo hi r,fN,A,ρ,st,aK,hA,ht,h=>λq h1 h2 h3=>lG bW r fN A _ _ _ hA (ht.push n [q]) (h q h1 h2 (by rw[JM ht,aa.ij ht.2];exact h3))
 | .tG b t e,fN,A,ρ,st,aK,hA,ht,h=>⟨λhb=>lG bW t fN A _ _ _ hA ht (h.1 (by rw[bg.ij ht];exact hb)),λhb=>lG bW e fN A _ _ _ hA ht (h.2 (by rw[bg.ij ht];exact hb))⟩
 | .call id args n bds r,fN,A,ρ,st,aK,hA,ht,h=>by
  refine r6 λrs hi hs=>?_;obtain⟨nD,nd,h1,h2⟩:=zu h ht hi;exact lG bW r fN A _ _ _ hA h1 (h2 (by rw[Ql ht];exact hs))
 | .loop iO init n bds r,fN,A,ρ,st,aK,hA,ht,h=>by
  obtain⟨I,j3,h1,h2⟩:=h;refine⟨λzs=>I (gF (lsh iO) zs),λzs=>j3 (gF (lsh iO) zs),?_,?_⟩
  ·rw[Ql ht]at h1;exact h1
  ·refine r6 λzs hi hI=>?_;obtain⟨nD,nd,g1,g2⟩:=zu h2 ht hi;refine lG bW r _ _ _ _ _ (λakc vs hv=>?_) g1 (g2 hI);unfold zk.set at hv;unfold dc.set;cases hq:aH akc iO with
   |true=>
    rw[hq]at hv;have e:=bx hq;subst e;exact hv
   |false=>rw[hq]at hv;exact hA _ _ hv
 | .again iO vals,fN,A,ρ,st,aK,hA,ht,h=>hA iO _ (by rw[<-Ql ht];exact h)
 | .both x y,fN,A,ρ,st,aK,hA,ht,h=>⟨lG bW x fN A ρ st aK hA ht h.1,lG bW y fN A ρ st aK hA ht h.2⟩
 | .fn n op args lo hi r,fN,A,ρ,st,aK,hA,ht,h=>λq h1 h2 h3=>lG bW r fN A _ _ _ hA (ht.push n [q]) (h q h1 h2 (by rw[Pg ht];exact h3))
 | .ind n b r,fN,A,ρ,st,aK,hA,ht,h=>λq h1 h2 h3=>lG bW r fN A _ _ _ hA (ht.push n [q]) (h q h1 h2 (by rw[bg.ij ht];exact h3))
 | .s3 n lo hi r,fN,A,ρ,st,aK,hA,ht,h=>λq h1 h2=>lG bW r fN A _ _ _ hA (ht.push n [q]) (h q h1 h2)
 | .nat n r,fN,A,ρ,st,aK,hA,ht,h=>λq h1=>lG bW r fN A _ _ _ hA (ht.push n [q]) (h q h1)
 | .vn op args r,fN,A,ρ,st,aK,hA,ht,h=>λh1=>lG bW r fN A ρ st aK hA ht (h (by rw[Pg ht];exact h1))
 | .oK op args r,fN,A,ρ,st,aK,hA,ht,h=>⟨by rw[<-Pg ht];exact h.1,lG bW r fN A _ _ _ hA ht h.2⟩
def vT:List O->Option (List aa)
 |[]=>some []
 | .l x::r=>match vT r with|some l=>some (x::l)|none=>none
 | .b _::_=>none
def O.ej (st:gp) (aK:gn):O->Int
 |l x=>x.ej st aK
 |b x=>cond (x.ej st aK) 1 0
def BU (st:gp) (aK:gn) (os:List O):List Int:=
 match vT os with
 |some ls=>sX st aK ls
 |none=>os.map (O.ej st aK)
theorem Xe {ρ:Env}:∀{os:List O} {ls:List aa},vT os=some ls->ls.map (·.den ρ)=os.map (O.den ρ)
 |[],ls,h=>by simp[vT]at h;subst h;rfl
 | .l x::r,ls,h=>by
  simp only[vT]at h;cases hr:vT r with
  |none=>simp[hr]at h
  |some l=>
   simp only[hr,aL]at h;subst h;simp only[cp,Xe hr,O.den]
 | .b _::_,_,h=>by simp[vT]at h
theorem O.ij {ρ:Env} {st:gp} {aK:gn} (h:mB ρ st aK):∀o:O,o.ej st aK=o.den ρ
 | .l x=>aa.ij h.2 x
 | .b x=>by simp only[ej,den,bg.ij h]
theorem Y5 {ρ:Env} {st:gp} {aK:gn} (h:mB ρ st aK) (os:List O):BU st aK os=os.map (O.den ρ):=by
 unfold BU;cases hl:vT os with
 |some ls=>exact(JM h ls).trans (Xe hl)
 |none=>exact gI λo _=>O.ij h o
def alg (k:Nat):List Nat:=match k with
 |12=>[4,4,4]
 |15=>[5,5,5]
 |20=>[5,5,5,5]
 |k=>[k]
def D.I8:D->List Nat
 | .mix l=>alg l.length
 | .jC _=>[]
 | .n9 .. =>[]
 |d=>[d.num]
def sL (ds:List D):List Nat:=ds.flatMap D.I8
def Lt (ds:List D) (K:List (List Int)->Prop) (v:V) (st:gp) (aK:gn):Prop:=
 match outs ds v with
 |some os=>K ((gF (sL ds) os).map (BU st aK))
 |none=>False
theorem abc {ds:List D} {K:List (List Int)->Prop} (v:V) (ρ:Env) (st:gp) (aK:gn) (ht:mB ρ st aK) (h:Lt ds K v st aK):vb ds (λrs=>K (gF (sL ds) rs)) v ρ:=by
 unfold Lt at h;unfold vb;cases ho:outs ds v with
 |none=>simp[ho]at h
 |some os=>
  simp only[ho]at h⊢;rw[JQ]
  rwa [show(gF (sL ds) os).map (BU st aK)=(gF (sL ds) os).map (List.map (O.den ρ)) from gI λo _=>Y5 ht o]at h
def tx (sh:Nat->List Nat×List Nat) (lsh:Nat->List Nat) (S:Nat->List (List Int)->List (List Int)->Prop) (K:List (List Int)->List (List Int)->Prop) (lens:List Nat) (bds:List (Int×Int)) (ds:List D) (t:T):Prop:=
 vj lens 0 bds (λst aK zs=>t.kZ sh lsh S (Lt ds (K zs)) (λ_ _=>False) st aK) [] []
theorem abK {sh:Nat->List Nat×List Nat} {lsh:Nat->List Nat} {S:Nat->List (List Int)->List (List Int)->Prop} {K:List (List Int)->List (List Int)->Prop} {lens:List Nat} {bds:List (Int×Int)} {ds:List D} {t:T}
 (h:tx sh lsh S K lens bds ds t):oG bds λzs=>t.holds (b5 sh S) (vb ds λrs=>K (gF lens zs) (gF (sL ds) rs)) (λ_ _=>False) (bf (λ_=>0) 0 zs):=by
 refine r6 λzs hi=>?_;obtain⟨st,aK,h1,h2⟩:=zu h (show mB (λ_=>0) [] [] from⟨trivial,λ_=>rfl⟩) hi;exact lG (λv ρ st aK ht hl=>abc v ρ st aK ht hl) t _ _ _ st aK (λ_ _ hf=>hf.elim) h1 h2
end Go.ba
namespace Go.ba
open Go.ChangeShapes Go.WideShapes Go.RowKit
variable {H:Type} {enc:aQ×az->H} {P:bj}
theorem ZK {k:dj} {z:Int}:(Lit.int k z).wf=true↔k.min<=z/\z<=k.max:=by simp[Lit.wf]
theorem Tw {k:dj}:∀(cs:List az) (xs:List (nJ H×List qz)),cs.length=xs.length->
 (∀i,i<xs.length->∃z,(cs.drop i).take 1=[.int k z]/\xs[i]?=some (.lit (.int k z),[])/\(Lit.int k z).wf=true)->
 ∃zs:List Int,cs=zs.map (.int k)/\xs=zs.map (λz=>(.lit (.int k z),[]))/\∀z∈zs,(Lit.int k z).wf=true
 |[],[],_,_=>⟨[],rfl,rfl,λ_ h=>by cases h⟩
 |[],_::_,h,_=>by simp at h
 |_::_,[],h,_=>by simp at h
 |c::cs,x::xs,hl,h=>by
  obtain⟨z,h1,h2,h3⟩:=h 0 (by simp);simp at h1 h2;obtain⟨zs,e1,e2,e3⟩:=Tw cs xs (by simpa using hl) λi hi=>by
   obtain⟨y,g1,g2,g3⟩:=h (i+1) (by simpa using hi);exact⟨y,by simpa using g1,by simpa using g2,g3⟩
  refine⟨z::zs,by rw[h1,e1];rfl,by rw[h2,e2];rfl,λy hy=>?_⟩;rcases List.mem_cons.1 hy with rfl|hy
  ·exact h3
  ·exact e3 y hy
theorem Wx:∀{b b':List (Int×Int)} {l bQ:List Int},bd b l->bd b' bQ->bd (b++b') (l++bQ)
 |[],_,[],_,_,h=>h
 |_::_,_,_::_,_,h,h'=>⟨h.1,h.2.1,Wx h.2.2 h'⟩
 |[],_,_::_,_,h,_=>h.elim
 |_::_,_,[],_,h,_=>h.elim
theorem D.ZH (d:D) {zs l:List Int} (h:zs.length=d.num):d.val (zs++l)=d.val zs:=by
 cases d with
 |str=>match zs,h with|[z],_=>rfl
 |int k lo hi=>match zs,h with|[z],_=>rfl
 |bool=>match zs,h with|[z],_=>rfl
 |agg k n lo hi=>simp only[D.num]at h;simp only[D.val,<-h];simp
 |jC p=>rfl
 |n9 k c=>rfl
 |mix p=>
  simp only[D.num]at h;simp only[D.val]
  congr 2
  revert zs;induction p with
  |nil=>intro zs h;simp
  |cons a p ih=>
   intro zs h
   match zs,h with
   |z::zs,h=>simp only[ti,Kl,ih (zs:=zs) (by simpa using h)]
theorem aje {w w':ai} (h:w.Extends w') (may:qz->Prop):w.keptBut w' may:=
 Below.frame (W:=w) ⟨h.os,h.tape,h.output,h.size,λi hi=>h.block i hi⟩ may
theorem UF {w:ai} {name:String} {g:Nat} {t e:aQ} {k:dj} {n:Nat} {cs:Array az} {fuel:Nat} {p:List qz} {zs:List Int} {spare:Nat->Bool} {held:Bool} {base:Nat} {enc:aQ×az->Unit}
 (hg:P.globalNamed name=some g) (ht:P.underlying t=some (.array n e)) (he:P.underlying e=some (.int k)) (Vh:P.cellsOf e=1) (gN:P.cellsOf t=n)
 (hv:w.var? P name=some cs) (hd:Km enc P w base spare held fuel t cs.toList=some (.agg (zs.map λz=> .lit (.int k z)),p)):
 g<w.heap.size/\∃t' pd,w.heap[g]?=some (Obj.cells (zs.map (rO k)).toArray t' pd):=by
 obtain⟨xs,m,rfl,hx,hlen,hn,At⟩:=auu ht hd;obtain⟨ft,e1,e2,e3⟩:=Tw (k:=k) cs.toList xs (by rw[hlen,gN,hn]) λi hi=>by
  have:=At i (by omega);rw[Vh,Gf]at this;cases Wa:xs[i]? with
  |none=>simp at Wa;omega
  |some y=>
   rw[Wa]at this;obtain⟨z,g1,g2,g3⟩:=aaw he this;exact⟨z,g1,by rw[g2],g3⟩
 simp only[ct,azz]at hx;have hy:ft=zs:=by
  have h1:=hx.1;rw[e2,kN]at h1;have xK:∀a b:Int,(auv (.int k a):nJ Unit)= .lit (.int k b)->a=b:=λa b h=>by cases h;rfl
  exact((List.map_inj_right (f:=λz:Int=>(auv (.int k z):nJ Unit)) xK).1 h1).symm
 subst hy;simp only[World.var?,hg,Option.bind_some]at hv;split at hv
 ·rename_i iX t' pd hb;simp only[aL]at hv;subst hv;refine⟨?_,t',pd,?_⟩
  ·exact(Array.getElem?_eq_some_iff.1 hb).1
  ·rw[hb,<-e1]
 ·cases hv
end Go.ba
namespace Go.ba
open M
inductive bL where
 |d (x:D)
 |rd (sh:List ay)
 |jy (sh:List ay) (e:aQ)
def bL.num:bL->Nat
 |d x=>x.num
 |_=>1
noncomputable def bL.bds:bL->List (Int×Int)
 |d x=>x.bds
 |_=>[(0,cc)]
noncomputable def cd:List bL->List (Int×Int)
 |[]=>[]
 |x::r=>x.bds++cd r
def bL.dM:bL->Bool
 |d _=>true
 |_=>false
def bL.jT:bL->Bool
 |jy _ _=>true
 |_=>false
def bL.jg:bL->Bool
 |rd _=>true
 |_=>false
def kz:List bL->Bool
 |[]=>true
 | .d _::r=>kz r
 | .rd _::r=>r.all (λb=> !b.jT)&&kz r
 | .jy sh _::r=>r.all bL.dM&&iP sh&&kz r
def gq (F:Nat->Prop) (w:ai) (sh:List ay) (rows:List (List Int)) (v:az):Prop:=
 ((∃p,v= .slice p 0 0)/\rows=[])∨∃(g o cap:Nat) (cells:Array az) (t:aQ) (fz:Nat×Nat),v= .slice (some ⟨g,o,none⟩) rows.length cap/\(rows.length<=cap/\(cap:Int)<=9223372036854775807)/\F g/\w.heap[g]?=some (.cells cells t fz)/\ie F w cells o sh rows
def o8 (N:Nat->Prop) (w:ai) (sh:List ay) (e:aQ) (rows:List (List Int)) (v:az):Prop:=
 ((∃p,v= .slice p 0 0)/\rows=[])∨∃(g cap:Nat) (cells:Array az),v= .slice (some ⟨g,0,none⟩) rows.length cap/\(rows.length<=cap/\(cap:Int)<=9223372036854775807)/\N g/\w.heap[g]?=some (.cells cells e (0,0))/\pO cells 0 sh rows/\cells.size=cap*sh.length
def bL.at (F N:Nat->Prop) (w:ai):bL->List Int->az->Prop
 |d x,zs,v=>v=x.val zs
 |rd sh,zs,v=>gq F w sh (ab (zs.getD 0 0)) v
 |jy sh e,zs,v=>o8 N w sh e (ab (zs.getD 0 0)) v
def gb (F N:Nat->Prop) (w:ai):List bL->List Int->List az->Prop
 |[],_,[]=>True
 |b::r,zs,v::vs=>b.at F N w zs v/\gb F N w r (zs.drop b.num) vs
 |_,_,_=>False
def lh (us:List az):az:=match us with|[x]=>x|l=> .tuple l.toArray
structure dw where
 f:cz
 id:Nat
 args:List bL
 res:List bL
 pre:Nat:=0
def uC:Nat->List Int->Prop
 |0,_=>True
 |p+1,l=>af (p+1) l
def Fa:Nat->List aa->T->T
 |0,_,r=>r
 |p+1,ls,r=> .oK (p+1) ls r
def E9:Nat->List aa->T->T
 |0,_,r=>r
 |p+1,ls,r=> .vn (p+1) ls r
theorem preM_holds {S:Nat->List Int->List Int->Prop} {L:V->Env->Prop} {A:dc} {ρ:Env} {p:Nat} {ls:List aa} {r:T} (h:(Fa p ls r).holds S L A ρ):uC p (ls.map (·.den ρ))/\r.holds S L A ρ:=by
 cases p with
 |zero=>exact⟨trivial,h⟩
 |succ p=>exact h
theorem preA_holds {S:Nat->List Int->List Int->Prop} {L:V->Env->Prop} {A:dc} {ρ:Env} {p:Nat} {ls:List aa} {r:T} (h:(E9 p ls r).holds S L A ρ) (hp:uC p (ls.map (·.den ρ))):r.holds S L A ρ:=by
 cases p with
 |zero=>exact h
 |succ p=>exact h hp
def dw.dX (P:bj) (wb:ai) (c:dw) (spec:List Int->List Int->Prop):Prop:=
 (∀args w,(callFunc c.f args).run P w= .ok (.enter c.f args) w)/\
 ∀(F:Nat->Prop) (w:ai) (vs:List az) (zs:List Int),wb.Extends w->bd (cd c.args) zs->uC c.pre zs->gb F (λ_=>False) w c.args zs vs->
  gU P c.f vs.toArray w λe w'=>w.Extends w'/\∃rs us,bd (cd c.res) rs/\spec zs rs/\gb (λg=>F g∨w.heap.size<=g) (λg=>w.heap.size<=g) w' c.res rs us/\e= .returned (lh us)
noncomputable def nP:List bL->Nat->Nat->List W->List ao->(Nat->List W->List ao->T)->T
 |[],_,n,us,bl,k=>k n us bl
 | .d x::r,s,n,us,bl,k=>nP r (s+x.num) n (us++[x.sym s]) bl k
 | .rd sh::r,s,n,us,bl,k=> .nat n (.s3 (n+1) (-2) 9223372036854775807 (.fn (n+2) 20 [.var s] 0 9223372036854775807
  (nP r (s+1) (n+3) (us++[.one (.sl bl.length sh.length (.var n) (.const 0) (.var (n+2)) (.var (n+1)))]) (bl++[([.rows sh (.var n) (.var s) (.var (n+1)) 1],(0,false))]) k)))
 | .jy sh e::r,s,n,us,bl,k=> .s3 n (-2) 9223372036854775807 (.fn (n+1) 20 [.var s] 0 9223372036854775807
  (nP r (s+1) (n+2) (us++[.one (.sl bl.length sh.length (.const 0) (.const 0) (.var (n+1)) (.var n))]) (bl++[([.rows sh (.const 0) (.var s) (.var n) 2],(e,false))]) k))
section
variable {S:Nat->List Int->List Int->Prop} {L:V->Env->Prop} {w0:cP} {P:bj} {gl:dz} {cal:dW}
theorem fC.agree {ρ ag:Env} {s n:Nat} {zs:List Int} (h:fC ρ s zs) (ha:agree n ρ ag) (hn:s+zs.length<=n):fC ag s zs:=λj hj=>by rw[ha (s+j) (by omega)];exact h j hj
theorem qt {ρ:Env} {n i:Nat} {z:Int} (h:i<n):cU ρ n z i=ρ i:=QN ρ z (by omega)
theorem r7 {F N:Nat->Prop} (hF:∀g,F g->w0.ex g∨w0.ro g∨w0.r.heap.size<=g) (hN:∀g,N g->w0.b.heap.size<=g/\w0.r.heap.size<=g):∀{l:List bL} {s n:Nat} {us:List W} {bl:List ao} {k:Nat->List W->List ao->T} {G:dc} {ρ:Env} {m:Nat->Nat} {w:ai} {zs:List Int} {vals:List az},
 kz l=true->b6 n bl.length ρ bl->Mem w0 ρ m bl w->fC ρ s zs->bd (cd l) zs->s+(cd l).length<=n->gb F N w l zs vals->
 ((l.all λb=> !b.jg)=true∨∀(i:Nat) (p:ao),bl[i]?=some p->F (m i)->aP ρ p.1<=1)->((l.all λb=> !b.jT)=true∨∀(i:Nat) (p:ao),bl[i]?=some p->N (m i)->aP ρ p.1=0)->
 ((l.all λb=> !b.jT)=true∨∀g,N g->m7 w0 ρ m bl w g)->
 (∀u∈us,W.ok n bl.length ρ u)->
 (nP l s n us bl k).holds S L G ρ->∃n' ag m' jE aJ,cR n bl.length ρ m n' (kt aJ) ag m'/\b6 n' aJ.length ag aJ/\Mem w0 ag m' aJ w/\jE.map (W.den ag m')=us.map (W.den ρ m)++vals/\(∀u∈jE,W.ok n' aJ.length ag u)/\(k n' jE aJ).holds S L G ag
 |[],s,n,us,bl,k,G,ρ,m,w,zs,vals,_,hb,hm,_,_,_,hat,_,_,_,pv,ah=>by
  match vals,hat with
  |[],_=>exact⟨n,ρ,m,us,bl,cR.refl _ _ _ _,hb,hm,by simp,pv,ah⟩
 | .d x::r,s,n,us,bl,k,G,ρ,m,w,zs,vals,aX,hb,hm,hA,hz,hn,hat,h1,h2,kb,pv,ah=>by
  match vals,hat with
  |v::vs,hat=>
   obtain⟨hv,hat⟩:=hat;have hv:v=x.val zs:=hv;simp only[cd,bL.bds]at hz hn;simp only[dn]at hn;obtain⟨i1,i2⟩:=IA hz;rw[D.tD]at i1 i2 hn;have hs:=D.FE (ρ:=ρ) (m:=m) (N:=n) (nb:=bl.length) x i1 hA (by omega);obtain⟨n',ag,m',jE,aJ,g1,g2,g3,g4,g5,g6⟩:=r7 hF hN (l:=r) (s:=s+x.num) (us:=us++[x.sym s]) (zs:=zs.drop x.num) aX hb hm (hA.drop x.num) i2 (by omega) hat (by
    rcases h1 with h1|h1
    ·left;simpa [bL.jg]using h1
    ·exact .inr h1) (by
    rcases h2 with h2|h2
    ·left;simpa [bL.jT]using h2
    ·exact .inr h2) (by
    rcases kb with h2|h2
    ·left;simpa [bL.jT]using h2
    ·exact .inr h2) (λu hu=>by
    rcases List.mem_append.1 hu with hu|hu
    ·exact pv u hu
    ·simp at hu;subst hu;exact hs.1) ah
   exact⟨n',ag,m',jE,aJ,g1,g2,g3,by rw[g4,fY,hv];simp[hs.2],g5,g6⟩
 | .rd sh::r,s,n,us,bl,k,G,ρ,m,w,zs,vals,aX,hb,hm,hA,hz,hn,hat,h1,h2,kb,pv,ah=>by
  match vals,hat with
  |v::vs,hat=>
   obtain⟨hv,hat⟩:=hat
   match zs,hz with
   |z::zs,hz=>
    obtain⟨ae,z2,hz⟩:=hz;have hv:gq F w sh (ab z) v:=hv;obtain⟨vz,mH⟩:=hA.tail;have h1:∀(i:Nat) (p:ao),bl[i]?=some p->F (m i)->aP ρ p.1<=1:=by
     rcases h1 with h1|h1
     ·simp[bL.jg]at h1
     ·exact h1
    simp only[cd,bL.bds,dn,cW,eH]at hn;simp only[kz,aO]at aX;have hlen:(ab z).length<=9223372036854775807:=by
     rcases hv with⟨_,h⟩|⟨_,_,cap,_,_,_,_,⟨h3,h4⟩,_⟩
     ·simp[h]
     ·omega
    have mN:zs.length=(cd r).length:=gi hz;obtain⟨g,o,cap,hg1,Av,hg3,hg4,Aw⟩:∃(g:Nat) (o:Nat) (cap:Int),(-2<=cap/\cap<=9223372036854775807)/\(cap<0->ab z=[])/\(0<=cap->((ab z).length:Int)<=cap)/\
     (v=if cap<0 then Cr (lR cap g) 0 0 else .slice (some ⟨g,o,none⟩) (ab z).length cap.toNat)/\
     (0<=cap->F g/\∃cells t fz,w.heap[g]?=some (.cells cells t fz)/\ie F w cells o sh (ab z)):=by
     rcases hv with⟨⟨p,h3⟩,h4⟩|⟨g,o,cap,cells,t,fz,h3,⟨h4,h5⟩,h6,h7,h8⟩
     ·obtain⟨c,g,hc,hp⟩:=Q8 p;exact⟨g,0,c,by omega,λ_=>h4,λh=>by omega,by rw[if_pos hc.2,hp,h3],λh=>by omega⟩
     ·exact⟨g,o,cap,by omega,λh=>by omega,λ_=>by omega,by rw[if_neg (by omega)];simpa using h3,λ_=>⟨h6,cells,t,fz,h7,h8⟩⟩
    have D5:=ah (o:Int) (by omega) cap hg1.1 hg1.2 (ab z).length (by omega) (by omega) (by
     simp only[cp,er,aw,aa.ck];rw[qt (by omega),qt (by omega),vz])
    generalize mO:cU (cU (cU ρ n (o:Int)) (n+1) cap) (n+2) ((ab z).length:Int)=eJ at D5;have ha:agree n ρ eJ:=by
     rw[<-mO];intro i hi;rw[qt (by omega),qt (by omega),qt hi]
    have e0:eJ n=o:=by rw[<-mO,qt (by omega),qt (by omega),jD]
    have e1:eJ (n+1)=cap:=by rw[<-mO,qt (by omega),jD]
    have e2:eJ (n+2)=(ab z).length:=by rw[<-mO,jD]
    have e3:eJ s=z:=by rw[ha s (by omega)];exact vz
    have q8:=hm.dO hb ha;have DN:=hb.ext ha (show n<=n+3 by omega) (aV bl.length);have Dz:(A.rows sh (.var n) (.var s) (.var (n+1)) 1).ok (n+3) bl.length eJ:=⟨⟨aa.eo (by omega),aa.eo (by omega),aa.eo (by omega)⟩,by rw[aa.ck,e3];exact⟨ae,z2⟩,by rw[aa.ck,e1];exact hg1⟩;have ir:aP eJ [A.rows sh (.var n) (.var s) (.var (n+1)) 1]<=1:=by
     simp only[aP];split<;>omega
    have DG:∀bb,F bb->b7 w0 eJ (fc m bl.length g) (bl++[([.rows sh (.var n) (.var s) (.var (n+1)) 1],(0,false))]) bb:=λbb ec=>b7.push ⟨hF bb ec,λi p hi hk he=>by
     have a8:=h1 i p hi (by rw[he];exact ec);rw[mi (hb _ (c0 hi)) ha]at hk;omega⟩ (.inl ir)
    have hM:=q8.push (x:=([.rows sh (.var n) (.var s) (.var (n+1)) 1],(0,false))) (g:=g) DN (λy hy=>by simp at hy;subst hy;exact Dz) (λho=>by cases ho) (λcH dT code' dR eT he=>by
     cases he;intro _;refine⟨λh=>by rw[aa.ck,e1]at h;rw[aa.ck,e3];exact Av h,λh=>?_⟩;rw[aa.ck,e1]at h;obtain⟨xx,cells,t,fz,k1,k2⟩:=Aw h;exact⟨hF g xx,cells,t,fz,k1,⟨by rw[aa.ck,e0];omega,by rw[aa.ck,aa.ck,e0,e3];exact k2.mono (Fr.of w DG)⟩,λh2=>by omega⟩) (λi p hi he=>by
      by_cases hc:0<=cap
      ·refine .inl ⟨?_,?_⟩
       ·rw[mi (hb _ (c0 hi)) ha];exact h1 i p hi (by rw[he];exact(Aw hc).1)
       ·rw[ix (by decide) (by rw[aa.ck,e1];exact hc)];exact aV 1
      ·refine .inr (.inr ?_);simp only[aP,aa.ck,e1];rw[if_pos (by omega)]) (q8.JI ir)
    have NW:cR n bl.length ρ m (n+3) (bl++[([A.rows sh (.var n) (.var s) (.var (n+1)) 1],((0:aQ),false))]).length eJ (fc m bl.length g):=⟨by omega,ha,by simp,λb hb=>iD hb⟩;have xD:b6 (n+3) (bl++[([A.rows sh (.var n) (.var s) (.var (n+1)) 1],((0:aQ),false))]).length eJ (bl++[([.rows sh (.var n) (.var s) (.var (n+1)) 1],(0,false))]):=λp hp a fp=>by
     rcases List.mem_append.1 hp with hp|hp
     ·exact(DN p hp a fp).ext (agree.refl _ _) (aV _) (by simp)
     ·simp at hp;subst hp;simp at fp;subst fp;exact Dz.ext (agree.refl _ _) (aV _) (by simp)
    have Om:W.ok (n+3) (bl++[([A.rows sh (.var n) (.var s) (.var (n+1)) 1],((0:aQ),false))]).length eJ (.one (.sl bl.length sh.length (.var n) (.const 0) (.var (n+2)) (.var (n+1)))):=by
     refine⟨by simp,⟨aa.eo (by omega),aa.cC _ _,aa.eo (by omega),aa.eo (by omega)⟩,?_⟩;simp only[aa.ck,aa.aR,e0,e1,e2];exact⟨by omega,by omega,λh=>by rw[Av h];rfl,hg3⟩
    obtain⟨n',ag,m',jE,aJ,g1,g2,g3,g4,g5,g6⟩:=r7 hF hN (l:=r) (s:=s+1) (us:=us++[.one (.sl bl.length sh.length (.var n) (.const 0) (.var (n+2)) (.var (n+1)))]) (zs:=zs) (vals:=vs) aX.2 xD hM (mH.agree ha (by omega)) hz (by omega) hat (.inr λi p hi hf=>by
     rw[List.getElem?_append]at hi;split at hi
     ·rename_i dv;rw[iD dv]at hf;rw[mi (hb _ (c0 hi)) ha];exact h1 i p hi hf
     ·have:i=bl.length:=by
       have:=(List.getElem?_eq_some_iff.1 hi).1;simp at this;omega
      subst this;simp at hi;subst hi;simp only[aP];split<;>omega) (.inl aX.1) (.inl aX.1) (λu hu=>by
     rcases List.mem_append.1 hu with hu|hu
     ·exact(pv u hu).ext ha (by omega) (by simp)
     ·simp at hu;subst hu;exact Om) D5
    refine⟨n',ag,m',jE,aJ,NW.trans g1,g2,g3,?_,g5,g6⟩;rw[g4,fY,gJ]
    congr 1
    ·exact gI λu hu=>W.j8 (pv u hu) ha (λb hb=>iD hb)
    ·simp only[cp,er,ti,jH,W.den,A.den,aa.ck,aa.aR,e0,e1,e2,jX];rw[hg4];simp
 | .jy sh e::r,s,n,us,bl,k,G,ρ,m,w,zs,vals,aX,hb,hm,hA,hz,hn,hat,h1,h2,kb,pv,ah=>by
  match vals,hat with
  |v::vs,hat=>
   obtain⟨hv,hat⟩:=hat
   match zs,hz with
   |z::zs,hz=>
    obtain⟨ae,z2,hz⟩:=hz;have hv:o8 N w sh e (ab z) v:=hv;obtain⟨vz,mH⟩:=hA.tail;simp only[cd,bL.bds,dn,cW,eH]at hn;simp only[kz,aO]at aX;have h2:∀(i:Nat) (p:ao),bl[i]?=some p->N (m i)->aP ρ p.1=0:=by
     rcases h2 with h2|h2
     ·simp[bL.jT]at h2
     ·exact h2
    have kb:∀g,N g->m7 w0 ρ m bl w g:=by
     rcases kb with h2|h2
     ·simp[bL.jT]at h2
     ·exact h2
    have hlen:(ab z).length<=9223372036854775807:=by
     rcases hv with⟨_,h⟩|⟨_,cap,_,_,⟨h3,h4⟩,_⟩
     ·simp[h]
     ·omega
    have mN:zs.length=(cd r).length:=gi hz;obtain⟨g,cap,hg1,Av,hg3,hg4,Aw⟩:∃(g:Nat) (cap:Int),(-2<=cap/\cap<=9223372036854775807)/\(cap<0->ab z=[])/\(0<=cap->((ab z).length:Int)<=cap)/\
     (v=if cap<0 then Cr (lR cap g) 0 0 else .slice (some ⟨g,0,none⟩) (ab z).length cap.toNat)/\
     (0<=cap->N g/\∃cells,w.heap[g]?=some (.cells cells e (0,0))/\pO cells 0 sh (ab z)/\cells.size=cap.toNat*sh.length):=by
     rcases hv with⟨⟨p,h3⟩,h4⟩|⟨g,cap,cells,h3,⟨h4,h5⟩,h6,h7,h8,a8⟩
     ·obtain⟨c,g,hc,hp⟩:=Q8 p;exact⟨g,c,by omega,λ_=>h4,λh=>by omega,by rw[if_pos hc.2,hp,h3],λh=>by omega⟩
     ·exact⟨g,cap,by omega,λh=>by omega,λ_=>by omega,by rw[if_neg (by omega)];simpa using h3,λ_=>⟨h6,cells,h7,h8,by simpa using a8⟩⟩
    have D5:=ah cap hg1.1 hg1.2 (ab z).length (by omega) (by omega) (by
     simp only[cp,er,aw,aa.ck];rw[qt (by omega),vz])
    generalize mO:cU (cU ρ n cap) (n+1) ((ab z).length:Int)=eJ at D5;have ha:agree n ρ eJ:=by
     rw[<-mO];intro i hi;rw[qt (by omega),qt hi]
    have e1:eJ n=cap:=by rw[<-mO,qt (by omega),jD]
    have e2:eJ (n+1)=(ab z).length:=by rw[<-mO,jD]
    have e3:eJ s=z:=by rw[ha s (by omega)];exact vz
    have q8:=hm.dO hb ha;have DN:=hb.ext ha (show n<=n+2 by omega) (aV bl.length);have Dz:(A.rows sh (.const 0) (.var s) (.var n) 2).ok (n+2) bl.length eJ:=⟨⟨aa.cC _ _,aa.eo (by omega),aa.eo (by omega)⟩,by rw[aa.ck,e3];exact⟨ae,z2⟩,by rw[aa.ck,e1];exact hg1⟩;have agh:∀(i:Nat) (cH:List ay) (dT code' dR:aa) (eT:Nat) (t':aQ×Bool),bl[i]?=some ([.rows cH dT code' dR eT],t')->gL w0 eJ (b7 w0 eJ (fc m bl.length g) (bl++[([.rows sh (.const 0) (.var s) (.var n) 2],(e,false))])) (m i) cH dT code' dR eT t'.1 w:=λi cH dT code' dR eT t' hi=>by
     rcases hQ cap 0 with hc|hc
     ·exact q8.JI (by simp only[aP,aa.ck,e1];rw[if_pos hc];decide) i cH dT code' dR eT t' hi
     ·exact(((kb g (Aw hc).1) i cH dT code' dR eT t' hi).dO (hb _ (c0 hi) _ (by simp)) ha).mono λbb h'=>(b7.dO hb ha h'.1).push (.inr h'.2)
    have hM:=q8.push (x:=([.rows sh (.const 0) (.var s) (.var n) 2],(e,false))) (g:=g) DN (λy hy=>by simp at hy;subst hy;exact Dz) (λho=>by cases ho) (λcH dT code' dR eT he=>by
     cases he;intro _;refine⟨λh=>by rw[aa.ck,e1]at h;rw[aa.ck,e3];exact Av h,λh=>?_⟩;rw[aa.ck,e1]at h;obtain⟨ae9,cells,k1,k2,k3⟩:=Aw h;have dY:=hN g ae9;exact⟨.inr (.inr dY.2),cells,e,(0,0),k1,⟨by rw[aa.aR];exact bB _,by rw[aa.aR,aa.ck,e3];exact(mA aX.1.2).2 k2⟩,λ_=>⟨rfl,aa.aR _ _,.E1,by rw[aa.ck,e1];exact k3,dY.1,.inr dY.2⟩⟩) (λi p hi he=>by
      by_cases hc:0<=cap
      ·refine .inr (.inl ?_);rw[mi (hb _ (c0 hi)) ha];exact h2 i p hi (by rw[he];exact(Aw hc).1)
      ·refine .inr (.inr ?_);simp only[aP,aa.ck,e1];rw[if_pos (by omega)]) agh
    have NW:cR n bl.length ρ m (n+2) (bl++[([A.rows sh (.const 0) (.var s) (.var n) 2],(e,false))]).length eJ (fc m bl.length g):=⟨by omega,ha,by simp,λb hb=>iD hb⟩;have xD:b6 (n+2) (bl++[([A.rows sh (.const 0) (.var s) (.var n) 2],(e,false))]).length eJ (bl++[([.rows sh (.const 0) (.var s) (.var n) 2],(e,false))]):=λp hp a fp=>by
     rcases List.mem_append.1 hp with hp|hp
     ·exact(DN p hp a fp).ext (agree.refl _ _) (aV _) (by simp)
     ·simp at hp;subst hp;simp at fp;subst fp;exact Dz.ext (agree.refl _ _) (aV _) (by simp)
    have Om:W.ok (n+2) (bl++[([A.rows sh (.const 0) (.var s) (.var n) 2],(e,false))]).length eJ (.one (.sl bl.length sh.length (.const 0) (.const 0) (.var (n+1)) (.var n))):=by
     refine⟨by simp,⟨aa.cC _ _,aa.cC _ _,aa.eo (by omega),aa.eo (by omega)⟩,?_⟩;simp only[aa.ck,aa.aR,e1,e2];exact⟨by omega,by omega,λh=>by rw[Av h];rfl,hg3⟩
    obtain⟨n',ag,m',jE,aJ,g1,g2,g3,g4,g5,g6⟩:=S1 (w0:=w0) (l:=r) (s:=s+1) (us:=us++[.one (.sl bl.length sh.length (.const 0) (.const 0) (.var (n+1)) (.var n))]) (zs:=zs) (vals:=vs) aX.1.1 xD hM (mH.agree ha (by omega)) hz (by omega) hat (λu hu=>by
     rcases List.mem_append.1 hu with hu|hu
     ·exact(pv u hu).ext ha (by omega) (by simp)
     ·simp at hu;subst hu;exact Om) D5
    refine⟨n',ag,m',jE,aJ,NW.trans g1,g2,g3,?_,g5,g6⟩;rw[g4,fY,gJ]
    congr 1
    ·exact gI λu hu=>W.j8 (pv u hu) ha (λb hb=>iD hb)
    ·simp only[cp,er,ti,jH,W.den,A.den,aa.ck,aa.aR,e1,e2,jX];rw[hg4];simp
where
 S1 {w0:cP} {F N:Nat->Prop}:∀{l:List bL} {s n:Nat} {us:List W} {bl:List ao} {k:Nat->List W->List ao->T} {G:dc} {ρ:Env} {m:Nat->Nat} {w:ai} {zs:List Int} {vals:List az},
  (l.all bL.dM)=true->b6 n bl.length ρ bl->Mem w0 ρ m bl w->fC ρ s zs->bd (cd l) zs->s+(cd l).length<=n->gb F N w l zs vals->
  (∀u∈us,W.ok n bl.length ρ u)->
  (nP l s n us bl k).holds S L G ρ->∃n' ag m' jE aJ,cR n bl.length ρ m n' (kt aJ) ag m'/\b6 n' aJ.length ag aJ/\Mem w0 ag m' aJ w/\jE.map (W.den ag m')=us.map (W.den ρ m)++vals/\(∀u∈jE,W.ok n' aJ.length ag u)/\(k n' jE aJ).holds S L G ag
 |[],s,n,us,bl,k,G,ρ,m,w,zs,vals,_,hb,hm,_,_,_,hat,pv,ah=>by
  match vals,hat with
  |[],_=>exact⟨n,ρ,m,us,bl,cR.refl _ _ _ _,hb,hm,by simp,pv,ah⟩
 | .d x::r,s,n,us,bl,k,G,ρ,m,w,zs,vals,aX,hb,hm,hA,hz,hn,hat,pv,ah=>by
  match vals,hat with
  |v::vs,hat=>
   obtain⟨hv,hat⟩:=hat;have hv:v=x.val zs:=hv;simp only[cd,bL.bds]at hz hn;simp only[dn]at hn;obtain⟨i1,i2⟩:=IA hz;rw[D.tD]at i1 i2 hn;have hs:=D.FE (ρ:=ρ) (m:=m) (N:=n) (nb:=bl.length) x i1 hA (by omega);obtain⟨n',ag,m',jE,aJ,g1,g2,g3,g4,g5,g6⟩:=S1 (l:=r) (s:=s+x.num) (us:=us++[x.sym s]) (zs:=zs.drop x.num) (by simpa [bL.dM]using aX) hb hm (hA.drop x.num) i2 (by omega) hat (λu hu=>by
    rcases List.mem_append.1 hu with hu|hu
    ·exact pv u hu
    ·simp at hu;subst hu;exact hs.1) ah
   exact⟨n',ag,m',jE,aJ,g1,g2,g3,by rw[g4,fY,hv];simp[hs.2],g5,g6⟩
 | .rd _::_,_,_,_,_,_,_,_,_,_,_,_,aX,_,_,_,_,_,_,_,_=>by simp[bL.dM]at aX
 | .jy _ _::_,_,_,_,_,_,_,_,_,_,_,_,aX,_,_,_,_,_,_,_,_=>by simp[bL.dM]at aX
end
end Go.ba
namespace Go.ba
open M
def fG:V->List Nat
 | .w (.one (.sl b _ _ _ _ _))=>[b]
 | .w (.one (.slc b _ _ _))=>[b]
 |_=>[]
noncomputable def BL (kl:Bool) (sh:List ay) (bl:List ao) (v:V):M aa:=
 match v with
 | .w (.one (.con (.slice none 0 0)))=>pure (.const 0)
 | .w (.one (.sl b aM o ro len cap))=>match bl[b]? with
  |some ([.rows cH off code cM kind],_)=>cond (bY 0 kind&&h9 sh cH&&aa.beq o off&&aH aM sh.length) (bind (fg 22 [code,ro,ro.add len]) λ_=>bind (zH cap cM) λ_=>eA 22 [code,ro,ro.add len] 0 cc) fail
  |_=>fail
 | .w (.one (.slc b off len cap))=>match oQ bl b off (len*sh.length)with
  |some cs=>cond (lg sh&&bu len 1073741824&&bu len cap&&bu cap 9223372036854775807&&(iP sh||kl)) (cond (iP sh) (zv sh (l5 sh.length len cs) (.const 0)) (GV bl sh (l5 sh.length len cs) (.const 0))) fail
  |none=>fail
 |_=>fail
noncomputable def Px (sh:List ay) (e:aQ) (bl:List ao) (v:V):M aa:=
 match v with
 | .w (.one (.con (.slice none 0 0)))=>pure (.const 0)
 | .w (.one (.sl b aM o ro len cap))=>match bl[b]? with
  |some ([.rows cH off code cM kind],t)=>cond (aH kind 2&&h9 sh cH&&aa.beq o (.const 0)&&aa.beq off (.const 0)&&aa.beq ro (.const 0)&&aa.beq cap cM&&aH aM sh.length&&aH t.1 e&&iP sh) (bind (fg 22 [code,.const 0,len]) λ_=>eA 22 [code,.const 0,len] 0 cc) fail
  |_=>fail
 | .w (.one (.slc b off len cap))=>match bl[b]? with
  |some (C,t)=>match oQ bl b off (len*sh.length)with
   |some cs=>cond (lg sh&&bu len 1073741824&&bu len cap&&bu cap 9223372036854775807&&aH off 0&&aH C.length (cap*sh.length)&& !t.2&&aH t.1 e&&iP sh) (zv sh (l5 sh.length len cs) (.const 0)) fail
   |none=>fail
  |none=>fail
 |_=>fail
def jB:V->List Nat
 | .w (.one (.slc b _ _ _))=>[b]
 |_=>[]
def RL (w0:cP) (ρ:Env) (m:Nat->Nat) (bl:List ao) (bs os:List Nat) (g:Nat):Prop:=
 (∃b∈bs,m b=g/\∃p,bl[b]?=some p/\aP ρ p.1≠0/\(bO p.1=true->b∈os))/\(w0.ex g∨w0.ro g∨w0.r.heap.size<=g)
def oC (F:Nat->Prop) (w0:cP) (ρ:Env) (m:Nat->Nat) (bl:List ao) (bs os:List Nat) (g:Nat):Prop:=RL w0 ρ m bl bs os g∨F g
def wT (F:Nat->Prop) (w0:cP) (ρ:Env) (m:Nat->Nat) (bl:List ao) (w:ai):Prop:=
 ∀(i:Nat) (sh:List ay) (off code cap:aa) (kind:Nat) (t:aQ×Bool),bl[i]?=some ([.rows sh off code cap kind],t)->gL w0 ρ F (m i) sh off code cap kind t.1 w
def oB (w0:cP) (ρ:Env) (m:Nat->Nat) (bl:List ao) (bs os:List Nat) (g:Nat):Prop:=RL w0 ρ m bl bs os g∨b7 w0 ρ m bl g
section
variable {S:Nat->List Int->List Int->Prop} {L:V->Env->Prop} {n:Nat} {ρ:Env} {m:Nat->Nat} {bl:List ao} {gl:dz} {w0:cP} {P:bj} {w:ai}
theorem gq.mono {F F':Nat->Prop} {sh:List ay} {rows:List (List Int)} {v:az} (h:gq F w sh rows v) (hF:∀g,F g->F' g):gq F' w sh rows v:=by
 rcases h with h|⟨g,o,cap,cells,t,fz,h1,h2,h3,h4⟩
 ·exact .inl h
 ·exact .inr ⟨g,o,cap,cells,t,fz,h1,h2,hF g h3,h4.1,h4.2.mono (Fr.of w hF)⟩
theorem Zg {b off len:Nat} {C:List A} {t:aQ×Bool} {cs:List A} {sh:List ay} {rows:List (List Int)} (hb:b6 n bl.length ρ bl) (hw:Mem w0 ρ m bl w) (hbl:bl[b]?=some (C,t)) (hcs:oQ bl b off (len*sh.length)=some cs)
 (jd:∀row∈rows,bK sh row) (hV:bn sh rows=cs.map (A.den ρ m)):w0.b.heap.size<=m b/\(w0.ex (m b)∨w0.r.heap.size<=m b)/\∃cells:Array az,w.heap[m b]?=some (.cells cells t.1 (0,0))/\pO cells off sh rows/\(t.2=false->cells.size=C.length):=by
 unfold oQ at hcs;rw[hbl]at hcs;simp only at hcs;cases hc:(bu (off+len*sh.length) C.length&&bO C)with
 |false=>rw[hc]at hcs;cases hcs
 |true=>
  rw[hc]at hcs;simp only[cond_true,aL]at hcs;simp only[aO]at hc;have hle:=eh hc.1;obtain⟨g1,g2,r,hr,g3⟩:=hw.blk b C t hbl hc.2;refine⟨g1,g2,_,g3,⟨jd,(C.take off).map (A.den ρ m),((C.drop off).drop (len*sh.length)).map (A.den ρ m)++r,?_,by simp;omega⟩,λht=>by rw[hr ht];simp⟩;rw[hV,<-hcs];show C.map (A.den ρ m)++r=_;have e:C=C.take off++((C.drop off).take (len*sh.length)++(C.drop off).drop (len*sh.length)):=by rw[jn,jn]
  conv=>lhs;rw[e]
  simp only[fY,gJ]
theorem rE:ab ((aa.const 0).den ρ)=[]:=by rw[aa.aR];exact fA
theorem rZ:(0:Int)<=cc:=pJ (fa []) (oF (l:=[]) (by simp) (by simp))
theorem Zf {sh:List ay} {len:Nat} {cs:List A} (kf:lg sh=true) (hl:len<=1073741824) (aX:∀a∈cs,A.ok n bl.length ρ a) (gY:cs.length=len*sh.length):
 ar S L (zv sh (l5 sh.length len cs) (.const 0)) n ρ λag n' l=>l.aY n'/\(0<=l.den ag/\l.den ag<=cc)/\(ab (l.den ag)).length=len/\(∀row∈ab (l.den ag),bK sh row)/\bn sh (ab (l.den ag))=cs.map (A.den ρ m):=by
 have jP:=CZ (w:=sh.length) (k:=len) gY;refine(LK (nb:=bl.length) (m:=m) kf (rs:=l5 sh.length len cs) (c:= .const 0) (λrow hr a ha=>aX a (C0 row hr a ha)) (aa.cC _ _) (by rw[aa.aR];exact⟨bB _,rZ⟩) (by rw[rE];intro _ h;simp at h) (by rw[rE,jP.1];simpa using hl)).mono λaD n1 l hn ha ⟨p1,br,dx,bT,dh,dD,eB⟩=>?_;rw[rE,jH]at bT;rw[bT];exact⟨p1,br,by rw[dh,jP.1],dD,by rw[eB,jP.2]⟩
theorem acJ {cap cM:aa} {α:Type} {x:M α} {R:Env->Nat->α->Prop} (h:(0<=cap.den ρ->0<=cM.den ρ)->ar S L x n ρ R):ar S L (bind (zH cap cM) λ_=>x) n ρ R:=by
 unfold zH;cases hc:aa.beq cap cM with
 |true=>exact h (by rw[aa.beq_eq hc];exact id)
 |false=>exact gC h
theorem ap8 {F:Nat->Prop} {b off len:Nat} {C:List A} {t:aQ×Bool} {cs:List A} {sh:List ay} {rows:List (List Int)} (hw:Mem w0 ρ m bl w) (hbl:bl[b]?=some (C,t)) (hcs:oQ bl b off (len*sh.length)=some cs)
 (jd:∀row∈rows,bK sh row) (hV:eD F w sh rows (cs.map (A.den ρ m))):w0.b.heap.size<=m b/\(w0.ex (m b)∨w0.r.heap.size<=m b)/\∃cells:Array az,w.heap[m b]?=some (.cells cells t.1 (0,0))/\ie F w cells off sh rows:=by
 unfold oQ at hcs;rw[hbl]at hcs;simp only at hcs;cases hc:(bu (off+len*sh.length) C.length&&bO C)with
 |false=>rw[hc]at hcs;cases hcs
 |true=>
  rw[hc]at hcs;simp only[cond_true,aL]at hcs;simp only[aO]at hc;have hle:=eh hc.1;obtain⟨g1,g2,r,hr,g3⟩:=hw.blk b C t hbl hc.2;refine⟨g1,g2,_,g3,jd,(C.take off).map (A.den ρ m),cs.map (A.den ρ m),((C.drop off).drop (len*sh.length)).map (A.den ρ m)++r,?_,by simp;omega,hV⟩;rw[<-hcs];show C.map (A.den ρ m)++r=_;have e:C=C.take off++((C.drop off).take (len*sh.length)++(C.drop off).drop (len*sh.length)):=by rw[jn,jn]
  conv=>lhs;rw[e]
  simp only[fY,gJ]
theorem PR {F:Nat->Prop} {kl:Bool} (hF:wT F w0 ρ m bl w) (hN:kl=true->∀g,b7 w0 ρ m bl g->F g) {sh:List ay} {v:V} {X:az} (hb:b6 n bl.length ρ bl) (hw:Mem w0 ρ m bl w) (hv:v.ok n bl.length ρ) (bJ:v.rel ρ m X):
 ar S L (BL kl sh bl v) n ρ λag n' l=>l.aY n'/\(0<=l.den ag/\l.den ag<=cc)/\gq (oC F w0 ρ m bl (fG v) (jB v)) w sh (ab (l.den ag)) X:=by
 unfold BL;split
 ·refine ar.pure ⟨aa.cC _ _,by rw[aa.aR];exact⟨bB _,rZ⟩,.inl ⟨⟨_,bJ⟩,rE⟩⟩
 ·rename_i b aM o ro len cap;split
  ·rename_i cH off code cM kind t hbl;refine eg λhc=>gC λhk=>?_;simp only[aO]at hc;obtain⟨⟨⟨c1,c2⟩,c3⟩,c4⟩:=hc;have c1:0<kind:=eh c1;have c2:=oW c2;have c3:=aa.beq_eq c3;have c4:=bx c4
   subst c2;subst c3;subst c4;simp only[cp,er,af,aa.den_add]at hk;have x9:(A.sl b sh.length o ro len cap).ok n bl.length ρ:=hv;obtain⟨ptr,e1,e2,e3⟩:=oi (m:=m) x9;have bJ:X=(A.sl b sh.length o ro len cap).den ρ m:=bJ;obtain⟨x1,⟨x2,x3,eP,iE⟩,⟨iS,ot,lk,nH⟩,⟨oo,oq⟩,fB,gT⟩:=x9;have e4:(A.rows sh o code cM kind).ok n bl.length ρ:=hb _ (c0 hbl) _ (by simp);have hf:aw 22 ([code,ro,ro.add len].map (·.den ρ))=rc (((ab (code.den ρ)).drop (ro.den ρ).toNat).take (len.den ρ).toNat):=by
    simp only[cp,er,aw,aa.den_add]
    congr 2;omega
   have dS:rc (((ab (code.den ρ)).drop (ro.den ρ).toNat).take (len.den ρ).toNat)<=cc:=by
    have h1:=PQ (ab (code.den ρ)) (ro.den ρ).toNat (len.den ρ).toNat;rw[PO e4.2.1.1]at h1;exact pJ h1 e4.2.1.2
   refine acJ λp6=>?_;refine(gf (by rw[hf];exact fa _) (by rw[hf];exact dS)).mono λaD n1 l hn ha ⟨k1,k2⟩=>?_;rw[hf]at k2;refine⟨k1,by rw[k2];exact⟨fa _,dS⟩,?_⟩;rw[k2,du];have hlen:(((ab (code.den ρ)).drop (ro.den ρ).toNat).take (len.den ρ).toNat).length=(len.den ρ).toNat:=by simp;omega
   rcases hQ (cap.den ρ) 0 with cK|cK
   ·left
    have:=fB cK;refine⟨⟨_,by rw[bJ,e1,e2 cK,if_pos cK,this];rfl⟩,by rw[this];simp⟩
   ·right
    clear dS;rcases hQ (cM.den ρ) 0 with nk|nk
    ·have:=p6 cK;omega
    ·obtain⟨q0,cells,gS,fz,q1,⟨q2,q3⟩,_⟩:=(hF b sh o code cM kind t hbl (by omega)).2 nk;refine⟨m b,(o.den ρ).toNat+(ro.den ρ).toNat*sh.length,(cap.den ρ).toNat,cells,gS,fz,?_,⟨by rw[hlen];have:=gT cK;omega,by omega⟩,(.inl ⟨⟨b,by simp[fG],rfl,_,hbl,by rw[ix (by omega) nk];omega,λh=>by cases h⟩,q0⟩),q1,?_⟩
     ·rw[bJ,e1,e3 cK,hlen,if_neg (by omega)]
     ·exact(q3.sub (ro.den ρ).toNat (len.den ρ).toNat (by omega)).mono (Fr.of w λg hg=> .inr hg)
  ·exact ar.fail
 ·rename_i b off len cap;split
  ·rename_i cs hcs;refine eg λhc=>?_;simp only[aO]at hc;obtain⟨⟨⟨⟨c1,c2⟩,c3⟩,c4⟩,iW⟩:=hc;have c2:=eh c2;have c3:=eh c3;have c4:=eh c4
   obtain⟨d1,d2,d3⟩:=NB hw hb hcs;have bJ:X= .slice (some ⟨m b,off,none⟩) len cap:=bJ;have jv:∀C t,bl[b]?=some (C,t)->bO C=true:=λC t hbl=>by
    unfold oQ at hcs;rw[hbl]at hcs;simp only at hcs;cases hc:(bu (off+len*sh.length) C.length&&bO C)with
    |false=>rw[hc]at hcs;cases hcs
    |true=>simp only[aO]at hc;exact hc.2
   cases TE:iP sh with
   |false=>
    have ahs:kl=true:=by rw[TE,Bool.false_or]at iW;exact iW
    have jP:=CZ (w:=sh.length) (k:=len) d1;refine(LL c1 (rs:=l5 sh.length len cs) (c:= .const 0) hb hw (λrow hr a ha=>d2 a (C0 row hr a ha)) (aa.cC _ _) (by rw[aa.aR];exact⟨bB _,rZ⟩) (by rw[rE];intro _ h;simp at h) (by rw[rE,jP.1];simpa using c2)).mono λaD n1 l hn ha ⟨p1,br,dx,bT,dh,dD,eB⟩=>⟨p1,br,.inr ?_⟩;rw[rE,jH]at bT;rw[bT];rw[jP.2]at eB;rw[jP.1]at dh;cases hbl:bl[b]? with
    |none=>unfold oQ at hcs;rw[hbl]at hcs;cases hcs
    |some q=>
     obtain⟨C,t⟩:=q;obtain⟨g1,g2,cells,g3,g4⟩:=ap8 hw hbl hcs dD (eB.mono (Fr.of w λg hg=>(.inr (hN ahs g hg):oC F w0 ρ m bl (fG (.w (.one (.slc b off len cap)))) (jB (.w (.one (.slc b off len cap)))) g)));exact⟨m b,off,cap,cells,t.1,(0,0),by rw[bJ,dh],⟨by omega,by omega⟩,(.inl ⟨⟨b,by simp[fG],rfl,_,hbl,by rw[hh (jv C t hbl)];decide,λ_=>by simp[jB]⟩,g2.elim .inl λh=> .inr (.inr h)⟩),g3,g4⟩
   |true=>
   refine(Zf (m:=m) c1 c2 d2 d1).mono λaD n1 l hn ha ⟨k1,k2,k3,k4,nw⟩=>⟨k1,k2,.inr ?_⟩;cases hbl:bl[b]? with
   |none=>unfold oQ at hcs;rw[hbl]at hcs;cases hcs
   |some q=>
    obtain⟨C,t⟩:=q;obtain⟨g1,g2,cells,g3,g4,_⟩:=Zg hb hw hbl hcs k4 nw;exact⟨m b,off,cap,cells,t.1,(0,0),by rw[bJ,k3],⟨by omega,by omega⟩,(.inl ⟨⟨b,by simp[fG],rfl,_,hbl,by rw[hh (jv C t hbl)];decide,λ_=>by simp[jB]⟩,g2.elim .inl λh=> .inr (.inr h)⟩),g3,(mA TE).2 g4⟩
  ·exact ar.fail
 ·exact ar.fail
theorem ao2 {kl:Bool} {sh:List ay} {v:V} {X:az} (hb:b6 n bl.length ρ bl) (hw:Mem w0 ρ m bl w) (hv:v.ok n bl.length ρ) (bJ:v.rel ρ m X):
 ar S L (BL kl sh bl v) n ρ λag n' l=>l.aY n'/\(0<=l.den ag/\l.den ag<=cc)/\gq (oB w0 ρ m bl (fG v) (jB v)) w sh (ab (l.den ag)) X:=PR (F:=b7 w0 ρ m bl) hw.rws (λ_ _ h=>h) hb hw hv bJ
theorem anc {sh:List ay} {e:aQ} {v:V} {X:az} (hex:∀g,¬w0.ex g) (hb:b6 n bl.length ρ bl) (hw:Mem w0 ρ m bl w) (hv:v.ok n bl.length ρ) (bJ:v.rel ρ m X):
 ar S L (Px sh e bl v) n ρ λag n' l=>l.aY n'/\(0<=l.den ag/\l.den ag<=cc)/\o8 (λg=>w0.r.heap.size<=g) w sh e (ab (l.den ag)) X:=by
 unfold Px;split
 ·refine ar.pure ⟨aa.cC _ _,by rw[aa.aR];exact⟨bB _,rZ⟩,.inl ⟨⟨_,bJ⟩,rE⟩⟩
 ·rename_i b aM o ro len cap;split
  ·rename_i cH off code cM kind t hbl;refine eg λhc=>gC λhk=>?_;simp only[aO]at hc;obtain⟨⟨⟨⟨⟨⟨⟨⟨c1,c2⟩,c3⟩,He⟩,LY⟩,ff⟩,c4⟩,c5⟩,iW⟩:=hc;have c1:=bx c1;have c2:=oW c2;have c3:=aa.beq_eq c3;have He:=aa.beq_eq He;have LY:=aa.beq_eq LY;have ff:=aa.beq_eq ff;have c4:=bx c4;have c5:=bx c5
   subst c2;subst c3;subst c4;subst He;subst LY;subst ff;subst c5;subst c1;simp only[cp,er,af,aa.aR]at hk;have x9:(A.sl b sh.length (.const 0) (.const 0) len cap).ok n bl.length ρ:=hv;obtain⟨ptr,e1,e2,e3⟩:=oi (m:=m) x9;have bJ:X=(A.sl b sh.length (.const 0) (.const 0) len cap).den ρ m:=bJ;obtain⟨x1,⟨x2,x3,eP,iE⟩,⟨iS,ot,lk,nH⟩,⟨oo,oq⟩,fB,gT⟩:=x9;rw[aa.aR]at oq;have e4:(A.rows sh (.const 0) code cap 2).ok n bl.length ρ:=hb _ (c0 hbl) _ (by simp);have hf:aw 22 ([code,.const 0,len].map (·.den ρ))=rc (((ab (code.den ρ)).drop 0).take (len.den ρ).toNat):=by
    simp only[cp,er,aw,aa.aR]
    congr 2
   have dS:rc (((ab (code.den ρ)).drop 0).take (len.den ρ).toNat)<=cc:=by
    have h1:=PQ (ab (code.den ρ)) 0 (len.den ρ).toNat;rw[PO e4.2.1.1]at h1;exact pJ h1 e4.2.1.2
   refine(gf (by rw[hf];exact fa _) (by rw[hf];exact dS)).mono λaD n1 l hn ha ⟨k1,k2⟩=>?_;rw[hf]at k2;refine⟨k1,by rw[k2];exact⟨fa _,dS⟩,?_⟩;rw[k2,du];have hlen:(((ab (code.den ρ)).drop 0).take (len.den ρ).toNat).length=(len.den ρ).toNat:=by simp;omega
   rcases hQ (cap.den ρ) 0 with cK|cK
   ·left
    have:=fB cK;refine⟨⟨_,by rw[bJ,e1,e2 cK,if_pos cK,this];rfl⟩,by rw[this];simp⟩
   ·right
    clear dS;obtain⟨q0,cells,gS,fz,q1,⟨q2,q3⟩,db⟩:=(hw.rws b sh (.const 0) code cap 2 t hbl (by omega)).2 cK;obtain⟨p0,p1,br,bT,dh,dD⟩:=db (by omega);have br:=br.two;subst p0;subst br;rw[aa.aR]at q3;refine⟨m b,(cap.den ρ).toNat,cells,?_,⟨by rw[hlen];have:=gT cK;omega,by omega⟩,dD.elim (λh=>absurd h (hex _)) id,q1,?_,bT⟩
    ·rw[bJ,e1,e3 cK,hlen,if_neg (by omega)];simp[aa.aR]
    ·have:=((mA iW).1 q3).sub 0 (len.den ρ).toNat (by omega);simpa using this
  ·exact ar.fail
 ·rename_i b off len cap;split
  ·rename_i C t hbl;split
   ·rename_i cs hcs;refine eg λhc=>?_;simp only[aO]at hc;obtain⟨⟨⟨⟨⟨⟨⟨⟨c1,c2⟩,c3⟩,c4⟩,c5⟩,ff⟩,j7⟩,mD⟩,iW⟩:=hc;have c2:=eh c2;have c3:=eh c3;have c4:=eh c4
    have c5:=bx c5;have ff:=bx ff;have mD:=bx mD
    subst c5;subst mD;obtain⟨d1,d2,d3⟩:=NB hw hb hcs;refine(Zf (m:=m) c1 c2 d2 d1).mono λaD n1 l hn ha ⟨k1,k2,k3,k4,nw⟩=>⟨k1,k2,.inr ?_⟩;have bJ:X= .slice (some ⟨m b,0,none⟩) len cap:=bJ;obtain⟨g1,g2,cells,g3,g4,g5⟩:=Zg hb hw hbl hcs k4 nw;exact⟨m b,cap,cells,by rw[bJ,k3],⟨by omega,by omega⟩,g2.elim (λh=>absurd h (hex _)) id,g3,g4,by rw[g5 (by simpa using j7),ff]⟩
   ·exact ar.fail
  ·exact ar.fail
 ·exact ar.fail
end
def MC (d:D) (v:V):M (List aa):=
 match d,v with
 | .bool,.w (.one (.bool e))=>match e with
  | .lit v=>pure [.const (cond v 1 0)]
  |e=>bind (yh e) λl=>pure [l]
 | .int k lo hi,.w (.one (.int a6 x))=>cond (decide (k=a6)) (cond (nS lo hi x) (pure [x.l]) (bind (fg 39 [x.l,.const lo,.const hi]) λ_=>pure [x.l])) fail
 | .mix l,.w (.agg s)=>Fu l s
 | .str,.w (.one (.str l))=>pure [l]
 | .jC l,.w (.one (.str x))=>match x.dt with|some c=>cond (decide (c=cZ (qf l))) (pure []) fail|none=>fail
 | .n9 k c,.w (.one (.int a6 x))=>match x.l.dt with|some d=>cond (decide (k=a6)&&decide (d=c)) (pure []) fail|none=>fail
 | .agg k n lo hi,.w (.agg l)=>cond (aH l.length n) (match kU k lo hi l with|some r=>pure r|none=>fail) fail
 |_,_=>fail
def GW:List ay:=[.int .u8 0 127]
def CI:List ay:=[.int .u8 0 255]
def WK (bl:List ao):V->Bool
 | .w (.one (.sl b _ _ _ _ _))=>match bl[b]? with
  |some ([.rows cH _ _ _ _],_)=>h9 cH CI
  |_=>false
 |_=>false
noncomputable def PS (kl:Bool) (sh:List ay) (bl:List ao) (v:V):M aa:=
 cond (h9 sh GW&&WK bl v) (bind (BL kl CI bl v) λl=>bind (fg 86 [l]) λ_=>pure l) (BL kl sh bl v)
noncomputable def sd (kl:Bool) (bl:List ao):List bL->List V->M (List aa)
 |[],[]=>pure []
 | .d x::r,v::s=>bind (MC x v) λa=>bind (sd kl bl r s) λb=>pure (a++b)
 | .rd sh::r,v::s=>bind (PS kl sh bl v) λa=>bind (sd kl bl r s) λb=>pure (a::b)
 |_,_=>fail
section
variable {S:Nat->List Int->List Int->Prop} {L:V->Env->Prop} {w0:cP} {P:bj} {w:ai}
theorem P3:∀{sh:List ay} {zs:List Int},bK sh zs->bd (sh.map ay.dQ) zs/\o3 ay.val sh zs=dm sh zs
 |[],[],_=>⟨trivial,rfl⟩
 |c::sh,z::zs,h=>⟨⟨h.1.1,h.1.2,(P3 h.2).1⟩,by simp[dm,(P3 h.2).2]⟩
 |[],_::_,h=>h.elim
 |_::_,[],h=>h.elim
theorem ad0 {d:D} {v:V} {X:az} {n nb:Nat} {ρ:Env} {m:Nat->Nat} (hv:v.ok n nb ρ) (bJ:v.rel ρ m X):ar S L (MC d v) n ρ λag n' ls=>(∀x∈ls,aa.aY n' x)/\bd d.bds (ls.map (·.den ag))/\X=d.val (ls.map (·.den ag)):=by
 unfold MC;split
 ·rename_i e;have bJ:X= .bool (e.den ρ):=bJ;have key:ar S L (bind (yh e) λl=>pure [l]) n ρ λag n' ls=>(∀x∈ls,aa.aY n' x)/\bd D.bool.bds (ls.map (·.den ag))/\X=D.bool.val (ls.map (·.den ag)):=
   IB.bind λaD n1 l hn ha ⟨g1,g2,g3⟩=>ar.pure ⟨λx hx=>by simp at hx;subst hx;exact g1,⟨g2.1,g2.2,trivial⟩,by rw[bJ,g3];rfl⟩
  cases e with
  |lit b=>
   refine ar.pure ⟨λx hx=>by simp at hx;subst hx;exact aa.cC _ _,?_,?_⟩
   ·simp only[cp,er,aa.aR,D.bds];cases b<;>exact⟨by decide,by decide,trivial⟩
   ·rw[bJ];simp only[cp,er,aa.aR];cases b<;>rfl
  |_=>exact key
 ·rename_i k lo hi a6 x;refine eg λhk=>?_;have hk:k=a6:=by simpa using hk
  subst hk;have hv:x.ok n ρ:=hv;have bJ:X= .int k (x.l.den ρ):=bJ;cases hf:nS lo hi x with
  |true=>
   have:=Dg hf hv;exact ar.pure ⟨λy hy=>by simp at hy;subst hy;exact hv.1,⟨this.1,this.2,trivial⟩,bJ⟩
  |false=>
   refine gC λhk=>ar.pure ?_;simp only[cp,er,af,aa.aR]at hk;exact⟨λy hy=>by simp at hy;subst hy;exact hv.1,⟨hk.1,hk.2,trivial⟩,bJ⟩
 ·rename_i l s;have bJ:X= .agg (s.map (A.den ρ m)).toArray:=bJ;refine(JD (nb:=nb) (m:=m) hv).mono λaD n1 ls hn ha ⟨g1,g2,g3⟩=>?_;have:=P3 g2;refine⟨g1,this.1,?_⟩;rw[bJ,<-g3];simp only[D.val,this.2]
 ·rename_i l;have bJ:X= .string (aG (U (l.den ρ))):=bJ;have hv:l.aY n/\0<=l.den ρ/\l.den ρ<=bp:=hv;exact ar.pure ⟨λy hy=>by simp at hy;subst hy;exact hv.1,⟨hv.2.1,hv.2.2,trivial⟩,bJ⟩
 ·rename_i l x;have bJ:X= .string (aG (U (x.den ρ))):=bJ;cases hc:x.dt with
  |none=>exact ar.fail
  |some c=>
   refine eg λhd=>ar.pure ⟨λy hy=>by simp at hy,trivial,?_⟩;rw[bJ,Zo (n:=n) hc (by simpa using hd)];rfl
 ·rename_i k c a6 x;have bJ:X= .int a6 (x.l.den ρ):=bJ;cases hc:x.l.dt with
  |none=>exact ar.fail
  |some d=>
   refine eg λhd=>ar.pure ⟨λy hy=>by simp at hy,trivial,?_⟩;simp only[aO,decide_eq_true_eq]at hd;rw[bJ,aa.iK hc,<-hd.1,hd.2];rfl
 ·rename_i k n' lo hi l;refine eg λhk=>?_;have hk:=bx hk;have bJ:X= .agg (l.map (A.den ρ m)).toArray:=bJ;cases hf:kU k lo hi l with
  |none=>exact ar.fail
  |some r=>
   obtain⟨g1,g2,g3⟩:=Mz (m:=m) hf hv;rw[hk]at g2;refine ar.pure ⟨My hf hv,g2,?_⟩;rw[bJ,g3];simp only[D.val];rw[kr (by simp[g1,hk])]
 ·exact ar.fail
theorem Xp {n:Nat} {ρ ag:Env} {ls:List aa} (h:∀x∈ls,aa.aY n x) (ha:agree n ρ ag):ls.map (·.den ag)=ls.map (·.den ρ):=gI λx hx=>aa.bG ha (h x hx)
theorem oC.later {F:Nat->Prop} {n nb:Nat} {ρ ag:Env} {m:Nat->Nat} {bl:List ao} {bs os:List Nat} {g:Nat} (hb:b6 n nb ρ bl) (ha:agree n ρ ag) (h:oC F w0 ag m bl bs os g):oC F w0 ρ m bl bs os g:=by
 rcases h with⟨⟨b,h1,h2,p,h3,h4,h6⟩,h5⟩|h
 ·exact .inl ⟨⟨b,h1,h2,p,h3,by rw[<-mi (hb p (c0 h3)) ha];exact h4,h6⟩,h5⟩
 ·exact .inr h
theorem oC.more {F:Nat->Prop} {ρ:Env} {m:Nat->Nat} {bl:List ao} {bs os bs' E6:List Nat} {g:Nat} (h:oC F w0 ρ m bl bs os g) (h1:∀b∈bs,b∈bs') (h2:∀b∈os,b∈E6):oC F w0 ρ m bl bs' E6 g:=by
 rcases h with⟨⟨b,k1,k2,p,k3,k4,mh⟩,nw⟩|h
 ·exact .inl ⟨⟨b,h1 b k1,k2,p,k3,k4,λh=>h2 b (mh h)⟩,nw⟩
 ·exact .inr h
theorem wT.dO {F:Nat->Prop} {n nb:Nat} {ρ ag:Env} {m:Nat->Nat} {bl:List ao} {w:ai} (h:wT F w0 ρ m bl w) (hb:b6 n nb ρ bl) (ha:agree n ρ ag):wT F w0 ag m bl w:=λi sh off code cap kind t hi=>
 (h i sh off code cap kind t hi).dO (hb _ (c0 hi) _ (by simp)) ha
theorem S2 {F:Nat->Prop} {w:ai}:∀{rows:List (List Int)} {vs:List az},eD F w CI rows vs->eD F w GW rows vs
 |[],_,h=>h
 |row::rows,vs,h=>by
  obtain⟨x,y,h1,h2,h3⟩:=h;have xr:dV F w [.int .u8 0 255] row x:=h2;have key:∀(row:List Int) (x:List az),dV F w [.int .u8 0 255] row x->dV F w [.int .u8 0 127] row x:=λrow x h=>by
   match row,x,h with
   |[z],[v],h=>exact h
   |[],_,h=>exact h.elim
   |_::_,[],h=>exact h.elim
   |_::_::_,_::_,h=>exact h.2.elim
   |[_],_::_::_,h=>exact h.2.elim
  exact⟨x,y,h1,key row x xr,S2 h3⟩
theorem gq.ab0 {F:Nat->Prop} {w:ai} {rows:List (List Int)} {v:az} (h:gq F w CI rows v) (hb:∀row∈rows,row.getD 0 0<128):gq F w GW rows v:=by
 rcases h with h|⟨g,o,cap,cells,t,fz,h1,h2,h3,h4,r1,pre,vs,post,e1,e2,e3⟩
 ·exact .inl h
 ·refine .inr ⟨g,o,cap,cells,t,fz,h1,h2,h3,h4,λrow hr=>?_,pre,vs,post,e1,e2,S2 e3⟩;have h8:bK [.int .u8 0 255] row:=r1 row hr;have h7:=hb row hr
  match row,h8,h7 with
  |[],h8,_=>exact h8.elim
  |_::_::_,h8,_=>exact h8.2.elim
  |[z],h8,h7=>
   have a8:(0:Int)<=z/\z<=255:=h8.1;have h7:z<128:=h7;exact⟨⟨a8.1,by show z<=127;omega⟩,trivial⟩
theorem ao3 {n:Nat} {ρ:Env} {m:Nat->Nat} {bl:List ao} {F:Nat->Prop} {kl:Bool} (hF:wT F w0 ρ m bl w) (hN:kl=true->∀g,b7 w0 ρ m bl g->F g) {sh:List ay} {v:V} {X:az} (hb:b6 n bl.length ρ bl) (hw:Mem w0 ρ m bl w) (hv:v.ok n bl.length ρ) (bJ:v.rel ρ m X):
 ar S L (PS kl sh bl v) n ρ λag n' l=>l.aY n'/\(0<=l.den ag/\l.den ag<=cc)/\gq (oC F w0 ρ m bl (fG v) (jB v)) w sh (ab (l.den ag)) X:=by
 unfold PS;cases hc:(h9 sh GW&&WK bl v)with
 |false=>exact PR hF hN hb hw hv bJ
 |true=>
  simp only[aO]at hc;have:=oW hc.1;subst this;refine(PR (sh:=CI) hF hN hb hw hv bJ).bind λaD n1 l hn ha ⟨g1,g2,g3⟩=>gC λhk=>ar.pure ⟨g1,g2,g3.ab0 hk⟩
theorem Dk {kl:Bool} {F0:Nat->Prop} {bl:List ao} {m:Nat->Nat}:∀{ds:List bL} {vs:List V} {xs:List az} {n:Nat} {ρ:Env},wT F0 w0 ρ m bl w->(kl=true->∀g,b7 w0 ρ m bl g->F0 g)->b6 n bl.length ρ bl->Mem w0 ρ m bl w->(∀v∈vs,V.ok n bl.length ρ v)->df ρ m vs xs->
 ar S L (sd kl bl ds vs) n ρ λag n' ls=>(∀x∈ls,aa.aY n' x)/\bd (cd ds) (ls.map (·.den ag))/\∀F:Nat->Prop,(∀g,oC F0 w0 ρ m bl (vs.flatMap fG) (vs.flatMap jB) g->F g)->gb F (λ_=>False) w ds (ls.map (·.den ag)) xs
 |[],[],[],n,ρ,_,_,_,_,_,_=>ar.pure ⟨λ_ h=>by simp at h,trivial,λ_ _=>trivial⟩
 | .d x::r,v::s,X::xs,n,ρ,h0,hN,hb,hw,hv,hr=>by
  unfold sd;refine(ad0 (hv v (by simp)) hr.1).bind λaD n1 a hn ha ⟨g1,g2,g3⟩=>?_;refine(Dk (ds:=r) (vs:=s) (xs:=xs) (h0.dO hb ha) (λh g hg=>hN h g (b7.Jy hb ha hg)) (hb.ext ha hn (aV _)) (hw.dO hb ha) (λu hu=>(hv u (cD _ hu)).ext ha hn (aV _)) (df.later (λu hu=>hv u (cD _ hu)) ha hr.2)).bind λbo n2 b dY c7 ⟨k1,k2,k3⟩=>ar.pure ⟨λy hy=>?_,?_,λF hF=>?_⟩
  ·rcases List.mem_append.1 hy with hy|hy
   ·exact(g1 y hy).mono dY
   ·exact k1 y hy
  ·rw[fY,Xp g1 c7];exact rm g2 k2
  ·have hl:(a.map (·.den aD)).length=x.num:=by rw[gi g2,D.tD]
   rw[fY,Xp g1 c7];refine⟨?_,?_⟩
   ·show X=x.val _;rw[D.ZH x hl];exact g3
   ·show gb F _ w r (List.drop x.num _) xs;rw[<-hl,tg];exact k3 F λg hg=>hF g (by
     exact(oC.later hb ha hg).more (λb' h1=>by simp only[qA,qC];exact .inr h1) (λb' h1=>by simp only[qA,qC];exact .inr h1))
 | .rd sh::r,v::s,X::xs,n,ρ,h0,hN,hb,hw,hv,hr=>by
  unfold sd;refine(ao3 h0 hN hb hw (hv v (by simp)) hr.1).bind λaD n1 a hn ha ⟨g1,g2,g3⟩=>?_;refine(Dk (ds:=r) (vs:=s) (xs:=xs) (h0.dO hb ha) (λh g hg=>hN h g (b7.Jy hb ha hg)) (hb.ext ha hn (aV _)) (hw.dO hb ha) (λu hu=>(hv u (cD _ hu)).ext ha hn (aV _)) (df.later (λu hu=>hv u (cD _ hu)) ha hr.2)).bind λbo n2 b dY c7 ⟨k1,k2,k3⟩=>ar.pure ⟨λy hy=>?_,?_,λF hF=>?_⟩
  ·rcases List.mem_cons.1 hy with rfl|hy
   ·exact g1.mono dY
   ·exact k1 y hy
  ·simp only[cp,aa.bG c7 g1];exact⟨g2.1,g2.2,k2⟩
  ·simp only[cp,aa.bG c7 g1];refine⟨?_,?_⟩
   ·show gq F w sh (ab _) X;exact g3.mono λg hg=>hF g (by
     exact hg.more (λb' h1=>by simp only[qA,qC];exact .inl h1) (λb' h1=>by simp only[qA,qC];exact .inl h1))
   ·exact k3 F λg hg=>hF g (by
     exact(oC.later hb ha hg).more (λb' h1=>by simp only[qA,qC];exact .inr h1) (λb' h1=>by simp only[qA,qC];exact .inr h1))
 |[],_::_,_,_,_,_,_,_,_,_,_=>ar.fail
 | .d _::_,[],_,_,_,_,_,_,_,_,_=>ar.fail
 | .rd _::_,[],_,_,_,_,_,_,_,_,_=>ar.fail
 | .jy _ _::_,[],_,_,_,_,_,_,_,_,_=>ar.fail
 | .jy _ _::_,_::_,_,_,_,_,_,_,_,_,_=>ar.fail
 |_,[],_::_,_,_,_,_,_,_,_,hr=>hr.elim
 |_,_::_,[],_,_,_,_,_,_,_,hr=>hr.elim
where
 df.later {n nb:Nat} {ρ ag:Env} {m:Nat->Nat}:∀{vs:List V} {xs:List az},(∀v∈vs,V.ok n nb ρ v)->agree n ρ ag->df ρ m vs xs->df ag m vs xs
 |[],[],_,_,_=>trivial
 |v::vs,x::xs,hv,ha,hr=>⟨V.rel.ext hr.1 (hv v (by simp)) ha (λ_ _=>rfl),df.later (λu hu=>hv u (cD _ hu)) ha hr.2⟩
 |[],_::_,_,_,hr=>hr.elim
 |_::_,[],_,_,hr=>hr.elim
theorem MA {kl:Bool} {bl:List ao} {m:Nat->Nat} {ds:List bL} {vs:List V} {xs:List az} {n:Nat} {ρ:Env} (hb:b6 n bl.length ρ bl) (hw:Mem w0 ρ m bl w) (hv:∀v∈vs,V.ok n bl.length ρ v) (hr:df ρ m vs xs):
 ar S L (sd kl bl ds vs) n ρ λag n' ls=>(∀x∈ls,aa.aY n' x)/\bd (cd ds) (ls.map (·.den ag))/\∀F:Nat->Prop,(∀g,oB w0 ρ m bl (vs.flatMap fG) (vs.flatMap jB) g->F g)->gb F (λ_=>False) w ds (ls.map (·.den ag)) xs:=Dk (F0:=b7 w0 ρ m bl) hw.rws (λ_ _ h=>h) hb hw hv hr
end
end Go.ba
namespace Go.ba
open M
def tQ:List Nat->List ao->List ao
 |[],bl=>bl
 |b::r,bl=>match bl[b]? with
  |some ([.rows sh off code cap (k+1)],t)=>tQ r (cO bl b ([.rows sh off code cap 1],t))
  |_=>tQ r bl
def pD (us:List W):V:=match us with|[u]=> .w u|l=> .eV l
def oe:List V->Bool
 |[]=>true
 | .w (.one (.slc ..))::_=>false
 |_::r=>oe r
noncomputable def dw.qE (c:dw) (n:Nat) (vs:List V) (bl:List ao) (k:RK):T:=
 sd true bl c.args vs n λls n1=>cond (kz c.res&&(!(c.res.any bL.jg)||oe vs)) (Fa c.pre ls (.call c.id ls n1 (cd c.res) (nP c.res n1 (n1+(cd c.res).length) [] (cond (c.res.any bL.jg) (tQ (vs.flatMap fG) bl) bl) λn2 us gB=>k n2 (pD us) gB))) .stuck
noncomputable def qo:List bL->List V->List ao->M (List V×List ao)
 |[],vs,bl=>pure (vs,bl)
 | .d _::_,[],bl=>pure ([],bl)
 | .rd _::_,[],bl=>pure ([],bl)
 | .jy _ _::_,[],bl=>pure ([],bl)
 | .d _::r,v::s,bl=>bind (qo r s bl) λq=>pure (v::q.1,q.2)
 | .jy _ _::r,v::s,bl=>bind (qo r s bl) λq=>pure (v::q.1,q.2)
 | .rd sh::r,v::s,bl=>match v with
  | .w (.one (.slc b 0 len cap))=>match bl[b]? with
   |some ([.rows cH off code cM kind],t)=>cond (h9 sh cH&&aa.beq off (.const 0)&&aa.beq cM (.const cap)&&bu len cap&&bu cap 1000000)
    (bind (qo r s bl) λq=>pure (.w (.one (.sl b sh.length (.const 0) (.const 0) (.const len) (.const cap)))::q.1,q.2))
    (bind (qo r s bl) λq=>pure (v::q.1,q.2))
   |some (C,t)=>cond (bO C&& !t.2&&aH len cap&&aH C.length (len*sh.length)&&lg sh&&bu len 1000000&&iP sh&&bY 0 len)
    (bind (zv sh (l5 sh.length len C) (.const 0)) λcode=>bind (qo r s (cO bl b ([.rows sh (.const 0) code (.const len) 2],t))) λq=>pure (.w (.one (.sl b sh.length (.const 0) (.const 0) (.const len) (.const len)))::q.1,q.2))
    (bind (qo r s bl) λq=>pure (v::q.1,q.2))
   |none=>bind (qo r s bl) λq=>pure (v::q.1,q.2)
  |_=>bind (qo r s bl) λq=>pure (v::q.1,q.2)
noncomputable def dw.E (c:dw) (n:Nat) (vs:List V) (bl:List ao) (k:RK):T:=
 c.qE n vs bl k
section
variable {S:Nat->List Int->List Int->Prop} {L:V->Env->Prop} {w0:cP} {P:bj}
theorem zX {n nb:Nat} {ρ:Env} {m:Nat->Nat} {w:ai}:∀{bs:List Nat} {bl:List ao},Mem w0 ρ m bl w->b6 n nb ρ bl->Mem w0 ρ m (tQ bs bl) w/\b6 n nb ρ (tQ bs bl)/\(tQ bs bl).length=bl.length/\
 ∀(i:Nat) (p:ao),(tQ bs bl)[i]?=some p->∃p',bl[i]?=some p'/\aP ρ p.1<=aP ρ p'.1/\(i∈bs->bO p'.1=false->aP ρ p.1<=1)
 |[],bl,h,hb=>⟨h,hb,rfl,λi p hi=>⟨p,hi,aV _,λh=>by simp at h⟩⟩
 |b::r,bl,h,hb=>by
  unfold tQ;split
  ·rename_i sh off code cap k t hbl;have lF:b<bl.length:=(List.getElem?_eq_some_iff.1 hbl).1;have hb':b6 n nb ρ (cO bl b ([.rows sh off code cap 1],t)):=λp hp a ha=>by
    rw[iC]at hp;rcases Cv hp with hp|hp
    ·exact hb p hp a ha
    ·subst hp;simp at ha;subst ha;have h0:A.ok n nb ρ (.rows sh off code cap (k+1)):=hb _ (c0 hbl) _ (by simp);exact h0
   obtain⟨g1,g2,g3,g4⟩:=zX (bs:=r) (h.low hbl) hb';refine⟨g1,g2,by rw[g3,km],λi p hp=>?_⟩;obtain⟨p',h1,h2,h3⟩:=g4 i p hp;by_cases gO:i=b
   ·subst gO;rw[iC,List.getElem?_set_self lF]at h1;cases h1;refine⟨_,hbl,gk h2 (by simp only[aP];split<;>omega),λ_ _=>gk h2 (by simp only[aP];split<;>omega)⟩
   ·rw[iC,List.getElem?_set_ne (λe=>gO e.symm)]at h1;exact⟨p',h1,h2,λhi ho=>h3 (by simpa [gO]using hi) ho⟩
  ·rename_i hno;obtain⟨g1,g2,g3,g4⟩:=zX (bs:=r) h hb;refine⟨g1,g2,g3,λi p hp=>?_⟩;obtain⟨p',h1,h2,h3⟩:=g4 i p hp;refine⟨p',h1,h2,λhi ho=>?_⟩;rcases List.mem_cons.1 hi with rfl|hi
   ·obtain⟨C,t⟩:=p';obtain⟨sh,off,code,cap,k,rfl⟩:=Jg ho;cases k with
    |zero=>
     have:aP ρ [A.rows sh off code cap 0]=0:=by simp[aP]
     simp only[this]at h2;omega
    |succ k=>exact absurd h1 (hno _ _ _ _ _ _)
   ·exact h3 hi ho
theorem Jx {n nb:Nat} {ρ:Env} {m:Nat->Nat} {us:List W} {vals:List az} (h:∀u∈us,W.ok n nb ρ u) (hm:us.map (W.den ρ m)=vals):(pD us).ok n nb ρ/\(pD us).rel ρ m (lh vals):=by
 subst hm;unfold pD lh;split
 ·exact⟨h _ (by simp),rfl⟩
 ·rename_i hne;refine⟨h,?_⟩;split
  ·rename_i x hx
   match us,hne,hx with
   |[u],hne,_=>exact absurd rfl (hne u)
  ·rfl
theorem Pn:∀{vs:List V},oe vs=true->vs.flatMap jB=[]
 |[],_=>rfl
 |v::r,h=>by
  unfold oe at h;split at h
  ·rename_i heq;cases heq
  ·cases h
  ·rename_i hne heq;cases heq;rw[qA,Pn h,ln];unfold jB;split
   ·exact(hne _ _ _ _ rfl).elim
   ·rfl
theorem Po:∀{vs:List V} {b:Nat},oe vs=true->b∈vs.flatMap fG->∃aM o ro len cap,V.w (.one (.sl b aM o ro len cap))∈vs
 |[],b,_,h=>by simp at h
 |v::r,b,h,hb=>by
  simp only[qA,qC]at hb;rcases hb with hb|hb
  ·unfold fG at hb;split at hb
   ·simp at hb;subst hb;exact⟨_,_,_,_,_,th ..⟩
   ·simp[oe]at h
   ·simp at hb
  ·have h':oe r=true:=by
    unfold oe at h;split at h
    ·rename_i heq;cases heq
    ·cases h
    ·rename_i heq;cases heq;exact h
   obtain⟨aM,o,ro,len,cap,h1⟩:=Po h' hb;exact⟨aM,o,ro,len,cap,cD _ h1⟩
theorem dw.Gz {c:dw} {spec:List Int->List Int->Prop} {f:cz} {CH:Array az} (bX:∀zs rs,spec zs rs->S c.id zs rs) (n:Nat) (vs:List V) (bl:List ao) (k:RK) (G:dc) (ρ:Env) (m:Nat->Nat) (w:ai) (xs:List az) (R':pK->ai->Prop)
 (hc:∀zs,bd (cd c.args) zs->uC c.pre zs->gb (oB w0 ρ m bl (vs.flatMap fG) (vs.flatMap jB)) (λ_=>False) w c.args zs xs->
   gU P f CH w λe w'=>w.Extends w'/\∃rs us,bd (cd c.res) rs/\spec zs rs/\gb (λg=>oB w0 ρ m bl (vs.flatMap fG) (vs.flatMap jB) g∨w.heap.size<=g) (λg=>w.heap.size<=g) w' c.res rs us/\e= .returned (lh us))
 (hb:b6 n bl.length ρ bl) (hw:Mem w0 ρ m bl w) (hv:∀v∈vs,V.ok n bl.length ρ v) (hr:df ρ m vs xs) (ah:(c.qE n vs bl k).holds S L G ρ) (hk:o6 S L w0 k n bl.length ρ m G R'):
 gU P f CH w R':=by
 unfold dw.qE at ah;obtain⟨aD,n1,ls,fi,dL,⟨g1,g2,g3⟩,ah⟩:=MA (S:=S) (L:=L) hb hw hv hr G _ ah;cases hq:(kz c.res&&(!(c.res.any bL.jg)||oe vs))with
 |false=>rw[hq]at ah;exact ah.elim
 |true=>
  rw[hq]at ah;simp only[cond_true]at ah;obtain⟨gD,ah⟩:=preM_holds ah;simp only[T.holds]at ah;simp only[aO,ow,fX]at hq;refine(hc _ g2 gD (g3 _ λ_ h=>h)).mono ?_
  rintro e w' ⟨he,rs,us,r1,r2,r3,rfl⟩
  have ah:=kx ah r1 (bX _ _ r2);have hb1:=hb.ext dL fi (aV bl.length);have Ot:=(hw.grow he).dO hb dL;have c7:agree n1 aD (bf aD n1 rs):=agree.bf rs n1 aD;have hb2:=hb1.ext c7 (Cn n1 (cd c.res).length) (aV bl.length);have ya:=Ot.dO hb1 c7;have hA:fC (bf aD n1 rs) n1 rs:=fC.bf aD n1 rs;have Eo:rs.length=(cd c.res).length:=gi r1;have lE:=dL.trans c7 fi;have xA:cR n bl.length ρ m (n1+(cd c.res).length) bl.length (bf aD n1 rs) m:=⟨by omega,lE,aV _,λ_ _=>rfl⟩;have fq:∀(i:Nat) (p:ao),bl[i]?=some p->aP (bf aD n1 rs) p.1=aP ρ p.1:=λi p hi=>mi (hb p (c0 hi)) lE;have ub:∀(i:Nat) (p:ao),bl[i]?=some p->w.heap.size<=m i->aP ρ p.1=0:=λi p hi fI=>by
   by_cases h0:aP ρ p.1=0
   ·exact h0
   ·have:=hw.lt hi h0;omega
  have fin:∀aJ:List ao,b6 (n1+(cd c.res).length) aJ.length (bf aD n1 rs) aJ->Mem w0 (bf aD n1 rs) m aJ w'->aJ.length=bl.length->
   (∀(i:Nat) (p:ao),aJ[i]?=some p->(oB w0 ρ m bl (vs.flatMap fG) (vs.flatMap jB) (m i)∨w.heap.size<=m i)->(c.res.any bL.jg)=true->aP (bf aD n1 rs) p.1<=1)->
   (∀(i:Nat) (p:ao),aJ[i]?=some p->w.heap.size<=m i->aP (bf aD n1 rs) p.1=0)->(∀g,w.heap.size<=g->m7 w0 (bf aD n1 rs) m aJ w' g)->
   (nP c.res n1 (n1+(cd c.res).length) [] aJ λn2 us gB=>k n2 (pD us) gB).holds S L G (bf aD n1 rs)->R' (.returned (lh us)) w':=λaJ hb' ns hlen cG No kb ah=>by
   have hF:∀g,(oB w0 ρ m bl (vs.flatMap fG) (vs.flatMap jB) g∨w.heap.size<=g)->w0.ex g∨w0.ro g∨w0.r.heap.size<=g:=λg hg=>by
    rcases hg with(hg|hg)|hg
    ·exact hg.2
    ·exact hg.1
    ·exact .inr (.inr (gk hw.eu hg))
   have hN:∀g,w.heap.size<=g->w0.b.heap.size<=g/\w0.r.heap.size<=g:=λg hg=>⟨gk hw.ext.size hg,gk hw.eu hg⟩;have h1:(c.res.all λb=> !b.jg)=true∨∀(i:Nat) (p:ao),aJ[i]?=some p->(oB w0 ρ m bl (vs.flatMap fG) (vs.flatMap jB) (m i)∨w.heap.size<=m i)->aP (bf aD n1 rs) p.1<=1:=by
    cases lH:c.res.any bL.jg with
    |true=>exact .inr λi p hi hf=>cG i p hi hf lH
    |false=>
     left
     rw[pI];intro b hb;cases dS:b.jg with
     |false=>rfl
     |true=>rw[List.any_eq_true.2 ⟨b,hb,dS⟩]at lH;cases lH
   obtain⟨n',ag,m',jE,gB,p1,br,bT,dh,dD,eB⟩:=r7 (S:=S) (L:=L) hF hN (l:=c.res) (us:=[]) (vals:=us) hq.1 hb' ns hA r1 (aV _) r3 h1 (.inr No) (.inr kb) (λu hu=>by simp at hu) ah;have jw:=Jx (m:=m') dD (by simpa using dh);exact hk n' (pD jE) gB G ag m' w' (lh us) (xA.trans (hlen▸p1)) (dG.refl _ _) jw.1 jw.2 br bT eB
  cases lH:c.res.any bL.jg with
  |false=>
   rw[lH]at ah;exact fin bl hb2 ya rfl (λ_ _ _ _ h=>by rw[lH]at h;cases h) (λi p hi fI=>by rw[fq i p hi];exact ub i p hi fI) (λg hg=>(hw.vl he hg).dO hb lE) ah
  |true=>
   rw[lH]at ah hq;obtain⟨f1,f2,f3,f4⟩:=zX (bs:=vs.flatMap fG) ya hb2;have jS:oe vs=true:=by
    rcases hq.2 with h|h
    ·cases h
    ·exact h
   refine fin _ (by rw[f3];exact f2) f1 f3 (λi p hi hf _=>?_) (λi p hi fI=>?_) (λg hg=>(zX (bs:=vs.flatMap fG) (hw.dO hb lE) hb2).1.vl he hg) ah
   ·obtain⟨p',h1,h2,h3⟩:=f4 i p hi;rw[fq i p' h1]at h2;rcases hf with(⟨⟨b,vA,DQ,q,nZ,n4,Oe⟩,_⟩|nY)|fI
    rotate_left
    ·rcases mx (aP ρ p'.1) 2 with a8|a8
     ·omega
     ·exact absurd rfl (nY.2 i p' h1 a8)
    rotate_left
    ·obtain⟨aM,o,ro,len,cap,kE⟩:=Po jS vA;rcases hw.inj i b p' q h1 nZ (by rw[DQ])with h5|h5|h5|h5
     ·subst h5;rw[h1]at nZ;cases nZ;cases ho:bO p'.1 with
      |false=>exact h3 vA ho
      |true=>
       have:=Oe ho;rw[Pn jS]at this;simp at this
     ·omega
     ·omega
     ·exact absurd h5 n4
    ·have:=ub i p' h1 fI;omega
   ·obtain⟨p',h1,h2,_⟩:=f4 i p hi;rw[fq i p' h1]at h2;have:=ub i p' h1 fI;omega
theorem dw.GA {c:dw} {spec:List Int->List Int->Prop} (hc:c.dX P w0.b spec) (bX:∀zs rs,spec zs rs->S c.id zs rs) (n:Nat) (vs:List V) (bl:List ao) (k:RK) (G:dc) (ρ:Env) (m:Nat->Nat) (w:ai) (xs:List az) (R':pK->ai->Prop)
 (hb:b6 n bl.length ρ bl) (hw:Mem w0 ρ m bl w) (hv:∀v∈vs,V.ok n bl.length ρ v) (hr:df ρ m vs xs) (ah:(c.qE n vs bl k).holds S L G ρ) (hk:o6 S L w0 k n bl.length ρ m G R'):
 (callFunc c.f xs.toArray).run P w= .ok (.enter c.f xs.toArray) w/\gU P c.f xs.toArray w R':=by
 exact⟨hc.1 _ _,dw.Gz bX n vs bl k G ρ m w xs R' (λzs h1 h2 h3=>hc.2 _ w xs zs hw.ext h1 h2 h3) hb hw hv hr ah hk⟩
theorem JW {m:Nat->Nat} {w:ai}:∀{ds:List bL} {vs:List V} {bl:List ao} {xs:List az} {n:Nat} {ρ:Env},Mem w0 ρ m bl w->b6 n bl.length ρ bl->(∀v∈vs,V.ok n bl.length ρ v)->df ρ m vs xs->
 ar S L (qo ds vs bl) n ρ λag n' q=>Mem w0 ag m q.2 w/\b6 n' q.2.length ag q.2/\q.2.length=bl.length/\(∀v∈q.1,V.ok n' bl.length ag v)/\df ag m q.1 xs
 |[],vs,bl,xs,n,ρ,hm,hb,hv,hr=>ar.pure ⟨hm,hb,rfl,hv,hr⟩
 | .d _::_,[],bl,xs,n,ρ,hm,hb,hv,hr=>ar.pure ⟨hm,hb,rfl,hv,hr⟩
 | .rd _::_,[],bl,xs,n,ρ,hm,hb,hv,hr=>ar.pure ⟨hm,hb,rfl,hv,hr⟩
 | .jy _ _::_,[],bl,xs,n,ρ,hm,hb,hv,hr=>ar.pure ⟨hm,hb,rfl,hv,hr⟩
 |d::r,v::s,bl,xs,n,ρ,hm,hb,hv,hr=>by
  match xs,hr with
  |x::xs,hr=>
  have ev:ar S L (bind (qo r s bl) λq=>pure (v::q.1,q.2)) n ρ λag n' q=>Mem w0 ag m q.2 w/\b6 n' q.2.length ag q.2/\q.2.length=bl.length/\(∀v∈q.1,V.ok n' bl.length ag v)/\df ag m q.1 (x::xs):=
   (JW (ds:=r) (vs:=s) hm hb (λu hu=>hv u (cD _ hu)) hr.2).bind λaD n1 q hn ha ⟨g1,g2,g3,g4,g5⟩=>ar.pure ⟨g1,g2,g3,λu hu=>by
     rcases List.mem_cons.1 hu with rfl|hu
     ·exact(hv u (by simp)).ext ha hn (aV _)
     ·exact g4 u hu,V.rel.ext hr.1 (hv v (by simp)) ha (λ_ _=>rfl),g5⟩
  cases d with
  |d y=>exact ev
  |jy sh e=>exact ev
  |rd sh=>
   unfold qo;split
   ·rename_i b len cap _;split
    ·rename_i cH off code cM kind t hbl;cases hc:(h9 sh cH&&aa.beq off (.const 0)&&aa.beq cM (.const cap)&&bu len cap&&bu cap 1000000)with
     |false=>exact ev
     |true=>
      simp only[cond_true];simp only[aO]at hc;obtain⟨⟨⟨⟨c1,c2⟩,c3⟩,c4⟩,c5⟩:=hc;have c4:=eh c4;have c5:=eh c5;have lF:b<bl.length:=(List.getElem?_eq_some_iff.1 hbl).1;refine(JW (ds:=r) (vs:=s) hm hb (λu hu=>hv u (cD _ hu)) hr.2).bind λbo n2 q dY c7 ⟨g1,g2,g3,g4,g5⟩=>ar.pure ⟨g1,g2,g3,λu hu=>?_,?_,g5⟩
      ·rcases List.mem_cons.1 hu with rfl|hu
       ·refine⟨lF,⟨aa.cC _ _,aa.cC _ _,aa.cC _ _,aa.cC _ _⟩,?_⟩;simp only[aa.aR];exact⟨⟨by omega,by omega,by omega,by omega⟩,⟨by omega,by omega⟩,λh=>by omega,λ_=>by omega⟩
       ·exact g4 u hu
      ·have h0:x= .slice (some ⟨m b,0,none⟩) len cap:=hr.1;have kF:¬((cap:Int)<0):=by omega
       rw[h0];simp[V.rel,W.den,A.den,aa.aR,kF]
    ·rename_i C t _ hbl;cases hc:(bO C&& !t.2&&aH len cap&&aH C.length (len*sh.length)&&lg sh&&bu len 1000000&&iP sh&&bY 0 len)with
     |false=>exact ev
     |true=>
      simp only[cond_true];simp only[aO]at hc;obtain⟨⟨⟨⟨⟨⟨⟨ho,c1⟩,bA⟩,c2⟩,c3⟩,c4⟩,c5⟩,ff⟩:=hc;have c1:t.2=false:=by simpa using c1
      have bA:=bx bA;have c2:=bx c2;have c4:=eh c4;subst bA;have aX:∀x∈C,A.ok n bl.length ρ x:=hb _ (c0 hbl);have lF:b<bl.length:=(List.getElem?_eq_some_iff.1 hbl).1;have jP:=CZ (w:=sh.length) (k:=len) c2;refine(LK (nb:=bl.length) (m:=m) c3 (rs:=l5 sh.length len C) (c:= .const 0) (λrow hr x hx=>aX x (C0 row hr x hx)) (aa.cC _ _) (by rw[aa.aR];exact⟨bB _,rZ⟩) (by rw[rE];intro _ h;simp at h) (by rw[rE,jP.1];simp;omega)).bind λaD n1 code fi dL ⟨p1,br,dx,bT,dh,dD,eB⟩=>?_;rw[rE,jH]at bT;have ahl:C.map (A.den aD m)=C.map (A.den ρ m):=qh aX dL (λ_ _=>rfl);have hM:=(hm.dO hb dL).YJ (n:=n1) (c:=len) (sh:=sh) (code:=code) hbl ho c1 c5 (by rw[bT];exact dD) (by rw[bT,eB,jP.2,ahl]) c2;have hb1:b6 n1 (cO bl b ([.rows sh (.const 0) code (.const len) 2],t)).length aD (cO bl b ([.rows sh (.const 0) code (.const len) 2],t)):=(hb.ext dL fi (aV _)).set (λy hy=>by
       have hy:y= .rows sh (.const 0) code (.const len) 2:=by simpa using hy
       subst hy;exact⟨⟨aa.cC _ _,p1,aa.cC _ _⟩,br,by rw[aa.aR];omega⟩)
      have Ia:=km bl b ([.rows sh (.const 0) code (.const len) 2],t);refine(JW (ds:=r) (vs:=s) hM hb1 (λu hu=>by rw[Ia];exact(hv u (cD _ hu)).ext dL fi (aV _)) (Dk.df.later (λu hu=>hv u (cD _ hu)) dL hr.2)).bind λbo n2 q dY c7 ⟨g1,g2,g3,g4,g5⟩=>ar.pure ⟨g1,g2,by rw[g3,Ia],λu hu=>?_,?_,g5⟩
      ·rcases List.mem_cons.1 hu with rfl|hu
       ·refine⟨lF,⟨aa.cC _ _,aa.cC _ _,aa.cC _ _,aa.cC _ _⟩,?_⟩;simp only[aa.aR];exact⟨⟨by omega,by omega,by omega,by omega⟩,⟨by omega,by omega⟩,λh=>by omega,λ_=>by omega⟩
       ·rw[<-Ia];exact g4 u hu
      ·have h0:x= .slice (some ⟨m b,0,none⟩) len len:=hr.1;have kF:¬((len:Int)<0):=by omega
       rw[h0];simp[V.rel,W.den,A.den,aa.aR,kF]
    ·exact ev
   ·exact ev
theorem dw.tr {c:dw} {spec:List Int->List Int->Prop} (hc:c.dX P w0.b spec) (bX:∀zs rs,spec zs rs->S c.id zs rs) (n:Nat) (vs:List V) (bl:List ao) (k:RK) (G:dc) (ρ:Env) (m:Nat->Nat) (w:ai) (xs:List az) (R':pK->ai->Prop)
 (hb:b6 n bl.length ρ bl) (hw:Mem w0 ρ m bl w) (hv:∀v∈vs,V.ok n bl.length ρ v) (hr:df ρ m vs xs) (ah:(c.E n vs bl k).holds S L G ρ) (hk:o6 S L w0 k n bl.length ρ m G R'):
 (callFunc c.f xs.toArray).run P w= .ok (.enter c.f xs.toArray) w/\gU P c.f xs.toArray w R':=by
 exact c.GA hc bX n _ _ k G ρ m w xs R' hb hw hv hr ah hk
end
end Go.ba
namespace Go.ba
open M
def O.aY (n:Nat):O->Prop
 |l x=>x.aY n
 |b x=>x.aY n
theorem O.bG {n:Nat} {ρ ag:Env} (ha:agree n ρ ag):∀{o:O},o.aY n->o.den ag=o.den ρ
 | .l x,h=>aa.bG ha h
 | .b x,h=>by simp only[O.den];rw[bg.bG ha h]
theorem XW {k:dj} {n nb:Nat} {ρ:Env}:∀{l:List A} {os:List O},iz k l=some os->(∀a∈l,A.ok n nb ρ a)->∀o∈os,O.aY n o
 |[],os,h,_=>by simp[iz]at h;subst h;intro x hx;simp at hx
 | .int a6 x::s,os,h,aX=>by
  simp only[iz]at h;cases hc:decide (k=a6)with
  |false=>simp[hc]at h
  |true=>
   cases hr:iz k s with
   |none=>simp[hc,hr]at h
   |some r'=>
    simp only[hc,hr,cond_true,aL]at h;subst h;intro y hy;rcases List.mem_cons.1 hy with hy|hy
    ·rw[hy];have h0:A.ok n nb ρ (.int a6 x):=aX _ (th ..);have h0:x.ok n ρ:=h0;exact h0.1
    ·exact XW hr (λa ha=>aX a (cD _ ha)) y hy
 | .bool _::_,_,h,_=>by simp[iz]at h
 | .ptr .. ::_,_,h,_=>by simp[iz]at h
 | .og .. ::_,_,h,_=>by simp[iz]at h
 | .gptr .. ::_,_,h,_=>by simp[iz]at h
 | .slc .. ::_,_,h,_=>by simp[iz]at h
 | .con _::_,_,h,_=>by simp[iz]at h
 | .str _::_,_,h,_=>by simp[iz]at h
 | .rows .. ::_,_,h,_=>by simp[iz]at h
 | .sl .. ::_,_,h,_=>by simp[iz]at h
 | .ep .. ::_,_,h,_=>by simp[iz]at h
theorem ay.ana {c:ay} {a:A} {o:O} {n nb:Nat} {ρ:Env} (h:c.out a=some o) (ha:a.ok n nb ρ):o.aY n:=by
 unfold ay.out at h;split at h
 ·rename_i k _ _ a6 x;cases hk:decide (k=a6)with
  |false=>simp[hk]at h
  |true=>
   simp only[hk,cond_true,aL]at h;subst h;have ha:x.ok n ρ:=ha;exact ha.1
 ·simp only[aL]at h;subst h;exact ha.1
 ·simp only[aL]at h;subst h;exact ha
 ·simp only[aL]at h;subst h;exact aa.cC _ _
 ·cases h
theorem XZ {n nb:Nat} {ρ:Env}:∀{d:List ay} {l:List A} {os:List O},oT d l=some os->(∀a∈l,A.ok n nb ρ a)->∀o∈os,O.aY n o
 |[],[],os,h,_=>by simp[oT]at h;subst h;intro x hx;simp at hx
 |c::d,a::s,os,h,aX=>by
  simp only[oT]at h;cases h1:c.out a with
  |none=>simp[h1]at h
  |some o=>
   cases h2:oT d s with
   |none=>simp[h1,h2]at h
   |some E6=>
    simp only[h1,h2,aL]at h;subst h;intro y hy;rcases List.mem_cons.1 hy with hy|hy
    ·rw[hy];exact ay.ana h1 (aX a (th ..))
    ·exact XZ h2 (λb hb=>aX b (cD _ hb)) y hy
 |[],_::_,_,h,_=>by simp[oT]at h
 |_::_,[],_,h,_=>by simp[oT]at h
theorem am9 {d:D} {u:W} {os:List O} {n nb:Nat} {ρ:Env} (h:uA d u=some os) (hu:u.ok n nb ρ):∀o∈os,O.aY n o:=by
 unfold uA at h;split at h
 ·rename_i k _ _ a6 x;cases hk:decide (k=a6)with
  |false=>simp[hk]at h
  |true=>
   simp only[hk,cond_true,aL]at h;subst h;have hu:x.ok n ρ:=hu;intro o ho;simp at ho;subst ho;exact hu.1
 ·simp only[aL]at h;subst h;intro o ho;simp at ho;subst ho;exact hu
 ·rename_i k n' _ _ l;cases hk:aH l.length n' with
  |false=>simp[hk]at h
  |true=>
   simp only[hk,cond_true]at h;exact XW h hu
 ·simp only[aL]at h;subst h;intro o ho;simp at ho;subst ho;exact hu.1
 ·exact XZ h hu
 ·cases h
noncomputable def BP (bl:List ao):bL->W->M (List O)
 | .d x,u=>match uA x u with|some os=>pure os|none=>fail
 | .rd sh,u=>bind (BL true sh bl (.w u)) λl=>pure [.l l]
 | .jy sh e,u=>bind (Px sh e bl (.w u)) λl=>pure [.l l]
noncomputable def BQ (bl:List ao):List bL->List W->M (List O)
 |[],[]=>pure []
 |b::r,u::s=>bind (BP bl b u) λa=>bind (BQ bl r s) λc=>pure (a++c)
 |_,_=>fail
noncomputable def Fp (bl:List ao) (ds:List bL) (v:V):M (List O):=
 match v with
 | .w u=>match ds with|[d]=>BP bl d u|_=>fail
 | .eV l=>match ds with|[_]=>fail|_=>BQ bl ds l
 |_=>fail
def O.toW:O->W
 |l x=> .one (.int .u8 ⟨x,0,0⟩)
 |b x=> .one (.bool x)
def W.toO:W->O
 | .one (.int _ x)=> .l x.l
 | .one (.bool e)=> .b e
 |_=> .l (.const 0)
theorem O.toW_toO (o:O):o.toW.toO=o:=by cases o<;>rfl
def sN (os:List O):V:= .eV (os.map O.toW)
def o5 (K:List Int->Prop) (v:V) (ρ:Env):Prop:=
 match v with
 | .eV l=>K (l.map λu=>u.toO.den ρ)
 |_=>False
theorem GD {K:List Int->Prop} {os:List O} {ρ:Env}:o5 K (sN os) ρ=K (os.map (O.den ρ)):=by
 unfold o5 sN;simp only[kN]
 congr 1
 exact gI λo _=>by simp[Kg,O.toW_toO]
section
variable {S:Nat->List Int->List Int->Prop} {L:V->Env->Prop} {w0:cP} {P:bj} {w:ai}
theorem o8.mono {N CC:Nat->Prop} {sh:List ay} {e:aQ} {rows:List (List Int)} {v:az} (h:o8 N w sh e rows v) (hN:∀g,N g->CC g):o8 CC w sh e rows v:=by
 rcases h with h|⟨g,cap,cells,h1,h2,h3,h4⟩
 ·exact .inl h
 ·exact .inr ⟨g,cap,cells,h1,h2,hN g h3,h4⟩
def F0 (w0:cP) (g:Nat):Prop:=w0.ex g∨w0.ro g∨w0.r.heap.size<=g
theorem Yq {d:bL} {u:W} {n:Nat} {ρ:Env} {m:Nat->Nat} {bl:List ao} (hex:∀g,¬w0.ex g) (hb:b6 n bl.length ρ bl) (hw:Mem w0 ρ m bl w) (hu:u.ok n bl.length ρ):
 ar S L (BP bl d u) n ρ λag n' os=>(∀o∈os,O.aY n' o)/\os.length=d.num/\(d.dM=false->bd d.bds (os.map (O.den ag)))/\∀zs,d.at (F0 w0) (λg=>w0.r.heap.size<=g) w (os.map (O.den ag)++zs) (u.den ρ m):=by
 cases d with
 |d x=>
  unfold BP;cases ho:uA x u with
  |none=>simp only[ho];exact ar.fail
  |some os=>
   simp only[ho];have:=Pw (ρ:=ρ) (m:=m) ho;exact ar.pure ⟨am9 ho hu,this.1,λh=>(by simp[bL.dM]at h),λzs=>(this.2 zs).symm⟩
 |rd sh=>
  unfold BP;refine(ao2 (v:= .w u) hb hw hu rfl).bind λaD n1 l hn ha ⟨g1,g2,g3⟩=>ar.pure ⟨λo ho=>by simp at ho;subst ho;exact g1,rfl,λ_=>⟨g2.1,g2.2,trivial⟩,λzs=>?_⟩;exact g3.mono λg hg=>hg.elim (λh=>h.2) λh=>h.1
 |jy sh e=>
  unfold BP;refine(anc (v:= .w u) hex hb hw hu rfl).bind λaD n1 l hn ha ⟨g1,g2,g3⟩=>ar.pure ⟨λo ho=>by simp at ho;subst ho;exact g1,rfl,λ_=>⟨g2.1,g2.2,trivial⟩,λzs=>g3⟩
theorem ak5 {n:Nat} {ρ ag:Env} {os:List O} (h:∀x∈os,O.aY n x) (ha:agree n ρ ag):os.map (O.den ag)=os.map (O.den ρ):=gI λx hx=>O.bG ha (h x hx)
theorem Jw {m:Nat->Nat} {bl:List ao} (hex:∀g,¬w0.ex g):∀{ds:List bL} {us:List W} {n:Nat} {ρ:Env},b6 n bl.length ρ bl->Mem w0 ρ m bl w->(∀u∈us,W.ok n bl.length ρ u)->
 ar S L (BQ bl ds us) n ρ λag n' os=>(∀o∈os,O.aY n' o)/\gb (F0 w0) (λg=>w0.r.heap.size<=g) w ds (os.map (O.den ag)) (us.map (W.den ρ m))
 |[],[],n,ρ,_,_,_=>ar.pure ⟨λ_ h=>by simp at h,trivial⟩
 |b::r,u::s,n,ρ,hb,hw,hu=>by
  unfold BQ;refine(Yq hex hb hw (hu u (by simp))).bind λaD n1 a hn ha ⟨g1,g2,_,g3⟩=>?_;refine(Jw (ds:=r) (us:=s) hex (hb.ext ha hn (aV _)) (hw.dO hb ha) (λx hx=>(hu x (cD _ hx)).ext ha hn (aV _))).bind λbo n2 c dY c7 ⟨k1,k2⟩=>ar.pure ⟨λo ho=>?_,?_⟩
  ·rcases List.mem_append.1 ho with ho|ho
   ·have:=g1 o ho;cases o with
    |l x=>exact aa.aY.mono this dY
    |b x=>exact bg.aY.mono dY this
   ·exact k1 o ho
  ·rw[fY,ak5 g1 c7];refine⟨g3 _,?_⟩;rw[<-g2,<-j2 (f:=O.den aD) (as:=a),tg];have e:s.map (W.den ρ m)=s.map (W.den aD m):=gI λx hx=>(W.j8 (hu x (cD _ hx)) ha (λ_ _=>rfl)).symm;rw[e];exact k2
 |[],_::_,_,_,_,_,_=>ar.fail
 |_::_,[],_,_,_,_,_=>ar.fail
theorem PW {ds:List bL} {v:V} {val:az} {n:Nat} {ρ:Env} {m:Nat->Nat} {bl:List ao} (hex:∀g,¬w0.ex g) (hb:b6 n bl.length ρ bl) (hw:Mem w0 ρ m bl w) (hv:v.ok n bl.length ρ) (hr:v.rel ρ m val):
 ar S L (Fp bl ds v) n ρ λag n' os=>∃us,val=lh us/\gb (F0 w0) (λg=>w0.r.heap.size<=g) w ds (os.map (O.den ag)) us:=by
 unfold Fp;split
 ·rename_i u;split
  ·rename_i d;refine(Yq hex hb hw hv).mono λaD n1 os hn ha ⟨g1,g2,_,g3⟩=>⟨[u.den ρ m],hr,?_,trivial⟩;have:=g3 []
   rwa [ln]at this
  ·exact ar.fail
 ·rename_i l;split
  ·exact ar.fail
  ·rename_i hne;refine(Jw (ds:=ds) hex hb hw hv).mono λaD n1 os hn ha ⟨g1,g2⟩=>⟨l.map (W.den ρ m),?_,g2⟩;have hr:val= .tuple (l.map (W.den ρ m)).toArray:=hr;rw[hr];unfold lh;split
   ·rename_i x hx;exfalso;have hl:l.length=1:=by have:=congrArg kt hx;simpa using this
    match ds,l,hl,g2,hne with
    |[d],[u],_,_,hne=>exact hne d rfl
    |[],[u],_,g2,_=>simp[gb]at g2
    |_::_::_,[u],_,g2,_=>simp[gb]at g2
   ·rfl
 ·exact ar.fail
def yq (i:Nat):aa:=⟨0,[(1,i)]⟩
theorem EZ (ρ:Env) (zs:List Int):((c8 zs.length).map yq).map (·.den (bf ρ 0 zs))=zs:=by
 refine Xf (by simp) λj hj=>?_;have hj:j<zs.length:=by simpa using hj
 have:=fC.bf ρ 0 zs j hj;rw[zb]at this;simp[yq,aa.den,gu,aC,hj]at this⊢;exact this
noncomputable def dw.tree (bc:hT) (P:bj) (gl:dz) (cal:dW) (li:cz->Nat->Option cX) (rounds d:Nat) (c:dw):T:=
 cond (kz c.args&& !(c.args.any bL.jT)) (E9 c.pre ((c8 (cd c.args).length).map yq) (nP c.args 0 (cd c.args).length [] [] λn us bl=>xd bc P gl cal li rounds d c.f n (us.map V.w) bl λn' v aJ=>Fp aJ c.res v n' λos _=> .leaf (sN os))) .stuck
theorem GB {ρ:Env} {m:Nat->Nat}:∀{us:List W} {xs:List az},us.map (W.den ρ m)=xs->df ρ m (us.map V.w) xs
 |[],[],_=>trivial
 |u::us,x::xs,h=>by
  simp only[cp,lp]at h;exact⟨h.1.symm,GB h.2⟩
 |[],_::_,h=>by simp at h
 |_::_,[],h=>by simp at h
noncomputable def iU:List dw->hT
 |[],_=>none
 |c::r,f=>cond (aH c.f f) (some c.E) (iU r f)
theorem kQ {wb:ai} {r:ai} {ex ro:Nat->Prop}:∀{l:List dw},(∀c∈l,c.dX P wb (S c.id))->lY S L ⟨wb,r,ex,ro,[]⟩ P (iU l)
 |[],_=>λf g h=>by cases h
 |c::l,h=>λf g hf=>by
  unfold iU at hf;cases hb:aH c.f f with
  |true=>
   rw[hb]at hf;simp only[cond_true,aL]at hf;have:=bx hb;subst this;subst hf;intro n vs bl k G ρ m w xs R' h1 h2 h3 h4 h5 h6;exact dw.tr (w0:=⟨wb,r,ex,ro,[]⟩) (h c (by simp)) (λ_ _ h=>h) n vs bl k G ρ m w xs R' h1 h2 h3 h4 h5 h6
  |false=>
   rw[hb]at hf;exact kQ (λc hc=>h c (cD _ hc)) f g hf
theorem dw.vW {wb:ai} {gl:dz} {c:dw} {bc:hT} {cal:dW} {li:cz->Nat->Option cX} {rounds d:Nat} {spec:List Int->List Int->Prop} (hm:P.follows .mixedOrders=true) (cw:∀r ex ro,fl S P gl ⟨wb,r,ex,ro,[]⟩ cal) (hg:eL gl ⟨wb,wb,λ_=>False,λ_=>False,[]⟩)
 (fQ:∀(L:V->Env->Prop) (r:ai) (ro:Nat->Prop),lY S L ⟨wb,r,λ_=>False,ro,[]⟩ P bc) (hf:∀args w,(callFunc c.f args).run P w= .ok (.enter c.f args) w)
 (ht:oG (cd c.args) λzs=>(c.tree bc P gl cal li rounds d).holds S (o5 λrs=>bd (cd c.res) rs/\spec zs rs) (λ_ _=>False) (bf (λ_=>0) 0 zs)):c.dX P wb spec:=by
 refine⟨hf,λF w vs zs hw hz xZ hat=>?_⟩;have ah:=kx ht hz;have mN:=gi hz;unfold dw.tree at ah;cases hq:(kz c.args&& !(c.args.any bL.jT))with
 |false=>rw[hq]at ah;exact ah.elim
 |true=>
  rw[hq]at ah;simp only[cond_true]at ah;have ah:=preA_holds ah (by rw[<-mN,EZ];exact xZ);simp only[aO,fX]at hq;have kE:Mem ⟨wb,w,λ_=>False,F,[]⟩ (bf (λ_=>0) 0 zs) (λ_=>0) [] w:=⟨hw,rfl,rfl,rfl,aV _,λ_ _ _=>rfl,λi cs t h=>by simp at h,λi sh off code cap kind t h=>by simp at h,λi j p q h=>by simp at h⟩;have hall:(c.args.all λb=> !b.jT)=true:=by
   rw[pI];intro b hb;cases dS:b.jT with
   |false=>rfl
   |true=>rw[List.any_eq_true.2 ⟨b,hb,dS⟩]at hq;cases hq.2
  obtain⟨n',ag,m',us,bl,p1,br,bT,dh,dD,eB⟩:=r7 (S:=S) (L:=_) (w0:=⟨wb,w,λ_=>False,F,[]⟩) (F:=F) (N:=λ_=>False) (λg hg=> .inr (.inl hg)) (λg hg=>hg.elim) (l:=c.args) (s:=0) (us:=[]) (bl:=[]) (m:=λ_=>0) hq.1 (λp hp=>by simp at hp) kE (fC.bf _ 0 zs) hz (by omega) hat (.inr λi p h=>by simp at h) (.inl hall) (.inl hall) (λu hu=>by simp at hu) ah;have D3:eL gl ⟨wb,w,λ_=>False,F,[]⟩:=hg;refine(CU (S:=S) (w0:=⟨wb,w,λ_=>False,F,[]⟩) rfl hm (cw w (λ_=>False) F) D3 (fQ _ _ _) d c.f n' (us.map V.w) bl _ _ ag m' w vs _ br bT (λv hv=>by
   obtain⟨u,hu,rfl⟩:=List.mem_map.1 hv;exact dD u hu) (GB (by simpa using dh)) eB ?_).2
  intro n2 v aJ de bo m2 w' val h1 h2 h3 h4 h5 h6 h7;obtain⟨eJ,n3,os,ra,pg,⟨xs,hx1,hx2⟩,hl⟩:=PW (S:=S) (w0:=⟨wb,w,λ_=>False,F,[]⟩) (λg hg=>hg) h5 h6 h3 h4 de _ h7;have hl:o5 _ (sN os) eJ:=hl;rw[GD]at hl;refine⟨?_,os.map (O.den eJ),xs,hl.1,hl.2,?_,by rw[hx1]⟩
  ·have hblk:∀i:Nat,i<w.heap.size->w'.heap[i]?=w.heap[i]?:=λi hi=>h6.gg i hi λh=>h;exact⟨h6.jb,h6.je,h6.iw,h6.eu,λa ha=>by simp only[jI,hblk a.block ha],λa ha=>by simp only[tf,hblk a.block ha],hblk⟩
  ·exact w7 (λg hg=>by
    rcases hg with hg|hg|hg
    ·exact hg.elim
    ·exact .inl hg
    ·exact .inr hg) (λg hg=>hg) hx2
where
 w7 {F F' N CC:Nat->Prop} {w:ai} (hF:∀g,F g->F' g) (hN:∀g,N g->CC g):∀{ds:List bL} {zs:List Int} {vs:List az},gb F N w ds zs vs->gb F' CC w ds zs vs
 |[],_,[],_=>trivial
 | .d x::r,zs,v::vs,h=>⟨h.1,w7 hF hN h.2⟩
 | .rd sh::r,zs,v::vs,h=>⟨gq.mono h.1 hF,w7 hF hN h.2⟩
 | .jy sh e::r,zs,v::vs,h=>⟨o8.mono h.1 hN,w7 hF hN h.2⟩
 |[],_,_::_,h=>h.elim
 |_::_,_,[],h=>by simp[gb]at h
end
def bL.I8:bL->List Nat
 | .d x=>x.I8
 |_=>[1]
def sK (ds:List bL):List Nat:=ds.flatMap bL.I8
def Lu (ds:List bL) (K:List (List Int)->Prop) (v:V) (st:gp) (aK:gn):Prop:=
 match v with
 | .eV l=>K ((gF (sK ds) (l.map W.toO)).map (BU st aK))
 |_=>False
theorem abd {ds:List bL} {K:List (List Int)->Prop} (v:V) (ρ:Env) (st:gp) (aK:gn) (ht:mB ρ st aK) (h:Lu ds K v st aK):o5 (λrs=>K (gF (sK ds) rs)) v ρ:=by
 unfold Lu at h;unfold o5;split at h
 ·rename_i l;have e:l.map (λu=>u.toO.den ρ)=(l.map W.toO).map (O.den ρ):=by simp
  simp only[e];rw[JQ]
  rwa [show(gF (sK ds) (l.map W.toO)).map (BU st aK)=(gF (sK ds) (l.map W.toO)).map (List.map (O.den ρ)) from gI λo _=>Y5 ht o]at h
 ·exact h.elim
def iI (sh:Nat->List Nat×List Nat) (lsh:Nat->List Nat) (S:Nat->List (List Int)->List (List Int)->Prop) (K:List (List Int)->List (List Int)->Prop) (lens:List Nat) (bds:List (Int×Int)) (ds:List bL) (t:T):Prop:=
 vj lens 0 bds (λst aK zs=>t.kZ sh lsh S (Lu ds (K zs)) (λ_ _=>False) st aK) [] []
theorem GO {sh:Nat->List Nat×List Nat} {lsh:Nat->List Nat} {S:Nat->List (List Int)->List (List Int)->Prop} {K:List (List Int)->List (List Int)->Prop} {lens:List Nat} {bds:List (Int×Int)} {ds:List bL} {t:T}
 (h:iI sh lsh S K lens bds ds t):oG bds λzs=>t.holds (b5 sh S) (o5 λrs=>K (gF lens zs) (gF (sK ds) rs)) (λ_ _=>False) (bf (λ_=>0) 0 zs):=by
 refine r6 λzs hi=>?_;obtain⟨st,aK,h1,h2⟩:=zu h (show mB (λ_=>0) [] [] from⟨trivial,λ_=>rfl⟩) hi;exact lG (λv ρ st aK ht hl=>abd v ρ st aK ht hl) t _ _ _ st aK (λ_ _ hf=>hf.elim) h1 h2
end Go.ba
namespace Go.ba
open M
structure j6 where
 c:b9
 pre:Nat
def j6.dX (P:bj) (wb:ai) (q:j6) (spec:List Int->List Int->Prop):Prop:=
 ∀zs,bd (dA q.c.args) zs->af q.pre zs->∃rs,bd (dA q.c.res) rs/\spec zs rs/\∀w,wb.Extends w->zn P q.c.f (mq q.c.args zs).toArray w (eF q.c.res rs)
noncomputable def j6.M (q:j6):List ao->List V->M V:=λ_ vs n k=>
 match pc q.c.args vs with
 |some l=> .oK q.pre l (.call q.c.id l n (dA q.c.res) (k (BR q.c.res n) (n+(dA q.c.res).length)))
 |none=> .stuck
noncomputable def cA (Jt:List j6) (cons:List b9):dW:=λf=>
 match Jt.filter (λq=>aH f q.c.f)with
 |[]=>Hf cons f
 |l=>some λbl vs n k=>match l.find? (λq=>(pc q.c.args vs).isSome)with
  |some q=>q.M bl vs n k
  |none=>match Hf cons f with
   |some g=>g bl vs n k
   |none=> .stuck
section
variable {S:Nat->List Int->List Int->Prop} {P:bj} {gl:dz} {w0:cP}
theorem j6.snd {q:j6} {spec:List Int->List Int->Prop} (hc:q.dX P w0.b spec) (bX:∀zs rs,spec zs rs->S q.c.id zs rs) (L:V->Env->Prop) (n:Nat) (ρ:Env) (m:Nat->Nat) (bl:List ao) (vs:List V) (xs:List az)
 (kg:∀v∈vs,V.ok n bl.length ρ v) (hr:df ρ m vs xs):ar S L (q.M bl vs) n ρ λag n' v=>v.ok n' bl.length ag/\∃val,v.rel ag m val/\∀w,Mem w0 ρ m bl w->zn P q.c.f xs.toArray w val:=by
 intro G k hk;unfold j6.M at hk;cases hl:pc q.c.args vs with
 |none=>simp[hl,T.holds]at hk
 |some l=>
  simp only[hl]at hk;obtain⟨fx,hk⟩:=hk;obtain⟨h1,h2⟩:=MD hl kg hr;obtain⟨rs,r1,r2,r3⟩:=hc _ h1 fx;have ah:=L0 hk r1 (bX _ _ r2);have hlen:=gi r1;have jw:=PX (m:=m) (nb:=bl.length) (N:=n+(dA q.c.res).length) r1 (fC.bf ρ n rs) (aV _);refine⟨_,_,_,Cn _ _,agree.bf rs n ρ,⟨jw.1,_,jw.2,λw hw=>?_⟩,ah⟩;rw[h2]at r3;exact r3 w hw.ext
theorem cJ {Jt:List j6} {cons:List b9} (hq:∀q∈Jt,q.dX P w0.b (S q.c.id)) (hc:∀c∈cons,c.wX P w0.b (S c.id)):fl S P gl w0 (cA Jt cons):=by
 intro f g q6 L n ρ m bl vs xs h1 h2 h3 h4;unfold cA at q6;split at q6
 ·exact Tp (gl:=gl) hc f g q6 L n ρ m bl vs xs h1 h2 h3 h4
 ·rename_i l hl;simp only[aL]at q6;subst q6;intro G k hk;simp only at hk;split at hk
  ·rename_i q Nw;have cE:=List.mem_filter.1 (y9 Nw);have DZ:=bx cE.2;subst DZ;exact j6.snd (hq q cE.1) (λ_ _ h=>h) L n ρ m bl vs xs h3 h4 G k hk
  ·split at hk
   ·rename_i bb ec;exact Tp (gl:=gl) hc f bb ec L n ρ m bl vs xs h1 h2 h3 h4 G k hk
   ·exact hk.elim
def idx (c:Int):List UInt8->Int
 |[]=>-1
 |b::r=>if(b.toNat:Int)=c then 0 else if idx c r<0 then-1 else idx c r+1
theorem yg (c:Int):∀l:List UInt8,-1<=idx c l/\idx c l<l.length
 |[]=>by simp[idx]
 |b::r=>by
  have:=yg c r;simp only[idx,cW];split
  ·omega
  ·split<;>omega
theorem find_range (p:Nat->Bool):∀n:Nat,(c8 (n+1)).find? p=if p 0=true then some 0 else((c8 n).find? λi=>p (i+1)).map (·+1):=λn=>by
 rw[List.range_succ_eq_map,zh];cases h:p 0 with
 |true=>simp
 |false=>
  simp only[pL,if_false];rw[List.find?_map];rfl
theorem Ws (c:Int):∀l:List UInt8,(match(c8 l.length).find? λi=>decide (((l.getD i 0).toNat:Int)=c)with|some i=>(i:Int)|none=>-1)=idx c l
 |[]=>rfl
 |b::r=>by
  have ih:=Ws c r;rw[cW,find_range];simp only[List.getD_cons_zero,Ki,decide_eq_true_eq,idx];by_cases h:(b.toNat:Int)=c
  ·simp[h]
  ·simp only[if_neg h];have hr:=yg c r;cases hf:(c8 r.length).find? λi=>decide (((r.getD i 0).toNat:Int)=c)with
   |none=>rw[hf]at ih;simp only[Option.map_none]at ih⊢;rw[<-ih];simp
   |some i=>rw[hf]at ih;simp only[Option.map_some]at ih⊢;rw[<-ih,if_neg (by omega)];rfl
theorem find_congr {α:Type} {p q:α->Bool}:∀{l:List α},(∀x∈l,p x=q x)->l.find? p=l.find? q
 |[],_=>rfl
 |x::r,h=>by
  rw[zh,zh,h x (by simp),find_congr λy hy=>h y (cD _ hy)]
theorem apE (l:List UInt8) (c:Int) (h0:0<=c) (h1:c<=255) (w:ai):(RB #[.string (aG l),.int .u8 c]).run P w= .ok (.int .i64 (idx c l)) w:=by
 have hsz:(aG l).size=l.length:=nQ l;have po:∀i,i<l.length->(aG l)[i]! =l.getD i 0:=λi hi=>by
  have:i<(aG l).size:=by omega
  rw[getElem!_pos (aG l) i this];simp only[aC,hP hi,Option.getD_some];rfl
 have e:((c8 (aG l).size).find? λi=>(aG l)[i]! ==c.toNat.toUInt8)=(c8 l.length).find? λi=>decide (((l.getD i 0).toNat:Int)=c):=by
  rw[hsz];refine find_congr λi hi=>?_;have hi:=List.mem_range.1 hi;rw[po i hi];have hc:c.toNat.toUInt8.toNat=c.toNat:=by simp;omega
  rw[Bool.eq_iff_iff];simp only[beq_iff_eq,decide_eq_true_eq];rw[<-UInt8.toNat_inj,hc];omega
 have hf:=Ws c l;have hd:RB #[.string (aG l),.int .u8 c]=(match(c8 (aG l).size).find? (λi=>(aG l)[i]! ==c.toNat.toUInt8)with
  |some i=>Cq (goInt i)
  |none=>Cq (goInt (-1)):Sem az):=rfl
 rw[hd,e,<-hf];cases(c8 l.length).find? λi=>decide (((l.getD i 0).toNat:Int)=c)<;>rfl
theorem aio {f:cz} {fn:Func} {id:Nat} {wb:ai} (hf:P.funcs[f]?=some fn) (aho:(fn.name== "runtime.NumGoroutine")=false) (hb:fn.body.isNone=true) (hn:Extern.findNext fn=none) (he:Extern.find fn=some RB):
 (⟨f,id,[.str,.int .u8 0 255],[.int .i64 (-1) 9223372036854775807]⟩:b9).wX P wb λzs rs=>rs=[idx (zs.getD 1 0) (U (zs.getD 0 0))]:=by
 intro zs hz
 match zs,hz with
 |[s,c],hz=>
  obtain⟨s1,s2,c1,c2,_⟩:=hz;have hr:=yg c (U s);have hl:(U s).length<=9223372036854775807:=by have:=rW s2;unfold eN at this;omega
  refine⟨[idx c (U s)],(show bd [((-1:Int),9223372036854775807)] _ from⟨by omega,by omega,trivial⟩),rfl,λw _=> .inl ?_⟩;rw[run_callFunc_extern hf aho hb hn he];have:=apE (P:=P) (U s) c c1 c2 w;show((RB #[.string (aG (U s)),.int .u8 c]).run P w).andThen _=_;rw[this];rfl
 |[],h=>exact h.elim
 |[_],h=>exact(h.2.2).elim
 |_::_::_::_,h=>exact(h.2.2.2.2).elim
end
end Go.ba
namespace Go.ba
section
variable {S:Nat->List Int->List Int->Prop} {P:bj} {gl:dz} {wb:ai}
def cY (args res:List D) (spec:List Int->List Int->Prop):Prop:=∀zs rs fb,bd (dA args) zs->bd (dA res) rs->bd (dA res) fb->spec zs rs->spec zs fb->eF res rs=eF res fb
theorem b9.Pp {c:b9} {cal:dW} {li:cz->Nat->Option cX} {rounds d:Nat} {spec:List Int->List Int->Prop} (hm:P.follows .mixedOrders=true) (cw:∀r ex ro,fl S P gl ⟨wb,r,ex,ro,[]⟩ cal) (hg:eL gl ⟨wb,wb,λ_=>False,λ_=>False,[]⟩)
 (hf:∀args w,(callFunc c.f args).run P w= .ok (.enter c.f args) w) (hu:cY c.args c.res spec)
 (ht:oG (dA c.args) λzs=>(c.tree P gl cal li rounds d).holds S (vb c.res λrs=>bd (dA c.res) rs/\spec zs rs) (λ_ _=>False) (bf (λ_=>0) 0 zs)):c.dX P wb spec:=by
 refine⟨hf,λzs hz=>?_⟩;have h0:=b9.calls hm cw hg hz (kx ht hz) wb (m4 wb);obtain⟨e,w',v,ag,m,val,h1,h2,h3,h4⟩:=Calls.some h0;obtain⟨rs,⟨hb,hs⟩,hv⟩:=GF h3 h2;refine⟨rs,hb,hs,λw hw=>?_⟩;refine(b9.calls hm cw hg hz (kx ht hz) w hw).mono λe w' ⟨v,ag,m,val,h1,h2,h3,h4⟩=>?_;obtain⟨fb,⟨hb',Oh⟩,hv'⟩:=GF h3 h2;rw[hu zs fb rs hz hb' hb Oh hs]at hv';exact⟨by rw[h1,hv'],h4⟩
noncomputable def j6.tree (P:bj) (gl:dz) (cal:dW) (li:cz->Nat->Option cX) (rounds d:Nat) (q:j6):T:=
 .vn q.pre ((c8 (dA q.c.args).length).map yq) (q.c.tree P gl cal li rounds d)
theorem j6.Pp {q:j6} {cal:dW} {li:cz->Nat->Option cX} {rounds d:Nat} {spec:List Int->List Int->Prop} (hm:P.follows .mixedOrders=true) (cw:∀r ex ro,fl S P gl ⟨wb,r,ex,ro,[]⟩ cal) (hg:eL gl ⟨wb,wb,λ_=>False,λ_=>False,[]⟩)
 (hf:∀args w,(callFunc q.c.f args).run P w= .ok (.enter q.c.f args) w) (hu:cY q.c.args q.c.res spec)
 (ht:oG (dA q.c.args) λzs=>(q.tree P gl cal li rounds d).holds S (vb q.c.res λrs=>bd (dA q.c.res) rs/\spec zs rs) (λ_ _=>False) (bf (λ_=>0) 0 zs)):q.dX P wb spec:=by
 intro zs hz hp;have gZ:=kx ht hz;have hl:=gi hz;unfold j6.tree at gZ;rw[<-hl]at gZ;have gZ:=gZ (by rw[EZ];exact hp);have h0:=b9.calls hm cw hg hz gZ wb (m4 wb);obtain⟨e,w',v,ag,m,val,h1,h2,h3,h4⟩:=Calls.some h0;obtain⟨rs,⟨hb,hs⟩,hv⟩:=GF h3 h2;refine⟨rs,hb,hs,λw hw=> .inr ⟨hf _ _,?_⟩⟩;refine(b9.calls hm cw hg hz gZ w hw).mono λe w' ⟨v,ag,m,val,h1,h2,h3,h4⟩=>?_;obtain⟨fb,⟨hb',Oh⟩,hv'⟩:=GF h3 h2;rw[hu zs fb rs hz hb' hb Oh hs]at hv';exact⟨by rw[h1,hv'],h4⟩
end
theorem B3 {α:Type}:∀(k8:List Nat) (l:List α),(gF k8 l).flatten=l
 |[],[]=>rfl
 |[],_::_=>by simp[gF]
 |k::k8,l=>by simp only[gF,Gl,B3 k8,jn]
section
variable {P:bj} {gl:dz} {wb:ai} {sh:Nat->List Nat×List Nat} {SB:Nat->List (List Int)->List (List Int)->Prop}
def aW (SB:Nat->List (List Int)->List (List Int)->Prop) (res:List D) (id:Nat):List (List Int)->List (List Int)->Prop:=λzs rs=>bd (dA res) rs.flatten/\SB id zs rs
theorem ZI {lsh:Nat->List Nat} {id:Nat} {lens:List Nat} {bds:List (Int×Int)} {ds:List D} {t:T} (hl:lens=(sh id).1) (hd:sL ds=(sh id).2) (h:tx sh lsh SB (aW SB ds id) lens bds ds t):
 oG bds λzs=>t.holds (b5 sh SB) (vb ds λrs=>bd (dA ds) rs/\b5 sh SB id zs rs) (λ_ _=>False) (bf (λ_=>0) 0 zs):=by
 refine r6 λzs hz=>?_;have h:=kx (abK h) hz;simp only[aW,B3]at h;rw[hl,hd]at h;exact h
theorem amV {c:b9} {cal:dW} {li:cz->Nat->Option cX} {rounds d:Nat} {lsh:Nat->List Nat} {lens:List Nat} (hm:P.follows .mixedOrders=true) (cw:∀r ex ro,fl (b5 sh SB) P gl ⟨wb,r,ex,ro,[]⟩ cal) (hg:eL gl ⟨wb,wb,λ_=>False,λ_=>False,[]⟩)
 (hf:qS P c.f=true) (hu:cY c.args c.res (b5 sh SB c.id)) (hl:lens=(sh c.id).1) (hd:sL c.res=(sh c.id).2)
 (hv:tx sh lsh SB (aW SB c.res c.id) lens (dA c.args) c.res (c.tree P gl cal li rounds d)):c.dX P wb (b5 sh SB c.id):=
 b9.Pp hm cw hg (enters hf) hu (ZI hl hd hv)
theorem aoS {q:j6} {cal:dW} {li:cz->Nat->Option cX} {rounds d:Nat} {lsh:Nat->List Nat} {lens:List Nat} (hm:P.follows .mixedOrders=true) (cw:∀r ex ro,fl (b5 sh SB) P gl ⟨wb,r,ex,ro,[]⟩ cal) (hg:eL gl ⟨wb,wb,λ_=>False,λ_=>False,[]⟩)
 (hf:qS P q.c.f=true) (hu:cY q.c.args q.c.res (b5 sh SB q.c.id)) (hl:lens=(sh q.c.id).1) (hd:sL q.c.res=(sh q.c.id).2)
 (hv:tx sh lsh SB (aW SB q.c.res q.c.id) lens (dA q.c.args) q.c.res (q.tree P gl cal li rounds d)):q.dX P wb (b5 sh SB q.c.id):=
 j6.Pp hm cw hg (enters hf) hu (ZI hl hd hv)
end
end Go.ba
namespace Go.ba
open Go.ChangeShapes Go.WideShapes Go.RowKit
variable {H:Type} {enc:aQ×az->H} {P:bj}
def BX (g:aQ->Option (List ay)) (cells:aQ->Nat):List Field->Nat->Option (List ay)
 |[],_=>some []
 |f::r,o=>match g f.type,BX g cells r (o+cells f.type)with
  |some l,some m=>cond (aH f.offset o&&aH (cells f.type) l.length) (some (l++m)) none
  |_,_=>none
def QF (l:List ay):Option (List ay):=cond (h9 l (mo 0)) (some [.sub 0]) (cond (h9 l (mo 1)) (some [.sub 1]) none)
theorem aqu {l sh:List ay} (h:QF l=some sh):∃k,l=mo k/\sh=[.sub k]:=by
 unfold QF at h;cases h0:h9 l (mo 0)with
 |true=>
  rw[h0]at h;simp only[cond_true,aL]at h;exact⟨0,oW h0,h.symm⟩
 |false=>
  cases h1:h9 l (mo 1)with
  |true=>
   rw[h0,h1]at h;simp only[cond_true,cond_false,aL]at h;exact⟨1,oW h1,h.symm⟩
  |false=>rw[h0,h1]at h;cases h
def rJ (P:bj):Nat->aQ->Option (List ay)
 |0,_=>none
 |d+1,t=>match P.underlying t with
  |some (.int k)=>some [.int k k.min k.max]
  |some .string=>some [.str]
  |some .bool=>some [.bool]
  |some (.struct dE)=>BX (rJ P d) P.cellsOf dE.toList 0
  |some (.array n e)=>match rJ P d e with
   |some l=>cond (aH (P.cellsOf e) l.length) (some (eX n l).flatten) none
   |none=>none
  |some (.slice e)=>match rJ P d e with
   |some l=>cond (aH (P.cellsOf e) l.length&&bY 0 (P.bytesOf e)) (QF l) none
   |none=>none
  |_=>none
theorem bK.append:∀{a b:List ay} {x y:List Int},bK a x->bK b y->bK (a++b) (x++y)/\dm (a++b) (x++y)=dm a x++dm b y
 |[],_,[],_,_,h=>⟨h,rfl⟩
 |_::_,_,_::_,_,h,h'=>by
  have:=bK.append h.2 h';exact⟨⟨h.1,this.1⟩,by simp only[ti,dm,this.2]⟩
 |[],_,_::_,_,h,_=>h.elim
 |_::_,_,[],_,h,_=>h.elim
theorem P4 {F:Nat->Prop} {w:ai}:∀{a b:List ay} {x y:List Int} {u v:List az},dV F w a x u->dV F w b y v->dV F w (a++b) (x++y) (u++v)
 |[],_,[],_,[],_,_,h=>h
 |_::_,_,_::_,_,_::_,_,h,h'=>⟨h.1,P4 h.2 h'⟩
 |[],_,_::_,_,_,_,h,_=>h.elim
 |[],_,[],_,_::_,_,h,_=>h.elim
 |_::_,_,[],_,_,_,h,_=>h.elim
 |_::_,_,_::_,_,[],_,h,_=>h.elim
def GI (enc:aQ×az->H) (P:bj) (w:ai) (t:aQ) (sh:List ay):Prop:=
 ∀(n:Nat) (cs:List az) (x:nJ H×List qz),Km enc P w 0 (λ_=>true) true n t cs=some x->cs.length=sh.length->(∀m∈x.1.weights P t,m<=reachBytes)->
  ∃zs,bK sh zs/\dV (λg=>g<w.heap.size) w sh zs cs
theorem XS {n:Nat} {w:ai} {g:aQ->Option (List ay)} (hg:∀t sh,g t=some sh->GI enc P w t sh) {cs:List az}:∀(dE:List Field) (o:Nat) (sh:List ay) (xs:List (nJ H×List qz)),BX g P.cellsOf dE o=some sh->cs.length=o+sh.length->xs.length=dE.length->
 (∀(j:Nat) (f:Field),dE[j]?=some f->Km enc P w 0 (λ_=>true) true n f.type ((cs.drop f.offset).take (P.cellsOf f.type))=xs[j]?)->
 (∀m∈Kt P (dE.map (·.type)) (xs.map (·.1)),m<=reachBytes)->
 ∃zs,bK sh zs/\dV (λg=>g<w.heap.size) w sh zs (cs.drop o)
 |[],o,sh,xs,h,hl,hx,_,_=>by
  simp only[BX,aL]at h;subst h;have:xs=[]:=List.length_eq_zero_iff.1 (by simpa using hx);subst this;exact⟨[],trivial,by rw[F6 (by simp at hl;omega)];trivial⟩
 |f::dE,o,sh,[],_,_,hx,_,_=>by simp at hx
 |f::dE,o,sh,x::xs,h,hl,hx,hf,hw=>by
  unfold BX at h;cases h1:g f.type with
  |none=>simp[h1]at h
  |some l=>
   cases h2:BX g P.cellsOf dE (o+P.cellsOf f.type)with
   |none=>simp[h1,h2]at h
   |some m=>
    simp only[h1,h2]at h;cases hc:(aH f.offset o&&aH (P.cellsOf f.type) l.length)with
    |false=>simp[hc]at h
    |true=>
     simp only[hc,cond_true,aL]at h;subst h;simp only[aO]at hc;have e1:=bx hc.1;have e2:=bx hc.2;have h0:=hf 0 f rfl;simp only[m1]at h0;simp only[cp,Kt,qC]at hw;simp only[dn]at hl;obtain⟨zs,a1,a2⟩:=hg f.type l h1 n ((cs.drop f.offset).take (P.cellsOf f.type)) x h0 (by rw[m5,qB,e1,e2];omega) λm' hm=>hw m' (.inl hm);obtain⟨ft,b1,b2⟩:=XS (cs:=cs) hg dE (o+P.cellsOf f.type) m xs h2 (by omega) (by simpa using hx) (λj ng hj=>by simpa using hf (j+1) ng (by simpa using hj)) λm' hm=>hw m' (.inr hm);have kb:=bK.append a1 b1;refine⟨zs++ft,kb.1,?_⟩;have:=P4 a2 b2
     rwa [e1,<-Cs,jn]at this
theorem XR {n:Nat} {w:ai} {e:aQ} {l:List ay} (hg:GI enc P w e l) (hc:P.cellsOf e=l.length) {cs:List az}:∀(k i:Nat) (xs:List (nJ H×List qz)),cs.length=(i+k)*l.length->xs.length=k->
 (∀j,j<k->Km enc P w 0 (λ_=>true) true n e ((cs.drop ((i+j)*P.cellsOf e)).take (P.cellsOf e))=xs[j]?)->
 (∀m∈Ku P e (xs.map (·.1)),m<=reachBytes)->
 ∃zs,bK (eX k l).flatten zs/\dV (λg=>g<w.heap.size) w (eX k l).flatten zs (cs.drop (i*l.length))
 |0,i,xs,hl,hx,_,_=>by
  have:xs=[]:=List.length_eq_zero_iff.1 hx;subst this;exact⟨[],trivial,by rw[F6 (by rw[hl];exact aV _)];trivial⟩
 |k+1,i,[],_,hx,_,_=>by simp at hx
 |k+1,i,x::xs,hl,hx,hf,hw=>by
  have h0:=hf 0 (Nat.succ_pos k);simp only[m1,lq]at h0;simp only[cp,Ku,qC]at hw;have hl2:cs.length=i*l.length+(l.length+k*l.length):=by rw[hl,Nat.add_mul,rP];omega
  obtain⟨zs,a1,a2⟩:=hg n _ x h0 (by rw[m5,qB,hc];omega) λm' hm=>hw m' (.inl hm);obtain⟨ft,b1,b2⟩:=XR hg hc k (i+1) xs (by rw[hl];congr 1;omega) (by simpa using hx) (λj hj=>by
   have:=hf (j+1) (by omega);rw[show i+(j+1)=i+1+j by omega]at this;simpa using this) λm' hm=>hw m' (.inr hm)
  have kb:=bK.append a1 b1;refine⟨zs++ft,by rw[Cy,Gl];exact kb.1,?_⟩;have:=P4 a2 b2;rw[hc,rP,<-Cs,jn]at this;rw[Cy,Gl];exact this
theorem Tv {base:Nat} {w:ai} {a:Addr} {n:Nat} {cs:List az} (h:w.cells? base a n=some cs):cs.length=n/\∀j,j<n->w.cell? (a.add j)=cs[j]?:=by
 unfold World.cells? at h;split at h
 ·have hl:=List.Xb h;refine⟨by simpa using hl,λj hj=>?_⟩;have:=List.UE h j j (by simp[hj]);exact this
 ·cases h
where
 List.Xb {α β:Type} {f:α->Option β}:∀{l:List α} {r:List β},l.mapM f=some r->r.length=l.length
  |[],r,h=>by simp at h;subst h;rfl
  |x::l,r,h=>by
   rw[aav]at h;cases hx:f x with
   |none=>simp[hx]at h
   |some y=>
    cases hl:l.mapM f with
    |none=>simp[hx,hl]at h
    |some s=>
     simp[hx,hl]at h;subst h;simp[List.Xb hl]
 List.UE {α β:Type} {f:α->Option β}:∀{l:List α} {r:List β},l.mapM f=some r->∀(j:Nat) (x:α),l[j]?=some x->f x=r[j]?
  |[],r,h,j,x,hx=>by simp at hx
  |y::l,r,h,j,x,hx=>by
   rw[aav]at h;cases hy:f y with
   |none=>simp[hy]at h
   |some z=>
    cases hl:l.mapM f with
    |none=>simp[hy,hl]at h
    |some s=>
     simp[hy,hl]at h;subst h;cases j with
     |zero=>simp at hx;subst hx;simp[hy]
     |succ j=>simpa using List.UE hl j x (by simpa using hx)
theorem YI {F:Nat->Prop} {w:ai} {cells:Array az} {sh:List ay}:∀(len o:Nat),o<=cells.size->(∀i,i<len->∃zs vs,bK sh zs/\dV F w sh zs vs/\∀j,j<sh.length->cells[o+i*sh.length+j]?=vs[j]?)->(0<len->0<sh.length)->
 ∃rows:List (List Int),rows.length=len/\ie F w cells o sh rows
 |0,o,ho,_,_=>⟨[],rfl,λ_ h=>by simp at h,cells.toList.take o,[],cells.toList.drop o,by simp,by simp;omega,rfl⟩
 |len+1,o,ho,h,hp=>by
  obtain⟨zs,us,a1,a0,a2⟩:=h 0 (Nat.succ_pos _);have hp:=hp (Nat.succ_pos _);have hv:=a0.len;have NV:=a2 (sh.length-1) (by omega);have hsz:o+sh.length<=cells.size:=by
   have:us[sh.length-1]?≠none:=by rw[hP (by omega)];simp
   rw[<-NV]at this;have:=Array.aee.1 this;omega
  obtain⟨rows,b1,b2,pre,vs,post,b3,b4,pQ⟩:=YI len (o+sh.length) hsz (λi hi=>by
   obtain⟨ft,vs,c1,bA,c2⟩:=h (i+1) (by omega);refine⟨ft,vs,c1,bA,λj hj=>?_⟩;rw[<-c2 j hj]
   congr 1
   rw[rP];omega) λ_=>hp
  refine⟨zs::rows,by simp[b1],λrow hr=>?_,cells.toList.take o,us++vs,post,?_,by simp;omega,us,vs,rfl,a0,pQ⟩
  ·rcases List.mem_cons.1 hr with rfl|hr
   ·exact a1
   ·exact b2 row hr
  ·have e1:pre=cells.toList.take (o+sh.length):=by
    rw[b3,gJ,List.take_left' b4]
   have e2:pre=cells.toList.take o++us:=by
    rw[e1,List.take_add]
    congr 1
    refine List.ext_getElem? λj=>?_;by_cases hj:j<sh.length
    ·have:=a2 j hj;rw[List.getElem?_take,if_pos hj,List.getElem?_drop,<-this];simp
    ·rw[aaQ (by simp;omega),aaQ (by omega)]
   rw[<-gJ,<-e2];exact b3
where
 Array.aee {α:Type} {a:Array α} {i:Nat}:a[i]?≠none↔i<a.size:=by simp
theorem Xr {e:aQ}:∀{l:List (nJ H×List qz)} {i:Nat} {y:nJ H×List qz} {m:Nat},l[i]?=some y->m∈y.1.weights P e->m∈Ku P e (l.map (·.1))
 |x::l,0,y,m,h,hm=>by
  simp only[m1,aL]at h;subst h;simp only[cp,Ku,qC];exact .inl hm
 |x::l,i+1,y,m,h,hm=>by
  simp only[cp,Ku,qC];exact .inr (Xr (by simpa using h) hm)
 |[],_,_,_,h,_=>by simp at h
theorem XT {w:ai} {t e:aQ} {sh:List ay} (ho:GI enc P w e sh) (ht:P.underlying t=some (.slice e)) (hc:P.cellsOf e=sh.length) (hp:0<sh.length) {n:Nat} {cs:List az} {x:nJ H×List qz} (h:Km enc P w 0 (λ_=>true) true n t cs=some x) (hw:∀m∈x.1.weights P t,m<=reachBytes):
 ∃(v:az) (rows:List (List Int)),cs=[v]/\(∀row∈rows,bK sh row)/\(rows.length<=maxLen/\(0<P.bytesOf e->rows.length<=140737488351232))/\(((∃p,v= .slice p 0 0)/\rows=[])∨∃(g o cap:Nat) (cells:Array az) (t:aQ) (fz:Nat×Nat),v= .slice (some ⟨g,o,none⟩) rows.length cap/\(rows.length<=cap/\(cap:Int)<=9223372036854775807)/\g<w.heap.size/\w.heap[g]?=some (.cells cells t fz)/\ie (λg=>g<w.heap.size) w cells o sh rows):=by
 rcases au1 ht h with⟨rfl,_⟩|⟨ad,len,cap,elems,rest,n,rfl,rfl,hx,_,D9,sm,At,Vt,hsp,_⟩
 ·exact⟨_,[],rfl,λ_ h=>by simp at h,⟨iF _,λ_=>iF _⟩,.inl ⟨⟨_,rfl⟩,rfl⟩⟩
 ·rcases aaS cap with h0|h0
  ·subst h0;have:len=0:=by omega
   subst this;exact⟨_,[],rfl,λ_ h=>by simp at h,⟨iF _,λ_=>iF _⟩,.inl ⟨⟨_,rfl⟩,rfl⟩⟩
  ·have hsp:=(hsp rfl).2;have NI:∃cs,w.cells? 0 (ad.add 0) (P.cellsOf e)=some cs:=by
    rcases aaS len with hl|hl
    ·have h1:=(au1 ht h);have h2:=hsp 0 (by omega);cases hy:rest[0]? with
     |none=>
      exfalso;rcases h1 with⟨h1,_⟩|⟨avL,vR,dR,awf,ayw,n',_,h3,h4,_,_,_,h5,_,h6,_⟩
      ·simp at h1
      ·simp only[lp,aAU,aL,and_true]at h3;rw[hx]at h4;simp only[ct,aAV]at h4;have h7:=congrArg kt h4.1.2;simp only[j2]at h7;have h8:=(h6 rfl).1;rw[aaT]at hy;omega
     |some y=>
      rw[hy,aaU,hl]at h2;obtain⟨cs,g1,_⟩:=h2;exact⟨cs,by simpa using g1⟩
    ·have h2:=Vt 0 hl;cases hy:elems[0]? with
     |none=>rw[aaT]at hy;omega
     |some y=>
      rw[hy,aaU]at h2;obtain⟨cs,g1,_⟩:=h2;exact⟨cs,by simpa using g1⟩
   obtain⟨TF,NI⟩:=NI;obtain⟨l1,l2⟩:=Tv NI;have hc0:=l2 0 (by omega);have hc1:TF[0]?≠none:=by rw[hP (by omega)];simp
   rw[<-hc0]at hc1;have HU:(ad.add 0).add 0=ad:=by simp[Addr.add]
   rw[HU]at hc1;obtain⟨g,o,sp⟩:=ad;unfold jI at hc1;split at hc1
   ·rename_i cells tt fz ss;simp only at ss;cases V3:sp with
    |some k=>rw[V3]at hc1;exact absurd rfl hc1
    |none=>
    subst V3;simp only[rQ,pL,if_false]at hc1;have gh:o<cells.size:=by
     rcases mx o cells.size with h|h
     ·exact h
     ·exact absurd (Array.getElem?_eq_none h) hc1
    rw[hx]at hw;simp only[Kv,ht,ks,qC]at hw;obtain⟨rows,r1,r2⟩:=YI (F:=λg=>g<w.heap.size) (w:=w) (cells:=cells) (sh:=sh) len o (by omega) (λi hi=>by
     have:=Vt i hi;cases hy:elems[i]? with
     |none=>rw[aaT]at hy;omega
     |some y=>
      rw[hy,aaU]at this;obtain⟨cs,g1,g2⟩:=this;obtain⟨l1,l2⟩:=Tv g1;obtain⟨zs,ae,z2⟩:=ho n cs y g2 (by rw[l1,hc]) λm hm=>by
       refine hw m (.inr (.inl ?_));exact Xr hy hm
      refine⟨zs,cs,ae,z2,λj hj=>?_⟩;have:=l2 j (by rw[hc];exact hj);rw[jr,jr]at this;simp only[jI,ss,rQ,pL,if_false]at this;rw[<-this,hc]) λ_=>hp
    have cK:(cap:Int)<=9223372036854775807:=by unfold maxLen at sm;omega
    have AI:(elems.length+rest.length)*P.bytesOf e<=reachBytes:=hw _ (.inl (by simp));refine⟨_,rows,rfl,r2.1,⟨by omega,λhb=>?_⟩,.inr ⟨g,o,cap,cells,tt,fz,by rw[r1],by rw[r1];exact⟨D9,cK⟩,(Array.getElem?_eq_some_iff.1 ss).1,ss,r2⟩⟩;have h8:(elems.length+rest.length)*1<=(elems.length+rest.length)*P.bytesOf e:=Rl _ hb;unfold reachBytes at AI;omega
   ·exact absurd rfl hc1
theorem Jd {w:ai}:∀(d:Nat) (t:aQ) (sh:List ay),rJ P d t=some sh->GI enc P w t sh
 |0,t,sh,h=>by simp[rJ]at h
 |d+1,t,sh,h=>by
  have ih:=Jd (w:=w) d;intro n cs x hx hl hw;unfold rJ at h;split at h
  ·rename_i k hu;simp only[aL]at h;subst h;obtain⟨z,rfl,rfl,Ou⟩:=aaw hu hx;have:=ZK.1 Ou;exact⟨[z],⟨this,trivial⟩,rfl,trivial⟩
  ·rename_i hu;simp only[aL]at h;subst h;obtain⟨s,rfl,rfl,hs⟩:=au2 hu hx;have hb:s.data.toList.length<=eN:=hw _ (by simp[Kv]);refine⟨[cZ s.data.toList],⟨⟨nR _,my hb⟩,trivial⟩,?_,trivial⟩;show _=ay.val .str _;simp[ay.val,dZ,aG]
  ·rename_i hu;simp only[aL]at h;subst h;obtain⟨b,rfl,rfl⟩:=DataW.trod_bool hu hx;refine⟨[cond b 1 0],⟨?_,trivial⟩,?_,trivial⟩
   ·cases b<;>simp[ay.dQ]
   ·show _=ay.val .bool _;cases b<;>simp[ay.val]
  ·rename_i dE hu;obtain⟨xs,m,rfl,rfl,hlen,hn,At⟩:=DataW.trod_struct hu hx;simp only[Kv,hu]at hw;obtain⟨zs,a1,a2⟩:=XS (n:=m) ih dE.toList 0 sh xs h (by omega) (by rw[hn];simp) (λj f hj=>At j f (by simpa using hj)) hw;exact⟨zs,a1,by simpa using a2⟩
  ·rename_i k e hu;cases h1:rJ P d e with
   |none=>simp[h1]at h
   |some l=>
    simp only[h1]at h;cases hc:aH (P.cellsOf e) l.length with
    |false=>simp[hc]at h
    |true=>
     simp only[hc,cond_true,aL]at h;subst h;have hc:=bx hc;obtain⟨xs,m,rfl,rfl,hlen,hn,At⟩:=auu hu hx;simp only[Kv,hu]at hw;have hV:(eX k l).flatten.length=k*l.length:=by simp
     obtain⟨zs,a1,a2⟩:=XR (n:=m) (ih e l h1) hc k 0 xs (by rw[hl,hV];simp) hn (λj hj=>by
      have:=At j hj;simpa using this) hw
     exact⟨zs,a1,by simpa using a2⟩
  ·rename_i e hu;cases h1:rJ P d e with
   |none=>simp[h1]at h
   |some l=>
    simp only[h1]at h;cases hc:(aH (P.cellsOf e) l.length&&bY 0 (P.bytesOf e))with
    |false=>rw[hc]at h;cases h
    |true=>
     rw[hc]at h;simp only[cond_true]at h;simp only[aO,ov]at hc;obtain⟨k,rfl,rfl⟩:=aqu h;obtain⟨v,rows,rfl,r1,⟨r2,jz⟩,r3⟩:=XT (ih e _ h1) hu (bx hc.1) (by unfold mo;split<;>decide) hx hw;have Eo:(rows.length:Int)<=9223372036854775807:=by unfold maxLen at r2;omega
     refine⟨[rc rows],⟨⟨fa _,SC Eo r1⟩,trivial⟩,?_,trivial⟩;show qG _ _ _ (ab (rc rows)) v;rw[du];rcases r3 with r3|⟨g,o,cap,cells,t,fz,q1,q2,q3,db,iQ⟩
     ·exact .inl r3
     ·exact .inr ⟨g,o,cap,cells,t,fz,q1,⟨q2.1,q2.2,jz hc.2⟩,q3,db,(mA (Zp k)).1 iQ⟩
  ·cases h
def Gv (P:bj) (t:aQ):bL->Prop
 | .d (.int k lo hi)=>P.underlying t=some (.int k)/\lo=k.min/\hi=k.max
 | .d .bool=>P.underlying t=some .bool
 | .d .str=>P.underlying t=some .string
 | .d (.agg k n lo hi)=>∃e,P.underlying t=some (.array n e)/\rJ P 8 t=some (eX n (.int k lo hi))/\P.cellsOf t=n
 | .d (.mix l)=>((∃dE,P.underlying t=some (.struct dE))∨∃n e,P.underlying t=some (.array n e))/\rJ P 8 t=some l/\P.cellsOf t=l.length/\iP l=true
 | .d (.jC _)=>False
 | .d (.n9 ..)=>False
 | .rd sh=>∃e,P.underlying t=some (.slice e)/\rJ P 8 e=some sh/\P.cellsOf e=sh.length/\lg sh=true
 | .jy _ _=>False
theorem bK.bd:∀{sh:List ay} {zs:List Int},bK sh zs->bd (sh.map ay.dQ) zs
 |[],[],_=>trivial
 |_::_,_::_,h=>⟨h.1.1,h.1.2,bK.bd h.2⟩
 |[],_::_,h=>h.elim
 |_::_,[],h=>h.elim
theorem YB:∀(sh:List ay) (zs:List Int),dm sh zs=o3 ay.val sh zs
 |[],_=>by simp[dm]
 |_::_,[]=>by simp[dm]
 |c::sh,z::zs=>by simp only[dm,Kl,YB sh zs]
theorem YA (k:dj) (lo hi:Int):∀(n:Nat) (zs:List Int),zs.length=n->dm (eX n (.int k lo hi)) zs=zs.map (rO k)
 |0,[],_=>rfl
 |n+1,z::zs,h=>by
  rw[Cy];simp only[dm,cp,YA k lo hi n zs (by simpa using h)];rfl
 |0,_::_,h=>by simp at h
 |n+1,[],h=>by simp at h
theorem Xq (k:dj) (lo hi:Int):∀n:Nat,(eX n (ay.int k lo hi)).map ay.dQ=hW lo hi n
 |0=>rfl
 |n+1=>by rw[Cy,cp,Xq k lo hi n];rfl
theorem am5 {b0:Nat} {w:ai} {t:aQ} {b:bL} {v:az} {x:nJ H} {ps:List qz} (ht:Gv P t b) (n7:Kw P w .any b0 t v) (hd:DataW.Trod enc P w 0 (λ_=>true) true t v x ps) (hw:∀m∈x.weights P t,m<=reachBytes):
 ∃zs,bd b.bds zs/\zs.length=b.num/\b.at (λg=>g<w.heap.size) (λ_=>False) w zs v:=by
 obtain⟨fuel,hf⟩:=hd;have agg:((∃dE,P.underlying t=some (.struct dE))∨∃n e,P.underlying t=some (.array n e))->∃cs,v= .agg cs/\cs.size=P.cellsOf t:=λh=>by
  unfold Kw at n7;rcases h with⟨dE,h⟩|⟨n,e,h⟩
  ·rw[h]at n7;obtain⟨cs,a,b,_⟩:=n7;exact⟨cs,a,b⟩
  ·rw[h]at n7;obtain⟨cs,a,b,_⟩:=n7;exact⟨cs,a,b⟩
 cases b with
 |jy _ _=>exact ht.elim
 |d y=>
  cases y with
  |jC l=>exact ht.elim
  |n9 k c=>exact ht.elim
  |int k lo hi=>
   obtain⟨h1,rfl,rfl⟩:=ht;obtain⟨n,rfl⟩:=okWide_int h1 n7;obtain⟨n',h,hx,Ou⟩:=aaw h1 hf;simp[Cu]at h;subst h;have:=ZK.1 Ou;exact⟨[n],⟨this.1,this.2,trivial⟩,rfl,rfl⟩
  |bool=>
   obtain⟨c,rfl⟩:=okWide_bool ht n7;refine⟨[cond c 1 0],?_,rfl,?_⟩
   ·cases c<;>simp[bL.bds,D.bds,bd]
   ·cases c<;>simp[bL.at,D.val]
  |str=>
   obtain⟨s,rfl⟩:=okWide_string ht n7;obtain⟨jW,h,hx,hs⟩:=au2 ht hf;simp[Cu]at h;subst h;simp only[ct]at hx;have hb:s.data.toList.length<=eN:=hw _ (by rw[hx.1];simp[Kv]);exact⟨[cZ s.data.toList],⟨nR _,my hb,trivial⟩,rfl,by simp[bL.at,D.val,dZ,aG]⟩
  |agg k n lo hi=>
   obtain⟨e,h1,h2,h3⟩:=ht;obtain⟨cs,rfl,hsz⟩:=agg (.inr ⟨n,e,h1⟩);obtain⟨zs,a1,a2⟩:=Jd 8 t _ h2 fuel _ _ hf (by show cs.toList.length=_;simp[hsz,h3]) hw;have a2:=(Fw (by simp[iP,ay.plain]) a1).1 a2;have hl:zs.length=n:=by have:=a1.len;simpa using this
   have hcs:cs=(dm (eX n (.int k lo hi)) zs).toArray:=by rw[<-a2];simp[Cu]
   refine⟨zs,?_,hl,?_⟩
   ·have:=a1.bd;rw[Xq]at this;exact this
   ·show Cz cs=_;rw[hcs,YA k lo hi n zs hl];simp only[D.val,<-hl,Rm]
  |mix l=>
   obtain⟨h1,h2,h3,h4⟩:=ht;obtain⟨cs,rfl,hsz⟩:=agg h1;obtain⟨zs,a1,a2⟩:=Jd 8 t _ h2 fuel _ _ hf (by show cs.toList.length=_;simp[hsz,h3]) hw;have a2:=(Fw h4 a1).1 a2;have hl:zs.length=l.length:=a1.len;have hcs:cs=(dm l zs).toArray:=by rw[<-a2];simp[Cu]
   refine⟨zs,a1.bd,hl,?_⟩;show Cz cs=_;rw[hcs,YB];rfl
 |rd sh=>
  obtain⟨e,h1,h2,h3,sA⟩:=ht;have h4:0<sh.length:=by
   unfold lg at sA;simp only[aO,ov]at sA;exact sA.1.2
  obtain⟨u,rows,hu,r1,⟨r2,_⟩,r3⟩:=XT (Jd 8 e sh h2) h1 h3 h4 hf hw;obtain⟨a,len,cap,rfl⟩:=okWide_slice h1 n7;have hu:u= .slice a len cap:=by simpa [Cu]using hu.symm
  subst hu;refine⟨[rc rows],⟨fa _,oF r2 λr hr=>(r1 r hr).row sA,trivial⟩,rfl,?_⟩;show gq _ _ _ (ab (rc rows)) _;rw[du];exact r3
def Ky (P:bj):List aQ->List bL->Prop
 |[],[]=>True
 |t::ts,b::bs=>Gv P t b/\Ky P ts bs
 |_,_=>False
theorem bL.ab2 {F N:Nat->Prop} {w:ai} (b:bL) {zs l:List Int} {v:az} (h:zs.length=b.num) (ha:b.at F N w zs v):b.at F N w (zs++l) v:=by
 cases b with
 |d x=>
  show v=x.val (zs++l);rw[D.ZH x (l:=l) h];exact ha
 |rd sh=>match zs,h with|[z],_=>exact ha
 |jy sh e=>match zs,h with|[z],_=>exact ha
theorem XQ {b0:Nat} {w:ai}:∀{ts:List aQ} {bs:List bL} {vs:List az} {xs:List (nJ H)} {ps:List qz},Ky P ts bs->(∀(j:Nat) t v,ts[j]?=some t->vs[j]?=some v->Kw P w .any b0 t v)->aaV enc P w 0 (λ_=>true) true ts vs xs ps->
 (∀m∈Kt P ts xs,m<=reachBytes)->∃zs,bd (cd bs) zs/\gb (λg=>g<w.heap.size) (λ_=>False) w bs zs vs/\xs.length=bs.length
 |[],[],[],[],ps,_,_,h,_=>⟨[],trivial,trivial,rfl⟩
 |[],[],_::_,_,_,_,_,h,_=>h.elim
 |[],[],[],_::_,_,_,_,h,_=>h.elim
 |[],_::_,_,_,_,h,_,_,_=>h.elim
 |_::_,[],_,_,_,h,_,_,_=>h.elim
 |_::_,_::_,[],_,_,_,_,h,_=>by cases h
 |_::_,_::_,_::_,[],_,_,_,h,_=>by cases h
 |t::ts,b::bs,v::vs,x::xs,ps,ht,hv,h,hw=>by
  obtain⟨p,q,h1,h2,rfl⟩:=h;simp only[Kt,qC]at hw;obtain⟨zs,a1,a2,a3⟩:=am5 ht.1 (hv 0 t v rfl rfl) h1 λm hm=>hw m (.inl hm);obtain⟨ft,b1,b2,b3⟩:=XQ ht.2 (λj t v h1 h2=>hv (j+1) t v (by simpa using h1) (by simpa using h2)) h2 λm hm=>hw m (.inr hm);refine⟨zs++ft,Wx a1 b1,⟨bL.ab2 b a2 a3,?_⟩,by simp[b3]⟩;rw[<-a2,tg];exact b2
theorem Zy (hl:laidOutB P=true) {W W':ai} (hb:Below W.heap.size W W'):∀{ts:List aQ} {vs:List az} {xs:List (nJ H)} {ps:List qz},(∀t∈ts,P.readableRec t=true/\t<P.types.size)->aaV enc P W 0 (λ_=>true) true ts vs xs ps->(∀x∈ps,x.block<W.heap.size)->
 aaV enc P W' 0 (λb=>decide (b<W.heap.size)) true ts vs xs ps
 |[],[],[],_,_,h,_=>h
 |[],_::_,_,_,_,h,_=>h.elim
 |[],[],_::_,_,_,h,_=>h.elim
 |_::_,[],_,_,_,h,_=>by cases h
 |_::_,_::_,[],_,_,h,_=>by cases h
 |t::ts,v::vs,x::xs,ps,hr,h,hlt=>by
  obtain⟨p,q,h1,h2,rfl⟩:=h;exact⟨p,q,Below.trod hl (hr t (by simp)).1 (hr t (by simp)).2 h1 hb λx hx=>hlt x (List.mem_append.2 (.inl hx)),Zy hl hb (λt ht=>hr t (cD _ ht)) h2 λx hx=>hlt x (List.mem_append.2 (.inr hx)),rfl⟩
theorem acW {C:Checked} {os:Os} {f:cz} {fn:Func} {s:ChangeSpec} {apart:Bool} {X:ai->Array az->Prop}
 (bJ:∀(w w':ai) (args:Array az),w.heap=w'.heap->X w args->X w' args)
 (own:ownKnob C.prog.godebug=none) (started:os.Started) (Pm:C.prog.inits.idxOf? f=none) (Au:C.prog.funcs[f]?=some fn)
 (witness:∃(w:ai) (tape:Tape) (i:Input),w.os=os/\(w.forCall tape i).Shaped C.prog/\i.vars=[]/\au3 C.prog (w.forCall tape i) .any w.heap.size f i/\
   ((s.pre enc C.prog fn [] apart (w.forCall tape i).memory i.args/\X (w.forCall tape i).memory i.args)/\sizedMet enc C.prog fn (RC s) apart (w.forCall tape i).memory i.args)/\({}:Assume).holds C.prog (lone (au4 C.prog f i.args .normal) [] (w.forCall tape i)))
 (contract:∀(W:ai) (base:Nat) (args:Array az) (ds gs:List (nJ H)) (before:List qz),
   (∀(j:Nat) t v,fn.params[j]?=some t->args[j]?=some v->Kw C.prog W .any base t v)->
   DataW.Whole enc C.prog fn.params.toList s.vars apart W args.toList ds gs before->(Kt C.prog (fn.params.toList++s.plain.varTypes C.prog) (ds++gs)).all (·<=reachBytes)=true->X W args->W.ShapedOpen C.prog->
   gU C.prog f args W λe W'=>∃v,e= .returned v/\s.post enc C.prog fn apart true false false W args v W'):
 ReturnsInHanded {} C os f .any (λw args=>(s.pre enc C.prog fn [] apart w args/\X w args)/\sizedMet enc C.prog fn (RC s) apart w args) (s.post enc C.prog fn apart true false false):=by
 refine returnsInHanded_of_calls own started Pm witness ?_;intro w tape i _ kf _ aX gD awA;obtain⟨_,_,_,ad6,D0,_,_,_,_,n7⟩:=aX;have e:ad6=fn:=gH (D0.symm.trans Au);subst e;obtain⟨⟨⟨ds,gs,before,hw,hc⟩,hx⟩,hz⟩:=gD;have ns:=aA1 (w':=w.forCall tape i) (by rfl) hw;refine(contract (w.forCall tape i) w.heap.size i.args ds gs before n7 ns (hz.weights hw) (bJ _ _ _ (by rfl) hx) kf).mono λe W' ⟨v,he,hp⟩=>?_;subst he;exact aA2 hp
theorem ajw {C:Checked} {os:Os} {f:cz} {fn:Func} {s:ChangeSpec} {X:ai->Array az->Prop} {apart:Bool} {ts:List aQ} {tb:aQ} {bs:List bL}
 (bJ:∀(w w':ai) (args:Array az),w.heap=w'.heap->X w args->X w' args)
 (own:ownKnob C.prog.godebug=none) (started:os.Started) (Pm:C.prog.inits.idxOf? f=none) (Au:C.prog.funcs[f]?=some fn)
 (witness:∃(w:ai) (tape:Tape) (i:Input),w.os=os/\(w.forCall tape i).Shaped C.prog/\i.vars=[]/\au3 C.prog (w.forCall tape i) .any w.heap.size f i/\
   ((s.pre enc C.prog fn [] apart (w.forCall tape i).memory i.args/\X (w.forCall tape i).memory i.args)/\sizedMet enc C.prog fn (RC s) apart (w.forCall tape i).memory i.args)/\({}:Assume).holds C.prog (lone (au4 C.prog f i.args .normal) [] (w.forCall tape i)))
 (hp:fn.params.toList=ts) (hr:fn.resultTypes.toList=[tb]) (eE:fn.resultTypes.size=1) (ahY:C.prog.underlying tb=some .bool) (Ex:Ky C.prog ts bs) (pq:laidOutB C.prog=true) (lH:(ts.all λt=>C.prog.readableRec t&&decide (t<C.prog.types.size))=true) (Oo:s.vars=[])
 (hs:∀xs:List (nJ H),xs.length=bs.length->s.fn H xs={results:=[.lit (.bool true)],args:=xs,vars:=[]})
 (contract:∀(W:ai) (zs:List Int) (vs:List az),bd (cd bs) zs->gb (λg=>g<W.heap.size) (λ_=>False) W bs zs vs->X W vs.toArray->W.ShapedOpen C.prog->gU C.prog f vs.toArray W λe W'=>e= .returned (.bool true)/\W.Extends W'):
 ReturnsInHanded {} C os f .any (λw args=>(s.pre enc C.prog fn [] apart w args/\X w args)/\sizedMet enc C.prog fn (RC s) apart w args) (s.post enc C.prog fn apart true false false):=by
 refine acW bJ own started Pm Au witness ?_;intro W base args xs gs before ah2 DI hsz hx kf;have aff:=DI;have hlt:=DI.lt;obtain⟨p,q,hA,Na,rfl,H3,Ed⟩:=DI;rw[hp]at hA;rw[Oo]at Na;obtain⟨rfl,rfl⟩:gs=[]/\q=[]:=by
  cases gs with
  |nil=>exact⟨rfl,Na⟩
  |cons g r=>exact absurd Na (by intro h;cases h)
 have n7:∀(j:Nat) t v,ts[j]?=some t->args.toList[j]?=some v->Kw C.prog W .any base t v:=λj t v h1 h2=>ah2 j t v (by rw[<-hp]at h1;simpa using h1) (by simpa using h2);have e:(fn.params.toList++s.plain.varTypes C.prog)=ts:=by rw[hp];simp[DataSpec.varTypes,aA4,Oo]
 rw[e,ln,pI]at hsz;obtain⟨zs,hz,hat,hlen⟩:=XQ Ex n7 hA λn hn=>by simpa using hsz n hn
 have ni:args=args.toList.toArray:=by simp
 rw[ni]at hx;have nU:gU C.prog f args W λe W'=>e= .returned (.bool true)/\W.Extends W':=by
  have:=contract W zs args.toList hz hat hx kf
  rwa [<-ni]at this
 refine nU.mono λe W' ⟨he,hw⟩=>?_;subst he;have D0:=hs (xs++[]) (by simp[hlen]);have agl:Below W.heap.size W W':=⟨hw.os,hw.tape,hw.output,hw.size,λi hi=>hw.block i hi⟩;refine⟨_,rfl,_,_,_,[],p,[],aff,?_,?_,?_,aje hw _,λh=>by cases h⟩
 ·rw[D0,hr,eE];exact trodAll_mk1 (shut_bool ahY true)
 ·rw[D0,hp,ln];exact Zy pq agl (λt ht=>by
   have:=List.all_eq_true.1 lH t ht;simpa using this) hA λx hx=>hlt x (by simp[hx])
 ·rw[D0,Oo];rfl
section
variable {gl:dz} {wb:ai} {sh:Nat->List Nat×List Nat} {SB:Nat->List (List Int)->List (List Int)->Prop}
def ez (SB:zzS) (res:List bL) (id:Nat):List (List Int)->List (List Int)->Prop:=λzs rs=>bd (cd res) rs.flatten/\SB id zs rs
theorem acq {c:dw} {bc:hT} {cal:dW} {li:cz->Nat->Option cX} {rounds d:Nat} {lsh:Nat->List Nat} {lens:List Nat} (hm:P.follows .mixedOrders=true) (cw:∀r ex ro,fl (b5 sh SB) P gl ⟨wb,r,ex,ro,[]⟩ cal) (hg:eL gl ⟨wb,wb,λ_=>False,λ_=>False,[]⟩)
 (fQ:∀(L:V->Env->Prop) (r:ai) (ro:Nat->Prop),lY (b5 sh SB) L ⟨wb,r,λ_=>False,ro,[]⟩ P bc) (hf:qS P c.f=true) (hl:lens=(sh c.id).1) (hd:sK c.res=(sh c.id).2)
 (hv:iI sh lsh SB (ez SB c.res c.id) lens (cd c.args) c.res (c.tree bc P gl cal li rounds d)):c.dX P wb (b5 sh SB c.id):=by
 refine dw.vW (li:=li) (rounds:=rounds) (d:=d) hm cw hg fQ (enters hf) (r6 λzs hz=>?_);have h:=kx (GO hv) hz;simp only[ez,B3]at h;rw[hl,hd]at h;exact h
theorem ajv {c:dw} {W:ai} {vs:List az} {zs:List Int} (hc:c.dX P W (b5 sh SB c.id)) (jw:c.res=[.d .bool]) (gD:c.pre=0) (hz:bd (cd c.args) zs) (hat:gb (λg=>g<W.heap.size) (λ_=>False) W c.args zs vs) (h1:∀a z,SB c.id a [[z]]->z=1) (h2:(sh c.id).2=[1]):
 gU P c.f vs.toArray W λe W'=>e= .returned (.bool true)/\W.Extends W':=by
 refine(hc.2 _ W vs zs (m4 W) hz (by rw[gD];trivial) hat).mono λe W' ⟨hx,rs,us,hb,hs,hr,he⟩=>⟨?_,hx⟩;rw[jw]at hb hr
 match rs,hb,us,hr,hs,he with
 |[z],hb,[u],hr,hs,he=>
  unfold b5 at hs;rw[h2]at hs;have e1:z=1:=h1 _ z hs;subst e1;have:u= .bool true:=hr.1;subst this;rw[he];rfl
 |[z],hb,[],hr,hs,he=>exact hr.elim
 |[z],hb,_::_::_,hr,hs,he=>exact hr.2.elim
 |[],hb,_,_,_,_=>exact hb.elim
 |_::_::_,hb,_,_,_,_=>exact hb.2.2.elim
end
end Go.ba
namespace Go.ba
open M
def iH (w w':ai) (own:Option Nat):Prop:=
 w'.os=w.os/\w'.tape=w.tape/\w'.output=w.output/\w.heap.size<=w'.heap.size/\∀k:Nat,k<w.heap.size->own≠some k->w'.heap[k]?=w.heap[k]?
structure j4 where
 f:cz
 id:Nat
 sh:List ay
 e:aQ
 args:List bL
 pre:Nat:=0
def gj:az->Option Nat
 | .slice (some a) _ (_+1)=>some a.block
 |_=>none
def j4.dX (P:bj) (wb:ai) (c:j4) (spec:List Int->List Int->Prop):Prop:=
 (∀args w,(callFunc c.f args).run P w= .ok (.enter c.f args) w)/\
 ∀(F:Nat->Prop) (w:ai) (v0:az) (code:Int) (vs:List az) (zs:List Int),wb.Extends w->o8 (λg=>wb.heap.size<=g) w c.sh c.e (ab code) v0->(0<=code/\code<=cc)->bd (cd c.args) zs->uC c.pre (code::zs)->gb F (λ_=>False) w c.args zs vs->(∀g,F g->gj v0≠some g)->
  gU P c.f (v0::vs).toArray w λe w'=>iH w w' (gj v0)/\∃code' v',(0<=code'/\code'<=cc)/\spec (code::zs) [code']/\o8 (λg=>gj v0=some g∨w.heap.size<=g) w' c.sh c.e (ab code') v'/\e= .returned v'
noncomputable def j4.R (c:j4) (n:Nat) (code:aa) (r:List V) (bl:List ao) (k:RK):T:=
 cond (iP c.sh) (sd false bl c.args r n λls n1=>Fa c.pre (code::ls) (.call c.id (code::ls) n1 [(0,cc)] (nP [.jy c.sh c.e] n1 (n1+1) [] bl λn2 us gB=>k n2 (pD us) gB))) .stuck
noncomputable def j4.E (c:j4) (n:Nat) (vs:List V) (bl:List ao) (k:RK):T:=
 match vs with
 | .w (.one (.sl b aM o ro len cap))::r=>match bl[b]? with
  |some ([.rows sh off code cM kind],bS)=>cond (h9 c.sh sh&&aH kind 2&&aa.beq o (.const 0)&&aa.beq off (.const 0)&&aa.beq ro (.const 0)&&aa.beq cap cM&&aH bS.1 c.e)
   (.oK 31 [code,len] (c.R n code r (cO bl b ([.rows sh off code cM 0],bS)) k)) .stuck
  |_=> .stuck
 | .w (.one (.con (.slice none 0 0)))::r=>c.R n (.const 0) r bl k
 | .w (.one (.slc b 0 0 0))::r=>match bl[b]? with
  |some ([],(t,false))=>cond (aH t c.e) (c.R n (.const 0) r bl k) .stuck
  |_=> .stuck
 |_=> .stuck
section
variable {S:Nat->List Int->List Int->Prop} {L:V->Env->Prop} {w0:cP} {P:bj}
theorem Mem.akv {ρ:Env} {m:Nat->Nat} {bl:List ao} {w w':ai} {b:Nat} {sh:List ay} {off code cap:aa} {t:aQ×Bool} (h:Mem w0 ρ m bl w) (hbl:bl[b]?=some ([.rows sh off code cap 2],t)) {own:Option Nat} (hown:∀g,own=some g->0<=cap.den ρ/\g=m b) (hn:iH w w' own):Mem w0 ρ m (cO bl b ([.rows sh off code cap 0],t)) w':=by
 have h1:=h.kill hbl;obtain⟨n1,n2,n3,sJ,qi⟩:=hn;have gR:=h.rws b sh off code cap 2 t hbl (by decide);have hg:∀g,own=some g->w0.b.heap.size<=g/\(w0.ex g∨w0.r.heap.size<=g):=λg hg=>by
  obtain⟨hc,rfl⟩:=hown g hg;obtain⟨_,cells,gS,fz,g1,_,g4⟩:=gR.2 hc;obtain⟨_,_,_,_,g8,g9⟩:=g4 (by decide);exact⟨g8,g9⟩
 have iu:0<=cap.den ρ->aP ρ [.rows sh off code cap 2]=2:=λhc=>ix (by decide) hc;have hblk:∀i:Nat,i<w0.b.heap.size->w'.heap[i]?=w0.b.heap[i]?:=λi hi=>by
  rw[qi i (uX hi h.ext.size) (λe=>by have:=(hg i e).1;omega),h.ext.block i hi]
 have c9:∀(i:Nat) (p:ao),(cO bl b ([.rows sh off code cap 0],t))[i]?=some p->(i=b/\p=([.rows sh off code cap 0],t))∨(i≠b/\bl[i]?=some p):=λi p hi=>by
  have lF:b<bl.length:=(List.getElem?_eq_some_iff.1 hbl).1;rw[iC,oy]at hi;split at hi
  ·rename_i eC;subst eC;simp only[lF,if_true,aL]at hi;exact .inl ⟨rfl,hi.symm⟩
  ·rename_i eC;exact .inr ⟨λe=>eC e.symm,hi⟩
 have vG:∀(i:Nat) (p:ao),i≠b->bl[i]?=some p->aP ρ p.1≠0->w'.heap[m i]?=w.heap[m i]?:=λi p hne hi hk=>by
  refine qi _ (h.lt hi hk) λe=>?_;obtain⟨hc,e⟩:=hown _ e;exact h.ne hbl hi (by rw[iu hc];exact aV _) hk (λe=>hne e.symm) e.symm
 refine⟨⟨n1.trans h.ext.os,n2.trans h.ext.tape,n3.trans h.ext.output,gk h.ext.size sJ,λa ha=>by simp only[jI,hblk a.block ha],λa ha=>by simp only[tf,hblk a.block ha],hblk⟩,n1.trans h.jb,n2.trans h.je,n3.trans h.iw,gk h.eu sJ,λi hi hx=>?_,λi cs t' hi ho=>?_,λi cH dT code' dR eT t' hi=>?_,h1.inj⟩
 ·rw[qi i (uX hi h.eu) (λe=>by rcases(hg i e).2 with h|h;exact hx h;omega)];exact h.gg i hi hx
 ·rcases c9 i _ hi with⟨rfl,cN⟩|⟨hne,hi⟩
  ·cases cN;cases ho
  ·obtain⟨g1,g2,r,hr,g3⟩:=h.blk i cs t' hi ho;exact⟨g1,g2,r,hr,by rw[vG i _ hne hi (by rw[hh ho];decide)];exact g3⟩
 ·rcases c9 i _ hi with⟨rfl,cN⟩|⟨hne,hi⟩
  ·cases cN;exactλhk=>absurd rfl hk
  ·refine(h.rws i cH dT code' dR eT t' hi).grow (λbb ec o ho=>⟨ec.set hbl (by simp[aP]),?_⟩) λhk hc=>vG i _ hne hi (by simp only[ix hk hc];exact hk);rw[qi bb (Array.getElem?_eq_some_iff.1 ho).1 λe=>?_]
   ·exact ho
   ·obtain⟨hc,e⟩:=hown _ e;exact ec.2 b _ hbl (by rw[iu hc];exact aV _) e.symm
theorem j4.Lx {c:j4} {spec:List Int->List Int->Prop} (hc:c.dX P w0.b spec) (bX:∀zs rs,spec zs rs->S c.id zs rs) (n nb:Nat) (code:aa) (r:List V) (kA:List ao) (k:RK) (G:dc) (ρ:Env) (m:Nat->Nat) (w:ai) (X:az) (xs:List az) (R':pK->ai->Prop)
 (N0:kA.length=nb) (qV:b6 n kA.length ρ kA) (xQ:Mem w0 ρ m kA w) (hv:∀v∈r,V.ok n kA.length ρ v) (hr:df ρ m r xs) (r2:code.aY n) (fL:0<=code.den ρ/\code.den ρ<=cc)
 (AA:o8 (λg=>w0.b.heap.size<=g) w c.sh c.e (ab (code.den ρ)) X) (ahd:∀w',iH w w' (gj X)->Mem w0 ρ m kA w') (Ii:∀g,gj X=some g->w0.b.heap.size<=g/\w0.r.heap.size<=g) (N2:∀(i:Nat) (p:ao),kA[i]?=some p->gj X=some (m i)->aP ρ p.1=0) (kb:∀g,gj X=some g->m7 w0 ρ m kA w g)
 (ah:(c.R n code r kA k).holds S L G ρ) (hk:o6 S L w0 k n nb ρ m G R'):gU P c.f (X::xs).toArray w R':=by
 subst N0;unfold j4.R at ah;cases sz:iP c.sh with
 |false=>rw[sz]at ah;exact ah.elim
 |true=>
 rw[sz]at ah;simp only[cond_true]at ah;have DE:wT (λbb=>b7 w0 ρ m kA bb/\gj X≠some bb) w0 ρ m kA w:=λi cH dT code' dR eT t' hi=>by
  cases ho:gj X with
  |none=>exact(xQ.rws i cH dT code' dR eT t' hi).mono λbb h'=>⟨h',λe=>by cases e⟩
  |some g=>exact(kb g ho i cH dT code' dR eT t' hi).mono λbb h'=>⟨h'.1,λe=>by cases e;exact h'.2 rfl⟩
 obtain⟨aD,n1,ls,fi,dL,⟨g1,g2,g3⟩,ah⟩:=Dk (S:=S) (L:=L) DE (λh=>by cases h) qV xQ hv hr G _ ah;obtain⟨gD,ah⟩:=preM_holds ah;simp only[T.holds]at ah;have adD:code.den aD=code.den ρ:=aa.bG dL r2;have hF:∀g,oC (λbb=>b7 w0 ρ m kA bb/\gj X≠some bb) w0 ρ m kA (r.flatMap fG) (r.flatMap jB) g->gj X≠some g:=λg hg he=>by
  rcases hg with⟨⟨b',_,DQ,p,pr,xX,_⟩,_⟩|hg
  ·exact xX (N2 b' p pr (by rw[he,DQ]))
  ·exact hg.2 he
 rw[cp,adD]at gD ah;refine(hc.2 (oC (λbb=>b7 w0 ρ m kA bb/\gj X≠some bb) w0 ρ m kA (r.flatMap fG) (r.flatMap jB)) w X (code.den ρ) xs _ xQ.ext AA fL g2 gD (g3 _ λ_ h=>h) hF).mono ?_
 rintro e w' ⟨iv,code',v',k1,k3,k4,rfl⟩
 have ah:=kx ah (show bd [((0:Int),cc)] [code'] from⟨k1.1,k1.2,trivial⟩) (bX _ _ k3);have hl:=ahd w' iv;have hb1:=qV.ext dL fi (aV kA.length);have c7:agree n1 aD (bf aD n1 [code']):=agree.bf [code'] n1 aD;have hb2:=hb1.ext c7 (Cn n1 1) (aV kA.length);have ya:=(hl.dO qV dL).dO hb1 c7;have hA:fC (bf aD n1 [code']) n1 [code']:=fC.bf aD n1 [code'];have lE:=dL.trans c7 fi;have xA:cR n kA.length ρ m (n1+1) kA.length (bf aD n1 [code']) m:=⟨by omega,lE,aV _,λ_ _=>rfl⟩;have hN:∀g,(gj X=some g∨w.heap.size<=g)->w0.b.heap.size<=g/\w0.r.heap.size<=g:=λg hg=>by
  rcases hg with hg|hg
  ·exact Ii g hg
  ·exact⟨gk xQ.ext.size hg,gk xQ.eu hg⟩
 have ub:∀(i:Nat) (p:ao),kA[i]?=some p->(gj X=some (m i)∨w.heap.size<=m i)->aP (bf aD n1 [code']) p.1=0:=λi p hi hg=>by
  rw[mi (qV p (c0 hi)) lE];rcases hg with hg|hg
  ·exact N2 i p hi hg
  ·by_cases h0:aP ρ p.1=0
   ·exact h0
   ·have:=xQ.lt hi h0;omega
 have agf:∀g,(gj X=some g∨w.heap.size<=g)->m7 w0 (bf aD n1 [code']) m kA w' g:=λg hg=>m7.dO (n':=n) (λi cH dT fh dR eT t' hi=>(DE i cH dT fh dR eT t' hi).grow (λbb ec o ho=>by
  have hlt:=(Array.getElem?_eq_some_iff.1 ho).1;refine⟨⟨ec.1,λe=>?_⟩,by rw[iv.2.2.2.2 bb hlt ec.2];exact ho⟩;rcases hg with hg|hg
  ·exact ec.2 (by rw[e];exact hg)
  ·omega) λhk hc=>by
  have fx:aP ρ [A.rows cH dT fh dR eT]≠0:=by rw[ix hk hc];exact hk
  exact iv.2.2.2.2 _ (xQ.lt hi fx) λe=>fx (N2 i _ hi e)) qV lE
 obtain⟨n',ag,m',jE,gB,p1,br,bT,dh,dD,eB⟩:=r7 (S:=S) (L:=L) (w0:=w0) (F:=λ_=>False) (N:=λg=>gj X=some g∨w.heap.size<=g) (λg hg=>hg.elim) hN (l:=[.jy c.sh c.e]) (us:=[]) (vals:=[v']) (by simp[kz,sz]) hb2 ya hA (show bd [((0:Int),cc)] [code'] from⟨k1.1,k1.2,trivial⟩) (aV _) ⟨k4,trivial⟩ (.inl rfl) (.inr ub) (.inr agf) (λu hu=>by simp at hu) ah;have jw:=Jx (m:=m') (vals:=[v']) dD (by rw[dh];rfl);exact hk n' (pD jE) gB G ag m' w' v' (xA.trans p1) (dG.refl _ _) jw.1 jw.2 br bT eB
theorem iH.ext {w w':ai} (h:iH w w' none):w.Extends w':=by
 obtain⟨n1,n2,n3,sJ,qi⟩:=h;have hblk:∀i:Nat,i<w.heap.size->w'.heap[i]?=w.heap[i]?:=λi hi=>qi i hi (λe=>by cases e);exact⟨n1,n2,n3,sJ,λa ha=>by simp only[jI,hblk a.block ha],λa ha=>by simp only[tf,hblk a.block ha],hblk⟩
theorem j4.tr {c:j4} {spec:List Int->List Int->Prop} (hex:∀g,¬w0.ex g) (hc:c.dX P w0.b spec) (bX:∀zs rs,spec zs rs->S c.id zs rs) (n:Nat) (vs:List V) (bl:List ao) (k:RK) (G:dc) (ρ:Env) (m:Nat->Nat) (w:ai) (xs:List az) (R':pK->ai->Prop)
 (hb:b6 n bl.length ρ bl) (hw:Mem w0 ρ m bl w) (hv:∀v∈vs,V.ok n bl.length ρ v) (hr:df ρ m vs xs) (ah:(c.E n vs bl k).holds S L G ρ) (hk:o6 S L w0 k n bl.length ρ m G R'):
 (callFunc c.f xs.toArray).run P w= .ok (.enter c.f xs.toArray) w/\gU P c.f xs.toArray w R':=by
 refine⟨hc.1 _ _,?_⟩;have z4:0<=(aa.const 0).den ρ/\(aa.const 0).den ρ<=cc:=by rw[aa.aR];exact⟨bB _,by have:=oF (l:=[]) (by simp) (by simp);exact pJ (fa []) this⟩
 have z0:ab ((aa.const 0).den ρ)=[]:=by rw[aa.aR];exact fA
 unfold j4.E at ah;split at ah
 ·rename_i b aM o ro len cap r;split at ah
  rotate_left
  ·exact ah.elim
  rename_i sh off code cM kind bS hbl;cases hgd:(h9 c.sh sh&&aH kind 2&&aa.beq o (.const 0)&&aa.beq off (.const 0)&&aa.beq ro (.const 0)&&aa.beq cap cM&&aH bS.1 c.e)with
  |false=>rw[hgd]at ah;exact ah.elim
  |true=>
  rw[hgd]at ah;simp only[cond_true]at ah;simp only[aO]at hgd;obtain⟨⟨⟨⟨⟨⟨b0,k2⟩,b1⟩,b2⟩,b3⟩,b4⟩,pQ⟩:=hgd;have b0:=oW b0;have pQ:=bx pQ;have k2:=bx k2;have b1:=aa.beq_eq b1;have b2:=aa.beq_eq b2;have b3:=aa.beq_eq b3;have b4:=aa.beq_eq b4;subst k2;subst b1;subst b2;subst b3;subst b4;subst b0
  match xs,hr with
  |X::xs,hr=>
  obtain⟨D7,ah⟩:=ah;have D7:len.den ρ=(ab (code.den ρ)).length:=D7;have sA:(A.sl b aM (.const 0) (.const 0) len cap).ok n bl.length ρ:=hv (.w (.one (.sl b aM (.const 0) (.const 0) len cap))) (by simp);obtain⟨ptr,e1,e2,e3⟩:=oi (m:=m) sA;have qc:X=(A.sl b aM (.const 0) (.const 0) len cap).den ρ m:=hr.1;rw[e1]at qc;obtain⟨x1,⟨x2,x3,eP,iE⟩,⟨iS,ot,lk,nH⟩,⟨oo,oq⟩,fB,gT⟩:=sA;rw[aa.aR]at oq;have gR:=hw.rws b c.sh (.const 0) code cap 2 bS hbl (by decide);have e4:(A.rows c.sh (.const 0) code cap 2).ok n bl.length ρ:=hb _ (c0 hbl) _ (by simp);obtain⟨⟨r1,r2,r3⟩,fL,cS⟩:=e4;have lF:b<bl.length:=(List.getElem?_eq_some_iff.1 hbl).1;have Ic:(len.den ρ).toNat=(ab (code.den ρ)).length:=by omega
  have sz:iP c.sh=true:=by
   cases sz:iP c.sh with
   |true=>rfl
   |false=>unfold j4.R at ah;rw[sz]at ah;exact ah.elim
  have hown:(∀g,gj X=some g->0<=cap.den ρ/\g=m b)/\o8 (λg=>w0.b.heap.size<=g) w c.sh c.e (ab (code.den ρ)) X/\(∀g,gj X=some g->w0.b.heap.size<=g/\w0.r.heap.size<=g):=by
   by_cases hc0:cap.den ρ<0
   ·have hl0:=fB hc0;have bJ:X= .slice (lR (cap.den ρ) (m b)) 0 0:=by rw[qc,e2 hc0,if_pos hc0,hl0];rfl
    have Eh:∀g,gj X=some g->False:=λg h=>by
     rw[bJ]at h;cases hz:lR (cap.den ρ) (m b)with
     |none=>rw[hz]at h;cases h
     |some a=>rw[hz]at h;cases h
    exact⟨λg h=>(Eh g h).elim,Or.inl ⟨⟨_,bJ⟩,gR.1 hc0⟩,λg h=>(Eh g h).elim⟩
   ·obtain⟨_,cells,gS,fz,g1,⟨g2,g3⟩,g4⟩:=gR.2 (by omega);obtain⟨g0,g5,g6,g7,g8,g9⟩:=g4 (by decide);have g6:=g6.two;subst g0 g6;rw[aa.aR]at g3;have bJ:X= .slice (some ⟨m b,0,none⟩) (ab (code.den ρ)).length (cap.den ρ).toNat:=by
     rw[qc,e3 (by omega),if_neg hc0,Ic,aa.aR];simp
    have gY:=gT (by omega);have Eh:∀g,gj X=some g->g=m b:=λg h=>by
     rw[bJ]at h;unfold gj at h;split at h
     ·rename_i heq;injection heq with h1 h2 h3
      injection h1 with h1
      rw[<-h1]at h;cases h;rfl
     ·cases h
    refine⟨(λg h=>⟨by omega,Eh g h⟩),Or.inr ⟨m b,(cap.den ρ).toNat,cells,bJ,⟨by omega,by omega⟩,g8,by rw[<-pQ];exact g1,(mA sz).1 g3,g7⟩,(λg h=>by
     rw[Eh g h];rcases g9 with h|h
     ·exact absurd h (hex _)
     ·exact⟨g8,h⟩)⟩
  obtain⟨nq,AA,Ii⟩:=hown;have Vb:=km bl b ([.rows c.sh (.const 0) code cap 0],bS);refine j4.Lx (S:=S) (L:=L) (w0:=w0) hc bX n bl.length code r (cO bl b ([.rows c.sh (.const 0) code cap 0],bS)) k G ρ m w X xs R' Vb ?_ (hw.kill hbl) (λv hv'=>by rw[Vb];exact hv v (cD _ hv')) hr.2 r2 fL AA (λw' hn=>hw.akv hbl nq hn) Ii (λi p hi hg=>?_) (λg hg=>by obtain⟨hc,rfl⟩:=nq g hg;exact hw.SZ hbl (aV 2) hc) ah hk
  ·refine hb.set ?_;intro y hy;have hy:y= .rows c.sh (.const 0) code cap 0:=by simpa using hy
   subst hy;exact hb _ (c0 hbl) (.rows c.sh (.const 0) code cap 2) (by simp)
  ·by_cases h0:aP ρ p.1=0
   ·exact h0
   ·exfalso;obtain⟨hc,ahm⟩:=nq _ hg;have c9:i≠b/\bl[i]?=some p:=by
     rw[iC,oy]at hi;split at hi
     ·rename_i eC;subst eC;simp only[lF,if_true,aL]at hi;subst hi;exact absurd (by simp[aP]) h0
     ·rename_i eC;exact⟨λe=>eC e.symm,hi⟩
    exact hw.ne hbl c9.2 (by rw[ix (by decide) hc];exact aV _) h0 (λe=>c9.1 e.symm) ahm.symm
 ·rename_i r
  match xs,hr with
  |X::xs,hr=>
  have bJ:X= .slice none 0 0:=hr.1;subst bJ;exact j4.Lx (S:=S) (L:=L) (w0:=w0) hc bX n bl.length (.const 0) r bl k G ρ m w _ xs R' rfl hb hw (λv hv'=>hv v (cD _ hv')) hr.2 (aa.cC _ _) z4 (Or.inl ⟨⟨_,rfl⟩,z0⟩) (λw' hn=>hw.grow hn.ext) (λg h=>by cases h) (λi p hi h=>by cases h) (λg h=>by cases h) ah hk
 ·rename_i b r;split at ah
  rotate_left
  ·exact ah.elim
  rename_i t hbl;cases Ev:aH t c.e with
  |false=>rw[Ev]at ah;exact ah.elim
  |true=>
   rw[Ev]at ah;simp only[cond_true]at ah;have Ev:=bx Ev;subst Ev
   match xs,hr with
   |X::xs,hr=>
   have bJ:X= .slice (some ⟨m b,0,none⟩) 0 0:=hr.1;subst bJ;obtain⟨g1,g2,yN,g3,g4⟩:=hw.blk b [] (c.e,false) hbl rfl;have g3:=g3 rfl;subst g3;refine j4.Lx (S:=S) (L:=L) (w0:=w0) hc bX n bl.length (.const 0) r bl k G ρ m w _ xs R' rfl hb hw (λv hv'=>hv v (cD _ hv')) hr.2 (aa.cC _ _) z4 (Or.inr ⟨m b,0,#[],?_,⟨?_,by decide⟩,g1,by simpa using g4,?_,by simp⟩) (λw' hn=>hw.grow hn.ext) (λg h=>by cases h) (λi p hi h=>by cases h) (λg h=>by cases h) ah hk
   ·rw[z0];rfl
   ·rw[z0];exact aV _
   ·rw[z0];exact⟨λ_ h=>by simp at h,[],[],by simp[bn],rfl⟩
 ·exact ah.elim
noncomputable def Ix:List j4->hT->hT
 |[],g,f=>g f
 |c::r,g,f=>cond (aH c.f f) (some c.E) (Ix r g f)
theorem Wo {wb r:ai} {ro:Nat->Prop} {bc:hT} (fQ:lY S L ⟨wb,r,λ_=>False,ro,[]⟩ P bc):∀{l:List j4},(∀c∈l,c.dX P wb (S c.id))->lY S L ⟨wb,r,λ_=>False,ro,[]⟩ P (Ix l bc)
 |[],_=>fQ
 |c::l,h=>λf g hf=>by
  unfold Ix at hf;cases hb:aH c.f f with
  |true=>
   rw[hb]at hf;simp only[cond_true,aL]at hf;have:=bx hb;subst this;subst hf;intro n vs bl k G ρ m w xs R' h1 h2 h3 h4 h5 h6;exact j4.tr (w0:=⟨wb,r,λ_=>False,ro,[]⟩) (λ_ h=>h) (h c (by simp)) (λ_ _ h=>h) n vs bl k G ρ m w xs R' h1 h2 h3 h4 h5 h6
  |false=>
   rw[hb]at hf;exact Wo fQ (λc hc=>h c (cD _ hc)) f g hf
end
end Go.ba
namespace Go.ba
open M
def kV:List Nat->List az->List az
 |[],l=>l
 |0::r,v::l=>v::kV r l
 |0::_,[]=>[]
 |(k+1)::r,l=> .agg (l.take (k+1)).toArray::kV r (l.drop (k+1))
def BB:List W->Option (List A)
 |[]=>some []
 | .one a::r=>match BB r with|some l=>some (a::l)|none=>none
 | .agg _::_=>none
def se:List Nat->List W->Option (List W)
 |[],l=>some l
 |0::r,u::l=>match se r l with|some x=>some (u::x)|none=>none
 |0::_,[]=>some []
 |(k+1)::r,l=>match BB (l.take (k+1)),se r (l.drop (k+1))with|some s,some x=>some (.agg s::x)|_,_=>none
theorem XP {n nb:Nat} {ρ:Env} {m:Nat->Nat}:∀{l:List W} {s:List A},BB l=some s->(∀u∈l,W.ok n nb ρ u)->(∀a∈s,A.ok n nb ρ a)/\s.map (A.den ρ m)=l.map (W.den ρ m)
 |[],s,h,_=>by cases h;exact⟨λ_ h=>by simp at h,rfl⟩
 | .one a::r,s,h,hu=>by
  unfold BB at h;cases h1:BB r with
  |none=>rw[h1]at h;cases h
  |some l=>
   rw[h1]at h;cases h;obtain⟨g1,g2⟩:=XP (m:=m) h1 λu n6=>hu u (cD _ n6);refine⟨λb hb=>?_,by rw[cp,cp,g2];rfl⟩;rcases List.mem_cons.1 hb with rfl|hb
   ·exact hu _ (th ..)
   ·exact g1 b hb
 | .agg _::_,s,h,_=>by cases h
theorem HJ {n nb:Nat} {ρ:Env} {m:Nat->Nat}:∀{g:List Nat} {l x:List W},(∀u∈l,W.ok n nb ρ u)->se g l=some x->(∀u∈x,W.ok n nb ρ u)/\x.map (W.den ρ m)=kV g (l.map (W.den ρ m))
 |[],l,x,hu,h=>by cases h;exact⟨hu,rfl⟩
 |0::r,u::l,x,hu,h=>by
  unfold se at h;cases h1:se r l with
  |none=>rw[h1]at h;cases h
  |some y=>
   rw[h1]at h;cases h;obtain⟨g1,g2⟩:=HJ (m:=m) (λu n6=>hu u (cD _ n6)) h1;refine⟨λb hb=>?_,by rw[cp,cp,g2];rfl⟩;rcases List.mem_cons.1 hb with rfl|hb
   ·exact hu _ (th ..)
   ·exact g1 b hb
 |0::_,[],x,hu,h=>by cases h;exact⟨λ_ h=>by simp at h,rfl⟩
 |(k+1)::r,l,x,hu,h=>by
  unfold se at h;cases h1:BB (l.take (k+1))with
  |none=>rw[h1]at h;cases h
  |some s=>
   cases h2:se r (l.drop (k+1))with
   |none=>rw[h1,h2]at h;cases h
   |some y=>
    rw[h1,h2]at h;cases h;obtain⟨g1,g2⟩:=XP (m:=m) h1 λu n6=>hu u (j1 n6);obtain⟨k1,k2⟩:=HJ (m:=m) (λu n6=>hu u (List.mem_of_mem_drop n6)) h2;refine⟨λb hb=>?_,?_⟩
    ·rcases List.mem_cons.1 hb with rfl|hb
     ·exact g1
     ·exact k1 b hb
    ·show Cz (s.map (A.den ρ m)).toArray::y.map (W.den ρ m)= .agg ((l.map (W.den ρ m)).take (k+1)).toArray::kV r ((l.map (W.den ρ m)).drop (k+1));rw[g2,k2,y6,y7]
noncomputable def Dn (g:List Nat) (us:List W) (k:List W->T):T:=match se g us with|some x=>k x|none=> .stuck
theorem gK_holds {S:Nat->List Int->List Int->Prop} {L:V->Env->Prop} {G:dc} {ρ:Env} {g:List Nat} {us:List W} {k:List W->T} (h:(Dn g us k).holds S L G ρ):∃x,se g us=some x/\(k x).holds S L G ρ:=by
 unfold Dn at h;cases h1:se g us with
 |none=>rw[h1]at h;exact h.elim
 |some x=>rw[h1]at h;exact⟨x,rfl,h⟩
def qs:List Nat->List W->Option (List W)
 |[],l=>some l
 |0::r,u::l=>match qs r l with|some x=>some (u::x)|none=>none
 |(k+1)::r,.agg s::l=>cond (aH s.length (k+1)) (match qs r l with|some x=>some (s.map W.one++x)|none=>none) none
 |_,_=>none
theorem J0 {n nb:Nat} {ρ:Env} {m:Nat->Nat}:∀{g:List Nat} {l x:List W},(∀u∈l,W.ok n nb ρ u)->qs g l=some x->(∀u∈x,W.ok n nb ρ u)/\kV g (x.map (W.den ρ m))=l.map (W.den ρ m)
 |[],l,x,hu,h=>by cases h;exact⟨hu,rfl⟩
 |0::r,u::l,x,hu,h=>by
  unfold qs at h;cases h1:qs r l with
  |none=>rw[h1]at h;cases h
  |some y=>
   rw[h1]at h;cases h;obtain⟨g1,g2⟩:=J0 (m:=m) (λu n6=>hu u (cD _ n6)) h1;refine⟨λb hb=>?_,by rw[cp,cp,<-g2];rfl⟩;rcases List.mem_cons.1 hb with rfl|hb
   ·exact hu _ (th ..)
   ·exact g1 b hb
 |0::_,[],x,_,h=>by simp[qs]at h
 |(k+1)::r,.agg s::l,x,hu,h=>by
  unfold qs at h;cases hc:aH s.length (k+1)with
  |false=>rw[hc]at h;cases h
  |true=>
   rw[hc]at h;simp only[cond_true]at h;have hc:=bx hc;cases h1:qs r l with
   |none=>rw[h1]at h;cases h
   |some y=>
    rw[h1]at h;cases h;obtain⟨g1,g2⟩:=J0 (m:=m) (λu n6=>hu u (cD _ n6)) h1;have hs:∀a∈s,A.ok n nb ρ a:=hu _ (th ..);refine⟨λb hb=>?_,?_⟩
    ·rcases List.mem_append.1 hb with hb|hb
     ·obtain⟨a,ha,rfl⟩:=List.mem_map.1 hb;exact hs a ha
     ·exact g1 b hb
    ·have e:(s.map W.one++y).map (W.den ρ m)=s.map (A.den ρ m)++y.map (W.den ρ m):=by rw[fY,kN];rfl
     rw[e];show Cz ((s.map (A.den ρ m)++y.map (W.den ρ m)).take (k+1)).toArray::kV r ((s.map (A.den ρ m)++y.map (W.den ρ m)).drop (k+1))=Cz (s.map (A.den ρ m)).toArray::l.map (W.den ρ m);rw[<-hc,<-j2 (as:=s) (f:=A.den ρ m),Rr,tg,g2]
 |(k+1)::_,.one _::_,x,_,h=>by simp[qs]at h
 |(k+1)::_,[],x,_,h=>by simp[qs]at h
def mV:List Nat->List V->Option (List V)
 |[],l=>some l
 |0::r,u::l=>match mV r l with|some x=>some (u::x)|none=>none
 |(k+1)::r,.w (.agg s)::l=>cond (aH s.length (k+1)) (match mV r l with|some x=>some (s.map (λa=> .w (.one a))++x)|none=>none) none
 |_,_=>none
theorem St {ρ:Env} {m:Nat->Nat}:∀{a b:List V} {x y:List az},df ρ m a x->df ρ m b y->df ρ m (a++b) (x++y)
 |[],_,[],_,_,h=>h
 |v::a,b,x::xs,y,h1,h2=>⟨h1.1,St h1.2 h2⟩
 |[],_,_::_,_,h,_=>h.elim
 |_::_,_,[],_,h,_=>h.elim
theorem Sv {ρ:Env} {m:Nat->Nat}:∀s:List A,df ρ m (s.map λa=>V.w (.one a)) (s.map (A.den ρ m))
 |[]=>trivial
 |a::s=>⟨rfl,Sv s⟩
theorem QM {n nb:Nat} {ρ:Env} {m:Nat->Nat}:∀{g:List Nat} {l x:List V} {xs:List az},(∀v∈l,V.ok n nb ρ v)->df ρ m l xs->mV g l=some x->(∀v∈x,V.ok n nb ρ v)/\∃ft,df ρ m x ft/\kV g ft=xs
 |[],l,x,xs,hu,hr,h=>by cases h;exact⟨hu,xs,hr,rfl⟩
 |0::r,u::l,x,[],hu,hr,h=>hr.elim
 |0::r,u::l,x,v::xs,hu,hr,h=>by
  unfold mV at h;cases h1:mV r l with
  |none=>rw[h1]at h;cases h
  |some y=>
   rw[h1]at h;cases h;obtain⟨g1,ft,g2,g3⟩:=QM (λu n6=>hu u (cD _ n6)) hr.2 h1;refine⟨λb hb=>?_,v::ft,⟨hr.1,g2⟩,by rw[<-g3];rfl⟩;rcases List.mem_cons.1 hb with rfl|hb
   ·exact hu _ (th ..)
   ·exact g1 b hb
 |0::_,[],x,_,_,_,h=>by simp[mV]at h
 |(k+1)::r,.w (.agg s)::l,x,[],hu,hr,h=>hr.elim
 |(k+1)::r,.w (.agg s)::l,x,v::xs,hu,hr,h=>by
  unfold mV at h;cases hc:aH s.length (k+1)with
  |false=>rw[hc]at h;cases h
  |true=>
   rw[hc]at h;simp only[cond_true]at h;have hc:=bx hc;cases h1:mV r l with
   |none=>rw[h1]at h;cases h
   |some y=>
    rw[h1]at h;cases h;obtain⟨g1,ft,g2,g3⟩:=QM (λu n6=>hu u (cD _ n6)) hr.2 h1;have hs:∀a∈s,A.ok n nb ρ a:=hu _ (th ..);have hv:v=Cz (s.map (A.den ρ m)).toArray:=hr.1;refine⟨λb hb=>?_,s.map (A.den ρ m)++ft,St (Sv s) g2,?_⟩
    ·rcases List.mem_append.1 hb with hb|hb
     ·obtain⟨a,ha,rfl⟩:=List.mem_map.1 hb;exact hs a ha
     ·exact g1 b hb
    ·show Cz ((s.map (A.den ρ m)++ft).take (k+1)).toArray::kV r ((s.map (A.den ρ m)++ft).drop (k+1))=v::xs;rw[<-hc,<-j2 (as:=s) (f:=A.den ρ m),Rr,tg,g3,hv]
 |(k+1)::_,[],x,_,_,_,h=>by simp[mV]at h
 |(k+1)::_,.w (.one _)::_,x,_,_,_,h=>by simp[mV]at h
 |(k+1)::_,.eV _::_,x,_,_,_,h=>by simp[mV]at h
 |(k+1)::_,.any::_,x,_,_,_,h=>by simp[mV]at h
 |(k+1)::_,.oS .. ::_,x,_,_,_,h=>by simp[mV]at h
 |(k+1)::_,.mE .. ::_,x,_,_,_,h=>by simp[mV]at h
structure eK where
 c:dw
 vw:List Nat
 gr:List Nat
def eK.dX (P:bj) (wb:ai) (c:eK) (spec:List Int->List Int->Prop):Prop:=
 (∀args w,(callFunc c.c.f args).run P w= .ok (.enter c.c.f args) w)/\
 ∀(F:Nat->Prop) (w:ai) (vs:List az) (zs:List Int),wb.Extends w->bd (cd c.c.args) zs->uC c.c.pre zs->gb F (λ_=>False) w c.c.args zs vs->
  gU P c.c.f (kV c.vw vs).toArray w λe w'=>w.Extends w'/\∃rs us,bd (cd c.c.res) rs/\spec zs rs/\gb (λg=>F g∨w.heap.size<=g) (λg=>w.heap.size<=g) w' c.c.res rs us/\e= .returned (lh (kV c.gr us))
noncomputable def eK.qE (c:eK) (n:Nat) (vs:List V) (bl:List ao) (k:RK):T:=
 sd true bl c.c.args vs n λls n1=>cond (kz c.c.res&&(!(c.c.res.any bL.jg)||oe vs)) (Fa c.c.pre ls (.call c.c.id ls n1 (cd c.c.res) (nP c.c.res n1 (n1+(cd c.c.res).length) [] (cond (c.c.res.any bL.jg) (tQ (vs.flatMap fG) bl) bl) λn2 us gB=>Dn c.gr us λx=>k n2 (pD x) gB))) .stuck
noncomputable def eK.Lg (c:eK) (n:Nat) (vs:List V) (bl:List ao) (k:RK):T:=
 cond (c.c.res.any bL.jg&& !oe vs) (qo c.c.args vs bl n λq n1=>c.qE n1 q.1 q.2 k) (c.qE n vs bl k)
noncomputable def eK.Sj (c:eK) (n:Nat) (vs:List V) (bl:List ao) (k:RK):T:=
 c.Lg n vs bl k
noncomputable def eK.E (c:eK) (n:Nat) (vs:List V) (bl:List ao) (k:RK):T:=match mV c.vw vs with
 |some us=>c.Sj n us bl k
 |none=> .stuck
noncomputable def PV (bl:List ao) (gr:List Nat) (ds:List bL) (v:V):M (List O):=
 match v with
 | .w u=>match qs gr [u]with|some ws=>BQ bl ds ws|none=>fail
 | .eV l=>cond (aH l.length 1) fail (match qs gr l with|some ws=>BQ bl ds ws|none=>fail)
 |_=>fail
noncomputable def eK.tree (bc:hT) (P:bj) (gl:dz) (cal:dW) (li:cz->Nat->Option cX) (rounds d:Nat) (c:eK):T:=
 cond (kz c.c.args&& !(c.c.args.any bL.jT)) (E9 c.c.pre ((c8 (cd c.c.args).length).map yq) (nP c.c.args 0 (cd c.c.args).length [] [] λn us bl=>Dn c.vw us λx=>xd bc P gl cal li rounds d c.c.f n (x.map V.w) bl λn' v aJ=>PV aJ c.gr c.c.res v n' λos _=> .leaf (sN os))) .stuck
def Mv:List bL->List V->Bool
 | .d (.n9 _ c)::r,.w (.one (.int _ x))::s=>match x.l.dt with
  |some d=>decide (d=c)&&Mv r s
  |none=>false
 |_::r,_::s=>Mv r s
 |_,_=>true
def Mw (p:eK) (vs:List V):Bool:=match mV p.vw vs with
 |some us=>Mv p.c.args us
 |none=>false
noncomputable def tR:List eK->hT->hT
 |[],bc=>bc
 |p::r,bc=>λf=>cond (aH p.c.f f) (some λn vs bl k=>cond (Mw p vs) (p.E n vs bl k) (match tR r bc f with
  |some g=>g n vs bl k
  |none=> .stuck)) (tR r bc f)
section
variable {S:Nat->List Int->List Int->Prop} {L:V->Env->Prop} {w0:cP} {P:bj}
theorem apb {gr:List Nat} {ds:List bL} {v:V} {val:az} {n:Nat} {ρ:Env} {m:Nat->Nat} {bl:List ao} {w:ai} (hex:∀g,¬w0.ex g) (hb:b6 n bl.length ρ bl) (hw:Mem w0 ρ m bl w) (hv:v.ok n bl.length ρ) (hr:v.rel ρ m val):
 ar S L (PV bl gr ds v) n ρ λag n' os=>∃us,val=lh (kV gr us)/\gb (F0 w0) (λg=>w0.r.heap.size<=g) w ds (os.map (O.den ag)) us:=by
 unfold PV;split
 ·rename_i u;split
  ·rename_i ws h;obtain⟨g1,g2⟩:=J0 (m:=m) (λx hx=>by simp at hx;subst hx;exact hv) h;refine(Jw hex hb hw g1).mono λaD n1 os hn ha ⟨k1,k2⟩=>⟨_,?_,k2⟩;rw[g2];exact hr
  ·exact ar.fail
 ·rename_i l;cases hc:aH l.length 1 with
  |true=>exact ar.fail
  |false=>
   simp only[cond_false];split
   ·rename_i ws h;obtain⟨g1,g2⟩:=J0 (m:=m) hv h;refine(Jw hex hb hw g1).mono λaD n1 os hn ha ⟨k1,k2⟩=>⟨_,?_,k2⟩;rw[g2];have hr:val= .tuple (l.map (W.den ρ m)).toArray:=hr;rw[hr];unfold lh;split
    ·rename_i x hx;exfalso;have hl:l.length=1:=by have:=congrArg kt hx;simpa using this
     rw[hl]at hc;cases hc
    ·rfl
   ·exact ar.fail
 ·exact ar.fail
theorem eK.Gz {c:eK} {spec:List Int->List Int->Prop} {f:cz} {CH:Array az} (bX:∀zs rs,spec zs rs->S c.c.id zs rs) (n:Nat) (vs:List V) (bl:List ao) (k:RK) (G:dc) (ρ:Env) (m:Nat->Nat) (w:ai) (xs:List az) (R':pK->ai->Prop)
 (hc:∀zs,bd (cd c.c.args) zs->uC c.c.pre zs->gb (oB w0 ρ m bl (vs.flatMap fG) (vs.flatMap jB)) (λ_=>False) w c.c.args zs xs->
   gU P f CH w λe w'=>w.Extends w'/\∃rs us,bd (cd c.c.res) rs/\spec zs rs/\gb (λg=>oB w0 ρ m bl (vs.flatMap fG) (vs.flatMap jB) g∨w.heap.size<=g) (λg=>w.heap.size<=g) w' c.c.res rs us/\e= .returned (lh (kV c.gr us)))
 (hb:b6 n bl.length ρ bl) (hw:Mem w0 ρ m bl w) (hv:∀v∈vs,V.ok n bl.length ρ v) (hr:df ρ m vs xs) (ah:(c.qE n vs bl k).holds S L G ρ) (hk:o6 S L w0 k n bl.length ρ m G R'):
 gU P f CH w R':=by
 unfold eK.qE at ah;obtain⟨aD,n1,ls,fi,dL,⟨g1,g2,g3⟩,ah⟩:=MA (S:=S) (L:=L) hb hw hv hr G _ ah;cases hq:(kz c.c.res&&(!(c.c.res.any bL.jg)||oe vs))with
 |false=>rw[hq]at ah;exact ah.elim
 |true=>
  rw[hq]at ah;simp only[cond_true]at ah;obtain⟨gD,ah⟩:=preM_holds ah;simp only[T.holds]at ah;simp only[aO,ow,fX]at hq;refine(hc _ g2 gD (g3 _ λ_ h=>h)).mono ?_
  rintro e w' ⟨he,rs,us,r1,r2,r3,rfl⟩
  have ah:=kx ah r1 (bX _ _ r2);have hb1:=hb.ext dL fi (aV bl.length);have Ot:=(hw.grow he).dO hb dL;have c7:agree n1 aD (bf aD n1 rs):=agree.bf rs n1 aD;have hb2:=hb1.ext c7 (Cn n1 (cd c.c.res).length) (aV bl.length);have ya:=Ot.dO hb1 c7;have hA:fC (bf aD n1 rs) n1 rs:=fC.bf aD n1 rs;have Eo:rs.length=(cd c.c.res).length:=gi r1;have lE:=dL.trans c7 fi;have xA:cR n bl.length ρ m (n1+(cd c.c.res).length) bl.length (bf aD n1 rs) m:=⟨by omega,lE,aV _,λ_ _=>rfl⟩;have fq:∀(i:Nat) (p:ao),bl[i]?=some p->aP (bf aD n1 rs) p.1=aP ρ p.1:=λi p hi=>mi (hb p (c0 hi)) lE;have ub:∀(i:Nat) (p:ao),bl[i]?=some p->w.heap.size<=m i->aP ρ p.1=0:=λi p hi fI=>by
   by_cases h0:aP ρ p.1=0
   ·exact h0
   ·have:=hw.lt hi h0;omega
  have fin:∀aJ:List ao,b6 (n1+(cd c.c.res).length) aJ.length (bf aD n1 rs) aJ->Mem w0 (bf aD n1 rs) m aJ w'->aJ.length=bl.length->
   (∀(i:Nat) (p:ao),aJ[i]?=some p->(oB w0 ρ m bl (vs.flatMap fG) (vs.flatMap jB) (m i)∨w.heap.size<=m i)->(c.c.res.any bL.jg)=true->aP (bf aD n1 rs) p.1<=1)->
   (∀(i:Nat) (p:ao),aJ[i]?=some p->w.heap.size<=m i->aP (bf aD n1 rs) p.1=0)->(∀g,w.heap.size<=g->m7 w0 (bf aD n1 rs) m aJ w' g)->
   (nP c.c.res n1 (n1+(cd c.c.res).length) [] aJ λn2 us gB=>Dn c.gr us λx=>k n2 (pD x) gB).holds S L G (bf aD n1 rs)->R' (.returned (lh (kV c.gr us))) w':=λaJ hb' ns hlen cG No kb ah=>by
   have hF:∀g,(oB w0 ρ m bl (vs.flatMap fG) (vs.flatMap jB) g∨w.heap.size<=g)->w0.ex g∨w0.ro g∨w0.r.heap.size<=g:=λg hg=>by
    rcases hg with(hg|hg)|hg
    ·exact hg.2
    ·exact hg.1
    ·exact .inr (.inr (gk hw.eu hg))
   have hN:∀g,w.heap.size<=g->w0.b.heap.size<=g/\w0.r.heap.size<=g:=λg hg=>⟨gk hw.ext.size hg,gk hw.eu hg⟩;have h1:(c.c.res.all λb=> !b.jg)=true∨∀(i:Nat) (p:ao),aJ[i]?=some p->(oB w0 ρ m bl (vs.flatMap fG) (vs.flatMap jB) (m i)∨w.heap.size<=m i)->aP (bf aD n1 rs) p.1<=1:=by
    cases lH:c.c.res.any bL.jg with
    |true=>exact .inr λi p hi hf=>cG i p hi hf lH
    |false=>
     left
     rw[pI];intro b hb;cases dS:b.jg with
     |false=>rfl
     |true=>rw[List.any_eq_true.2 ⟨b,hb,dS⟩]at lH;cases lH
   obtain⟨n',ag,m',jE,gB,p1,br,bT,dh,dD,eB⟩:=r7 (S:=S) (L:=L) hF hN (l:=c.c.res) (us:=[]) (vals:=us) hq.1 hb' ns hA r1 (aV _) r3 h1 (.inr No) (.inr kb) (λu hu=>by simp at hu) ah;obtain⟨x,hx1,hx2⟩:=gK_holds eB;obtain⟨kL,mY⟩:=HJ (m:=m') dD hx1;have jw:=Jx (m:=m') kL (vals:=kV c.gr us) (by rw[mY];congr 1);exact hk n' (pD x) gB G ag m' w' (lh (kV c.gr us)) (xA.trans (hlen▸p1)) (dG.refl _ _) jw.1 jw.2 br bT hx2
  cases lH:c.c.res.any bL.jg with
  |false=>
   rw[lH]at ah;exact fin bl hb2 ya rfl (λ_ _ _ _ h=>by rw[lH]at h;cases h) (λi p hi fI=>by rw[fq i p hi];exact ub i p hi fI) (λg hg=>(hw.vl he hg).dO hb lE) ah
  |true=>
   rw[lH]at ah hq;obtain⟨f1,f2,f3,f4⟩:=zX (bs:=vs.flatMap fG) ya hb2;have jS:oe vs=true:=by
    rcases hq.2 with h|h
    ·cases h
    ·exact h
   refine fin _ (by rw[f3];exact f2) f1 f3 (λi p hi hf _=>?_) (λi p hi fI=>?_) (λg hg=>(zX (bs:=vs.flatMap fG) (hw.dO hb lE) hb2).1.vl he hg) ah
   ·obtain⟨p',h1,h2,h3⟩:=f4 i p hi;rw[fq i p' h1]at h2;rcases hf with(⟨⟨b,vA,DQ,q,nZ,n4,Oe⟩,_⟩|nY)|fI
    rotate_left
    ·rcases mx (aP ρ p'.1) 2 with a8|a8
     ·omega
     ·exact absurd rfl (nY.2 i p' h1 a8)
    rotate_left
    ·obtain⟨aM,o,ro,len,cap,kE⟩:=Po jS vA;rcases hw.inj i b p' q h1 nZ (by rw[DQ])with h5|h5|h5|h5
     ·subst h5;rw[h1]at nZ;cases nZ;cases ho:bO p'.1 with
      |false=>exact h3 vA ho
      |true=>
       have:=Oe ho;rw[Pn jS]at this;simp at this
     ·omega
     ·omega
     ·exact absurd h5 n4
    ·have:=ub i p' h1 fI;omega
   ·obtain⟨p',h1,h2,_⟩:=f4 i p hi;rw[fq i p' h1]at h2;have:=ub i p' h1 fI;omega
theorem eK.GA {c:eK} {spec:List Int->List Int->Prop} (hc:c.dX P w0.b spec) (bX:∀zs rs,spec zs rs->S c.c.id zs rs) (n:Nat) (vs:List V) (bl:List ao) (k:RK) (G:dc) (ρ:Env) (m:Nat->Nat) (w:ai) (xs:List az) (R':pK->ai->Prop)
 (hb:b6 n bl.length ρ bl) (hw:Mem w0 ρ m bl w) (hv:∀v∈vs,V.ok n bl.length ρ v) (hr:df ρ m vs xs) (ah:(c.qE n vs bl k).holds S L G ρ) (hk:o6 S L w0 k n bl.length ρ m G R'):
 gU P c.c.f (kV c.vw xs).toArray w R':=
 eK.Gz bX n vs bl k G ρ m w xs R' (λzs h1 h2 h3=>hc.2 _ w xs zs hw.ext h1 h2 h3) hb hw hv hr ah hk
theorem eK.aa7 {c:eK} {spec:List Int->List Int->Prop} (hc:c.dX P w0.b spec) (bX:∀zs rs,spec zs rs->S c.c.id zs rs) (n:Nat) (vs:List V) (bl:List ao) (k:RK) (G:dc) (ρ:Env) (m:Nat->Nat) (w:ai) (xs:List az) (R':pK->ai->Prop)
 (hb:b6 n bl.length ρ bl) (hw:Mem w0 ρ m bl w) (hv:∀v∈vs,V.ok n bl.length ρ v) (hr:df ρ m vs xs) (ah:(c.Lg n vs bl k).holds S L G ρ) (hk:o6 S L w0 k n bl.length ρ m G R'):
 gU P c.c.f (kV c.vw xs).toArray w R':=by
 unfold eK.Lg at ah;cases hq:(c.c.res.any bL.jg&& !oe vs)with
 |false=>rw[hq]at ah;exact c.GA hc bX n _ _ k G ρ m w xs R' hb hw hv hr ah hk
 |true=>
  rw[hq]at ah;simp only[cond_true]at ah;obtain⟨aD,n1,q,hn,ha,⟨g1,g2,g3,g4,g5⟩,ah⟩:=JW (S:=S) (L:=L) (ds:=c.c.args) hw hb hv hr G _ ah;refine c.GA hc bX n1 _ _ k G aD m w xs R' g2 g1 (λv hv=>by rw[g3];exact g4 v hv) g5 ah ?_;rw[g3];intro n' v aJ de ag m' w' val h1 h2 h3 h4 h5 h6 h7;exact hk n' v aJ de ag m' w' val (cR.trans ⟨hn,ha,aV _,λ_ _=>rfl⟩ h1) (λl hl=>h2 l (uX hl hn)) h3 h4 h5 h6 h7
theorem eK.tr {c:eK} {spec:List Int->List Int->Prop} (hc:c.dX P w0.b spec) (bX:∀zs rs,spec zs rs->S c.c.id zs rs) (n:Nat) (vs:List V) (bl:List ao) (k:RK) (G:dc) (ρ:Env) (m:Nat->Nat) (w:ai) (xs:List az) (R':pK->ai->Prop)
 (hb:b6 n bl.length ρ bl) (hw:Mem w0 ρ m bl w) (hv:∀v∈vs,V.ok n bl.length ρ v) (hr:df ρ m vs xs) (ah:(c.E n vs bl k).holds S L G ρ) (hk:o6 S L w0 k n bl.length ρ m G R'):
 (callFunc c.c.f xs.toArray).run P w= .ok (.enter c.c.f xs.toArray) w/\gU P c.c.f xs.toArray w R':=by
 refine⟨hc.1 _ _,?_⟩;unfold eK.E at ah;cases hq:mV c.vw vs with
 |none=>rw[hq]at ah;exact ah.elim
 |some us=>
  rw[hq]at ah;obtain⟨kL,ft,mY,wB⟩:=QM hv hr hq;have ah:(c.Sj n us bl k).holds S L G ρ:=ah;rw[<-wB];exact c.aa7 hc bX n _ _ k G ρ m w ft R' hb hw kL mY ah hk
theorem Dr {bc:hT} (fQ:lY S L w0 P bc):∀{l:List eK},(∀p∈l,p.dX P w0.b (S p.c.id))->lY S L w0 P (tR l bc)
 |[],_=>fQ
 |p::l,h=>λf g hf=>by
  unfold tR at hf;cases hb:aH p.c.f f with
  |true=>
   rw[hb]at hf;simp only[cond_true,aL]at hf;have:=bx hb;subst this;subst hf;intro n vs bl k G ρ m w xs R' h1 h2 h3 h4 h5 h6;have h5:(cond (Mw p vs) (p.E n vs bl k) (match tR l bc p.c.f with
    |some g=>g n vs bl k
    |none=> .stuck)).holds S L G ρ:=h5
   cases hq:Mw p vs with
   |true=>
    rw[hq]at h5;exact eK.tr (h p (by simp)) (λ_ _ h=>h) n vs bl k G ρ m w xs R' h1 h2 h3 h4 h5 h6
   |false=>
    rw[hq]at h5;simp only[cond_false]at h5;cases hr:tR l bc p.c.f with
    |none=>rw[hr]at h5;exact h5.elim
    |some bb=>
     rw[hr]at h5;exact Dr fQ (λp hp=>h p (cD _ hp)) p.c.f bb hr n vs bl k G ρ m w xs R' h1 h2 h3 h4 h5 h6
  |false=>
   rw[hb]at hf;exact Dr fQ (λp hp=>h p (cD _ hp)) f g hf
theorem eK.vW {wb:ai} {gl:dz} {c:eK} {bc:hT} {cal:dW} {li:cz->Nat->Option cX} {rounds d:Nat} {spec:List Int->List Int->Prop} (hm:P.follows .mixedOrders=true) (cw:∀r ex ro,fl S P gl ⟨wb,r,ex,ro,[]⟩ cal) (hg:eL gl ⟨wb,wb,λ_=>False,λ_=>False,[]⟩)
 (fQ:∀(L:V->Env->Prop) (r:ai) (ro:Nat->Prop),lY S L ⟨wb,r,λ_=>False,ro,[]⟩ P bc) (hf:∀args w,(callFunc c.c.f args).run P w= .ok (.enter c.c.f args) w)
 (ht:oG (cd c.c.args) λzs=>(c.tree bc P gl cal li rounds d).holds S (o5 λrs=>bd (cd c.c.res) rs/\spec zs rs) (λ_ _=>False) (bf (λ_=>0) 0 zs)):c.dX P wb spec:=by
 refine⟨hf,λF w vs zs hw hz xZ hat=>?_⟩;have ah:=kx ht hz;have mN:=gi hz;unfold eK.tree at ah;cases hq:(kz c.c.args&& !(c.c.args.any bL.jT))with
 |false=>rw[hq]at ah;exact ah.elim
 |true=>
  rw[hq]at ah;simp only[cond_true]at ah;have ah:=preA_holds ah (by rw[<-mN,EZ];exact xZ);simp only[aO,fX]at hq;have kE:Mem ⟨wb,w,λ_=>False,F,[]⟩ (bf (λ_=>0) 0 zs) (λ_=>0) [] w:=⟨hw,rfl,rfl,rfl,aV _,λ_ _ _=>rfl,λi cs t h=>by simp at h,λi sh off code cap kind t h=>by simp at h,λi j p q h=>by simp at h⟩;have hall:(c.c.args.all λb=> !b.jT)=true:=by
   rw[pI];intro b hb;cases dS:b.jT with
   |false=>rfl
   |true=>rw[List.any_eq_true.2 ⟨b,hb,dS⟩]at hq;cases hq.2
  obtain⟨n',ag,m',us,bl,p1,br,bT,dh,dD,eB⟩:=r7 (S:=S) (L:=_) (w0:=⟨wb,w,λ_=>False,F,[]⟩) (F:=F) (N:=λ_=>False) (λg hg=> .inr (.inl hg)) (λg hg=>hg.elim) (l:=c.c.args) (s:=0) (us:=[]) (bl:=[]) (m:=λ_=>0) hq.1 (λp hp=>by simp at hp) kE (fC.bf _ 0 zs) hz (by omega) hat (.inr λi p h=>by simp at h) (.inl hall) (.inl hall) (λu hu=>by simp at hu) ah;have D3:eL gl ⟨wb,w,λ_=>False,F,[]⟩:=hg;obtain⟨x,hx1,hx2⟩:=gK_holds eB;obtain⟨kL,mY⟩:=HJ (m:=m') dD hx1;refine(CU (S:=S) (w0:=⟨wb,w,λ_=>False,F,[]⟩) rfl hm (cw w (λ_=>False) F) D3 (fQ _ _ _) d c.c.f n' (x.map V.w) bl _ _ ag m' w (kV c.vw vs) _ br bT (λv hv=>by
   obtain⟨u,hu,rfl⟩:=List.mem_map.1 hv;exact kL u hu) (GB (by rw[mY];congr 1)) hx2 ?_).2
  intro n2 v aJ de bo m2 w' val h1 h2 h3 h4 h5 h6 h7;obtain⟨eJ,n3,os,ra,pg,⟨xs,hx1,hx2⟩,hl⟩:=apb (S:=S) (w0:=⟨wb,w,λ_=>False,F,[]⟩) (λg hg=>hg) h5 h6 h3 h4 de _ h7;have hl:o5 _ (sN os) eJ:=hl;rw[GD]at hl;refine⟨?_,os.map (O.den eJ),xs,hl.1,hl.2,?_,by rw[hx1]⟩
  ·have hblk:∀i:Nat,i<w.heap.size->w'.heap[i]?=w.heap[i]?:=λi hi=>h6.gg i hi λh=>h;exact⟨h6.jb,h6.je,h6.iw,h6.eu,λa ha=>by simp only[jI,hblk a.block ha],λa ha=>by simp only[tf,hblk a.block ha],hblk⟩
  ·exact dw.vW.w7 (λg hg=>by
    rcases hg with hg|hg|hg
    ·exact hg.elim
    ·exact .inl hg
    ·exact .inr hg) (λg hg=>hg) hx2
end
end Go.ba
namespace Go.ba
open M Go.RowKit
variable {S:Nat->List Int->List Int->Prop} {L:V->Env->Prop} {P:bj} {gl:dz} {cal:dW}
def Lf (P:bj) (f:cz):Prop:=
 (∀args w,(callFunc f args).run P w= .ok (.enter f args) w)/\
 ∀(l bs oI:Nat) (sv:az) (g off len cap c:Nat) (J:Nat->ai->Prop) (W:ai),
  0<c->len<=9223372036854775807->c∣len->len<=cap->c<=9223372036854775807->
  (sv= .slice (some ⟨g,off,none⟩) len cap∨((∃p,sv= .slice p 0 0)/\len=0))->
  (∀i W,J i W->W.cell? ⟨bs,0,none⟩=some sv/\W.cell? ⟨oI,0,none⟩=some (.int .i64 c))->
  (∀i W,J i W->J i W.drew)->
  (∀i W,J i W->c*i<len->YieldAt zi 0 P l #[.slice (some ⟨g,off+c*i,none⟩) c c] W λe W'=>e= .returned (.bool true)/\J (i+1) W')->
  J 0 W->CallsIn zi 0 P f #[.func (.yield l) #[] #[],.pointer (some ⟨bs,0,none⟩),.pointer (some ⟨oI,0,none⟩)] W λe W'=>(∃v,e= .returned v)/\J (len/c) W'
def CA (F:Nat->Prop) (w:ai) (F':Nat->Prop) (w':ai):Prop:=∀g,F g->∀cs t fz,w.heap[g]?=some (.cells cs t fz)->F' g/\w'.heap[g]?=some (.cells cs t fz)
theorem qG.pC {F F':Nat->Prop} {w w':ai} {sh:List ay} {rows:List (List Int)} {v:az} (h:qG F w sh rows v) (hf:CA F w F' w'):qG F' w' sh rows v:=by
 rcases h with h|⟨g,o,cap,cells,t,fz,h1,h2,h3,h4,h5⟩
 ·exact .inl h
 ·obtain⟨k1,k2⟩:=hf g h3 _ _ _ h4;exact .inr ⟨g,o,cap,cells,t,fz,h1,h2,k1,k2,h5⟩
theorem pU.pC {F F':Nat->Prop} {w w':ai} {c:ay} {z:Int} {v:az} (h:pU F w c z v) (hf:CA F w F' w'):pU F' w' c z v:=by
 cases c with
 |sub k=>exact qG.pC (F:=F) (w:=w) h hf
 |_=>exact h
theorem dV.pC {F F':Nat->Prop} {w w':ai} (hf:CA F w F' w'):∀{sh:List ay} {row:List Int} {vs:List az},dV F w sh row vs->dV F' w' sh row vs
 |[],[],[],_=>trivial
 |c::sh,z::r,v::vs,h=>⟨h.1.pC hf,dV.pC hf h.2⟩
 |[],_::_,_,h=>h.elim
 |[],[],_::_,h=>h.elim
 |_::_,[],_,h=>h.elim
 |_::_,_::_,[],h=>h.elim
theorem eD.pC {F F':Nat->Prop} {w w':ai} (hf:CA F w F' w') {sh:List ay}:∀{rows:List (List Int)} {vs:List az},eD F w sh rows vs->eD F' w' sh rows vs
 |[],_,h=>h
 |row::rows,vs,h=>by
  obtain⟨a,b,h1,h2,h3⟩:=h;exact⟨a,b,h1,h2.pC hf,eD.pC hf h3⟩
theorem ie.pC {F F':Nat->Prop} {w w':ai} {cells:Array az} {off:Nat} {sh:List ay} {rows:List (List Int)} (h:ie F w cells off sh rows) (hf:CA F w F' w'):ie F' w' cells off sh rows:=by
 obtain⟨h1,pre,vs,post,h2,h3,h4⟩:=h;exact⟨h1,pre,vs,post,h2,h3,h4.pC hf⟩
theorem Ub {b w w':ai} (h:b.Extends w) (h1:w'.os=w.os) (h2:w'.tape=w.tape) (h3:w'.output=w.output) (h4:w.heap.size<=w'.heap.size) (h5:∀k,k<b.heap.size->w'.heap[k]?=w.heap[k]?):b.Extends w':=
 ⟨h1.trans h.os,h2.trans h.tape,h3.trans h.output,gk h.size h4,λa ha=>(World.cell?_of_block (h5 _ ha)).trans (h.cell a ha),λa ha=>(World.frozen?_of_block (h5 _ ha)).trans (h.frozen a ha),λi hi=>(h5 i hi).trans (h.block i hi)⟩
theorem Mem.yS {b r r':ai} {ex ro:Nat->Prop} {ds xg:List uZ} {ρ:Env} {m:Nat->Nat} {bl:List ao} {w w':ai} (h:Mem ⟨b,r,ex,ro,ds⟩ ρ m bl w) (l:Nat) (hl:b.heap.size<=l) (hex:¬ex l) (hlt:l<r.heap.size)
 (hr:r'.os=r.os/\r'.tape=r.tape/\r'.output=r.output/\r'.heap.size=r.heap.size) (hw:w'.os=w.os/\w'.tape=w.tape/\w'.output=w.output/\w'.heap.size=w.heap.size)
 (h1:∀k,k≠l->r'.heap[k]?=r.heap[k]?) (h2:∀k,k≠l->w'.heap[k]?=w.heap[k]?) (h3:w'.heap[l]?=r'.heap[l]?) (hc:∀o:Obj,r.heap[l]?=some o->o.isCells=false):Mem ⟨b,r',ex,ro,xg⟩ ρ m bl w':=by
 have ah9:w.heap[l]?=r.heap[l]?:=h.gg l hlt hex;have ne:∀{g:Nat} {cs:Array az} {t:aQ} {fz:Nat×Nat},w.heap[g]?=some (.cells cs t fz)->g≠l:=λ{g cs t fz} hg e=>by
  subst e;rw[ah9]at hg;have:=hc _ hg;simp[Obj.isCells]at this
 refine⟨Ub h.ext hw.1 hw.2.1 hw.2.2.1 (by omega) (λk hk=>h2 k (by simp only at hl hk;omega)),by rw[hw.1,h.jb];exact hr.1.symm,by rw[hw.2.1,h.je];exact hr.2.1.symm,by rw[hw.2.2.1,h.iw];exact hr.2.2.1.symm,by have:=h.eu;simp only at this⊢;omega,λi hi hx=>?_,λi cs t hi ho=>?_,λi sh off code cap kind t hi=>?_,h.inj⟩
 ·by_cases e:i=l
  ·subst e;exact h3
  ·rw[h2 i e,h1 i e];exact h.gg i (by simp only at hi⊢;omega) hx
 ·obtain⟨g1,g2,yN,gQ,g3⟩:=h.blk i cs t hi ho;refine⟨g1,g2.imp id λh=>?_,yN,gQ,by rw[h2 _ (ne g3)];exact g3⟩;simp only at h⊢;omega
 ·intro hk;obtain⟨g1,g2⟩:=h.rws i sh off code cap kind t hi hk;refine⟨g1,λcK=>?_⟩;obtain⟨k1,cells,t',fz,k2,k3,k4⟩:=g2 cK;refine⟨k1.imp id (·.imp id λh=>by simp only at h⊢;omega),cells,t',fz,by rw[h2 _ (ne k2)];exact k2,⟨k3.1,k3.2.pC λg hg cs t fz hc=>⟨⟨hg.1.imp id (·.imp id λh=>by simp only at h⊢;omega),hg.2⟩,by rw[h2 _ (ne hc)];exact hc⟩⟩,λDx=>?_⟩;obtain⟨da,kH,mg,nv,pA,kI⟩:=k4 Dx;exact⟨da,kH,mg,nv,pA,kI.imp id λh=>by simp only at h⊢;omega⟩
structure Sub (w1 w0:cP):Prop where
 b:w1.b=w0.b
 os:w1.r.os=w0.r.os
 tape:w1.r.tape=w0.r.tape
 out:w1.r.output=w0.r.output
 size:w0.r.heap.size<=w1.r.heap.size
 ex:∀g,w1.ex g∨w1.r.heap.size<=g->w0.ex g∨w0.r.heap.size<=g
 ro:∀g,w1.ro g->w0.ro g
 gg:∀i,i<w0.r.heap.size->¬w0.ex i->w1.r.heap[i]?=w0.r.heap[i]?
theorem Mem.less {w1 w0:cP} {ρ:Env} {m:Nat->Nat} {bl:List ao} {w:ai} (h:Mem w1 ρ m bl w) (s:Sub w1 w0):Mem w0 ρ m bl w:=by
 refine⟨s.b▸h.ext,h.jb.trans s.os,h.je.trans s.tape,h.iw.trans s.out,gk s.size h.eu,λi hi hx=>?_,λi cs t hi ho=>?_,λi sh off code cap kind t hi=>?_,h.inj⟩
 ·have hne:¬w1.ex i:=λe=>by
   rcases s.ex i (.inl e)with e|e
   ·exact hx e
   ·omega
  exact(h.gg i (uX hi s.size) hne).trans (s.gg i hi hx)
 ·obtain⟨g1,g2,g3⟩:=h.blk i cs t hi ho;exact⟨s.b▸g1,s.ex _ g2,g3⟩
 ·intro hk;obtain⟨g1,g2⟩:=h.rws i sh off code cap kind t hi hk;refine⟨g1,λcK=>?_⟩;obtain⟨k1,cells,t',fz,k2,k3,k4⟩:=g2 cK;refine⟨?_,cells,t',fz,k2,⟨k3.1,k3.2.pC λg hg cs t fz hc=>⟨⟨?_,hg.2⟩,hc⟩⟩,λDx=>?_⟩
  rotate_left
  ·rcases hg.1 with k1|k1|k1
   ·exact(s.ex _ (.inl k1)).imp id .inr
   ·exact .inr (.inl (s.ro _ k1))
   ·exact(s.ex _ (.inr k1)).imp id .inr
  rotate_left
  ·rcases k1 with k1|k1|k1
   ·exact(s.ex _ (.inl k1)).imp id .inr
   ·exact .inr (.inl (s.ro _ k1))
   ·exact(s.ex _ (.inr k1)).imp id .inr
  ·obtain⟨da,kH,mg,nv,pA,kI⟩:=k4 Dx;exact⟨da,kH,mg,nv,s.b▸pA,s.ex _ kI⟩
def narrow (w0:cP) (W:ai) (ds:List uZ):cP:=⟨w0.b,W,λg=>(w0.ex g∨w0.r.heap.size<=g)/\∃o:Obj,W.heap[g]?=some o/\o.isCells=true,w0.ro,ds⟩
theorem Mem.narrow {w0:cP} {ρ:Env} {m:Nat->Nat} {bl:List ao} {w:ai} (h:Mem w0 ρ m bl w) (ds:List uZ):Mem (narrow w0 w ds) ρ m bl w:=by
 refine⟨h.ext,rfl,rfl,rfl,aV _,λ_ _ _=>rfl,λi cs t hi ho=>?_,λi sh off code cap kind t hi=>?_,h.inj⟩
 ·obtain⟨g1,g2,yN,gQ,g3⟩:=h.blk i cs t hi ho;exact⟨g1,.inl ⟨g2,_,g3,rfl⟩,yN,gQ,g3⟩
 ·intro hk;obtain⟨g1,g2⟩:=h.rws i sh off code cap kind t hi hk;refine⟨g1,λcK=>?_⟩;obtain⟨k1,cells,t',fz,k2,k3,k4⟩:=g2 cK;refine⟨?_,cells,t',fz,k2,⟨k3.1,k3.2.pC λg hg cs t fz hc=>⟨⟨?_,hg.2⟩,hc⟩⟩,λDx=>?_⟩
  rotate_left
  ·rcases hg.1 with k1|k1|k1
   ·exact .inl ⟨.inl k1,_,hc,rfl⟩
   ·exact .inr (.inl k1)
   ·exact .inl ⟨.inr k1,_,hc,rfl⟩
  rotate_left
  ·rcases k1 with k1|k1|k1
   ·exact .inl ⟨.inl k1,_,k2,rfl⟩
   ·exact .inr (.inl k1)
   ·exact .inl ⟨.inr k1,_,k2,rfl⟩
  ·obtain⟨da,kH,mg,nv,pA,kI⟩:=k4 Dx;exact⟨da,kH,mg,nv,pA,.inl ⟨kI,_,k2,rfl⟩⟩
theorem Sub.narrow {w0:cP} {ρ:Env} {m:Nat->Nat} {bl:List ao} {w:ai} (h:Mem w0 ρ m bl w) (ds:List uZ):Sub (narrow w0 w ds) w0:=
 ⟨rfl,h.jb,h.je,h.iw,h.eu,λg hg=>by
  rcases hg with hg|hg
  ·exact hg.1
  ·exact .inr (gk h.eu hg),λ_ h=>h,λi hi hx=>h.gg i hi hx⟩
theorem Sub.yS {w0:cP} {b r r':ai} {ex ro:Nat->Prop} {ds xg:List uZ} (s:Sub ⟨b,r,ex,ro,ds⟩ w0) (l:Nat) (hl:w0.r.heap.size<=l) (hr:r'.os=r.os/\r'.tape=r.tape/\r'.output=r.output/\r'.heap.size=r.heap.size)
 (h1:∀k,k≠l->r'.heap[k]?=r.heap[k]?):Sub ⟨b,r',ex,ro,xg⟩ w0:=
 ⟨s.b,hr.1.trans s.os,hr.2.1.trans s.tape,hr.2.2.1.trans s.out,by have:=s.size;simp only at this⊢;omega,λg hg=>s.ex g (hg.imp id λh=>by simp only at h⊢;omega),s.ro,λi hi hx=>by
  rw[h1 i (by omega)];exact s.gg i hi hx⟩
theorem Mem.ds {b r:ai} {ex ro:Nat->Prop} {ds xg:List uZ} {ρ:Env} {m:Nat->Nat} {bl:List ao} {w:ai} (h:Mem ⟨b,r,ex,ro,ds⟩ ρ m bl w):Mem ⟨b,r,ex,ro,xg⟩ ρ m bl w:=
 ⟨h.ext,h.jb,h.je,h.iw,h.eu,h.gg,h.blk,h.rws,h.inj⟩
theorem fl.ds {b r:ai} {ex ro:Nat->Prop} {ds xg:List uZ} (h:fl S P gl ⟨b,r,ex,ro,ds⟩ cal):fl S P gl ⟨b,r,ex,ro,xg⟩ cal:=λf g hf L n ρ m bl vs xs h1 h2 h3 h4=>by
 obtain⟨w,hw⟩:=h2
 exactλG zj ah=>by
  obtain⟨ag,n',v,k1,k2,⟨k3,val,k4,nw⟩,mh⟩:=h f g hf L n ρ m bl vs xs h1 ⟨w,hw.ds⟩ h3 h4 G zj ah;exact⟨ag,n',v,k1,k2,⟨k3,val,k4,λw hw=>nw w hw.ds⟩,mh⟩
noncomputable def PN (P:bj) (gl:dz) (cal:dW) (inl:hU) (li:Nat->Option cX) (rounds:Nat) (cells:List (Nat×Nat×Int×Int)) (sb:cz) (g:Operand) (ps:Array Tmp) (assign body:Code) (n:Nat) (tm:List V) (bl:List ao) (k:fu):T:=
 match bZ tm g,ps.toList,hb cells 0 (n+1) bl with
 | .mE f [.ptr bs 0,.ptr oI 0],[p],some (dq,l2,b2)=>match bl[bs]?,bl[oI]?,dq[bs]?,dq[oI]? with
  |some ([.sl b aM o ro len cap],_),some ([.int .i64 N],_),some ([xs],_),some ([FL],_)=>match N.l.dt with
   |some c=>cond (aH f sb&&decide (0<c)&&decide (c<=9223372036854775807)&&aH aM 1&&kj assign&&kj body&&kT tm tm&&kS dq dq&&A.beq xs (.sl b aM o ro len cap)&&A.beq FL (.int .i64 N)&&bO [xs]&&bO [FL])
    (.oK 70 [len,.const c] (.loop n (l2++[.const 0]) (n+1) (b2++[(0,9223372036854775807)])
      (.tG (.lt ((aa.var (n+1+l2.length)).smul c) len)
        (kR P gl cal inl li rounds assign (n+1+l2.length+1) (oh tm p (.w (.one (.sl b 1 o (ro.add ((aa.var (n+1+l2.length)).smul c)) (.const c) (.const c))))) dq λx n' bw aJ=>match x with
          | .normal=>kR P gl cal inl li rounds body n' bw aJ λx n' bw aJ=>match x with
           | .normal=>match hb cells 0 (n+1) (aJ.take bl.length)with
            |some (mC,v2,_)=>cond (kS dq mC) (.again n (v2++[(aa.var (n+1+l2.length)).add (.const 1)])) .stuck
            |none=> .stuck
           |_=> .stuck
          |_=> .stuck)
        (k (n+1+l2.length+1) tm dq)))) .stuck
   |none=> .stuck
  |_,_,_,_=> .stuck
 |_,_,_=> .stuck
theorem VY {ev:List Nat}:∀(tm:List V) (i s:Nat),(∀j,i<=j->j<i+tm.length->ev.any (aH j)=true)->hs ev [] i s tm=some (tm,[],[])
 |[],_,_,_=>rfl
 |v::r,i,s,h=>by
  unfold hs;rw[h i (aV _) (by simp),VY r (i+1) s λj h1 h2=>h j (by omega) (by simp only[cW];omega)];rfl
theorem WT (tm:List V) (s:Nat):hs (c8 tm.length) [] 0 s tm=some (tm,[],[]):=
 VY tm 0 s λj _ h=>List.any_eq_true.2 ⟨j,List.mem_range.2 (by omega),Cm j⟩
theorem sQ (w:ai) (l:Nat) (o:Obj):(w.putObj l o).os=w.os/\(w.putObj l o).tape=w.tape/\(w.putObj l o).output=w.output/\(w.putObj l o).heap.size=w.heap.size:=⟨rfl,rfl,rfl,RD⟩
theorem Mem.cell0 {w0:cP} {ρ:Env} {m:Nat->Nat} {bl:List ao} {w:ai} (h:Mem w0 ρ m bl w) {i:Nat} {x:A} {t:aQ×Bool} (hi:bl[i]?=some ([x],t)) (ho:bO [x]=true):w.cell? ⟨m i,0,none⟩=some (x.den ρ m):=by
 obtain⟨_,_,r,_,h3⟩:=h.blk i _ t hi ho;simp[jI,h3]
def Le (I:List Int->Prop) (w0:cP) (W1:ai) (n:Nat) (ρ:Env) (m:Nat->Nat) (tm:List V) (dq:List ao) (b2:List (Int×Int)) (k2:Nat) (tmps:Array az) (i:Nat) (W:ai):Prop:=
 ∃zs,zs.length=k2/\bd (b2++[(0,9223372036854775807)]) (zs++[(i:Int)])/\I (zs++[(i:Int)])/\R (narrow w0 W1 []) (n+1+k2+1) (bf ρ (n+1) (zs++[(i:Int)])) m tm dq {tmps:=tmps,defers:=[]} W
theorem ao0 {w0:cP} {inl:hU} {li:Nat->Option cX} {rounds:Nat} {cells:List (Nat×Nat×Int×Int)} {sb:cz} {g:Operand} {ps:Array Tmp} {assign body:Code} (jP:Lf P sb) (hm:P.follows .mixedOrders=true)
 (cw:∀r ex ro,fl S P gl ⟨w0.b,r,ex,ro,[]⟩ cal) (hg:eL gl w0) (iq:∀r ex ro,lr S L ⟨w0.b,r,ex,ro,[]⟩ P inl)
 {n:Nat} {ρ:Env} {m:Nat->Nat} {tm:List V} {bl:List ao} {a:Act} {w:ai} {G:dc} {k:fu} {Q:Exit->Act->ai->Prop} (h:R w0 n ρ m tm bl a w) (mJ:w0.ds=[])
 (ah:(PN P gl cal inl li rounds cells sb g ps assign body n tm bl k).holds S L G ρ)
 (hk:∀n' ag bw aJ de w1 D a' w',cR n bl.length ρ m n' (kt aJ) ag m->dG n G de->Sub w1 w0->¬w1.ex D->w1.r.heap[D]?=some (.deferred (some []))->w0.r.heap.size<=D->w0.b.heap.size<=D->w1.ds=[{target:= .collected D,args:=#[]}]->
   R w1 n' ag m bw aJ a' w'->(k n' bw aJ).holds S L de ag->Q .normal a' w'):(Code.rangeFunc g ps assign body).wpIn zi 0 P Q a w:=by
 unfold PN at ah;split at ah
 rotate_left
 ·exact ah.elim
 rename_i f bs oI p dq l2 b2 e1 e2 e3;split at ah
 rotate_left
 ·exact ah.elim
 rename_i b aM o ro len cap ts N ayI xs mU FL ayP q1 q2 q3 db;split at ah
 rotate_left
 ·exact ah.elim
 rename_i c hc;generalize gM:(aH f sb&&decide (0<c)&&decide (c<=9223372036854775807)&&aH aM 1&&kj assign&&kj body&&kT tm tm&&kS dq dq&&A.beq xs (.sl b aM o ro len cap)&&A.beq FL (.int .i64 N)&&bO [xs]&&bO [FL])=l4 at ah;cases l4 with
 |false=>exact ah.elim
 |true=>
 simp only[aO,decide_eq_true_eq]at gM;obtain⟨⟨⟨⟨⟨⟨⟨⟨⟨⟨⟨c1,c2⟩,c3⟩,c4⟩,c5⟩,ff⟩,j7⟩,mD⟩,pT⟩,xc⟩,acB⟩,acC⟩:=gM;have c1:=bx c1;have c4:=bx c4;subst c1;subst c4;have pT:=A.beq_eq pT;have xc:=A.beq_eq xc;subst pT;subst xc;simp only[cond_true,T.holds]at ah;obtain⟨Ap,I,j3,M3,hB⟩:=ah;have Ap:c∣len.den ρ:=by simpa [af,zK,aa.aR]using Ap
 have N4:A.ok n bl.length ρ (.sl b 1 o ro len cap):=h.b _ (c0 q1) _ (by simp);obtain⟨Nt,⟨rb,nq,AA,Ii⟩,n5⟩:=N4;obtain⟨⟨s1,s2,eO,BT⟩,⟨ayA,ayB⟩,Qi,YV⟩:=n5;have agV:a.eval g= .func (.func f) #[] #[.pointer (some ⟨m bs,0,none⟩),.pointer (some ⟨m oI,0,none⟩)]:=by
  have:=(cq h.t g).2;rw[e1]at this;exact this
 have VR:ps=#[p]:=by rw[<-Array.toArray_toList (xs:=ps),e2]
 subst VR;refine wpIn_rangeFunc ?_;intro fn Au;obtain⟨rec,x4⟩:∃rec:LoopState->Option Code->Loop,rec=λst aow=>{state:=st,pending:=aow,fn,tmps:=a.tmps,params:=#[p],assign,body,defers:=w.heap.size}:=⟨_,rfl⟩;obtain⟨W1,HS⟩:∃W1,(w.alloc (.deferred (some []))).alloc (.loop (rec .ready none))=W1:=⟨_,rfl⟩;have p4:W1.heap[w.heap.size+1]?=some (.loop (rec .ready none)):=by
  rw[<-HS];have:=au8 (w.alloc (.deferred (some []))) (.loop (rec .ready none));rwa [World.size_alloc]at this
 have M4:W1.heap[w.heap.size]?=some (.deferred (some [])):=by
  rw[<-HS];exact(Below.heap_alloc _ _ _ (by simp)).trans (au8 w _)
 have uf:w.heap.size+1<W1.heap.size:=(Array.getElem?_eq_some_iff.1 p4).1;have UP:Mem w0 ρ m bl W1:=by rw[<-HS];exact h.a7.grow (((m4 w).alloc _).alloc _)
 have hbl:w0.b.heap.size<=w.heap.size:=h.a7.ext.size;have Eo:w0.r.heap.size<=w.heap.size:=h.a7.eu;generalize hl:w.heap.size+1=l at*;generalize hD:w.heap.size=D at*;have xG:∀(k:Nat) (o:Obj),W1.heap[k]?=some o->o.isCells=false->¬(narrow w0 W1 []).ex k:=λk o hk ho ⟨_,cj,h1,h2⟩=>by
  rw[hk]at h1;cases h1;rw[ho]at h2;cases h2
 have abr:R (narrow w0 W1 []) n ρ m tm bl {tmps:=a.tmps,defers:=[]} W1:=⟨h.t,rfl,h.b,UP.narrow []⟩;have Iq:∀v∈tm,V.ok n bl.length ρ v:=λv hv=>by
  obtain⟨i,hi⟩:=List.getElem?_of_mem hv;exact(h.t.2 i v hi).1
 have Mq:hb cells 0 (n+1+([]:List aa).length) bl=some (dq,l2,b2):=e3;obtain⟨Eb,awH⟩:=DO e3;have head:∀{n':Nat} {ag:Env} {m':Nat->Nat} {aJ mC:List ao} {v2:List aa} {qK:List (Int×Int)} {W:ai} {x:aa},bl.length<=aJ.length->agree n ρ ag->(∀b,b<bl.length->m' b=m b)->
  R (narrow w0 W1 []) n' ag m' tm aJ {tmps:=a.tmps,defers:=[]} W->hb cells 0 (n+1) (aJ.take bl.length)=some (mC,v2,qK)->kS dq mC=true->
  v2.length=l2.length/\bd b2 (v2.map (·.den ag))/\R (narrow w0 W1 []) (n+1+l2.length+1) (bf ρ (n+1) (v2.map (·.den ag)++[x.den ag])) m tm dq {tmps:=a.tmps,defers:=[]} W:=λ{n' ag m' aJ mC v2 qK W x} k1 k2 k3 k4 nw mh=>by
  obtain⟨da,kH,mg,_⟩:=Vo (li:={ev:=c8 tm.length,ints:=[],cells:=cells}) (ext:=[x]) k1 k2 k3 Iq h.b k4 (WT tm (n+1)) Mq (WT tm (n+1)) (v2:=v2) nw j7 mh (λ_ h=>h) k4.a7.rws;simp only[eH,zb,lq,jH,cW,fY,cp,er]at da kH mg;exact⟨da,kH,mg⟩
 obtain⟨i0,i1,i2⟩:=head (x:= .const 0) (aV _) (agree.refl n ρ) (λ_ _=>rfl) abr (by rw[Rm];exact e3) mD;have ae4:Le I w0 W1 n ρ m tm dq b2 l2.length a.tmps 0 W1:=by
  refine⟨l2.map (·.den ρ),by simp,rm i1 ⟨by simp,by simp,trivial⟩,?_,by simpa [aa.aR]using i2⟩;simpa [aa.aR]using M3
 have still:∀{i:Nat} {W:ai} {k:Nat} {o:Obj},Le I w0 W1 n ρ m tm dq b2 l2.length a.tmps i W->W1.heap[k]?=some o->o.isCells=false->W.heap[k]?=some o:=λ{i W k o} hJ hk ho=>by
  obtain⟨zs,ae,z2,z3,z4⟩:=hJ;exact(z4.a7.gg k (Array.getElem?_eq_some_iff.1 hk).1 (xG k o hk ho)).trans hk
 obtain⟨C,hC⟩:∃C:Nat,(C:Int)=c:=⟨c.toNat,aaD (by omega)⟩;obtain⟨mz,M6⟩:∃mz:Nat,(mz:Int)=len.den ρ:=⟨(len.den ρ).toNat,aaD (by omega)⟩;have Nz:C∣mz:=by rw[<-hC,<-M6]at Ap;exact Int.natCast_dvd_natCast.1 Ap
 have ags:mz<=(cap.den ρ).toNat:=by
  by_cases h0:cap.den ρ<0
  ·have:=Qi h0;omega
  ·have:=YV (by omega);omega
 have Iw:∀{i:Nat} {zs:List Int},zs.length=l2.length->bf ρ (n+1) (zs++[(i:Int)]) (n+1+l2.length)=i:=λ{i zs} hz=>by
  rw[Cb _ _ _ _ (by simp[hz]),<-hz];simp
 have iY:∀{i:Nat} {zs:List Int},agree n ρ (bf ρ (n+1) (zs++[(i:Int)])):=λ{i zs}=>(agree.bf _ (n+1) ρ).mono (by omega);have main:=jP.2 l (m bs) (m oI) ((A.sl b 1 o ro len cap).den ρ m) (m b) ((o.den ρ).toNat+(ro.den ρ).toNat) mz (cap.den ρ).toNat C (Le I w0 W1 n ρ m tm dq b2 l2.length a.tmps) W1 (by omega) (by omega) Nz ags (by omega)
  (by
    simp only[A.den];by_cases h0:cap.den ρ<0
    ·rw[if_pos h0];have:=Qi h0;exact .inr ⟨⟨_,rfl⟩,by omega⟩
    ·rw[if_neg h0];refine .inl ?_;rw[show(len.den ρ).toNat=mz by omega,Gf])
  (λi W hJ=>by
    obtain⟨zs,ae,z2,z3,z4⟩:=hJ;have kL:=z4.a7.cell0 q3 acB;have mY:=z4.a7.cell0 db acC;have N4:A.ok n bl.length ρ (.sl b 1 o ro len cap):=h.b _ (c0 q1) _ (by simp);have ahx:A.ok n bl.length ρ (.int .i64 N):=h.b _ (c0 q2) _ (by simp);rw[A.j8 N4 iY (λ_ _=>rfl)]at kL;rw[A.j8 ahx iY (λ_ _=>rfl)]at mY;refine⟨kL,mY.trans ?_⟩;simp only[A.den,aa.iK hc,hC])
  (λi W hJ=>by
    obtain⟨zs,ae,z2,z3,z4⟩:=hJ;exact⟨zs,ae,z2,z3,z4.t,z4.d,z4.b,z4.a7.grow (Gc (m4 W))⟩)
  ?_ ae4
 ·refine⟨l,[{target:= .collected D,args:=#[]}],W1,{target:= .fn (.func f) #[.pointer (some ⟨m bs,0,none⟩),.pointer (some ⟨m oI,0,none⟩)],args:=#[.func (.yield l) #[] #[]]},W1,f,
   #[.func (.yield l) #[] #[],.pointer (some ⟨m bs,0,none⟩),.pointer (some ⟨m oI,0,none⟩)],W1,?_,?_,λng Vv=>trivial,?_,λhs=>by simp[zi]at hs,?_⟩
  ·rw[<-HS,x4,<-hl,<-hD];exact run_enterLoop_outer _ _ _ _ _
  ·simp only[resolve,agV];simp[go_sem]
  ·simp[invoke,go_sem,jP.1]
  ·refine main.mono ?_
   rintro e W2 ⟨⟨v,rfl⟩,hJ⟩
   have H8:=still hJ p4 rfl;have awE:=still hJ M4 rfl;obtain⟨zs,ae,z2,z3,z4⟩:=hJ;have sk:=(kx hB z2 z3).2;have sx:len.den (bf ρ (n+1) (zs++[((mz/C:Nat):Int)]))=mz:=by rw[aa.bG iY AA,M6]
   have hq:C*(mz/C)=mz:=Nat.mul_div_cancel' Nz;have qX:bg.den (bf ρ (n+1) (zs++[((mz/C:Nat):Int)])) (.lt ((aa.var (n+1+l2.length)).smul c) len)=false:=by
    simp only[bg.den,aa.j9,aa.ck,Iw ae,sx,decide_eq_false_iff_not];rw[<-hC];have:(C:Int)*((mz/C:Nat):Int)=(mz:Int):=by exact_mod_cast hq
    omega
   have sk:=sk qX;refine⟨none,_,by have:=run_endLoop (P:=P) H8 (by rw[x4];simp);rw[x4]at this;exact this,?_⟩;simp only;obtain⟨Lh,ae1⟩:∃o,o=Obj.loop {({state:= .ready,pending:=none,fn,tmps:=a.tmps,params:=#[p],assign,body,defers:=D}:Loop)with state:= .exhausted}:=⟨_,rfl⟩;rw[<-ae1];have abf:Mem ⟨w0.b,W1.putObj l Lh,(narrow w0 W1 []).ex,w0.ro,[{target:= .collected D,args:=#[]}]⟩ (bf ρ (n+1) (zs++[((mz/C:Nat):Int)])) m dq (W2.putObj l Lh):=
    Mem.yS z4.a7 l (by omega) (xG l _ p4 rfl) uf (sQ _ _ _) (sQ _ _ _) (λk hk=>rR hk) (λk hk=>rR hk) (by rw[u6 (Array.getElem?_eq_some_iff.1 H8).1,u6 uf]) (λo ho=>by rw[p4]at ho;cases ho;rfl)
   refine hk _ _ _ _ _ ⟨w0.b,W1.putObj l Lh,(narrow w0 W1 []).ex,w0.ro,[{target:= .collected D,args:=#[]}]⟩ D _ _ ⟨by omega,iY,by omega,λ_ _=>rfl⟩ (λbQ sw=>?_) (Sub.yS (Sub.narrow UP []) l (by omega) (sQ _ _ _) (λk hk=>rR hk)) (xG D _ M4 rfl) ((rR (by omega)).trans M4) Eo hbl rfl ⟨z4.t,?_,z4.b,abf⟩ sk
   ·unfold dc.set;cases hb:aH bQ n with
    |true=>have:=bx hb;omega
    |false=>rfl
   ·show _++a.defers=_;rw[h.d,mJ];rfl
 ·
  intro i W hJ hlt;have H8:=still hJ p4 rfl;obtain⟨zs,ae,z2,z3,z4⟩:=hJ;have sk:=(kx hB z2 z3).1;have sx:len.den (bf ρ (n+1) (zs++[(i:Int)]))=mz:=by rw[aa.bG iY AA,M6]
  have qX:bg.den (bf ρ (n+1) (zs++[(i:Int)])) (.lt ((aa.var (n+1+l2.length)).smul c) len)=true:=by
   simp only[bg.den,aa.j9,aa.ck,Iw ae,sx,decide_eq_true_eq];rw[<-hC];exact_mod_cast hlt
  have sk:=sk qX;have gY:C*i+C<=mz:=by
   obtain⟨q,rfl⟩:=Nz;have:i<q:=Nat.lt_of_mul_lt_mul_left hlt;have:C*(i+1)<=C*q:=Rl C this;rw[Nat.mul_succ]at this;omega
  have Ak:¬cap.den ρ<0:=λh0=>by have:=Qi h0;omega
  have DU:=YV (by omega);have hid:(ro.add ((aa.var (n+1+l2.length)).smul c)).den (bf ρ (n+1) (zs++[(i:Int)]))=ro.den ρ+(C*i:Nat):=by
   rw[aa.den_add,aa.j9,aa.ck,Iw ae,aa.bG iY nq,<-hC];simp
  have VQ:o.den (bf ρ (n+1) (zs++[(i:Int)]))=o.den ρ:=aa.bG iY rb;have ah4:(V.w (.one (.sl b 1 o (ro.add ((aa.var (n+1+l2.length)).smul c)) (.const c) (.const c)))).ok (n+1+l2.length+1) dq.length (bf ρ (n+1) (zs++[(i:Int)])):=by
   refine⟨by omega,⟨rb.mono (by omega),aa.rH (nq.mono (by omega)) (aa.sW (aa.eo (by omega))),aa.cC _ _,aa.cC _ _⟩,?_⟩;rw[hid,VQ,aa.aR];exact⟨⟨s1,by omega,by omega,by omega⟩,⟨by omega,by omega⟩,λh=>by omega,λ_=>bB _⟩
  have ah6:(V.w (.one (.sl b 1 o (ro.add ((aa.var (n+1+l2.length)).smul c)) (.const c) (.const c)))).rel (bf ρ (n+1) (zs++[(i:Int)])) m (.slice (some ⟨m b,(o.den ρ).toNat+(ro.den ρ).toNat+C*i,none⟩) C C):=by
   simp only[V.rel,ba.W.den,A.den,hid,VQ,aa.aR,Gf];rw[if_neg (by omega),show c.toNat=C by omega,show(ro.den ρ+(C*i:Nat)).toNat=(ro.den ρ).toNat+C*i by omega,Nat.add_assoc]
  have UW:R (narrow w0 W1 []) (n+1+l2.length+1) (bf ρ (n+1) (zs++[(i:Int)])) m (oh tm p (.w (.one (.sl b 1 o (ro.add ((aa.var (n+1+l2.length)).smul c)) (.const c) (.const c))))) dq
   (({tmps:=a.tmps,defers:=[]}:Act).put (some p) (.slice (some ⟨m b,(o.den ρ).toNat+(ro.den ρ).toNat+C*i,none⟩) C C)) W:=
   ⟨dp.put z4.t (some p) ah4 ah6,z4.d,z4.b,z4.a7⟩
  have hy:=run_yield (P:=P) (args:=#[.slice (some ⟨m b,(o.den ρ).toNat+(ro.den ρ).toNat+C*i,none⟩) C C]) H8 (by rw[x4];rfl);rw[x4]at hy;have adP:(({tmps:=a.tmps,defers:=[]}:Act).put (some p) (.slice (some ⟨m b,(o.den ρ).toNat+(ro.den ρ).toNat+C*i,none⟩) C C))={tmps:=((#[p]:Array Tmp).zip #[Cr (some ⟨m b,(o.den ρ).toNat+(ro.den ρ).toNat+C*i,none⟩) C C]).foldl (λtmps (t,a)=>tmps.setIfInBounds t a) a.tmps,defers:=[]}:=by
   simp[Act.put]
  rw[adP]at UW;refine⟨fn,_,assign,body,hy,roundIn_of_wpIn trivial ?_⟩;refine zL (rd:=some l) hm (cw _ _ _) (λg cs h=>hg g cs h) (iq _ _ _) assign (.inr c5) _ _ _ _ _ _ _ _ W _ UW sk λx n1 aD fT JX CO G1 a1 w1 g1 g2 g3 g4=>?_;cases x with
  |exit id=>exact g4.elim
  |ret=>exact g4.elim
  |normal=>
   simp only at g4;have VH:w1.heap[l]?=some (.loop (rec .ready none)):=(g3.a7.gg l uf (xG l _ p4 rfl)).trans p4;obtain⟨wO,MW⟩:∃o,o=Obj.loop {rec .ready none with state:= .busy}:=⟨_,rfl⟩;have aeY:wO.isCells=false:=by rw[MW];rfl
   have M2:Mem ⟨w0.b,W1.putObj l wO,(narrow w0 W1 []).ex,w0.ro,[]⟩ aD fT CO (w1.putObj l wO):=
    Mem.yS g3.a7 l (by omega) (xG l _ p4 rfl) uf (sQ _ _ _) (sQ _ _ _) (λk hk=>rR hk) (λk hk=>rR hk) (by rw[u6 (Array.getElem?_eq_some_iff.1 VH).1,u6 uf]) (λo ho=>by rw[p4]at ho;cases ho;rfl)
   refine⟨w1.putObj l wO,by rw[MW];exact run_beginRound VH (by rw[x4]),?_⟩;refine zL (rd:=some l) hm (cw _ _ _) (λg cs h=>hg g cs h) (iq _ _ _) body (.inr ff) n1 JX CO _ G1 aD fT a1 _ _ (⟨g3.t,g3.d,g3.b,M2⟩:R ⟨w0.b,W1.putObj l wO,(narrow w0 W1 []).ex,w0.ro,[]⟩ n1 aD fT JX CO a1 (w1.putObj l wO)) g4 λx n2 bo m2 aqL gB Sl a2 w2 k1 k2 k3 k4=>?_;cases x with
   |exit id=>exact k4.elim
   |ret=>exact k4.elim
   |normal=>
    simp only at k4;split at k4
    rotate_left
    ·exact k4.elim
    rename_i mC v2 qK fo;cases hf:kS dq mC with
    |false=>rw[hf]at k4;exact k4.elim
    |true=>
    rw[hf]at k4;simp only[cond_true,T.holds]at k4;have H6:w2.heap[l]?=some wO:=(k3.a7.gg l (by rw[RD];exact uf) (xG l _ p4 rfl)).trans (u6 uf);have ahg:=(Array.getElem?_eq_some_iff.1 H6).1;rw[MW]at H6;refine⟨_,_,run_endRound none H6,rfl,?_⟩;have ahL:({{rec .ready none with state:= .busy}with state:=if(none:Option Code).isNone then .ready else .done,pending:=none}:Loop)=rec .ready none:=by rw[x4];rfl
    rw[ahL];have abe:Mem (narrow w0 W1 []) bo m2 gB (w2.putObj l (.loop (rec .ready none))):=
     Mem.yS k3.a7 l (by omega) (xG l _ p4 rfl) (by rw[RD];exact uf) ⟨rfl,rfl,rfl,World.putObj_size.symm⟩ (sQ _ _ _) (λk hk=>(rR hk).symm) (λk hk=>rR hk) (by rw[u6 ahg,p4]) (λo ho=>by rw[u6 uf]at ho;cases ho;exact aeY)
    have M5:cR n bl.length ρ m (n+1+l2.length+1) dq.length (bf ρ (n+1) (zs++[(i:Int)])) m:=⟨by omega,iY,by omega,λ_ _=>rfl⟩;have xz:=(M5.trans g1).trans k1;have abt:R (narrow w0 W1 []) n2 bo m2 tm gB {tmps:=a.tmps,defers:=[]} (w2.putObj l (.loop (rec .ready none))):=⟨h.t.ext xz.ha xz.hn xz.hb xz.hm,rfl,k3.b,abe⟩;obtain⟨ia,nF,pF⟩:=head (x:=(aa.var (n+1+l2.length)).add (.const 1)) xz.hb xz.ha xz.hm abt fo hf;have Wn:bo (n+1+l2.length)=i:=by rw[(g1.trans k1).ha _ (by omega),Iw ae]
    have hx:((aa.var (n+1+l2.length)).add (.const 1)).den bo=((i+1:Nat):Int):=by rw[aa.den_add,aa.ck,aa.aR,Wn];simp
    rw[hx]at pF;have M1:Sl n=λvs=>I vs/\j3 vs<j3 (zs++[(i:Int)]):=by
     rw[k2 n (by have:=g1.hn;omega),g2 n (by omega)];unfold dc.set;rw[show aH n n=true from Cm n];rfl
    rw[M1,fY,cp,er,hx]at k4;have:i+1<=mz:=by
     have:=Nat.mul_le_mul_right i (show 1<=C by omega);omega
    exact⟨v2.map (·.den bo),by simp[ia],rm nF ⟨by omega,by omega,trivial⟩,k4.1,pF⟩
noncomputable def G9 (P:bj) (gl:dz) (cal:dW) (inl:hU) (li:cz->Nat->Option cX) (rounds:Nat) (cells:List (Nat×Nat×Int×Int)) (sb:cz):hU:=
 λf n vs bl k=>match P.funcs[f]? with
  |none=> .stuck
  |some fn=>match fn.body with
   |some (.seq bA (.seq (.seq c1 (.block _ (.rangeFunc g ps assign body))) c3))=>cond (!(fn.name== "runtime.NumGoroutine")&&bu vs.length fn.ntmps)
    (kR P gl cal inl (li f) rounds bA n (vs++BO (fn.ntmps-vs.length)) bl λx n tm bl=>match x with
      | .normal=>kR P gl cal inl (li f) rounds c1 n tm bl λx n tm bl=>match x with
       | .normal=>PN P gl cal inl (li f) rounds cells sb g ps assign body n tm bl λn tm bl=>
        kR P gl cal (λ_ _ _ _ _=> .stuck) (li f) rounds c3 n tm bl λx n tm bl=>match x with
         | .exit _=> .stuck
         |_=>Fo P gl fn n tm bl k
       |_=> .stuck
      |_=> .stuck) .stuck
   |_=> .stuck
theorem aiD {w0:cP}:lr S L w0 P (λ_ _ _ _ _=> .stuck):=λf n vs bl k G ρ m w xs R' _ _ _ _ ah _=>ah.elim
theorem acp {w0:cP} {inl:hU} {li:cz->Nat->Option cX} {rounds:Nat} {cells:List (Nat×Nat×Int×Int)} {sb:cz} (jP:Lf P sb) (hm:P.follows .mixedOrders=true)
 (cw:∀r ex ro,fl S P gl ⟨w0.b,r,ex,ro,[]⟩ cal) (hg:eL gl w0) (iq:∀r ex ro,lr S L ⟨w0.b,r,ex,ro,[]⟩ P inl) (mJ:w0.ds=[]):lr S L w0 P (G9 P gl cal inl li rounds cells sb):=by
 have V7:w0=⟨w0.b,w0.r,w0.ex,w0.ro,[]⟩:=by cases w0;simp at mJ;subst mJ;rfl
 have Vg:fl S P gl w0 cal:=by rw[V7];exact cw _ _ _
 have Vz:lr S L w0 P inl:=by rw[V7];exact iq _ _ _
 intro f n vs bl k G ρ m w xs R' hb kE kg hrel ah hk;unfold G9 at ah;cases hf:P.funcs[f]? with
 |none=>simp[hf,T.holds]at ah
 |some fn=>
  simp only[hf]at ah;split at ah
  rotate_left
  ·exact ah.elim
  rename_i bA c1 id g ps assign body c3 ua;cases hc:(!(fn.name== "runtime.NumGoroutine")&&bu vs.length fn.ntmps)with
  |false=>simp[hc,T.holds]at ah
  |true=>
   simp only[hc,cond_true]at ah;simp only[aO,fX]at hc;have hlen:=Lq hrel;refine⟨?_,?_⟩
   ·have h1:¬fn.name= "runtime.NumGoroutine" :=by have:=hc.1;simpa using this
    simp[callFunc,hf,ua,h1]
   ·refine(callsIn_wide (n:=0)).1 (callsIn_of_wp_marks hf ua trivial ?_ rfl);have hR:R w0 n ρ m (vs++BO (fn.ntmps-vs.length)) bl {tmps:=xs.toArray++rN (fn.ntmps-xs.toArray.size) undef,defers:=[]} w:=by
     refine⟨?_,mJ.symm,hb,kE⟩;have:=GM (Lp (fn.ntmps-vs.length) kg hrel);have e:(xs++eX (fn.ntmps-vs.length) undef).toArray=xs.toArray++rN (fn.ntmps-xs.toArray.size) undef:=by
      simp[hlen]
     rw[e]at this;exact this
    refine wpIn_seq (zL (rd:=none) hm Vg hg Vz bA (.inl rfl) n _ bl _ G ρ m _ w _ hR ah λx n1 aD fT JX CO G1 a1 w1 h1 h2 h3 h4=>?_);cases x with
    |exit id=>exact h4.elim
    |ret=>exact h4.elim
    |normal=>
    refine wpIn_seq (wpIn_seq (zL (rd:=none) hm Vg hg Vz c1 (.inl rfl) n1 JX CO _ G1 aD fT a1 w1 _ h3 h4 λx n2 bo m2 aqL gB Sl a2 w2 k1 k2 k3 k4=>?_));cases x with
    |exit id=>exact k4.elim
    |ret=>exact k4.elim
    |normal=>
    refine wpIn_block (ao0 jP hm cw hg iq k3 mJ k4 λn3 eJ aqM aco aa8 b3 D a3 w3 p1 br bT dh dD eB oU BD X3 X2=>?_);have agq:fl S P gl b3 cal:=by
     have e:b3=⟨w0.b,b3.r,b3.ex,b3.ro,b3.ds⟩:=by have:=bT.b;cases b3;simp at this;subst this;rfl
     rw[e];exact(cw _ _ _).ds
    have hg3:eL gl b3:=λg cs h=>by rw[bT.b];exact hg g cs h
    refine zL (rd:=none) hm agq hg3 aiD c3 (.inl rfl) n3 aqM aco _ aa8 eJ m2 a3 w3 _ X3 X2 λx sJ Gt yr Zw CP Sm a4 w4 q1 q2 q3 db=>?_;have hD:w4.heap[D]?=some (.deferred (some [])):=(q3.a7.gg D (Array.getElem?_eq_some_iff.1 dD).1 dh).trans dD;have ahh:=(Array.getElem?_eq_some_iff.1 hD).1;have abg:Mem ⟨b3.b,b3.r.putObj D (.deferred none),b3.ex,b3.ro,[]⟩ Gt yr CP (w4.putObj D (.deferred none)):=by
     have e:b3=⟨b3.b,b3.r,b3.ex,b3.ro,b3.ds⟩:=rfl;refine Mem.yS (e▸q3.a7) D (by rw[bT.b];exact oU) dh (Array.getElem?_eq_some_iff.1 dD).1 (sQ _ _ _) (sQ _ _ _) (λk hk=>rR hk) (λk hk=>rR hk) (by rw[u6 ahh,u6 (Array.getElem?_eq_some_iff.1 dD).1]) (λo ho=>by rw[dD]at ho;cases ho;rfl)
    have abA:Sub ⟨b3.b,b3.r.putObj D (.deferred none),b3.ex,b3.ro,[]⟩ w0:=Sub.yS (ds:=b3.ds) bT D eB (sQ _ _ _) (λk hk=>rR hk);have Sx:Mem w0 Gt yr CP (w4.putObj D (.deferred none)):=abg.less abA;have abu:R w0 sJ Gt yr Zw CP {a4 with defers:=[]} (w4.putObj D (.deferred none)):=⟨q3.t,mJ.symm,q3.b,Sx⟩;have fin:(Fo P gl fn sJ Zw CP k).holds S L Sm Gt->LeavesInM zi 0 P fn a4.tmps R' a4.defers .returning w4:=λhr=>by
     obtain⟨v,val,ia,nF,pF,u4⟩:=PU hg abu hr;have bW:=(((h1.trans k1).trans p1).trans q1);have hA:=(((h2.trans k2 h1.hn).trans br (h1.trans k1).hn).trans q2 ((h1.trans k1).trans p1).hn);rw[q3.d,BD];exact⟨by simp,.inl ⟨D,_,rfl,run_takeDeferred hD,val,pF,hk sJ v CP Sm Gt yr _ val bW hA ia nF q3.b Sx u4⟩⟩
    cases x with
    |exit id=>exact db.elim
    |normal=>exact fin db
    |ret=>exact fin db
end Go.ba
namespace Go.ba
open M
variable {S:Nat->List Int->List Int->Prop} {L:V->Env->Prop} {P:bj} {gl:dz} {cal:dW}
structure jJ where
 c:dw
 ty:aQ
 nil:Bool
def BE (p:jJ) (g k:Nat):Array az:=cond p.nil #[.slice (some ⟨g,0,none⟩) k k,.slice none 0 0] #[.slice (some ⟨g,0,none⟩) k k]
def jJ.dX (P:bj) (wb:ai) (p:jJ) (spec:List Int->List Int->Prop):Prop:=
 (∀args w,(callFunc p.c.f args).run P w= .ok (.enter p.c.f args) w)/\
 ∀(F:Nat->Prop) (w:ai) (vs:List az) (zs:List Int) (g:Nat),wb.Extends w->bd (cd p.c.args) zs->uC p.c.pre zs->gb F (λ_=>False) w p.c.args zs vs->wb.heap.size<=g->¬F g->w.heap[g]?=some (.cells vs.toArray p.ty (0,0))->
  gU P p.c.f (BE p g vs.length) w λe w'=>w.Extends w'/\∃rs us,bd (cd p.c.res) rs/\spec zs rs/\gb (λg=>F g∨w.heap.size<=g) (λg=>w.heap.size<=g) w' p.c.res rs us/\e= .returned (lh us)
def Jl (nil:Bool) (vs:List V):Option (Nat×Nat×Nat):=
 match vs with
 |[.w (.one (.slc b 0 len cap))]=>cond nil none (some (b,len,cap))
 |[.w (.one (.slc b 0 len cap)),.w (.one (.con (.slice none 0 0)))]=>cond nil (some (b,len,cap)) none
 |_=>none
def jh (a:A):V:= .w (.one a)
noncomputable def jJ.E (p:jJ) (n:Nat) (vs:List V) (bl:List ao) (k:RK):T:=
 match Jl p.nil vs with
 |some (b,len,cap)=>match bl[b]? with
  |some (cs,(t,false))=>cond (bO cs&&aH len cs.length&&aH cap cs.length&&aH t p.ty&& !(((cs.map jh).flatMap fG).any (aH b))) (p.c.qE n (cs.map jh) bl k) .stuck
  |_=> .stuck
 |none=> .stuck
theorem Lr {ρ:Env} {m:Nat->Nat}:∀(cs:List A),df ρ m (cs.map jh) (cs.map (A.den ρ m))
 |[]=>trivial
 |a::r=>⟨rfl,Lr r⟩
theorem aos {p:jJ} {vs:List V} {b len cap:Nat} {ρ:Env} {m:Nat->Nat} {xs:List az} (h:Jl p.nil vs=some (b,len,cap)) (hr:df ρ m vs xs) (D9:cap=len):xs.toArray=BE p (m b) len:=by
 subst D9;unfold Jl at h;split at h
 ·cases hn:p.nil with
  |true=>rw[hn]at h;cases h
  |false=>
   rw[hn]at h;cases h
   match xs,hr with
   |[x],hr=>have hx:x=_:=hr.1;rw[hx];simp[BE,hn,W.den,A.den]
 ·cases hn:p.nil with
  |false=>rw[hn]at h;cases h
  |true=>
   rw[hn]at h;cases h
   match xs,hr with
   |[x,y],hr=>have hx:x=_:=hr.1;have hy:y=_:=hr.2.1;rw[hx,hy];simp[BE,hn,W.den,A.den]
 ·cases h
theorem jJ.tr {w0:cP} {p:jJ} {spec:List Int->List Int->Prop} (hc:p.dX P w0.b spec) (bX:∀zs rs,spec zs rs->S p.c.id zs rs) (n:Nat) (vs:List V) (bl:List ao) (k:RK) (G:dc) (ρ:Env) (m:Nat->Nat) (w:ai) (xs:List az) (R':pK->ai->Prop)
 (hb:b6 n bl.length ρ bl) (hw:Mem w0 ρ m bl w) (hv:∀v∈vs,V.ok n bl.length ρ v) (hr:df ρ m vs xs) (ah:(p.E n vs bl k).holds S L G ρ) (hk:o6 S L w0 k n bl.length ρ m G R'):
 (callFunc p.c.f xs.toArray).run P w= .ok (.enter p.c.f xs.toArray) w/\gU P p.c.f xs.toArray w R':=by
 refine⟨hc.1 _ _,?_⟩;unfold jJ.E at ah;split at ah
 rotate_left
 ·exact ah.elim
 rename_i b len cap hp;split at ah
 rotate_left
 ·exact ah.elim
 rename_i cs t hbl;cases gM:(bO cs&&aH len cs.length&&aH cap cs.length&&aH t p.ty&& !(((cs.map jh).flatMap fG).any (aH b)))with
 |false=>rw[gM]at ah;exact ah.elim
 |true=>
 rw[gM]at ah;simp only[aO,fX]at gM;obtain⟨⟨⟨⟨c1,c2⟩,c3⟩,c4⟩,c5⟩:=gM;have c2:=bx c2;have c3:=bx c3;have c4:=bx c4;subst c4;rw[aos hp hr (by omega),c2];obtain⟨b1,b2,r,jc,b3⟩:=hw.blk b cs _ hbl c1;have jc:=jc rfl;subst jc;rw[ln]at b3;refine dw.Gz (f:=p.c.f) bX n (cs.map jh) bl k G ρ m w (cs.map (A.den ρ m)) R' (λzs h1 h2 h3=>?_) hb hw (λv hv=>?_) (Lr cs) ah hk
 ·have:=hc.2 _ w _ zs (m b) hw.ext h1 h2 h3 b1 (λhF=>?_) b3
  ·rwa [j2]at this
  ·rcases hF with⟨⟨b',k1,k2,q,k3,k4,_⟩,_⟩|nY
   rotate_left
   ·exact nY.2 b _ hbl (by rw[hh c1];decide) rfl
   have hne:b≠b':=λe=>by
    subst e;rw[List.any_eq_true.2 ⟨b,k1,Cm b⟩]at c5;cases c5
   rcases hw.inj b b' _ q hbl k3 k2.symm with h|h|h|h
   ·exact hne h
   ·have:=hh (ρ:=ρ) c1;simp only at h;omega
   ·have:=hh (ρ:=ρ) c1;simp only at h;omega
   ·exact k4 h
 ·obtain⟨a,ha,rfl⟩:=List.mem_map.1 hv;exact hb _ (c0 hbl) a ha
def Mx (p:jJ) (vs:List V):Bool:=match Jl p.nil vs with
 |some (_,len,_)=>aH len p.c.args.length
 |none=>false
noncomputable def uB:List jJ->hT->hT
 |[],bc=>bc
 |p::r,bc=>λf=>cond (aH p.c.f f) (some λn vs bl k=>cond (Mx p vs) (p.E n vs bl k) (match uB r bc f with
  |some g=>g n vs bl k
  |none=> .stuck)) (uB r bc f)
theorem Jn {w0:cP} {bc:hT} (fQ:lY S L w0 P bc):∀{l:List jJ},(∀p∈l,p.dX P w0.b (S p.c.id))->lY S L w0 P (uB l bc)
 |[],_=>fQ
 |p::l,h=>λf g hf=>by
  unfold uB at hf;cases hb:aH p.c.f f with
  |true=>
   rw[hb]at hf;simp only[cond_true,aL]at hf;have:=bx hb;subst this;subst hf;intro n vs bl k G ρ m w xs R' h1 h2 h3 h4 h5 h6;have h5:(cond (Mx p vs) (p.E n vs bl k) (match uB l bc p.c.f with
    |some g=>g n vs bl k
    |none=> .stuck)).holds S L G ρ:=h5
   cases hq:Mx p vs with
   |true=>
    rw[hq]at h5;exact jJ.tr (h p (by simp)) (λ_ _ h=>h) n vs bl k G ρ m w xs R' h1 h2 h3 h4 h5 h6
   |false=>
    rw[hq]at h5;simp only[cond_false]at h5;cases hr:uB l bc p.c.f with
    |none=>rw[hr]at h5;exact h5.elim
    |some bb=>
     rw[hr]at h5;exact Jn fQ (λp hp=>h p (cD _ hp)) p.c.f bb hr n vs bl k G ρ m w xs R' h1 h2 h3 h4 h5 h6
  |false=>
   rw[hb]at hf;exact Jn fQ (λp hp=>h p (cD _ hp)) f g hf
def mR:W->A
 | .one a=>a
 |_=> .con undef
noncomputable def jJ.tree (bc:hT) (P:bj) (gl:dz) (cal:dW) (li:cz->Nat->Option cX) (rounds d:Nat) (p:jJ):T:=
 cond (kz p.c.args&& !(p.c.args.any bL.jT)) (E9 p.c.pre ((c8 (cd p.c.args).length).map yq) (nP p.c.args 0 (cd p.c.args).length [] [] λn us bl=>
  cond (us.all (λu=>match u with| .one _=>true|_=>false)&&bO (us.map mR)) (xd bc P gl cal li rounds d p.c.f n (cond p.nil [jh (.slc bl.length 0 us.length us.length),jh (.con (.slice none 0 0))] [jh (.slc bl.length 0 us.length us.length)]) (bl++[(us.map mR,(p.ty,false))]) λn' v aJ=>match aJ[bl.length]? with
   |some (cs,(t,false))=>cond (na cs (us.map mR)&&aH t p.ty) (Fp (cO aJ bl.length dI) p.c.res v n' λos _=> .leaf (sN os)) .stuck
   |_=> .stuck) .stuck)) .stuck
theorem Mem.more {b r:ai} {ex ex' ro:Nat->Prop} {ds:List uZ} {ρ:Env} {m:Nat->Nat} {bl:List ao} {w:ai} (h:Mem ⟨b,r,ex,ro,ds⟩ ρ m bl w) (he:∀g,ex g->ex' g):Mem ⟨b,r,ex',ro,ds⟩ ρ m bl w:=
 ⟨h.ext,h.jb,h.je,h.iw,h.eu,λi hi hx=>h.gg i hi λjf=>hx (he i jf),λi cs t hi ho=>by
  obtain⟨h1,h2,h3⟩:=h.blk i cs t hi ho;exact⟨h1,h2.imp (he _) id,h3⟩,λi sh off code cap kind t hi hk=>by
  obtain⟨g1,g2⟩:=h.rws i sh off code cap kind t hi hk;refine⟨g1,λhc=>?_⟩;obtain⟨k1,cells,t',fz,k2,k3,k4⟩:=g2 hc;refine⟨k1.imp (he _) id,cells,t',fz,k2,⟨k3.1,k3.2.mono (Fr.of w λg hg=>⟨hg.1.imp (he _) id,hg.2⟩)⟩,λh2=>?_⟩;obtain⟨da,kH,mg,nv,pA,kI⟩:=k4 h2;exact⟨da,kH,mg,nv,pA,kI.imp (he _) id⟩,h.inj⟩
theorem gL.more {b r:ai} {ex ex' ro F:Nat->Prop} {ds:List uZ} {ρ:Env} {g kind:Nat} {sh:List ay} {off code cap:aa} {t:aQ} {w:ai} (h:gL ⟨b,r,ex,ro,ds⟩ ρ F g sh off code cap kind t w) (he:∀g,ex g->ex' g):gL ⟨b,r,ex',ro,ds⟩ ρ F g sh off code cap kind t w:=by
 intro hk;obtain⟨g1,g2⟩:=h hk;refine⟨g1,λhc=>?_⟩;obtain⟨k1,cells,t',fz,k2,k3,k4⟩:=g2 hc;refine⟨k1.imp (he _) id,cells,t',fz,k2,k3,λh2=>?_⟩;obtain⟨da,kH,mg,nv,pA,kI⟩:=k4 h2;exact⟨da,kH,mg,nv,pA,kI.imp (he _) id⟩
theorem Mem.drop {b r:ai} {ro:Nat->Prop} {ρ:Env} {m:Nat->Nat} {bl:List ao} {w:ai} {g i0:Nat} {cs:List A} {t:aQ} (h:Mem ⟨b,r,λi=>i=g,ro,[]⟩ ρ m bl w) (hi:bl[i0]?=some (cs,(t,false))) (ho:bO cs=true) (hg:m i0=g) (hr:r.heap[g]?=some (.cells (cs.map (A.den ρ m)).toArray t (0,0))):
 Mem ⟨b,r,λ_=>False,ro,[]⟩ ρ m (cO bl i0 dI) w:=by
 have hlen:i0<bl.length:=(List.getElem?_eq_some_iff.1 hi).1;have c9:∀(i:Nat) (q:ao),(cO bl i0 dI)[i]?=some q->(i=i0/\q=dI)∨(i≠i0/\bl[i]?=some q):=λi q hq=>by
  rw[iC,oy]at hq;split at hq
  ·rename_i eC;subst eC;simp only[hlen,if_true,aL]at hq;exact .inl ⟨rfl,hq.symm⟩
  ·rename_i eC;exact .inr ⟨λe=>eC e.symm,hq⟩
 have fq:aP ρ dI.1=0:=by simp[dI,aP,aa.aR]
 have fx:aP ρ cs=2:=hh ho;have hne:∀(i:Nat) (q:ao),i≠i0->bl[i]?=some q->aP ρ q.1≠0->m i≠g:=λi q ke hq hk e=>by
  rcases h.inj i i0 q _ hq hi (by rw[e,hg])with h1|h1|h1|h1
  ·exact ke h1
  ·simp only at h1;omega
  ·exact hk h1
  ·simp only at h1;omega
 refine⟨h.ext,h.jb,h.je,h.iw,h.eu,λi dv _=>?_,λi iX t' hq gh=>?_,λi sh off code cap kind t' hq=>?_,λi j p q hp hq he=>?_⟩
 ·by_cases e:i=g
  ·subst e;obtain⟨_,_,yN,gR,h3⟩:=h.blk i0 cs _ hi ho;have gR:=gR rfl;subst gR;rw[ln,hg]at h3;rw[h3];exact hr.symm
  ·exact h.gg i dv e
 ·rcases c9 i _ hq with⟨_,e⟩|⟨ke,hq⟩
  ·simp only[dI,ct]at e;rw[e.1]at gh;simp[bO]at gh
  ·obtain⟨h1,h2,h3⟩:=h.blk i iX t' hq gh;refine⟨h1,?_,h3⟩;rcases h2 with h2|h2
   ·exact absurd h2 (hne i _ ke hq (by rw[hh gh];decide))
   ·exact .inr h2
 ·rcases c9 i _ hq with⟨_,e⟩|⟨ke,hq⟩
  ·simp only[dI,ct,lp,A.rows.injEq,and_true]at e;intro hk;exact absurd e.1.2.2.2.2 hk
  ·intro hk;obtain⟨g1,g2⟩:=h.rws i sh off code cap kind t' hq hk;refine⟨g1,λhc=>?_⟩;have xV:m i≠g:=hne i _ ke hq (by simp only[aP];rw[if_neg (by omega)];exact hk);obtain⟨k1,cells,FF,fz,k2,k3,k4⟩:=g2 hc;refine⟨?_,cells,FF,fz,k2,⟨k3.1,k3.2.mono (Fr.of w λbb ec=>⟨?_,λj q hj hk=>?_⟩)⟩,λh2=>?_⟩
   rotate_left
   ·rcases ec.1 with e|e
    ·have e:bb=g:=e;subst e;exact absurd hg (ec.2 i0 _ hi (by rw[fx];decide))
    ·exact .inr e
   ·rcases c9 j _ hj with⟨_,e⟩|⟨_,hj⟩
    ·subst e;omega
    ·exact ec.2 j q hj hk
   rotate_left
   ·rcases k1 with k1|k1
    ·exact absurd k1 xV
    ·exact .inr k1
   ·obtain⟨da,kH,mg,nv,pA,kI⟩:=k4 h2;refine⟨da,kH,mg,nv,pA,?_⟩;rcases kI with kI|kI
    ·exact absurd kI xV
    ·exact .inr kI
 ·rcases c9 i _ hp with⟨_,e⟩|⟨ke,hp⟩
  ·subst e;exact .inr (.inr (.inl fq))
  ·rcases c9 j _ hq with⟨_,e⟩|⟨VC,hq⟩
   ·subst e;exact .inr (.inr (.inr fq))
   ·exact h.inj i j p q hp hq he
theorem jJ.vW {wb:ai} {gl:dz} {p:jJ} {bc:hT} {cal:dW} {li:cz->Nat->Option cX} {rounds d:Nat} {spec:List Int->List Int->Prop} (hm:P.follows .mixedOrders=true) (cw:∀r ex ro,fl S P gl ⟨wb,r,ex,ro,[]⟩ cal) (hg:eL gl ⟨wb,wb,λ_=>False,λ_=>False,[]⟩)
 (fQ:∀(L:V->Env->Prop) (r:ai) (ex ro:Nat->Prop),lY S L ⟨wb,r,ex,ro,[]⟩ P bc) (hf:∀args w,(callFunc p.c.f args).run P w= .ok (.enter p.c.f args) w)
 (ht:oG (cd p.c.args) λzs=>(p.tree bc P gl cal li rounds d).holds S (o5 λrs=>bd (cd p.c.res) rs/\spec zs rs) (λ_ _=>False) (bf (λ_=>0) 0 zs)):p.dX P wb spec:=by
 refine⟨hf,λF w vs zs g hw hz xZ hat Nr xx hcell=>?_⟩;have ah:=kx ht hz;have mN:=gi hz;unfold jJ.tree at ah;cases hq:(kz p.c.args&& !(p.c.args.any bL.jT))with
 |false=>rw[hq]at ah;exact ah.elim
 |true=>
  rw[hq]at ah;simp only[cond_true]at ah;have ah:=preA_holds ah (by rw[<-mN,EZ];exact xZ);simp only[aO,fX]at hq;have kE:Mem ⟨wb,w,λ_=>False,F,[]⟩ (bf (λ_=>0) 0 zs) (λ_=>0) [] w:=⟨hw,rfl,rfl,rfl,aV _,λ_ _ _=>rfl,λi cs t h=>by simp at h,λi sh off code cap kind t h=>by simp at h,λi j p q h=>by simp at h⟩;have hall:(p.c.args.all λb=> !b.jT)=true:=by
   rw[pI];intro b hb;cases dS:b.jT with
   |false=>rfl
   |true=>rw[List.any_eq_true.2 ⟨b,hb,dS⟩]at hq;cases hq.2
  obtain⟨n',ag,m',us,bl,p1,br,bT,dh,dD,eB⟩:=r7 (S:=S) (L:=_) (w0:=⟨wb,w,λ_=>False,F,[]⟩) (F:=F) (N:=λ_=>False) (λg hg=> .inr (.inl hg)) (λg hg=>hg.elim) (l:=p.c.args) (s:=0) (us:=[]) (bl:=[]) (m:=λ_=>0) hq.1 (λp hp=>by simp at hp) kE (fC.bf _ 0 zs) hz (by omega) hat (.inr λi p h=>by simp at h) (.inl hall) (.inl hall) (λu hu=>by simp at hu) ah;cases ju:(us.all (λu=>match u with| .one _=>true|_=>false)&&bO (us.map mR))with
  |false=>rw[ju]at eB;exact eB.elim
  |true=>
  rw[ju]at eB;simp only[cond_true]at eB;simp only[aO]at ju;have V5:∀u∈us,u= .one (mR u):=λu hu=>by
   have:=List.all_eq_true.1 ju.1 u hu;cases u with
   |one a=>rfl
   |_=>simp at this
  have kg:(us.map mR).map (A.den ag m')=vs:=by
   have e:us.map (W.den ag m')=vs:=by simpa using dh
   rw[<-e,kN];refine gI λu hu=>?_;rw[V5 u hu];rfl
  have On:∀a∈us.map mR,A.ok n' bl.length ag a:=λa ha=>by
   obtain⟨u,hu,rfl⟩:=List.mem_map.1 ha;have h1:=dD u hu;rw[V5 u hu]at h1;exact h1
  have vD:g<w.heap.size:=(Array.getElem?_eq_some_iff.1 hcell).1;have hM:=(bT.more (ex':=λi=>i=g) λ_ h=>h.elim).push (x:=(us.map mR,(p.ty,false))) (g:=g) br On (λ_=>⟨Nr,.inl rfl,[],λ_=>rfl,by rw[ln,kg];exact hcell⟩) (λsh off code cap kind he=>by
   simp only at he;rw[he]at ju;simp[bO]at ju) (λi q hi he=>by
    refine .inr (.inl ?_);by_cases h0:aP ag q.1=0
    ·exact h0
    ·exfalso;obtain⟨cs,t⟩:=q;cases ho:bO cs with
     |true=>
      obtain⟨_,h2,_⟩:=bT.blk i cs t hi ho;rcases h2 with h2|h2
      ·exact h2
      ·simp only at h2;omega
     |false=>
      obtain⟨sh,off,code,cap,k,e⟩:=Jg ho;subst e;simp only[aP]at h0;split at h0
      ·exact h0 rfl
      ·rename_i hc;obtain⟨h1,_⟩:=(bT.rws i sh off code cap k t hi h0).2 (by omega);rcases h1 with h1|h1|h1
       ·exact h1
       ·rw[he]at h1;exact xx h1
       ·simp only at h1;omega) (λi sh off code cap kind t hi=>((bT.YU (x:=(us.map mR,(p.ty,false))) (g:=g) (λbb ec e=>by
    subst e;rcases ec.1 with h1|h1|h1
    ·exact h1
    ·exact xx h1
    ·simp only at h1;omega) i sh off code cap kind t hi).more (ex':=λi=>i=g) λ_ h=>h.elim).mono λbb ec=>⟨ec.1.imp (λh=>h.elim) id,ec.2⟩)
  have xD:b6 n' (bl++[(us.map mR,(p.ty,false))]).length ag (bl++[(us.map mR,(p.ty,false))]):=λq hq a fp=>by
   rcases List.mem_append.1 hq with hq|hq
   ·exact(br q hq a fp).ext (agree.refl _ _) (aV _) (by simp)
   ·simp at hq;subst hq;exact(On a fp).ext (agree.refl _ _) (aV _) (by simp)
  have ah1:us.length=vs.length:=by rw[<-kg];simp
  have D3:eL gl ⟨wb,w,λi=>i=g,F,[]⟩:=hg;have V1:V.ok n' (bl++[(us.map mR,(p.ty,false))]).length ag (jh (.slc bl.length 0 us.length us.length)):=by
   show bl.length<_;simp
  have n5:(jh (.slc bl.length 0 us.length us.length)).rel ag (fc m' bl.length g) (.slice (some ⟨g,0,none⟩) vs.length vs.length):=by
   simp[V.rel,jh,W.den,A.den,jX,ah1]
  have ni:∀v∈(cond p.nil [jh (.slc bl.length 0 us.length us.length),jh (.con (.slice none 0 0))] [jh (.slc bl.length 0 us.length us.length)]),V.ok n' (bl++[(us.map mR,(p.ty,false))]).length ag v:=λv hv=>by
   have agz:V.ok n' (bl++[(us.map mR,(p.ty,false))]).length ag (jh (.con (.slice none 0 0))):=rfl;cases hn:p.nil with
   |true=>
    rw[hn]at hv;simp only[cond_true,ks,s9,or_false]at hv;rcases hv with rfl|rfl
    ·exact V1
    ·exact agz
   |false=>
    rw[hn]at hv;simp only[cond_false,ks,s9,or_false]at hv;subst hv;exact V1
  have hrel:df ag (fc m' bl.length g) (cond p.nil [jh (.slc bl.length 0 us.length us.length),jh (.con (.slice none 0 0))] [jh (.slc bl.length 0 us.length us.length)]) (BE p g vs.length).toList:=by
   unfold BE;cases hn:p.nil with
   |true=>simp only[cond_true];exact⟨n5,rfl,trivial⟩
   |false=>simp only[cond_false];exact⟨n5,trivial⟩
  have agr:=(CU (S:=S) (w0:=⟨wb,w,λi=>i=g,F,[]⟩) (R':=λe w'=>w.Extends w'/\∃rs us,bd (cd p.c.res) rs/\spec zs rs/\gb (λg=>F g∨w.heap.size<=g) (λg=>w.heap.size<=g) w' p.c.res rs us/\e= .returned (lh us)) rfl hm (cw w _ F) D3 (fQ _ _ _ _) d p.c.f n' _ _ _ _ ag (fc m' bl.length g) w _ xD hM ni hrel eB ?_).2
  ·simpa using agr
  intro n2 v aJ de bo m2 w' val h1 h2 h3 h4 h5 h6 h7;simp only at h7;split at h7
  rotate_left
  ·exact h7.elim
  rename_i cs t hb2;cases gM:(na cs (us.map mR)&&aH t p.ty)with
  |false=>rw[gM]at h7;exact h7.elim
  |true=>
  rw[gM]at h7;simp only[cond_true]at h7;simp only[aO]at gM;have adE:=zA gM.1;have nf:=bx gM.2;subst adE;subst nf;have Ns:bl.length<(bl++[(us.map mR,(p.ty,false))]).length:=by simp
  have Ec:m2 bl.length=g:=by rw[h1.hm _ Ns,jX]
  have qX:(us.map mR).map (A.den bo m2)=vs:=by
   rw[<-kg];refine gI λa ha=>?_;rw[A.j8 (On a ha) h1.ha (λb hb=>?_)];rw[h1.hm b (by simp;omega),iD hb]
  have hD:=h6.drop hb2 ju.2 Ec (by rw[qX];exact hcell);have dS:b6 n2 (cO aJ bl.length dI).length bo (cO aJ bl.length dI):=by
   rw[km];intro q hq a ha;rw[iC]at hq;rcases Cv hq with hq|hq
   ·exact h5 q hq a ha
   ·subst hq;simp only[dI,ks,s9,or_false]at ha;subst ha;exact⟨⟨aa.cC _ _,aa.cC _ _,aa.cC _ _⟩,by rw[aa.aR];exact⟨bB _,rZ⟩,by rw[aa.aR];omega⟩
  obtain⟨eJ,n3,os,ra,pg,⟨xs,hx1,hx2⟩,hl⟩:=PW (S:=S) (w0:=⟨wb,w,λ_=>False,F,[]⟩) (λg hg=>hg) dS hD (by rw[km];exact h3) h4 de _ h7;have hl:o5 _ (sN os) eJ:=hl;rw[GD]at hl;refine⟨?_,os.map (O.den eJ),xs,hl.1,hl.2,?_,by rw[hx1]⟩
  ·have hblk:∀i:Nat,i<w.heap.size->w'.heap[i]?=w.heap[i]?:=λi hi=>hD.gg i hi λh=>h;exact⟨hD.jb,hD.je,hD.iw,hD.eu,λa ha=>by simp only[jI,hblk a.block ha],λa ha=>by simp only[tf,hblk a.block ha],hblk⟩
  ·exact dw.vW.w7 (λg hg=>by
    rcases hg with hg|hg|hg
    ·exact hg.elim
    ·exact .inl hg
    ·exact .inr hg) (λg hg=>hg) hx2
section
variable {wb:ai} {sh:Nat->List Nat×List Nat} {SB:Nat->List (List Int)->List (List Int)->Prop}
theorem Yf {p:jJ} {bc:hT} {cal:dW} {li:cz->Nat->Option cX} {rounds d:Nat} {lsh:Nat->List Nat} {lens:List Nat} (hm:P.follows .mixedOrders=true) (cw:∀r ex ro,fl (b5 sh SB) P gl ⟨wb,r,ex,ro,[]⟩ cal) (hg:eL gl ⟨wb,wb,λ_=>False,λ_=>False,[]⟩)
 (fQ:∀(L:V->Env->Prop) (r:ai) (ex ro:Nat->Prop),lY (b5 sh SB) L ⟨wb,r,ex,ro,[]⟩ P bc) (hf:qS P p.c.f=true) (hl:lens=(sh p.c.id).1) (hd:sK p.c.res=(sh p.c.id).2)
 (hv:iI sh lsh SB (ez SB p.c.res p.c.id) lens (cd p.c.args) p.c.res (p.tree bc P gl cal li rounds d)):p.dX P wb (b5 sh SB p.c.id):=by
 refine jJ.vW (li:=li) (rounds:=rounds) (d:=d) hm cw hg fQ (enters hf) (r6 λzs hz=>?_);have h:=kx (GO hv) hz;simp only[ez,B3]at h;rw[hl,hd]at h;exact h
end
end Go.ba
namespace Go.ba
open M
variable {S:Nat->List Int->List Int->Prop} {L:V->Env->Prop} {P:bj} {gl:dz} {cal:dW}
inductive eR where
 |int (k:dj) (c:Int)
 |fn (f:cz)
def eR.val:eR->az
 |int k c=> .int k c
 |fn f=> .func (.func f) #[] #[]
def eR.A:eR->A
 |int k c=> .int k (bI.const c)
 |fn f=> .con (.func (.func f) #[] #[])
def HD:eR->A->Bool
 | .int k c,.int a6 x=>decide (k=a6)&&(match x.l.dt with|some d=>decide (d=c)|none=>false)
 | .fn f,.con v=>match v with
  | .func (.func ng) a b=>aH f ng&&aH a.size 0&&aH b.size 0
  |_=>false
 |_,_=>false
def Dj:List eR->List A->Bool
 |[],[]=>true
 |r::l,a::s=>HD r a&&Dj l s
 |_,_=>false
def Di:List eR->List V->Bool
 |[],[]=>true
 |r::l,.w (.one a)::s=>HD r a&&Di l s
 |_,_=>false
theorem Ul {r:eR} {a:A} {ρ:Env} {m:Nat->Nat} (h:HD r a=true):a.den ρ m=r.val:=by
 unfold HD at h;split at h
 ·rename_i k c a6 x;simp only[aO,decide_eq_true_eq]at h;obtain⟨h1,h2⟩:=h;cases hc:x.l.dt with
  |none=>rw[hc]at h2;cases h2
  |some d=>
   rw[hc]at h2;have h2:=of_decide_eq_true h2;subst h1;subst h2;simp[A.den,eR.val,aa.iK hc]
 ·rename_i f v;split at h
  ·rename_i ng x y;simp only[aO]at h;obtain⟨⟨h1,h2⟩,h3⟩:=h;have h1:=bx h1;have h2:=bx h2;have h3:=bx h3;rw[u3 h2,u3 h3,h1];rfl
  ·cases h
 ·cases h
theorem Um {ρ:Env} {m:Nat->Nat}:∀{l:List eR} {cs:List A},Dj l cs=true->cs.map (A.den ρ m)=l.map eR.val
 |[],[],_=>rfl
 |r::l,a::s,h=>by
  simp only[Dj,aO]at h;simp[Ul h.1,Um h.2]
 |[],_::_,h=>by cases h
 |_::_,[],h=>by cases h
theorem Uk {ρ:Env} {m:Nat->Nat}:∀{l:List eR} {vs:List V} {xs:List az},Di l vs=true->df ρ m vs xs->xs=l.map eR.val
 |[],[],[],_,_=>rfl
 |r::l,.w (.one a)::s,x::xs,h,hr=>by
  simp only[Di,aO]at h;have hx:x=a.den ρ m:=hr.1;rw[hx,Ul h.1,Uk h.2 hr.2];rfl
 |[],[],_::_,_,h=>h.elim
 |_::_,[],_,h,_=>by cases h
structure lx where
 c:dw
 cells:List eR
 ty:aQ
 tail:List eR
structure Li (g:Nat) (w w':ai):Prop where
 os:w'.os=w.os
 tape:w'.tape=w.tape
 out:w'.output=w.output
 size:w.heap.size<=w'.heap.size
 blk:∀i,i<w.heap.size->i≠g->w'.heap[i]?=w.heap[i]?
def lx.dX (P:bj) (wb:ai) (p:lx) (spec:List Int->List Int->Prop):Prop:=
 (∀args w,(callFunc p.c.f args).run P w= .ok (.enter p.c.f args) w)/\
 ∀(F:Nat->Prop) (w:ai) (vs:List az) (zs:List Int) (g:Nat),wb.Extends w->bd (cd p.c.args) zs->uC p.c.pre zs->gb F (λ_=>False) w p.c.args zs vs->wb.heap.size<=g->¬F g->w.heap[g]?=some (.cells (p.cells.map eR.val).toArray p.ty (0,0))->
  gU P p.c.f (.pointer (some ⟨g,0,none⟩)::(vs++p.tail.map eR.val)).toArray w λe w'=>Li g w w'/\∃rs us,bd (cd p.c.res) rs/\spec zs rs/\gb (λg=>F g∨w.heap.size<=g) (λg=>w.heap.size<=g) w' p.c.res rs us/\e= .returned (lh us)
noncomputable def lx.E (p:lx) (n:Nat) (vs:List V) (bl:List ao) (k:RK):T:=
 match vs with
 | .w (.one (.ptr b 0))::us=>match bl[b]? with
  |some (cs,(t,false))=>cond (bO cs&&Dj p.cells cs&&aH t p.ty&&Di p.tail (us.drop p.c.args.length)&&bu p.c.args.length us.length&& !(((us.take p.c.args.length).flatMap fG).any (aH b))&&kz p.c.res&& !(p.c.res.any bL.jg))
   (sd false bl p.c.args (us.take p.c.args.length) n λls n1=>Fa p.c.pre ls (.call p.c.id ls n1 (cd p.c.res) (nP p.c.res n1 (n1+(cd p.c.res).length) [] (cO bl b dI) λn2 us gB=>k n2 (pD us) gB))) .stuck
  |_=> .stuck
 |_=> .stuck
theorem Mem.but {w0:cP} {ρ:Env} {m:Nat->Nat} {bl:List ao} {w w':ai} {b:Nat} {cs:List A} {t:aQ×Bool} (h:Mem w0 ρ m bl w) (hi:bl[b]?=some (cs,t)) (ho:bO cs=true) (hx:Li (m b) w w'):Mem w0 ρ m (cO bl b dI) w':=by
 have hlen:b<bl.length:=(List.getElem?_eq_some_iff.1 hi).1;have c9:∀(i:Nat) (q:ao),(cO bl b dI)[i]?=some q->(i=b/\q=dI)∨(i≠b/\bl[i]?=some q):=λi q hq=>by
  rw[iC,oy]at hq;split at hq
  ·rename_i eC;subst eC;simp only[hlen,if_true,aL]at hq;exact .inl ⟨rfl,hq.symm⟩
  ·rename_i eC;exact .inr ⟨λe=>eC e.symm,hq⟩
 have fq:aP ρ dI.1=0:=by simp[dI,aP,aa.aR]
 have fx:aP ρ cs=2:=hh ho;have hne:∀(i:Nat) (q:ao),i≠b->bl[i]?=some q->aP ρ q.1≠0->m i≠m b:=λi q ke hq hk e=>by
  rcases h.inj i b q _ hq hi e with h1|h1|h1|h1
  ·exact ke h1
  ·simp only at h1;omega
  ·exact hk h1
  ·simp only at h1;omega
 obtain⟨hb1,hb2,_⟩:=h.blk b cs t hi ho;refine⟨Ub h.ext hx.os hx.tape hx.out hx.size (λk hk=>hx.blk k (uX hk h.ext.size) (by omega)),hx.os.trans h.jb,hx.tape.trans h.je,hx.out.trans h.iw,gk h.eu hx.size,λi dv hex=>?_,λi iX t' hq gh=>?_,λi sh off code cap kind t' hq=>?_,λi j p q hp hq he=>?_⟩
 ·have NO:i≠m b:=λe=>by
   subst e;rcases hb2 with h2|h2
   ·exact hex h2
   ·omega
  rw[hx.blk i (uX dv h.eu) NO];exact h.gg i dv hex
 ·rcases c9 i _ hq with⟨_,e⟩|⟨ke,hq⟩
  ·simp only[dI,ct]at e;rw[e.1]at gh;simp[bO]at gh
  ·obtain⟨h1,h2,r,h3,h4⟩:=h.blk i iX t' hq gh;exact⟨h1,h2,r,h3,by rw[hx.blk _ (Array.getElem?_eq_some_iff.1 h4).1 (hne i _ ke hq (by rw[hh gh];decide))];exact h4⟩
 ·rcases c9 i _ hq with⟨_,e⟩|⟨ke,hq⟩
  ·simp only[dI,ct,lp,A.rows.injEq,and_true]at e;intro hk;exact absurd e.1.2.2.2.2 hk
  ·intro hk;obtain⟨g1,g2⟩:=h.rws i sh off code cap kind t' hq hk;refine⟨g1,λhc=>?_⟩;have xV:=hne i _ ke hq (by simp only[aP];rw[if_neg (by omega)];exact hk);obtain⟨k1,cells,FF,fz,k2,k3,k4⟩:=g2 hc;exact⟨k1,cells,FF,fz,by rw[hx.blk _ (Array.getElem?_eq_some_iff.1 k2).1 xV];exact k2,⟨k3.1,k3.2.mono λbb h' o gh=>⟨h'.set hi (λah=>by rw[fq]at ah;omega),by rw[hx.blk bb (Array.getElem?_eq_some_iff.1 gh).1 (λe=>h'.2 b _ hi (by rw[hh ho];decide) e.symm)];exact gh⟩⟩,k4⟩
 ·rcases c9 i _ hp with⟨_,e⟩|⟨ke,hp⟩
  ·subst e;exact .inr (.inr (.inl fq))
  ·rcases c9 j _ hq with⟨_,e⟩|⟨VC,hq⟩
   ·subst e;exact .inr (.inr (.inr fq))
   ·exact h.inj i j p q hp hq he
theorem Mem.acx {w0:cP} {ρ:Env} {m:Nat->Nat} {bl:List ao} {w w':ai} {b g:Nat} {cs:List A} {t:aQ×Bool} (h:Mem w0 ρ m bl w) (hi:bl[b]?=some (cs,t)) (ho:bO cs=true) (hx:Li (m b) w w') (hg:w.heap.size<=g):m7 w0 ρ m (cO bl b dI) w' g:=λi sh off code cap kind t' hq=>by
 have fq:aP ρ dI.1=0:=by simp[dI,aP,aa.aR]
 have fx:aP ρ cs=2:=hh ho;rcases Qo hq with⟨_,e,_⟩|⟨ke,h1⟩
 ·simp only[dI,ct,lp,A.rows.injEq,and_true]at e;intro hk;exact absurd e.1.2.2.2.2 hk
 ·refine(h.rws i sh off code cap kind t' h1).grow (λbb h' o gh=>⟨⟨h'.set hi (λah=>by rw[fq]at ah;omega),by have:=(Array.getElem?_eq_some_iff.1 gh).1;omega⟩,by rw[hx.blk bb (Array.getElem?_eq_some_iff.1 gh).1 (λe=>h'.2 b _ hi (by rw[hh ho];decide) e.symm)];exact gh⟩) λhk hc=>?_;have ja:aP ρ [A.rows sh off code cap kind]≠0:=by simp only[ix hk hc];exact hk
  refine hx.blk _ (h.lt h1 ja) λe=>?_;rcases h.inj i b _ _ h1 hi e with h3|h3|h3|h3
  ·exact ke h3
  ·simp only at h3;omega
  ·exact ja h3
  ·simp only at h3;omega
theorem b6.dead {n nb:Nat} {ρ:Env} {bl:List ao} (h:b6 n nb ρ bl) (b:Nat):b6 n nb ρ (cO bl b dI):=by
 intro q hq a ha;rw[iC]at hq;rcases Cv hq with hq|hq
 ·exact h q hq a ha
 ·subst hq;simp only[dI,ks,s9,or_false]at ha;subst ha;exact⟨⟨aa.cC _ _,aa.cC _ _,aa.cC _ _⟩,by rw[aa.aR];exact⟨bB _,rZ⟩,by rw[aa.aR];omega⟩
theorem Ls {ρ:Env} {m:Nat->Nat}:∀(k:Nat) {vs:List V} {xs:List az},df ρ m vs xs->df ρ m (vs.take k) (xs.take k)/\df ρ m (vs.drop k) (xs.drop k)
 |0,vs,xs,h=>⟨by simp;trivial,by simpa using h⟩
 |k+1,[],[],_=>⟨trivial,trivial⟩
 |k+1,v::vs,x::xs,h=>⟨⟨h.1,(Ls k h.2).1⟩,(Ls k h.2).2⟩
 |_+1,[],_::_,h=>h.elim
 |_+1,_::_,[],h=>h.elim
theorem lx.tr {w0:cP} {p:lx} {spec:List Int->List Int->Prop} (hc:p.dX P w0.b spec) (bX:∀zs rs,spec zs rs->S p.c.id zs rs) (n:Nat) (vs:List V) (bl:List ao) (k:RK) (G:dc) (ρ:Env) (m:Nat->Nat) (w:ai) (xs:List az) (R':pK->ai->Prop)
 (hb:b6 n bl.length ρ bl) (hw:Mem w0 ρ m bl w) (hv:∀v∈vs,V.ok n bl.length ρ v) (hr:df ρ m vs xs) (ah:(p.E n vs bl k).holds S L G ρ) (hk:o6 S L w0 k n bl.length ρ m G R'):
 (callFunc p.c.f xs.toArray).run P w= .ok (.enter p.c.f xs.toArray) w/\gU P p.c.f xs.toArray w R':=by
 refine⟨hc.1 _ _,?_⟩;unfold lx.E at ah;split at ah
 rotate_left
 ·exact ah.elim
 rename_i b us;split at ah
 rotate_left
 ·exact ah.elim
 rename_i cs t hbl
 match xs,hr with
 |x::xs,hr=>
 cases gM:(bO cs&&Dj p.cells cs&&aH t p.ty&&Di p.tail (us.drop p.c.args.length)&&bu p.c.args.length us.length&& !(((us.take p.c.args.length).flatMap fG).any (aH b))&&kz p.c.res&& !(p.c.res.any bL.jg))with
 |false=>rw[gM]at ah;exact ah.elim
 |true=>
 rw[gM]at ah;simp only[cond_true]at ah;simp only[aO,fX]at gM;obtain⟨⟨⟨⟨⟨⟨⟨c1,c2⟩,c3⟩,c4⟩,c5⟩,ff⟩,j7⟩,mD⟩:=gM;have c3:=bx c3;subst c3;obtain⟨hx,hr⟩:=hr;have hx:x= .pointer (some ⟨m b,0,none⟩):=hx;subst hx;obtain⟨r1,r2⟩:=Ls p.c.args.length hr;have Ol:=Uk c4 r2;have gE:xs=xs.take p.c.args.length++p.tail.map eR.val:=by rw[<-Ol,jn]
 obtain⟨b1,b2,r,jc,b3⟩:=hw.blk b cs _ hbl c1;have jc:=jc rfl;subst jc;rw[ln,Um c2]at b3;obtain⟨aD,n1,ls,fi,dL,⟨g1,g2,g3⟩,ah⟩:=MA (S:=S) (L:=L) hb hw (λv hv'=>hv v (cD _ (j1 hv'))) r1 G _ ah;obtain⟨gD,ah⟩:=preM_holds ah;simp only[T.holds]at ah;rw[gE];refine(hc.2 (oB w0 ρ m bl ((us.take p.c.args.length).flatMap fG) ((us.take p.c.args.length).flatMap jB)) w _ _ (m b) hw.ext g2 gD (g3 _ λ_ h=>h) b1 (λhF=>?_) b3).mono ?_
 ·rcases hF with⟨⟨b',k1,k2,q,k3,k4,_⟩,_⟩|nY
  rotate_left
  ·exact nY.2 b _ hbl (by rw[hh c1];decide) rfl
  have hne:b≠b':=λe=>by
   subst e;rw[List.any_eq_true.2 ⟨b,k1,Cm b⟩]at ff;cases ff
  rcases hw.inj b b' _ q hbl k3 k2.symm with h|h|h|h
  ·exact hne h
  ·have:=hh (ρ:=ρ) c1;simp only at h;omega
  ·have:=hh (ρ:=ρ) c1;simp only at h;omega
  ·exact k4 h
 rintro e w' ⟨he,rs,jE,r1,r2,r3,rfl⟩
 have ah:=kx ah r1 (bX _ _ r2);have hM:=hw.but hbl c1 he;have dS:=hb.dead b;have hl:(cO bl b dI).length=bl.length:=km _ _ _;have c7:agree n1 aD (bf aD n1 rs):=agree.bf rs n1 aD;have lE:=dL.trans c7 fi;have hb2:b6 (n1+(cd p.c.res).length) (cO bl b dI).length (bf aD n1 rs) (cO bl b dI):=by rw[hl];exact dS.ext lE (by omega) (aV _)
 have ae7:Mem w0 (bf aD n1 rs) m (cO bl b dI) w':=hM.dO (by rw[hl];exact dS) lE;have hA:fC (bf aD n1 rs) n1 rs:=fC.bf aD n1 rs;have xA:cR n bl.length ρ m (n1+(cd p.c.res).length) (cO bl b dI).length (bf aD n1 rs) m:=⟨by omega,lE,by rw[hl];exact aV _,λ_ _=>rfl⟩;have hF:∀g,(oB w0 ρ m bl ((us.take p.c.args.length).flatMap fG) ((us.take p.c.args.length).flatMap jB) g∨w.heap.size<=g)->w0.ex g∨w0.ro g∨w0.r.heap.size<=g:=λg hg=>by
  rcases hg with(hg|hg)|hg
  ·exact hg.2
  ·exact hg.1
  ·exact .inr (.inr (gk hw.eu hg))
 have hN:∀g,w.heap.size<=g->w0.b.heap.size<=g/\w0.r.heap.size<=g:=λg hg=>⟨gk hw.ext.size hg,gk hw.eu hg⟩;have lH:(p.c.res.all λb=> !b.jg)=true:=by
  rw[pI];intro b hb;cases dS:b.jg with
  |false=>rfl
  |true=>rw[List.any_eq_true.2 ⟨b,hb,dS⟩]at mD;cases mD
 obtain⟨n',ag,m',asD,gB,p1,br,bT,dh,dD,eB⟩:=r7 (S:=S) (L:=L) hF hN (l:=p.c.res) (us:=[]) (vals:=jE) j7 hb2 ae7 hA r1 (aV _) r3 (.inl lH) (.inr λi q hi fI=>by
  by_cases h0:aP (bf aD n1 rs) q.1=0
  ·exact h0
  ·exfalso;rw[iC,oy]at hi;split at hi
   ·rename_i e;subst e;split at hi
    ·cases hi;exact h0 (by simp[dI,aP,aa.aR])
    ·cases hi
   ·rw[mi (hb q (c0 hi)) lE]at h0;have:=hw.lt hi h0;omega) (.inr λg hg=>(hw.acx hbl c1 he hg).dO (by rw[hl];exact dS) lE) (λu hu=>by simp at hu) ah
 have jw:=Jx (m:=m') dD (by simpa using dh);exact hk n' (pD asD) gB G ag m' w' (lh jE) (xA.trans p1) (dG.refl _ _) jw.1 jw.2 br bT eB
noncomputable def Fj:List lx->hT->hT
 |[],bc=>bc
 |p::r,bc=>λf=>cond (aH p.c.f f) (some p.E) (Fj r bc f)
theorem Yk {w0:cP} {bc:hT} (fQ:lY S L w0 P bc):∀{l:List lx},(∀p∈l,p.dX P w0.b (S p.c.id))->lY S L w0 P (Fj l bc)
 |[],_=>fQ
 |p::l,h=>λf g hf=>by
  unfold Fj at hf;cases hb:aH p.c.f f with
  |true=>
   rw[hb]at hf;simp only[cond_true,aL]at hf;have:=bx hb;subst this;subst hf;intro n vs bl k G ρ m w xs R' h1 h2 h3 h4 h5 h6;exact lx.tr (h p (by simp)) (λ_ _ h=>h) n vs bl k G ρ m w xs R' h1 h2 h3 h4 h5 h6
  |false=>
   rw[hb]at hf;exact Yk fQ (λp hp=>h p (cD _ hp)) f g hf
noncomputable def lx.tree (f:hU) (p:lx):T:=
 cond (kz p.c.args&& !(p.c.args.any bL.jT)) (E9 p.c.pre ((c8 (cd p.c.args).length).map yq) (nP p.c.args 0 (cd p.c.args).length [] [] λn us bl=>
  cond (bO (p.cells.map eR.A)) (f p.c.f n (jh (.ptr bl.length 0)::(us.map V.w++p.tail.map λr=>jh r.A)) (bl++[(p.cells.map eR.A,(p.ty,false))]) λn' v aJ=>match aJ[bl.length]? with
   |some (cs,_)=>cond (bO cs) (Fp (cO aJ bl.length dI) p.c.res v n' λos _=> .leaf (sN os)) .stuck
   |none=> .stuck) .stuck)) .stuck
theorem eR.RH (r:eR) (ρ:Env) (m:Nat->Nat):r.A.den ρ m=r.val:=by cases r<;>simp[eR.A,eR.val,A.den,bI.const,aa.aR]
theorem eR.RI (r:eR) (n nb:Nat) (ρ:Env):r.A.ok n nb ρ:=by
 cases r with
 |int k c=>exact bI.nc _ _ _
 |fn f=>rfl
theorem Su {ρ:Env} {m:Nat->Nat}:∀{vs us:List V} {xs ft:List az},df ρ m vs xs->df ρ m us ft->df ρ m (vs++us) (xs++ft)
 |[],_,[],_,_,h=>h
 |_::_,_,_::_,_,h,h'=>⟨h.1,Su h.2 h'⟩
 |[],_,_::_,_,h,_=>h.elim
 |_::_,_,[],_,h,_=>h.elim
theorem Mem.adq {b r r':ai} {ro:Nat->Prop} {ρ:Env} {m:Nat->Nat} {bl:List ao} {w:ai} {g i0:Nat} {cs:List A} {t:aQ×Bool} (h:Mem ⟨b,r,λi=>i=g,ro,[]⟩ ρ m bl w) (hi:bl[i0]?=some (cs,t)) (ho:bO cs=true) (hg:m i0=g)
 (hr:r'.os=r.os/\r'.tape=r.tape/\r'.output=r.output/\r'.heap.size=r.heap.size) (h1:∀k,k≠g->r'.heap[k]?=r.heap[k]?) (h2:r'.heap[g]?=w.heap[g]?):
 Mem ⟨b,r',λ_=>False,ro,[]⟩ ρ m (cO bl i0 dI) w:=by
 have hlen:i0<bl.length:=(List.getElem?_eq_some_iff.1 hi).1;have c9:∀(i:Nat) (q:ao),(cO bl i0 dI)[i]?=some q->(i=i0/\q=dI)∨(i≠i0/\bl[i]?=some q):=λi q hq=>by
  rw[iC,oy]at hq;split at hq
  ·rename_i eC;subst eC;simp only[hlen,if_true,aL]at hq;exact .inl ⟨rfl,hq.symm⟩
  ·rename_i eC;exact .inr ⟨λe=>eC e.symm,hq⟩
 have fq:aP ρ dI.1=0:=by simp[dI,aP,aa.aR]
 have fx:aP ρ cs=2:=hh ho;have hne:∀(i:Nat) (q:ao),i≠i0->bl[i]?=some q->aP ρ q.1≠0->m i≠g:=λi q ke hq hk e=>by
  rcases h.inj i i0 q _ hq hi (by rw[e,hg])with h1|h1|h1|h1
  ·exact ke h1
  ·simp only at h1;omega
  ·exact hk h1
  ·simp only at h1;omega
 refine⟨h.ext,h.jb.trans hr.1.symm,h.je.trans hr.2.1.symm,h.iw.trans hr.2.2.1.symm,by have:=h.eu;simp only at this⊢;omega,λi dv _=>?_,λi iX t' hq gh=>?_,λi sh off code cap kind t' hq=>?_,λi j p q hp hq he=>?_⟩
 ·by_cases e:i=g
  ·subst e;exact h2.symm
  ·show w.heap[i]?=r'.heap[i]?;rw[h1 i e];exact h.gg i (by simp only at dv⊢;omega) e
 ·rcases c9 i _ hq with⟨_,e⟩|⟨ke,hq⟩
  ·simp only[dI,ct]at e;rw[e.1]at gh;simp[bO]at gh
  ·obtain⟨k1,k2,k3⟩:=h.blk i iX t' hq gh;refine⟨k1,?_,k3⟩;rcases k2 with k2|k2
   ·exact absurd k2 (hne i _ ke hq (by rw[hh gh];decide))
   ·exact .inr (by simp only at k2⊢;omega)
 ·rcases c9 i _ hq with⟨_,e⟩|⟨ke,hq⟩
  ·simp only[dI,ct,lp,A.rows.injEq,and_true]at e;intro hk;exact absurd e.1.2.2.2.2 hk
  ·intro hk;obtain⟨g1,g2⟩:=h.rws i sh off code cap kind t' hq hk;refine⟨g1,λhc=>?_⟩;have xV:m i≠g:=hne i _ ke hq (by simp only[aP];rw[if_neg (by omega)];exact hk);obtain⟨k1,cells,FF,fz,k2,k3,k4⟩:=g2 hc;refine⟨?_,cells,FF,fz,k2,⟨k3.1,k3.2.mono (Fr.of w λbb ec=>⟨?_,λj q hj hk=>?_⟩)⟩,λh2=>?_⟩
   rotate_left
   ·rcases ec.1 with e|e|e
    ·have e:bb=g:=e;subst e;exact absurd hg (ec.2 i0 _ hi (by rw[fx];decide))
    ·exact .inr (.inl e)
    ·exact .inr (.inr (by simp only at e⊢;omega))
   ·rcases c9 j _ hj with⟨_,e⟩|⟨_,hj⟩
    ·subst e;omega
    ·exact ec.2 j q hj hk
   rotate_left
   ·rcases k1 with k1|k1|k1
    ·exact absurd k1 xV
    ·exact .inr (.inl k1)
    ·exact .inr (.inr (by simp only at k1⊢;omega))
   ·obtain⟨da,kH,mg,nv,pA,kI⟩:=k4 h2;refine⟨da,kH,mg,nv,pA,?_⟩;rcases kI with kI|kI
    ·exact absurd kI xV
    ·exact .inr (by simp only at kI⊢;omega)
 ·rcases c9 i _ hp with⟨_,e⟩|⟨ke,hp⟩
  ·subst e;exact .inr (.inr (.inl fq))
  ·rcases c9 j _ hq with⟨_,e⟩|⟨VC,hq⟩
   ·subst e;exact .inr (.inr (.inr fq))
   ·exact h.inj i j p q hp hq he
theorem lx.alC {wb:ai} {p:lx} {inl:hU} {spec:List Int->List Int->Prop}
 (iq:∀(L:V->Env->Prop) (r:ai) (ex ro:Nat->Prop),lr S L ⟨wb,r,ex,ro,[]⟩ P inl) (hf:∀args w,(callFunc p.c.f args).run P w= .ok (.enter p.c.f args) w)
 (ht:oG (cd p.c.args) λzs=>(p.tree inl).holds S (o5 λrs=>bd (cd p.c.res) rs/\spec zs rs) (λ_ _=>False) (bf (λ_=>0) 0 zs)):p.dX P wb spec:=by
 refine⟨hf,λF w vs zs g hw hz xZ hat Nr xx hcell=>?_⟩;have ah:=kx ht hz;have mN:=gi hz;unfold lx.tree at ah;cases hq:(kz p.c.args&& !(p.c.args.any bL.jT))with
 |false=>rw[hq]at ah;exact ah.elim
 |true=>
  rw[hq]at ah;simp only[cond_true]at ah;have ah:=preA_holds ah (by rw[<-mN,EZ];exact xZ);simp only[aO,fX]at hq;have kE:Mem ⟨wb,w,λ_=>False,F,[]⟩ (bf (λ_=>0) 0 zs) (λ_=>0) [] w:=⟨hw,rfl,rfl,rfl,aV _,λ_ _ _=>rfl,λi cs t h=>by simp at h,λi sh off code cap kind t h=>by simp at h,λi j p q h=>by simp at h⟩;have hall:(p.c.args.all λb=> !b.jT)=true:=by
   rw[pI];intro b hb;cases dS:b.jT with
   |false=>rfl
   |true=>rw[List.any_eq_true.2 ⟨b,hb,dS⟩]at hq;cases hq.2
  obtain⟨n',ag,m',us,bl,p1,br,bT,dh,dD,eB⟩:=r7 (S:=S) (L:=_) (w0:=⟨wb,w,λ_=>False,F,[]⟩) (F:=F) (N:=λ_=>False) (λg hg=> .inr (.inl hg)) (λg hg=>hg.elim) (l:=p.c.args) (s:=0) (us:=[]) (bl:=[]) (m:=λ_=>0) hq.1 (λp hp=>by simp at hp) kE (fC.bf _ 0 zs) hz (by omega) hat (.inr λi p h=>by simp at h) (.inl hall) (.inl hall) (λu hu=>by simp at hu) ah;cases ju:bO (p.cells.map eR.A)with
  |false=>rw[ju]at eB;exact eB.elim
  |true=>
  rw[ju]at eB;simp only[cond_true]at eB;have vD:g<w.heap.size:=(Array.getElem?_eq_some_iff.1 hcell).1;have qX:∀ρ m,(p.cells.map eR.A).map (A.den ρ m)=p.cells.map eR.val:=λρ m=>by
   rw[kN];exact gI λr _=>r.RH ρ m
  have Vj:∀n nb ρ,∀a∈p.cells.map eR.A,A.ok n nb ρ a:=λn nb ρ a ha=>by
   obtain⟨r,_,rfl⟩:=List.mem_map.1 ha;exact r.RI n nb ρ
  have hM:=(bT.more (ex':=λi=>i=g) λ_ h=>h.elim).push (x:=(p.cells.map eR.A,(p.ty,false))) (g:=g) br (Vj _ _ _) (λ_=>⟨Nr,.inl rfl,[],λ_=>rfl,by rw[ln,qX];exact hcell⟩) (λsh off code cap kind he=>by
   simp only at he;rw[he]at ju;simp[bO]at ju) (λi q hi he=>by
    refine .inr (.inl ?_);by_cases h0:aP ag q.1=0
    ·exact h0
    ·exfalso;obtain⟨cs,t⟩:=q;cases ho:bO cs with
     |true=>
      obtain⟨_,h2,_⟩:=bT.blk i cs t hi ho;rcases h2 with h2|h2
      ·exact h2
      ·simp only at h2;omega
     |false=>
      obtain⟨sh,off,code,cap,k,e⟩:=Jg ho;subst e;simp only[aP]at h0;split at h0
      ·exact h0 rfl
      ·rename_i hc;obtain⟨h1,_⟩:=(bT.rws i sh off code cap k t hi h0).2 (by omega);rcases h1 with h1|h1|h1
       ·exact h1
       ·rw[he]at h1;exact xx h1
       ·simp only at h1;omega) (λi sh off code cap kind t hi=>((bT.YU (x:=(p.cells.map eR.A,(p.ty,false))) (g:=g) (λbb ec e=>by
    subst e;rcases ec.1 with h1|h1|h1
    ·exact h1
    ·exact xx h1
    ·simp only at h1;omega) i sh off code cap kind t hi).more (ex':=λi=>i=g) λ_ h=>h.elim).mono λbb ec=>⟨ec.1.imp (λh=>h.elim) id,ec.2⟩)
  have xD:b6 n' (bl++[(p.cells.map eR.A,(p.ty,false))]).length ag (bl++[(p.cells.map eR.A,(p.ty,false))]):=λq hq a fp=>by
   rcases List.mem_append.1 hq with hq|hq
   ·exact(br q hq a fp).ext (agree.refl _ _) (aV _) (by simp)
   ·simp at hq;subst hq;exact Vj _ _ _ a fp
  have ni:∀v∈(jh (.ptr bl.length 0)::(us.map V.w++p.tail.map λr=>jh r.A)),V.ok n' (bl++[(p.cells.map eR.A,(p.ty,false))]).length ag v:=λv hv=>by
   rcases List.mem_cons.1 hv with rfl|hv
   ·show bl.length<_;simp
   ·rcases List.mem_append.1 hv with hv|hv
    ·obtain⟨u,hu,rfl⟩:=List.mem_map.1 hv;exact W.ok.ext (dD u hu) (agree.refl _ _) (aV _) (by simp)
    ·obtain⟨r,_,rfl⟩:=List.mem_map.1 hv;exact r.RI _ _ _
  have Ey:∀u∈us,W.den ag (fc m' bl.length g) u=W.den ag m' u:=λu hu=>W.j8 (dD u hu) (agree.refl _ _) (λb hb=>iD hb);have hrel:df ag (fc m' bl.length g) (jh (.ptr bl.length 0)::(us.map V.w++p.tail.map λr=>jh r.A)) (.pointer (some ⟨g,0,none⟩)::(vs++p.tail.map eR.val)):=by
   refine⟨by simp[jh,V.rel,W.den,A.den,jX],Su (GB ?_) ?_⟩
   ·rw[gI Ey];simpa using dh
   ·have:=Lr (ρ:=ag) (m:=fc m' bl.length g) (p.tail.map eR.A);rw[kN,kN]at this;have e:(A.den ag (fc m' bl.length g)∘eR.A)=eR.val:=funext λr=>r.RH _ _;rw[e]at this;exact this
  refine((iq _ _ _ _ p.c.f n' _ _ _ _ ag (fc m' bl.length g) w _ _ xD hM ni hrel eB ?_).2);intro n2 v aJ de bo m2 w' val h1 h2 h3 h4 h5 h6 h7;simp only at h7;split at h7
  rotate_left
  ·exact h7.elim
  rename_i cs t hb2;cases gM:bO cs with
  |false=>rw[gM]at h7;exact h7.elim
  |true=>
  rw[gM]at h7;simp only[cond_true]at h7;have Ns:bl.length<(bl++[(p.cells.map eR.A,(p.ty,false))]).length:=by simp
  have Ec:m2 bl.length=g:=by rw[h1.hm _ Ns,jX]
  obtain⟨Pq,ahv⟩:∃o,w'.heap[g]?=some o:=by
   obtain⟨_,_,r,_,h8⟩:=h6.blk bl.length cs t hb2 gM;rw[Ec]at h8;exact⟨_,h8⟩
  have hD:=h6.adq (r':=w.putObj g Pq) hb2 gM Ec (sQ _ _ _) (λk hk=>rR hk) (by rw[u6 vD,ahv]);have dS:b6 n2 (cO aJ bl.length dI).length bo (cO aJ bl.length dI):=by
   rw[km];exact h5.dead _
  obtain⟨eJ,n3,os,ra,pg,⟨xs,hx1,hx2⟩,hl⟩:=PW (S:=S) (w0:=⟨wb,w.putObj g Pq,λ_=>False,F,[]⟩) (λg hg=>hg) dS hD (by rw[km];exact h3) h4 de _ h7;have hl:o5 _ (sN os) eJ:=hl;rw[GD]at hl;refine⟨⟨h6.jb,h6.je,h6.iw,h6.eu,λi hi NO=>h6.gg i hi NO⟩,os.map (O.den eJ),xs,hl.1,hl.2,?_,by rw[hx1]⟩;have hsz:(w.putObj g Pq).heap.size=w.heap.size:=RD;exact dw.vW.w7 (λg hg=>by
   rcases hg with hg|hg|hg
   ·exact hg.elim
   ·exact .inl hg
   ·exact .inr (hsz▸hg)) (λg hg=>hsz▸hg) hx2
section
variable {wb:ai} {sh:Nat->List Nat×List Nat} {SB:Nat->List (List Int)->List (List Int)->Prop}
theorem apl {p:lx} {inl:hU} {lsh:Nat->List Nat} {lens:List Nat}
 (iq:∀(L:V->Env->Prop) (r:ai) (ex ro:Nat->Prop),lr (b5 sh SB) L ⟨wb,r,ex,ro,[]⟩ P inl) (hf:qS P p.c.f=true) (hl:lens=(sh p.c.id).1) (hd:sK p.c.res=(sh p.c.id).2)
 (hv:iI sh lsh SB (ez SB p.c.res p.c.id) lens (cd p.c.args) p.c.res (p.tree inl)):p.dX P wb (b5 sh SB p.c.id):=by
 refine lx.alC iq (enters hf) (r6 λzs hz=>?_);have h:=kx (GO hv) hz;simp only[ez,B3]at h;rw[hl,hd]at h;exact h
end
end Go.ba
namespace Go.bE
open Go Go.ba
def BS:List Int:=[4794697086780616226,8158064640168781261,13096744586834688815,16840607885511220156,4131703408338449720,6480981068601479193,10538285296894168987,12329834152419229976,15566598209576043074,1334009975649890238,2608012711638119052,6128411473006802146,8268148722764581231,9286055187155687089,11230858885718282805,13951009754708518548,16472876342353939154,17275323862435702243,1135362057144423861,2597628984639134821,3308224258029322869,5365058923640841347,6679025012923562964,8573033837759648693,10970295158949994411,12119686244451234320,12683024718118986047,13788192230050041572,14330467153632333762,15395433587784984357,489312712824947311,1452737877330783856,2861767655752347644,3322285676063803686,5560940570517711597,5996557281743188959,7280758554555802590,8532644243296465576,9350256976987008742,10552545826968843579,11727347734174303076,12113106623233404929,14000437183269869457,14369950271660146224,15101387698204529176,15463397548674623760,17586052441742319658,1182934255886127544,1847814050463011016,2177327727835720531,2830643537854262169,3796741975233480872,4115178125766777443,5681478168544905931,6601373596472566643,7507060721942968483,8399075790359081724,8693463985226723168,9568029438360202098,10144078919501101548,10430055236837252648,11840083180663258601,13761210420658862357,14299343276471374635,14566680578165727644,15097957966210449927,16922976911328602910,17689382322260857208,500013540394364858,748580250866718886,1242879168328830382,1977374033974150939,2944078676154940804,3659926193048069267,4368137639120453308,4836135668995329356,5532061633213252278,6448918945643986474,6902733635092675308,7801388544844847127]
def G2:List Int:=[7640891576956012808,13503953896175478587,4354685564936845355,11912009170470909681,5840696475078001361,11170449401992604703,2270897969802886507,6620516959819538809]
def cg:dz:=[(0,BS.map λz=>(.u64,z)),(1,G2.map λz=>(.u64,z))]
structure fw where
 k:dj
 w:Nat
 s:Nat
 t:Nat
 a:List Nat
 b:List Nat
 c:List Nat
 d:List Nat
 n:Nat
def cl:fw:=⟨.u32,32,3,10,[2,13,22],[6,11,25],[7,18],[17,19],64⟩
def pP:fw:=⟨.u64,64,7,6,[28,34,39],[14,18,41],[1,8],[19,61],80⟩
def fU (w n:Nat) (x:Int):Int:=x/2^n+(x% 2^n)*2^(w-n)
def JO (p:fw) (l:List Nat) (x:Int):Int:=l.foldl (λy n=>cy .xor p.k y (fU p.w n x)) 0
def IZ (a b c:Nat) (s x:Int):Int:=cy .xor .u64 (cy .xor .u64 (cy .xor .u64 0 (fU 64 a x)) (fU 64 b x)) (if s=1 then x/2^c else fU 64 c x)
def om (n:Nat) (x:Int):Int:=cy .or .u64 (x/2^n) (x*2^(32-n)% 18446744073709551616)% 4294967296
def I1 (a b c:Nat) (s x:Int):Int:=cy .xor .u64 (cy .xor .u64 (om a x) (om b x)) (if s=1 then x/2^c else om c x)
def I0 (a b c:Nat) (s x:Int):Int:=cy .xor .u32 (cy .xor .u32 (cy .xor .u32 0 (fU 32 a x)) (fU 32 b x)) (if s=1 then x/2^c else fU 32 c x)
def zE (p:fw) (x:Int):Int:=JO p p.a x
def zF (p:fw) (x:Int):Int:=JO p p.b x
def FB (p:fw) (x:Int):Int:=cy .xor p.k (JO p p.c x) (x/2^p.s)
def FC (p:fw) (x:Int):Int:=cy .xor p.k (JO p p.d x) (x/2^p.t)
def md (p:fw) (x:Int):Int:=x% 2^p.w
def Hj (p:fw) (e f g:Int):Int:=cy .xor p.k (cy .and p.k e f) (cy .and p.k (2^p.w-1-e) g)
def Pj (p:fw) (a b c:Int):Int:=cy .xor p.k (cy .xor p.k (cy .and p.k a b) (cy .and p.k a c)) (cy .and p.k b c)
def Ft (p:fw) (i:Nat):Int:=BS.getD i 0/2^(64-p.w)
def Bz (p:fw) (m:List Int):Int:=md p (m.getD (m.length-16) 0+FB p (m.getD (m.length-15) 0)+m.getD (m.length-7) 0+FC p (m.getD (m.length-2) 0))
def sa (p:fw):Nat->List Int->List Int
 |0,m=>m
 |j+1,m=>sa p j (m++[Bz p m])
def sched (p:fw) (m:List Int):List Int:=sa p (p.n-16) m
def uH (p:fw) (i:Nat) (x:Int):List Int->List Int
 |[a,b,c,d,e,f,g,h]=>
  let t:=md p (h+zF p e+Hj p e f g+Ft p i+x);let u:=md p (zE p a+Pj p a b c)
  [md p (t+u),a,b,c,md p (d+t),e,f,g]
 |l=>l
def wj (p:fw):Nat->List Int->List Int->List Int
 |_,[],v=>v
 |i,x::m,v=>wj p (i+1) m (uH p i x v)
def B7 (p:fw) (h m:List Int):List Int:=o3 (λa b=>md p (a+b)) h (wj p 0 (sched p m) h)
def Ce (p:fw) (b:List Int) (j:Nat):Int:=(c8 (p.w/8)).foldl (λy q=>y*256+b.getD (j*(p.w/8)+q) 0) 0
def FK (p:fw) (b:List Int):List Int:=(c8 16).map (Ce p b)
def CQ (p:fw) (b:List Int):Nat->List Int->List Int
 |0,h=>h
 |i+1,h=>B7 p (CQ p b i h) (FK p ((b.drop (2*p.w*i)).take (2*p.w)))
def vp (p:fw):List Int:=G2.map (·/2^(64-p.w))
def qL (p:fw) (x:Int) (q:Nat):Int:=x/2^(p.w-8-8*q)% 256
def yv (p:fw) (h:List Int):List Int:=h.flatMap λx=>(c8 (p.w/8)).map (qL p x)
def tA (p:fw) (b:List Int):List Int:=yv p (CQ p b (b.length/(2*p.w)) (vp p))
def qj (w n:Nat):Nat:=(n+1+w/4+(2*w-1))/(2*w)*(2*w)
def xa (n:Nat):List Int:=(c8 8).map λq=>((n/2^(56-8*q)% 256:Nat):Int)
def vZ (p:fw) (b:List Int):List Int:=b++[128]++eX (qj p.w b.length-b.length-9) 0++xa (8*b.length)
def nC (p:fw) (b:List Int):List Int:=tA p (vZ p b)
def cm (z:Int):List Int:=(ab z).map λr=>r.getD 0 0
def sO (n w:Int):Int:=if n<0∨1099511627776<n∨(w≠32/\w≠64)then 0 else qj w.toNat n.toNat
def digit (n:Int):UInt8:=([48,49,50,51,52,53,54,55,56,57,97,98,99,100,101,102]:List UInt8).getD n.toNat 0
def Vu (b:List Int):List UInt8:=b.flatMap λx=>[digit (x/16),digit (x% 16)]
def abD:Nat->List (List Int)->List (List Int)->Prop
 |440,[[n],[w]],rs=>rs=[[sO n w]]
 |441,[[n],[w]],rs=>rs=[[sO n w]]
 |442,[[z]],[[r]]=>cm r=vZ cl (cm z)
 |443,[[z]],[[r]]=>cm r=vZ pP (cm z)
 |444,[[x]],rs=>rs=[[zE cl x]]
 |445,[[x]],rs=>rs=[[zF cl x]]
 |446,[[x]],rs=>rs=[[FB cl x]]
 |447,[[x]],rs=>rs=[[FC cl x]]
 |448,[[x]],rs=>rs=[[zE pP x]]
 |449,[[x]],rs=>rs=[[zF pP x]]
 |450,[[x]],rs=>rs=[[FB pP x]]
 |451,[[x]],rs=>rs=[[FC pP x]]
 |452,[[z]],rs=>rs=[nC cl (cm z)]
 |453,[[z]],rs=>rs=[nC pP (cm z)]
 |454,[[z]],[[s]]=>U s=Vu (cm z)
 |455,[[z]],[[s]]=>U s=Vu (cm z)
 |456,[],rs=>rs=[[1]]
 |457,[_,_],[[r]]=>r=1
 |458,[_,_,_],[[r]]=>r=1
 |459,[_,_,_],[[r]]=>r=1
 |460,[[z]],[[r]]=>ab r=ab z
 |461,[[z]],[[r]]=>ab r=ab z
 |462,[[z]],[[r]]=>ab r=ab z
 |463,[[z]],[[r]]=>ab r=ab z
 |468,[[a],[b],[c],[d]],[[r]]=>ab r=ab a++(ab b++(ab c++ab d))
 |469,[[a],[b],[c]],[[r]]=>ab r=ab a++(ab b++ab c)
 |470,[[a],[b],[c],[d]],rs=>rs=[nC cl (cm a++(cm b++(cm c++cm d)))]
 |471,[[a],[b],[c]],rs=>rs=[nC pP (cm a++(cm b++cm c))]
 |476,[[x]],rs=>rs=[[x]]
 |477,[[z]],[[r]]=>cm r=nC pP (cm z)
 |478,[[z]],rs=>rs=[nC pP (cm z)]
 |479,[[x],_,[s]],rs=>rs=[[IZ 28 34 39 s x]]
 |480,[[x],_,[s]],rs=>rs=[[IZ 14 18 41 s x]]
 |481,[[x],_,[s]],rs=>rs=[[IZ 1 8 7 s x]]
 |482,[[x],_,[s]],rs=>rs=[[IZ 19 61 6 s x]]
 |483,[[x]],rs=>rs=[[x% 4294967296]]
 |484,[[x],_,[s]],[[r]]=>(0<=x->x<=4294967295->r=I0 2 13 22 s x)/\r=I1 2 13 22 s x
 |485,[[x],_,[s]],[[r]]=>(0<=x->x<=4294967295->r=I0 6 11 25 s x)/\r=I1 6 11 25 s x
 |486,[[x],_,[s]],[[r]]=>(0<=x->x<=4294967295->r=I0 7 18 3 s x)/\r=I1 7 18 3 s x
 |487,[[x],_,[s]],[[r]]=>(0<=x->x<=4294967295->r=I0 17 19 10 s x)/\r=I1 17 19 10 s x
 |488,[[z]],[[r]]=>cm r=nC cl (cm z)
 |489,[[z]],rs=>rs=[nC cl (cm z)]
 |802,[[x],_],[[r]]=>(0<=x->x<=4294967295->r=fU 32 2 x)/\r=om 2 x
 |803,[[x],_],[[r]]=>(0<=x->x<=4294967295->r=fU 32 3 x)/\r=om 3 x
 |806,[[x],_],[[r]]=>(0<=x->x<=4294967295->r=fU 32 6 x)/\r=om 6 x
 |807,[[x],_],[[r]]=>(0<=x->x<=4294967295->r=fU 32 7 x)/\r=om 7 x
 |810,[[x],_],[[r]]=>(0<=x->x<=4294967295->r=fU 32 10 x)/\r=om 10 x
 |811,[[x],_],[[r]]=>(0<=x->x<=4294967295->r=fU 32 11 x)/\r=om 11 x
 |813,[[x],_],[[r]]=>(0<=x->x<=4294967295->r=fU 32 13 x)/\r=om 13 x
 |817,[[x],_],[[r]]=>(0<=x->x<=4294967295->r=fU 32 17 x)/\r=om 17 x
 |818,[[x],_],[[r]]=>(0<=x->x<=4294967295->r=fU 32 18 x)/\r=om 18 x
 |819,[[x],_],[[r]]=>(0<=x->x<=4294967295->r=fU 32 19 x)/\r=om 19 x
 |822,[[x],_],[[r]]=>(0<=x->x<=4294967295->r=fU 32 22 x)/\r=om 22 x
 |825,[[x],_],[[r]]=>(0<=x->x<=4294967295->r=fU 32 25 x)/\r=om 25 x
 |490,[[z]],[[r]]=>ab r=ab z
 |491,[[z]],[[r]]=>r=0->(ab z).length<=5000
 |492,[[z]],[[r]]=>ab r=ab z
 |493,[[z]],rs=>rs=[nC cl (cm z)]
 |494,[[z]],rs=>rs=[nC pP (cm z)]
 |495,[_],[[r]]=>r=1
 |701,[[x],_],rs=>rs=[[fU 64 1 x]]
 |706,[[x],_],rs=>rs=[[fU 64 6 x]]
 |707,[[x],_],rs=>rs=[[fU 64 7 x]]
 |708,[[x],_],rs=>rs=[[fU 64 8 x]]
 |714,[[x],_],rs=>rs=[[fU 64 14 x]]
 |718,[[x],_],rs=>rs=[[fU 64 18 x]]
 |719,[[x],_],rs=>rs=[[fU 64 19 x]]
 |728,[[x],_],rs=>rs=[[fU 64 28 x]]
 |734,[[x],_],rs=>rs=[[fU 64 34 x]]
 |739,[[x],_],rs=>rs=[[fU 64 39 x]]
 |741,[[x],_],rs=>rs=[[fU 64 41 x]]
 |761,[[x],_],rs=>rs=[[fU 64 61 x]]
 |466,[[i]],rs=>rs=[[Ft cl i.toNat]]
 |467,[[i]],rs=>rs=[[Ft pP i.toNat]]
 |464,[[z]],[[r]]=>cm r=tA cl (cm z)
 |465,[[z]],[[r]]=>cm r=tA pP (cm z)
 |_,_,_=>False
end Go.bE
namespace Go.bE
open Go Go.ba
def Ma (c b:Int):Nat->Nat->List Int->(List Int->Prop)->Prop
 |0,_,acc,k=>k acc
 |n+1,i,acc,k=>af 21 [c,(b+(i:Int))]/\∀y:Int,0<=y->y<=255->y=aw 21 [c,(b+(i:Int)),0]->Ma c b n (i+1) (acc++[y]) k
def L9 (l:List Int):Nat->Nat->Int->(Int->Prop)->Prop
 |0,_,c,k=>k c
 |n+1,j,c,k=>∀y:Int,0<=y->y<=cc->y=aw 23 [c,((16777216*aC l (4*j) 0)+((65536*aC l (4*j+1) 0)+((256*aC l (4*j+2) 0)+aC l (4*j+3) 0)))]->L9 l n (j+1) y k
def wu (x c l k:Int) (Next:Int->Int->Int->Prop):Prop:=
 ∃(I:List (List Int)->Prop) (j3:List (List Int)->Nat),I [[3],[c],[l],[k]]/\(∀au:Int,(-1)<=au->au<=3->∀aT:Int,0<=aT->aT<=cc->∀bz:Int,0<=bz->bz<=9223372036854775807->∀aF:Int,(-2)<=aF->aF<=9223372036854775807->I [[au],[aT],[bz],[aF]]->
 (((decide (0<=au))=true->
  ∀cL:Int,0<=cL->cL<=4294967295->cL=x/2^((8*au)).toNat->
  ∀z20:Int,0<=z20->z20<=16777215->0<=cL-256*z20->cL-256*z20<256->
  af 31 [aT,bz]/\
  af 23 [aT,1]/\
  ∀z21:Int,0<=z21->z21<=cc->z21=aw 23 [aT,(cL+((-256)*z20))]->
  ∀aE:Int,(-2)<=aE->aE<=9223372036854775807->
  (I [[(au+(-1))],[z21],[(bz+1)],[aE]]/\j3 [[(au+(-1))],[z21],[(bz+1)],[aE]]<j3 [[au],[aT],[bz],[aF]])
 )/\((decide (0<=au))=false->Next aT bz aF)))
end Go.bE
namespace Go.ba
abbrev dC (p:Int->Prop):Prop:=∀z:Int,0<=z->z<=9223372036854775807->p z
abbrev aI (k:Nat) (l:List Int) (p:Int->Prop):Prop:=∀z:Int,0<=z->z<=9223372036854775807->z=aw k l->p z
abbrev di (p:Int->Prop):Prop:=∀z:Int,0<=z->z<=cc->p z
abbrev bq (k:Nat) (l:List Int) (p:Int->Prop):Prop:=∀z:Int,0<=z->z<=cc->z=aw k l->p z
abbrev bt (p:Int->Prop):Prop:=∀z:Int,0<=z->z<=bp->p z
abbrev b8 (k:Nat) (l:List Int) (p:Int->Prop):Prop:=∀z:Int,0<=z->z<=bp->z=aw k l->p z
abbrev uD (p:Int->Prop):Prop:=∀z:Int,0<=z->z<=255->p z
abbrev bF (k:Nat) (l:List Int) (p:Int->Prop):Prop:=∀z:Int,0<=z->z<=255->z=aw k l->p z
abbrev bC (p:Int->Prop):Prop:=∀z:Int,0<=z->z<=1->p z
abbrev cf (k:Nat) (l:List Int) (p:Int->Prop):Prop:=∀z:Int,0<=z->z<=1->z=aw k l->p z
abbrev Yi (p:Int->Prop):Prop:=∀z:Int,0<=z->z<=18446744073709551615->p z
abbrev sT (p:Int->Prop):Prop:=∀z:Int,0<=z->z<=4294967295->p z
abbrev BJ (k:Nat) (l:List Int) (p:Int->Prop):Prop:=∀z:Int,0<=z->z<=4294967295->z=aw k l->p z
abbrev ql (p:Int->Prop):Prop:=∀z:Int,(-1)<=z->z<=9223372036854775807->p z
abbrev Yj (k:Nat) (l:List Int) (p:Int->Prop):Prop:=∀z:Int,0<=z->z<=9223372036854775808->z=aw k l->p z
abbrev cB (p:Int->Prop):Prop:=∀z:Int,0<=z->p z
abbrev bN (a b:Int) (p:Int->Prop):Prop:=∀z:Int,a<=z->z<=b->p z
abbrev ch (a b:Int) (k:Nat) (l:List Int) (p:Int->Prop):Prop:=∀z:Int,a<=z->z<=b->z=aw k l->p z
abbrev bk (x m:Int) (p:Int->Prop):Prop:=∀z:Int,0<=z->z<=1->0<=x-m*z->x-m*z<m->p z
abbrev fr (a b x m:Int) (p:Int->Prop):Prop:=∀z:Int,a<=z->z<=b->0<=x-m*z->x-m*z<m->p z
abbrev ak (b:Bool) (p q:Prop):Prop:=(b=true->p)/\(b=false->q)
end Go.ba
namespace Go.ba
abbrev bP:Int:=18446744073709551616
abbrev ax:Int:=-18446744073709551616
abbrev aZ:Int:=9223372036854775807
abbrev bU:Int:=9223372036854775809
abbrev Xo:Int:=18446744073709551615
end Go.ba
