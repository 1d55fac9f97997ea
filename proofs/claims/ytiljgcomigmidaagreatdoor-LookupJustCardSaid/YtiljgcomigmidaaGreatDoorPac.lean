/- Contracts: calls answered by what is known of them; the sums and products of words. -/
import Derived.Test.YtiljgcomigmidaaGreatDoorPab
import Derived.Laws.Externs
import Derived.ChangeMaps5
import Derived.ChangeSame
import Derived.OpenShut
import Derived.Handed
import Derived.ProofKit
import Derived.LaidMore
import Derived.Stop.Joined
import Derived.HandedShaped
import Derived.SizedLaws
import Derived.Carry
import Derived.RangeFuncOwn
import Derived.RangeFuncLeaves
import Derived.KernelRfl
import Derived.Test.YtiljgcomigmidaaGreatDoorPaa
open Array renaming replicate->rI,eq_empty_of_size_eq_zero->uV
open Bool renaming and_eq_true->aO,not_eq_true'->fZ,or_eq_true->oA,false_eq_true->pU
open Function renaming comp->J4
open Go renaming World->ai,Value->aA,TypeId->aS,Program->bk,FuncId->cB,IntKind->di,Calls->gU,DataW->nO,Ending->pT,MemPlace->qA,Deferred->uS
open Go.ChangeSpec renaming post_blind->aBj,plain->aBl
open Go.DataW renaming trod->Kb,weightsEach->Ki,weightsAll->Kj,weights->Kk,trod_int->aaz,TrodAll->aaZ,trod_array->auF,lit->auG,trod_slice->avb,trod_string->avc
open Go.DataW.Whole renaming of_heap->aBi
open Go.DataW.agg renaming injEq->azQ
open Go.DataW.slice renaming injEq->aBc
open Go.Extern.BytealgIndexByte renaming indexByte->RD
open Go.Fence renaming wide->ze
open Go.Frame renaming enter->ave
open Go.Input renaming okWide->avd
open Go.OpenSpec renaming ofChange->RE
open Go.Value renaming int->rJ,slice->Cp,cells->Ct,agg->Cy,okWide->Kl,bool->auD
open Go.Value.slice renaming injEq->aBb
open Go.World renaming cell?->jL,putObj_heap_other->rM,frozen?->s6,putObj_heap_same->uX,putObj_size->RF,alloc_heap_new->avi
open Go.World.Extends renaming refl->nf,drew->FZ
open Int renaming le_refl->bD,lt_or_le->hU,le_trans->pR,toNat_of_nonneg->aaG
open List renaming getD->aB,map_cons->ct,mem_cons_of_mem->cF,length_cons->cS,mem_of_getElem?->cZ,range->da,length_append->dm,map_nil->et,length_nil->eF,replicate->e4,map_append->ga,getElem?_eq_getElem->gy,map_congr_left->gI,append_assoc->gJ,take_append_drop->ju,nil_append->jK,mem_of_mem_take->j7,length_map->j8,take_of_length_le->ky,length->kA,mem_cons->kS,map_map->kT,append_nil->lr,getElem?_cons_zero->nd,length_take->ng,getElem?_set->oC,zipWith->o9,all_eq_true->pQ,flatMap_cons->qB,length_drop->qC,mem_append->qD,drop_left->s7,mem_cons_self->s8,cons_append->s9,not_mem_nil->uN,take_succ_cons->y1,map_take->y2,map_drop->y3,mem_of_find?_eq_some->y5,find?_cons->zc,drop_drop->Cq,mem_or_eq_of_mem_set->Cu,replicate_succ->Cx,drop_of_length_le->FT,take_append_of_le_length->F2,flatten_cons->F8,getD_cons_succ->J6,take_length->J9,zipWith_cons_cons->Ka,take_left->Ru,mapM_cons->aay,getElem?_eq_none->aaU,getElem?_eq_none_iff->aaX
open List.cons renaming injEq->kz
open Nat renaming beq->aG,le_refl->aW,eq_of_beq_eq_true->bA,ble->bC,blt->b6,le_of_ble_eq_true->eE,le_trans->gk,zero_le->iI,add_zero->lu,lt_or_ge->mC,blt_eq->oz,succ_mul->rK,lt_of_lt_of_le->uQ,zero_add->y7,beq_refl->Ck,le_add_right->Cl,mul_one->F3,mul_le_mul_left->Rp,eq_zero_or_pos->aaW
open Option renaming isSome_none->rL,bind_eq_some_iff->aaY
open Option.some renaming injEq->aK,inj->gH
open Prod.mk renaming injEq->cv
open Pure renaming pure->Co
set_option linter.unusedVariables false
set_option linter.unusedSimpArgs false
namespace Go.bg
open M
def ay.sym (s:Nat):ay->A
 |int k lo hi=> .int k ⟨.var s,lo,hi⟩
 |str=> .str (.var s)
 |bool=> .bool (.eq (.var s) (.const 1))
 |sub _=> .con (.slice none 0 0)
 |nil=> .con (.slice none 0 0)
inductive D where
 |str
 |int (k:di) (lo hi:Int)
 |bool
 |agg (k:di) (n:Nat) (lo hi:Int)
 |mix (l:List ay)
 |j1 (l:List UInt8)
 |ob (k:di) (c:Int)
def h8 (lo hi:Int):Nat->List (Int×Int)
 |0=>[]
 |n+1=>(lo,hi)::h8 lo hi n
noncomputable def D.bds:D->List (Int×Int)
 |str=>[(0,bx)]
 |int _ lo hi=>[(lo,hi)]
 |bool=>[(0,1)]
 |agg _ n lo hi=>h8 lo hi n
 |mix l=>l.map ay.dS
 |j1 _=>[]
 |ob .. =>[]
def D.num:D->Nat
 |str=>1
 |int .. =>1
 |bool=>1
 |agg _ n _ _=>n
 |mix l=>l.length
 |j1 _=>0
 |ob .. =>0
def D.val:D->List Int->aA
 |str,zs=> .string (aL (U (zs.getD 0 0)))
 |int k _ _,zs=> .int k (zs.getD 0 0)
 |bool,zs=> .bool (decide (zs.getD 0 0=1))
 |agg k n _ _,zs=> .agg ((zs.take n).map (.int k)).toArray
 |mix l,zs=> .agg (o9 ay.val l zs).toArray
 |j1 l,_=> .string (aL (qn l))
 |ob k c,_=> .int k c
def BM (k:di) (lo hi:Int):Nat->Nat->List A
 |_,0=>[]
 |s,n+1=> .int k ⟨.var s,lo,hi⟩::BM k lo hi (s+1) n
def Bs:Nat->List ay->List A
 |_,[]=>[]
 |s,c::r=>c.sym s::Bs (s+1) r
def D.sym (s:Nat):D->W
 |str=> .one (.str (.var s))
 |int k lo hi=> .one (.int k ⟨.var s,lo,hi⟩)
 |bool=> .one (.bool (.eq (.var s) (.const 1)))
 |agg k n lo hi=> .agg (BM k lo hi s n)
 |mix l=> .agg (Bs s l)
 |j1 l=> .one (.str (.const (dC (qn l))))
 |ob k c=> .one (.int k (bK.const c))
noncomputable def dB:List D->List (Int×Int)
 |[]=>[]
 |d::r=>d.bds++dB r
def my:List D->List Int->List aA
 |[],_=>[]
 |d::r,zs=>d.val zs::my r (zs.drop d.num)
def sS:Nat->List D->List W
 |_,[]=>[]
 |s,d::r=>d.sym s::sS (s+d.num) r
theorem gi:∀{b:List (Int×Int)} {l:List Int},bd b l->l.length=b.length
 |[],[],_=>rfl
 |_::_,_::_,h=>by simp[gi h.2.2]
 |[],_::_,h=>h.elim
 |_::_,[],h=>h.elim
theorem Yq (lo hi:Int):∀n,(h8 lo hi n).length=n
 |0=>rfl
 |n+1=>by simp[h8,Yq lo hi n]
theorem D.qM (d:D):d.bds.length=d.num:=by cases d<;>simp[D.bds,D.num,Yq]
theorem Ik:∀{b b':List (Int×Int)} {l:List Int},bd (b++b') l->bd b (l.take b.length)/\bd b' (l.drop b.length)
 |[],_,_,h=>⟨trivial,h⟩
 |_::_,_,_::_,h=>by
  have ih:=Ik h.2.2;exact⟨⟨h.1,h.2.1,ih.1⟩,ih.2⟩
 |_::_,_,[],h=>h.elim
def fF (ρ:Env) (s:Nat) (zs:List Int):Prop:=∀j,j<zs.length->ρ (s+j)=zs.getD j 0
theorem fF.bf (ρ:Env) (s:Nat) (zs:List Int):fF (bf ρ s zs) s zs:=λj hj=>B9 zs s ρ j hj
theorem fF.tail {ρ:Env} {s:Nat} {z:Int} {zs:List Int} (h:fF ρ s (z::zs)):ρ s=z/\fF ρ (s+1) zs:=by
 refine⟨by simpa using h 0 (by simp),λj hj=>?_⟩;have:=h (j+1) (by simpa using hj);rw[show s+1+j=s+(j+1) by omega,this];simp
theorem fF.drop {ρ:Env} {s:Nat} {zs:List Int} (h:fF ρ s zs) (k:Nat):fF ρ (s+k) (zs.drop k):=λj hj=>by
 have:=h (k+j) (by simp at hj;omega);rw[show s+k+j=s+(k+j) by omega,this];simp[aB]
theorem Yp {ρ:Env} {m:Nat->Nat} {N nb:Nat} {k:di} {lo hi:Int}:∀(n s:Nat) (zs:List Int),bd (h8 lo hi n) (zs.take n)->fF ρ s zs->s+n<=N->
 (∀a∈BM k lo hi s n,A.ok N nb ρ a)/\(BM k lo hi s n).map (A.den ρ m)=(zs.take n).map (.int k)
 |0,s,zs,_,_,_=>by simp[BM]
 |n+1,s,[],h,_,_=>by simp[h8,bd]at h
 |n+1,s,z::zs,h,ha,hN=>by
  have ht:=ha.tail;simp only[h8,y1,bd]at h;obtain⟨h1,h2⟩:=Yp (m:=m) (nb:=nb) (k:=k) (N:=N) n (s+1) zs h.2.2 ht.2 (by omega);refine⟨λa hm=>?_,by simp only[BM,ct,A.den,aa.cp,ht.1,h2,y1]⟩;rcases List.mem_cons.1 hm with rfl|hm
  ·exact⟨aa.er (by omega),by simp only[aa.cp,ht.1];exact h.1,by simp only[aa.cp,ht.1];exact h.2.1⟩
  ·exact h1 a hm
theorem ay.Fs {ρ:Env} {m:Nat->Nat} {N nb:Nat} (c:ay) {s:Nat} {z:Int} (h0:c.dS.1<=z) (h1:z<=c.dS.2) (hz:ρ s=z) (hN:s<N):(c.sym s).ok N nb ρ/\(c.sym s).den ρ m=c.val z:=by
 cases c with
 |int k lo hi=>exact⟨⟨aa.er hN,by simp only[aa.cp,hz];exact h0,by simp only[aa.cp,hz];exact h1⟩,by simp[ay.sym,ay.val,A.den,aa.cp,hz]⟩
 |str=>exact⟨⟨aa.er hN,by rw[aa.cp,hz];exact h0,by rw[aa.cp,hz];exact h1⟩,by simp[ay.sym,ay.val,A.den,aa.cp,hz]⟩
 |bool=>exact⟨⟨aa.er hN,aa.cH _ _⟩,by simp[ay.sym,ay.val,A.den,bh.den,aa.cp,aa.aT,hz]⟩
 |sub k=>exact⟨(rfl:(Cp none 0 0).oneCell'=true),rfl⟩
 |nil=>exact⟨(rfl:(Cp none 0 0).oneCell'=true),rfl⟩
theorem XC {ρ:Env} {m:Nat->Nat} {N nb:Nat}:∀(l:List ay) (s:Nat) (zs:List Int),bd (l.map ay.dS) (zs.take l.length)->fF ρ s zs->s+l.length<=N->
 (∀a∈Bs s l,A.ok N nb ρ a)/\(Bs s l).map (A.den ρ m)=o9 ay.val l zs
 |[],s,zs,_,_,_=>by simp[Bs]
 |_::_,s,[],h,_,_=>by simp[bd]at h
 |c::r,s,z::zs,h,ha,hN=>by
  have ht:=ha.tail;simp only[ct,cS,y1,bd]at h;obtain⟨h1,h2⟩:=XC (m:=m) (nb:=nb) (N:=N) r (s+1) zs h.2.2 ht.2 (by simp at hN;omega);have hc:=c.Fs (m:=m) (nb:=nb) (N:=N) h.1 h.2.1 ht.1 (by simp at hN;omega);refine⟨λa hm=>?_,by simp only[Bs,ct,hc.2,h2,Ka]⟩;rcases List.mem_cons.1 hm with rfl|hm
  ·exact hc.1
  ·exact h1 a hm
theorem D.Fs {ρ:Env} {m:Nat->Nat} {N nb:Nat} (d:D) {s:Nat} {zs:List Int} (h:bd d.bds (zs.take d.num)) (ha:fF ρ s zs) (hN:s+d.num<=N):(d.sym s).ok N nb ρ/\(d.sym s).den ρ m=d.val zs:=by
 cases d with
 |str=>
  cases zs with
  |nil=>simp[D.bds,bd]at h
  |cons z r=>
   have ht:=ha.tail;simp only[D.bds,D.num,y1,bd]at h;simp only[D.num]at hN;exact⟨⟨aa.er (by omega),by rw[aa.cp,ht.1];exact h.1,by rw[aa.cp,ht.1];exact h.2.1⟩,by simp[D.sym,W.den,A.den,D.val,aa.cp,ht.1]⟩
 |int k lo hi=>
  cases zs with
  |nil=>simp[D.bds,bd]at h
  |cons z r=>
   have ht:=ha.tail;simp only[D.bds,D.num,y1,bd]at h;simp only[D.num]at hN;exact⟨⟨aa.er (by omega),by simp only[aa.cp,ht.1];exact h.1,by simp only[aa.cp,ht.1];exact h.2.1⟩,by simp[D.sym,W.den,A.den,D.val,aa.cp,ht.1]⟩
 |bool=>
  cases zs with
  |nil=>simp[D.bds,bd]at h
  |cons z r=>
   have ht:=ha.tail;simp only[D.num]at hN;exact⟨⟨aa.er (by omega),aa.cH _ _⟩,by simp[D.sym,W.den,A.den,D.val,bh.den,aa.cp,aa.aT,ht.1]⟩
 |agg k n lo hi=>
  have:=Yp (m:=m) (nb:=nb) (k:=k) n s zs h ha hN;exact⟨this.1,by simp only[D.sym,W.den,D.val,this.2]⟩
 |mix l=>
  have:=XC (m:=m) (nb:=nb) l s zs h ha hN;exact⟨this.1,by simp only[D.sym,W.den,D.val,this.2]⟩
 |j1 l=>exact⟨⟨aa.cH _ _,by rw[aa.aT];exact ai9 l⟩,by simp[D.sym,W.den,A.den,D.val,aa.aT,ea]⟩
 |ob k c=>exact⟨bK.np _ _ c,by simp[D.sym,W.den,A.den,D.val,bK.const,aa.aT]⟩
theorem QK {ρ:Env} {m:Nat->Nat} {N nb:Nat}:∀(ds:List D) {s:Nat} {zs:List Int},bd (dB ds) zs->fF ρ s zs->s+(dB ds).length<=N->(∀u∈sS s ds,W.ok N nb ρ u)/\(sS s ds).map (W.den ρ m)=my ds zs
 |[],s,zs,_,_,_=>by simp[sS,my]
 |d::r,s,zs,h,ha,hN=>by
  have hs:=Ik h;rw[D.qM]at hs;simp only[dB,dm,D.qM]at hN;have h1:=d.Fs (m:=m) (nb:=nb) hs.1 ha (N:=N) (by omega);have h2:=QK (m:=m) (nb:=nb) (N:=N) r hs.2 (ha.drop d.num) (by omega);exact⟨λu hu=>by rcases List.mem_cons.1 hu with rfl|hu;exact h1.1;exact h2.1 u hu,by simp[sS,my,h1.2,h2.2]⟩
def BQ (ds:List D) (s:Nat):V:=match sS s ds with|[u]=> .w u|l=> .eX l
def eL (ds:List D) (zs:List Int):aA:=match my ds zs with|[x]=>x|l=> .tuple l.toArray
def nW (lo hi:Int) (x:bK):Bool:=decide (lo<=x.lo)&&decide (x.hi<=hi)
def k0 (k:di) (lo hi:Int):List A->Option (List aa)
 |[]=>some []
 | .int a6 x::r=>cond (decide (k=a6)&&nW lo hi x) (match k0 k lo hi r with|some l=>some (x.l::l)|none=>none) none
 |_::_=>none
def ay.fit:ay->A->Option aa
 |int k lo hi,.int a6 x=>cond (decide (k=a6)&&nW lo hi x) (some x.l) none
 |str,.str l=>some l
 |bool,.bool (.lit b)=>some (.const (cond b 1 0))
 |nil,.con (.slice none 0 0)=>some (.const 0)
 |_,_=>none
def oR:List ay->List A->Option (List aa)
 |[],[]=>some []
 |c::r,a::s=>match c.fit a,oR r s with|some x,some l=>some (x::l)|_,_=>none
 |_,_=>none
def xj:D->V->Option (List aa)
 | .int k lo hi,.w (.one (.int a6 x))=>cond (decide (k=a6)&&nW lo hi x) (some [x.l]) none
 | .agg k n lo hi,.w (.agg l)=>cond (aG l.length n) (k0 k lo hi l) none
 | .mix l,.w (.agg s)=>oR l s
 | .str,.w (.one (.str l))=>some [l]
 | .bool,.w (.one (.bool (.lit b)))=>some [.const (cond b 1 0)]
 | .j1 l,.w (.one (.str x))=>match x.du with|some c=>cond (decide (c=dC (qn l))) (some []) none|none=>none
 | .ob k c,.w (.one (.int a6 x))=>match x.l.du with|some d=>cond (decide (k=a6)&&decide (d=c)) (some []) none|none=>none
 |_,_=>none
def pk:List D->List V->Option (List aa)
 |[],[]=>some []
 |d::r,v::s=>match xj d v,pk r s with|some a,some b=>some (a++b)|_,_=>none
 |_,_=>none
theorem De {n:Nat} {ρ:Env} {lo hi:Int} {x:bK} (h:nW lo hi x=true) (hx:x.ok n ρ):lo<=x.l.den ρ/\x.l.den ρ<=hi:=by
 simp only[nW,aO,decide_eq_true_eq]at h;have:=hx.2;omega
theorem Mw {n nb:Nat} {ρ:Env} {m:Nat->Nat} {k:di} {lo hi:Int}:∀{l:List A} {r:List aa},k0 k lo hi l=some r->(∀a∈l,A.ok n nb ρ a)->r.length=l.length/\bd (h8 lo hi l.length) (r.map (·.den ρ))/\l.map (A.den ρ m)=(r.map (·.den ρ)).map (.int k)
 |[],r,h,_=>by simp[k0]at h;subst h;exact⟨rfl,trivial,rfl⟩
 | .int a6 x::s,r,h,aY=>by
  simp only[k0]at h;cases hc:(decide (k=a6)&&nW lo hi x)with
  |false=>simp[hc]at h
  |true=>
   simp only[hc,cond_true]at h;simp only[aO,decide_eq_true_eq]at hc;cases hr:k0 k lo hi s with
   |none=>simp[hr]at h
   |some r'=>
    simp only[hr,aK]at h;subst h;obtain⟨h1,h2,h3⟩:=Mw (m:=m) hr λa ha=>aY a (cF _ ha);have hx:x.ok n ρ:=aY (.int a6 x) (by simp);have hf:=De hc.2 hx;exact⟨by simp[h1],⟨hf.1,hf.2,h2⟩,by simp only[ct,h3,A.den,hc.1]⟩
 | .bool _::_,_,h,_=>by simp[k0]at h
 | .ptr .. ::_,_,h,_=>by simp[k0]at h
 | .oj .. ::_,_,h,_=>by simp[k0]at h
 | .gptr .. ::_,_,h,_=>by simp[k0]at h
 | .slc .. ::_,_,h,_=>by simp[k0]at h
 | .con _::_,_,h,_=>by simp[k0]at h
 | .str _::_,_,h,_=>by simp[k0]at h
theorem ay.ad8 {n nb:Nat} {ρ:Env} {m:Nat->Nat} {c:ay} {a:A} {l:aa} (h:c.fit a=some l) (aY:a.ok n nb ρ):(c.dS.1<=l.den ρ/\l.den ρ<=c.dS.2)/\a.den ρ m=c.val (l.den ρ):=by
 unfold ay.fit at h;split at h
 ·rename_i k lo hi a6 x;cases hc:(decide (k=a6)&&nW lo hi x)with
  |false=>simp[hc]at h
  |true=>
   simp only[hc,cond_true,aK]at h;subst h;simp only[aO,decide_eq_true_eq]at hc;exact⟨De hc.2 aY,by simp only[A.den,ay.val,hc.1]⟩
 ·simp only[aK]at h;subst h;exact⟨aY.2,rfl⟩
 ·rename_i b;simp only[aK]at h;subst h;cases b<;>simp[ay.dS,ay.val,A.den,bh.den,aa.aT]
 ·simp only[aK]at h;subst h;exact⟨⟨by rw[aa.aT];exact bD _,by rw[aa.aT];exact bD _⟩,rfl⟩
 ·cases h
theorem Uy {n nb:Nat} {ρ:Env} {m:Nat->Nat}:∀{d:List ay} {l:List A} {r:List aa},oR d l=some r->(∀a∈l,A.ok n nb ρ a)->r.length=d.length/\bd (d.map ay.dS) (r.map (·.den ρ))/\l.map (A.den ρ m)=o9 ay.val d (r.map (·.den ρ))
 |[],[],r,h,_=>by simp[oR]at h;subst h;exact⟨rfl,trivial,rfl⟩
 |c::d,a::s,r,h,aY=>by
  simp only[oR]at h;cases hx:c.fit a with
  |none=>simp[hx]at h
  |some x=>
   cases hr:oR d s with
   |none=>simp[hx,hr]at h
   |some r'=>
    simp only[hx,hr,aK]at h;subst h;obtain⟨h1,h2,h3⟩:=Uy (m:=m) hr λa ha=>aY a (cF _ ha);have hf:=ay.ad8 (m:=m) hx (aY a (by simp));exact⟨by simp[h1],⟨hf.1.1,hf.1.2,h2⟩,by simp only[ct,h3,hf.2,Ka]⟩
 |[],_::_,_,h,_=>by simp[oR]at h
 |_::_,[],_,h,_=>by simp[oR]at h
theorem Zq {n:Nat} {ρ:Env} {l:List UInt8} {x:aa} {c:Int} (hc:x.du=some c) (h:c=dC (qn l)):U (x.den ρ)=qn l:=by rw[aa.iO hc,h,ea]
theorem Uv {n nb:Nat} {ρ:Env} {m:Nat->Nat} {d:D} {v:V} {r:List aa} {x:aA} (h:xj d v=some r) (aY:v.ok n nb ρ) (hx:v.rel ρ m x):r.length=d.num/\bd d.bds (r.map (·.den ρ))/\∀zs,d.val ((r.map (·.den ρ))++zs)=x:=by
 unfold xj at h;split at h
 ·rename_i k lo hi a6 y;cases hc:(decide (k=a6)&&nW lo hi y)with
  |false=>simp[hc]at h
  |true=>
   simp only[hc,cond_true,aK]at h;subst h;simp only[aO,decide_eq_true_eq]at hc;have hf:=De hc.2 aY;simp only[V.rel,W.den,A.den]at hx;exact⟨rfl,⟨hf.1,hf.2,trivial⟩,λzs=>by simp[D.val,hx,hc.1]⟩
 ·rename_i k n' lo hi l;cases hc:aG l.length n' with
  |false=>simp[hc]at h
  |true=>
   simp only[hc,cond_true]at h;have hl:=bA hc;subst hl;obtain⟨h1,h2,h3⟩:=Mw (m:=m) h aY;simp only[V.rel,W.den]at hx;exact⟨h1,h2,λzs=>by rw[hx,h3];simp only[D.val];rw[F2 (by simp[h1]),ky (by simp[h1])]⟩
 ·rename_i l s;obtain⟨h1,h2,h3⟩:=Uy (m:=m) h aY;simp only[V.rel,W.den]at hx;refine⟨h1,h2,λzs=>?_⟩;rw[hx,h3];simp only[D.val]
  congr 2
  have key:∀(a:List ay) (b c:List Int),b.length=a.length->o9 ay.val a (b++c)=o9 ay.val a b:=by
   intro a;induction a with
   |nil=>intro b c _;simp
   |cons p a ih=>
    intro b c hb;cases b with
    |nil=>simp at hb
    |cons z b=>simp[ih b c (by simpa using hb)]
  exact key _ _ _ (by simp[h1])
 ·rename_i l;simp only[aK]at h;subst h;simp only[V.rel,W.den,A.den]at hx;exact⟨rfl,⟨aY.2.1,aY.2.2,trivial⟩,λzs=>by rw[hx];rfl⟩
 ·rename_i b;simp only[aK]at h;subst h;simp only[V.rel,W.den,A.den,bh.den]at hx;cases b<;>exact⟨rfl,by simp[D.bds,bd,aa.aT],λzs=>by rw[hx];simp[D.val,aa.aT]⟩
 ·rename_i l y;cases hc:y.du with
  |none=>simp[hc]at h
  |some c=>
   simp only[hc]at h;cases hd:decide (c=dC (qn l))with
   |false=>simp[hd]at h
   |true=>
    simp only[hd,cond_true,aK]at h;subst h;have hd:c=dC (qn l):=by simpa using hd
    refine⟨rfl,trivial,λzs=>?_⟩;have hx:x= .string (aL (U (y.den ρ))):=hx;rw[hx,Zq (n:=n) hc hd];rfl
 ·rename_i k c a6 y;cases hc:y.l.du with
  |none=>simp[hc]at h
  |some d=>
   simp only[hc]at h;cases hd:(decide (k=a6)&&decide (d=c))with
   |false=>simp[hd]at h
   |true=>
    simp only[hd,cond_true,aK]at h;subst h;simp only[aO,decide_eq_true_eq]at hd;refine⟨rfl,trivial,λzs=>?_⟩;have hx:x= .int a6 (y.l.den ρ):=hx;rw[hx,aa.iO hc,<-hd.1,hd.2];rfl
 ·cases h
theorem MA {n nb:Nat} {ρ:Env} {m:Nat->Nat}:∀{ds:List D} {vs:List V} {r:List aa} {xs:List aA},pk ds vs=some r->(∀v∈vs,V.ok n nb ρ v)->dh ρ m vs xs->bd (dB ds) (r.map (·.den ρ))/\my ds (r.map (·.den ρ))=xs
 |[],[],r,[],h,_,_=>by simp[pk]at h;subst h;exact⟨trivial,rfl⟩
 |d::ds,v::vs,r,x::xs,h,aY,hr=>by
  simp only[pk]at h;cases h1:xj d v with
  |none=>simp[h1]at h
  |some a=>
   cases h2:pk ds vs with
   |none=>simp[h1,h2]at h
   |some b=>
    simp only[h1,h2,aK]at h;subst h;obtain⟨p1,bo,bU⟩:=Uv (m:=m) h1 (aY v (by simp)) hr.1;obtain⟨q1,q2⟩:=MA h2 (λu hu=>aY u (cF _ hu)) hr.2;refine⟨by rw[ga];exact rl bo q1,?_⟩;rw[ga];simp only[my,bU];rw[show d.num=(a.map (·.den ρ)).length by simp[p1],s7,q2]
 |[],_::_,_,_,h,_,_=>by simp[pk]at h
 |_::_,[],_,_,h,_,_=>by simp[pk]at h
 |[],[],_,_::_,_,_,hr=>hr.elim
 |_::_,_::_,_,[],_,_,hr=>hr.elim
structure cf where
 f:cB
 id:Nat
 args:List D
 res:List D
def cf.dZ (P:bk) (wb:ai) (c:cf) (spec:List Int->List Int->Prop):Prop:=
 (∀args w,(callFunc c.f args).run P w= .ok (.enter c.f args) w)/\
 ∀zs,bd (dB c.args) zs->∃rs,bd (dB c.res) rs/\spec zs rs/\∀w,wb.Extends w->gU P c.f (my c.args zs).toArray w λe w'=>e= .returned (eL c.res rs)/\w.Extends w'
noncomputable def My (d:D) (v:V):M (List aa):=
 match d,v with
 | .bool,.w (.one (.bool e))=>bind (yd e) λl=>pure [l]
 | .mix l,.w (.agg s)=>Fg l s
 | .int k lo hi,.w (.one (.int a6 x))=>cond (decide (k=a6)) (cond (nW lo hi x) (pure [x.l]) (bind (fj 39 [x.l,.const lo,.const hi]) λ_=>pure [x.l])) fail
 |d,v=>match xj d v with|some r=>pure r|none=>fail
noncomputable def Hp:List D->List V->M (List aa)
 |[],[]=>pure []
 |d::r,v::s=>bind (My d v) λa=>bind (Hp r s) λb=>pure (a++b)
 |_,_=>fail
noncomputable def cf.M (c:cf):List ao->List V->M V:=λ_ vs n k=>
 match pk c.args vs with
 |some l=> .call c.id l n (dB c.res) (k (BQ c.res n) (n+(dB c.res).length))
 |none=>Hp c.args vs n λl n=> .call c.id l n (dB c.res) (k (BQ c.res n) (n+(dB c.res).length))
section
variable {S:Nat->List Int->List Int->Prop} {L:V->Env->Prop}
theorem Mv {k:di} {lo hi:Int} {n nb:Nat} {ρ:Env}:∀{l:List A} {r:List aa},k0 k lo hi l=some r->(∀a∈l,A.ok n nb ρ a)->∀x∈r,aa.aZ n x
 |[],r,h,_=>by simp[k0]at h;subst h;intro x hx;simp at hx
 |a::s,r,h,aY=>by
  cases a with
  |int a6 x=>
   simp only[k0]at h;cases hc:(decide (k=a6)&&nW lo hi x)with
   |false=>simp[hc]at h
   |true=>
    cases hr:k0 k lo hi s with
    |none=>simp[hc,hr]at h
    |some r'=>
     simp only[hc,hr,cond_true,aK]at h;subst h;intro y hy;rcases List.mem_cons.1 hy with hy|hy
     ·rw[hy];have h0:A.ok n nb ρ (.int a6 x):=aY _ (s8 ..);have h0:x.ok n ρ:=h0;exact h0.1
     ·exact Mv hr (λa ha=>aY a (cF _ ha)) y hy
  |_=>simp[k0]at h
theorem Ux {n nb:Nat} {ρ:Env}:∀{d:List ay} {l:List A} {r:List aa},oR d l=some r->(∀a∈l,A.ok n nb ρ a)->∀x∈r,aa.aZ n x
 |[],[],r,h,_=>by simp[oR]at h;subst h;intro x hx;simp at hx
 |c::d,a::s,r,h,aY=>by
  simp only[oR]at h;cases hx:c.fit a with
  |none=>simp[hx]at h
  |some x=>
   cases hr:oR d s with
   |none=>simp[hx,hr]at h
   |some r'=>
    simp only[hx,hr,aK]at h;subst h;intro y hy;rcases List.mem_cons.1 hy with hy|hy
    ·subst hy;have h0:=aY a (by simp);unfold ay.fit at hx;split at hx
     ·rename_i k lo hi a6 z;cases hc:(decide (k=a6)&&nW lo hi z)with
      |false=>simp[hc]at hx
      |true=>
       simp only[hc,cond_true,aK]at hx;subst hx;have h0:z.ok n ρ:=h0;exact h0.1
     ·simp only[aK]at hx;subst hx;exact h0.1
     ·simp only[aK]at hx;subst hx;exact aa.cH _ _
     ·simp only[aK]at hx;subst hx;exact aa.cH _ _
     ·cases hx
    ·exact Ux hr (λa ha=>aY a (cF _ ha)) y hy
 |[],_::_,_,h,_=>by simp[oR]at h
 |_::_,[],_,h,_=>by simp[oR]at h
theorem aeb {n nb:Nat} {ρ:Env} {d:D} {v:V} {r:List aa} (h:xj d v=some r) (aY:v.ok n nb ρ):∀x∈r,aa.aZ n x:=by
 unfold xj at h;split at h
 ·rename_i k lo hi a6 y;cases hc:(decide (k=a6)&&nW lo hi y)with
  |false=>simp[hc]at h
  |true=>
   simp only[hc,cond_true,aK]at h;subst h;have h0:y.ok n ρ:=aY;intro x hx;simp at hx;subst hx;exact h0.1
 ·rename_i k n' lo hi l;cases hc:aG l.length n' with
  |false=>simp[hc]at h
  |true=>
   simp only[hc,cond_true]at h;exact Mv h aY
 ·exact Ux h aY
 ·simp only[aK]at h;subst h;intro x hx;simp at hx;subst hx;exact aY.1
 ·simp only[aK]at h;subst h;intro x hx;simp at hx;subst hx;exact aa.cH _ _
 ·rename_i l y;cases hc:y.du with
  |none=>simp[hc]at h
  |some c=>
   simp only[hc]at h;cases hd:decide (c=dC (qn l))with
   |false=>simp[hd]at h
   |true=>
    simp only[hd,cond_true,aK]at h;subst h;intro x hx;simp at hx
 ·rename_i k c a6 y;cases hc:y.l.du with
  |none=>simp[hc]at h
  |some d=>
   simp only[hc]at h;cases hd:(decide (k=a6)&&decide (d=c))with
   |false=>simp[hd]at h
   |true=>
    simp only[hd,cond_true,aK]at h;subst h;intro x hx;simp at hx
 ·cases h
theorem bO.OK:∀{sh:List ay} {zs:List Int},bO sh zs->bd (sh.map ay.dS) zs/\o9 ay.val sh zs=dp sh zs
 |[],[],_=>⟨trivial,rfl⟩
 |c::sh,z::zs,h=>⟨⟨h.1.1,h.1.2,(bO.OK h.2).1⟩,by simp[dp,(bO.OK h.2).2]⟩
 |[],_::_,h=>h.elim
 |_::_,[],h=>h.elim
theorem aak {f:ay->Int->aA}:∀(a:List ay) (b c:List Int),b.length=a.length->o9 f a (b++c)=o9 f a b
 |[],b,c,_=>by simp
 |_::a,[],c,h=>by simp at h
 |_::a,z::b,c,h=>by simp[aak a b c (by simpa using h)]
theorem ad9 {d:D} {v:V} {X:aA} {n nb:Nat} {ρ:Env} {m:Nat->Nat} (hv:v.ok n nb ρ) (bL:v.rel ρ m X):ar S L (My d v) n ρ λag n' ls=>(∀x∈ls,aa.aZ n' x)/\ls.length=d.num/\bd d.bds (ls.map (·.den ag))/\∀zs,d.val ((ls.map (·.den ag))++zs)=X:=by
 unfold My;split
 ·rename_i e;have bL:X= .bool (e.den ρ):=bL;exact Il.bind λaD n1 l hn ha ⟨g1,g2,g3⟩=>ar.pure ⟨λx hx=>by simp at hx;subst hx;exact g1,rfl,⟨g2.1,g2.2,trivial⟩,λzs=>by rw[bL,g3];rfl⟩
 ·rename_i l s;have bL:X= .agg (s.map (A.den ρ m)).toArray:=bL;refine(Jq (nb:=nb) (m:=m) hv).mono λaD n1 ls hn ha ⟨g1,g2,g3⟩=>?_;have h1:=bO.OK g2;have h2:=g2.len;refine⟨g1,by simpa [D.num]using h2,h1.1,λzs=>?_⟩;rw[bL,<-g3,<-h1.2];simp only[D.val];rw[aak _ _ _ (by simpa using h2)]
 ·rename_i k lo hi a6 x;have bL:X= .int a6 (x.l.den ρ):=bL;have hv:x.ok n ρ:=hv;refine ei λhk=>?_;have hk:=of_decide_eq_true hk;subst hk;cases hf:nW lo hi x with
  |true=>
   have:=De hf hv;exact ar.pure ⟨λy hy=>by simp at hy;subst hy;exact hv.1,rfl,⟨this.1,this.2,trivial⟩,λzs=>by rw[bL];rfl⟩
  |false=>
   refine gD λhc=>ar.pure ?_;simp only[ct,et,af,aa.aT]at hc;exact⟨λy hy=>by simp at hy;subst hy;exact hv.1,rfl,⟨hc.1,hc.2,trivial⟩,λzs=>by rw[bL];rfl⟩
 ·split
  ·rename_i hf;obtain⟨p1,bo,bU⟩:=Uv (m:=m) hf hv bL;exact ar.pure ⟨aeb hf hv,p1,bo,bU⟩
  ·exact ar.fail
theorem dh.ext {n nb:Nat} {ρ ag:Env} {m m':Nat->Nat}:∀{vs:List V} {xs:List aA},dh ρ m vs xs->(∀v∈vs,V.ok n nb ρ v)->agree n ρ ag->(∀b,b<nb->m' b=m b)->dh ag m' vs xs
 |[],[],_,_,_,_=>trivial
 |v::vs,x::xs,h,aY,ha,hm=>⟨V.rel.ext h.1 (aY v (by simp)) ha hm,dh.ext h.2 (λu hu=>aY u (cF _ hu)) ha hm⟩
 |[],_::_,h,_,_,_=>h.elim
 |_::_,[],h,_,_,_=>h.elim
theorem Uw {nb:Nat} {m:Nat->Nat}:∀{ds:List D} {vs:List V} {xs:List aA} {n:Nat} {ρ:Env},(∀v∈vs,V.ok n nb ρ v)->dh ρ m vs xs->ar S L (Hp ds vs) n ρ λag n' ls=>(∀x∈ls,aa.aZ n' x)/\bd (dB ds) (ls.map (·.den ag))/\my ds (ls.map (·.den ag))=xs
 |[],[],[],n,ρ,_,_=>ar.pure ⟨λ_ h=>by simp at h,trivial,rfl⟩
 |d::ds,v::vs,x::xs,n,ρ,aY,hr=>by
  unfold Hp;refine(ad9 (nb:=nb) (aY v (by simp)) hr.1).bind λaD n1 a fl dM ⟨p0,p1,bo,bU⟩=>(Uw (ds:=ds) (vs:=vs) (λu hu=>(aY u (cF _ hu)).ext dM fl (aW _)) (dh.ext hr.2 (λu hu=>aY u (cF _ hu)) dM (λ_ _=>rfl))).bind λbp n2 b ee db ⟨q0,q1,q2⟩=>ar.pure ⟨λy hy=>?_,?_,?_⟩
  ·rcases List.mem_append.1 hy with hy|hy
   ·exact(p0 y hy).mono ee
   ·exact q0 y hy
  ·have e:a.map (·.den bp)=a.map (·.den aD):=gI λy hy=>aa.bG db (p0 y hy);rw[ga,e];exact rl bo q1
  ·have e:a.map (·.den bp)=a.map (·.den aD):=gI λy hy=>aa.bG db (p0 y hy);rw[ga,e];simp only[my,bU];rw[show d.num=(a.map (·.den aD)).length by simp[p1],s7,q2]
 |[],_::_,_,_,_,_,_=>ar.fail
 |_::_,[],_,_,_,_,_=>ar.fail
 |[],[],_::_,_,_,_,hr=>hr.elim
 |_::_,_::_,[],_,_,_,hr=>hr.elim
end
section
variable {S:Nat->List Int->List Int->Prop} {P:bk} {gl:dA} {w0:cN}
theorem LS {L:V->Env->Prop} {id:Nat} {l:List aa} {n:Nat} {bds:List (Int×Int)} {r:T} {G:df} {ρ:Env} (h:(T.call id l n bds r).holds S L G ρ) {rs:List Int} (hi:bd bds rs) (hs:S id (l.map (·.den ρ)) rs):r.holds S L G (bf ρ n rs):=
 kC h hi hs
theorem P2 {ρ:Env} {m:Nat->Nat} {N nb:Nat} {ds:List D} {s:Nat} {zs:List Int} (h:bd (dB ds) zs) (ha:fF ρ s zs) (hN:s+(dB ds).length<=N):(BQ ds s).ok N nb ρ/\(BQ ds s).rel ρ m (eL ds zs):=by
 have hs:=QK (m:=m) (nb:=nb) ds h ha hN;unfold BQ eL;rw[<-hs.2];split
 ·rename_i u heq;rw[heq]at hs;rw[heq];exact⟨hs.1 u (by simp),rfl⟩
 ·rename_i l hne;refine⟨hs.1,?_⟩;split
  ·rename_i x heq;have:∃u,sS s ds=[u]:=by
    cases hl:sS s ds with
    |nil=>rw[hl]at heq;simp at heq
    |cons u r=>
     cases r with
     |nil=>exact⟨u,rfl⟩
     |cons _ _=>rw[hl]at heq;simp at heq
   obtain⟨u,hu⟩:=this;exact absurd hu (hne u)
  ·rfl
def cf.wV (P:bk) (wb:ai) (c:cf) (spec:List Int->List Int->Prop):Prop:=
 ∀zs,bd (dB c.args) zs->∃rs,bd (dB c.res) rs/\spec zs rs/\∀w,wb.Extends w->zi P c.f (my c.args zs).toArray w (eL c.res rs)
theorem cf.dZ.f {wb:ai} {c:cf} {spec:List Int->List Int->Prop} (h:c.dZ P wb spec):c.wV P wb spec:=λzs hz=>by
 obtain⟨rs,h1,h2,h3⟩:=h.2 zs hz;exact⟨rs,h1,h2,λw hw=> .inr ⟨h.1 _ _,h3 w hw⟩⟩
theorem cf.snd {c:cf} {spec:List Int->List Int->Prop} (hc:c.wV P w0.b spec) (cd:∀zs rs,spec zs rs->S c.id zs rs) (L:V->Env->Prop) (n:Nat) (ρ:Env) (m:Nat->Nat) (bl:List ao) (vs:List V) (xs:List aA)
 (kn:∀v∈vs,V.ok n bl.length ρ v) (hr:dh ρ m vs xs):ar S L (c.M bl vs) n ρ λag n' v=>v.ok n' bl.length ag/\∃val,v.rel ag m val/\∀w,Mem w0 ρ m bl w->zi P c.f xs.toArray w val:=by
 intro G k hk;unfold cf.M at hk;cases hl:pk c.args vs with
 |none=>
  simp only[hl]at hk;obtain⟨aD,n1,l,fl,dM,⟨_,h1,h2⟩,hk⟩:=Uw (S:=S) (L:=L) (nb:=bl.length) kn hr G _ hk;obtain⟨rs,r1,r2,r3⟩:=hc _ h1;have ah:=LS hk r1 (cd _ _ r2);have hlen:=gi r1;have jA:=P2 (m:=m) (nb:=bl.length) (N:=n1+(dB c.res).length) r1 (fF.bf aD n1 rs) (aW _);refine⟨_,_,_,gk fl (Cl _ _),dM.trans (agree.bf rs n1 aD) fl,⟨jA.1,_,jA.2,λw hw=>?_⟩,ah⟩;rw[h2]at r3;exact r3 w hw.ext
 |some l=>
  simp only[hl]at hk;obtain⟨h1,h2⟩:=MA hl kn hr;obtain⟨rs,r1,r2,r3⟩:=hc _ h1;have ah:=LS hk r1 (cd _ _ r2);have hlen:=gi r1;have jA:=P2 (m:=m) (nb:=bl.length) (N:=n+(dB c.res).length) r1 (fF.bf ρ n rs) (aW _);refine⟨_,_,_,Cl _ _,agree.bf rs n ρ,⟨jA.1,_,jA.2,λw hw=>?_⟩,ah⟩;rw[h2]at r3;exact r3 w hw.ext
def alq:List ao->List V->M V:=λ_ vs=>
 match vs with
 |[.w (.one (.int .u64 x)),.w (.one (.int .u64 y))]=>
  cond (decide (0<=x.lo)&&decide (x.hi<18446744073709551616)&&decide (0<=y.lo)&&decide (y.hi<18446744073709551616)) (bind (mulM x y) λp=>bind (r4 p 18446744073709551616) λq=>
   pure (.eX [.one (.int .u64 q),.one (.int .u64 ⟨p.l.sub (q.l.smul 18446744073709551616),0,18446744073709551615⟩)])) fail
 |_=>fail
def abT:List ao->List V->M V:=λ_ vs=>
 match vs with
 |[.w (.one (.int .u64 x)),.w (.one (.int .u64 y)),.w (.one (.int .u64 c))]=>
  cond (decide (0<=x.lo)&&decide (0<=y.lo)&&decide (0<=c.lo)&&decide (c.hi<=1)) (bind (r4 ⟨(x.l.add y.l).add c.l,x.lo+y.lo+c.lo,x.hi+y.hi+c.hi⟩ 18446744073709551616) λq=>
   pure (.eX [.one (.int .u64 ⟨((x.l.add y.l).add c.l).sub (q.l.smul 18446744073709551616),0,18446744073709551615⟩),.one (.int .u64 q)])) fail
 |_=>fail
def aqB:List ao->List V->M V:=λ_ vs=>
 match vs with
 |[.w (.one (.int .u64 x)),.w (.one (.int .u64 y)),.w (.one (.int .u64 c))]=>
  cond (decide (0<=x.lo)&&decide (x.hi<18446744073709551616)&&decide (0<=y.lo)&&decide (y.hi<18446744073709551616)&&decide (0<=c.lo)&&decide (c.hi<=1)) (bind (r4 ⟨(x.l.sub y.l).sub c.l,x.lo-y.hi-c.hi,x.hi-y.lo-c.lo⟩ 18446744073709551616) λq=>
   pure (.eX [.one (.int .u64 ⟨((x.l.sub y.l).sub c.l).sub (q.l.smul 18446744073709551616),0,18446744073709551615⟩),.one (.int .u64 ⟨q.l.smul (-1),0,1⟩)])) fail
 |_=>fail
variable {L:V->Env->Prop} {n:Nat} {ρ:Env} {m:Nat->Nat} {bl:List ao} {vs:List V} {xs:List aA}
end
end Go.bg
namespace Go.bg
open M
theorem rX:∀{b:List (Int×Int)} {P:List Int->Prop},(∀rs,bd b rs->P rs)->oJ b P
 |[],_,h=>h [] trivial
 |(l,u)::b,P,h=>λr h1 h2=>rX (b:=b) (P:=λrs=>P (r::rs)) λrs hi=>h (r::rs) ⟨h1,h2,hi⟩
inductive O where
 |l (x:aa)
 |b (x:bh)
def O.den (ρ:Env):O->Int
 |l x=>x.den ρ
 |b x=>cond (x.den ρ) 1 0
def iB (k:di):List A->Option (List O)
 |[]=>some []
 | .int a6 x::r=>cond (decide (k=a6)) (match iB k r with|some l=>some (.l x.l::l)|none=>none) none
 |_::_=>none
def ay.out:ay->A->Option O
 | .int k _ _,.int a6 x=>cond (decide (k=a6)) (some (.l x.l)) none
 | .str,.str l=>some (.l l)
 | .bool,.bool e=>some (.b e)
 | .nil,.con (.slice none 0 0)=>some (.l (.const 0))
 |_,_=>none
def oZ:List ay->List A->Option (List O)
 |[],[]=>some []
 |c::d,a::r=>match c.out a,oZ d r with|some o,some l=>some (o::l)|_,_=>none
 |_,_=>none
def ur:D->W->Option (List O)
 | .int k _ _,.one (.int a6 x)=>cond (decide (k=a6)) (some [.l x.l]) none
 | .bool,.one (.bool x)=>some [.b x]
 | .agg k n _ _,.agg l=>cond (aG l.length n) (iB k l) none
 | .str,.one (.str l)=>some [.l l]
 | .mix d,.agg l=>oZ d l
 |_,_=>none
def vV:List D->List W->Option (List O)
 |[],[]=>some []
 |d::r,w::s=>match ur d w,vV r s with|some a,some b=>some (a++b)|_,_=>none
 |_,_=>none
def outs (ds:List D):V->Option (List O)
 | .w u=>match ds with|[d]=>ur d u|_=>none
 | .eX l=>match ds with|[_]=>none|_=>vV ds l
 |_=>none
def u2 (ds:List D) (K:List Int->Prop) (v:V) (ρ:Env):Prop:=
 match outs ds v with
 |some os=>K (os.map (O.den ρ))
 |none=>False
theorem X2 {ρ:Env} {m:Nat->Nat} {k:di}:∀{l:List A} {os:List O},iB k l=some os->os.length=l.length/\l.map (A.den ρ m)=(os.map (O.den ρ)).map (.int k)
 |[],os,h=>by simp[iB]at h;subst h;exact⟨rfl,rfl⟩
 | .int a6 x::r,os,h=>by
  simp only[iB]at h;by_cases hk:k=a6
  ·simp only[hk,decide_true,cond_true]at h;cases hr:iB a6 r with
   |none=>simp[hr]at h
   |some o=>
    simp only[hr,aK]at h;subst h;subst hk;obtain⟨h1,h2⟩:=X2 (ρ:=ρ) (m:=m) hr;exact⟨by simp[h1],by simp only[ct,h2,A.den,O.den]⟩
  ·simp[hk]at h
 | .bool _::_,_,h=>by simp[iB]at h
 | .ptr .. ::_,_,h=>by simp[iB]at h
 | .oj .. ::_,_,h=>by simp[iB]at h
 | .gptr .. ::_,_,h=>by simp[iB]at h
 | .slc .. ::_,_,h=>by simp[iB]at h
 | .con _::_,_,h=>by simp[iB]at h
 | .str _::_,_,h=>by simp[iB]at h
theorem ay.ani {ρ:Env} {m:Nat->Nat} {c:ay} {a:A} {o:O} (h:c.out a=some o):a.den ρ m=c.val (o.den ρ):=by
 unfold ay.out at h;split at h
 ·rename_i k lo hi a6 x;by_cases hk:k=a6
  ·subst hk;simp only[decide_true,cond_true,aK]at h;subst h;rfl
  ·simp[hk]at h
 ·simp only[aK]at h;subst h;rfl
 ·rename_i e;simp only[aK]at h;subst h;have hb:∀b:Bool,auD b=auD (decide ((cond b 1 0:Int)=1)):=by intro b;cases b<;>rfl
  exact hb (e.den ρ)
 ·simp only[aK]at h;subst h;rfl
 ·cases h
theorem X5 {ρ:Env} {m:Nat->Nat}:∀{d:List ay} {l:List A} {os:List O},oZ d l=some os->os.length=d.length/\l.map (A.den ρ m)=o9 ay.val d (os.map (O.den ρ))
 |[],[],os,h=>by simp[oZ]at h;subst h;exact⟨rfl,rfl⟩
 |c::d,a::r,os,h=>by
  simp only[oZ]at h;cases h1:c.out a with
  |none=>simp[h1]at h
  |some o=>
   cases hr:oZ d r with
   |none=>simp[h1,hr]at h
   |some l=>
    simp only[h1,hr,aK]at h;subst h;obtain⟨p1,bo⟩:=X5 (ρ:=ρ) (m:=m) hr;exact⟨by simp[p1],by simp only[ct,bo,ay.ani h1,Ka]⟩
 |[],_::_,_,h=>by simp[oZ]at h
 |_::_,[],_,h=>by simp[oZ]at h
theorem PB {ρ:Env} {m:Nat->Nat} {d:D} {u:W} {os:List O} (h:ur d u=some os):os.length=d.num/\∀zs,d.val (os.map (O.den ρ)++zs)=u.den ρ m:=by
 unfold ur at h;split at h
 ·rename_i k _ _ a6 x;by_cases hk:k=a6
  ·subst hk;simp only[decide_true,cond_true,aK]at h;subst h;exact⟨rfl,λzs=>by simp[D.val,W.den,A.den,O.den]⟩
  ·simp[hk]at h
 ·rename_i x;simp only[aK]at h;subst h;exact⟨rfl,λzs=>by cases hx:x.den ρ<;>simp[D.val,W.den,A.den,O.den,hx]⟩
 ·rename_i k n' _ _ l;cases hc:aG l.length n' with
  |false=>simp[hc]at h
  |true=>
   simp only[hc,cond_true]at h;have hl:=bA hc;subst hl;obtain⟨h1,h2⟩:=X2 (ρ:=ρ) (m:=m) h;exact⟨h1,λzs=>by simp only[D.val,W.den,h2];rw[F2 (by simp[h1]),ky (by simp[h1])]⟩
 ·simp only[aK]at h;subst h;exact⟨rfl,λzs=>rfl⟩
 ·rename_i d l;obtain⟨h1,h2⟩:=X5 (ρ:=ρ) (m:=m) h;refine⟨h1,λzs=>?_⟩;simp only[D.val,W.den,h2]
  congr 2
  have key:∀(a:List ay) (b c:List Int),b.length=a.length->o9 ay.val a (b++c)=o9 ay.val a b:=by
   intro a;induction a with
   |nil=>intro b c _;simp
   |cons p a ih=>
    intro b c hb;cases b with
    |nil=>simp at hb
    |cons z b=>simp[ih b c (by simpa using hb)]
  exact key _ _ _ (by simp[h1])
 ·cases h
theorem X3 {ρ:Env} {m:Nat->Nat}:∀{ds:List D} {l:List W} {os:List O},vV ds l=some os->my ds (os.map (O.den ρ))=l.map (W.den ρ m)
 |[],[],os,h=>by simp[vV]at h;subst h;rfl
 |d::ds,u::l,os,h=>by
  simp only[vV]at h;cases h1:ur d u with
  |none=>simp[h1]at h
  |some a=>
   cases h2:vV ds l with
   |none=>simp[h1,h2]at h
   |some b=>
    simp only[h1,h2,aK]at h;subst h;obtain⟨p1,bo⟩:=PB (ρ:=ρ) (m:=m) h1;rw[ga];simp only[my,bo,ct];rw[show d.num=(a.map (O.den ρ)).length by simp[p1],s7,X3 h2]
 |[],_::_,_,h=>by simp[vV]at h
 |_::_,[],_,h=>by simp[vV]at h
theorem at2 (ds:List D):∀zs,(my ds zs).length=ds.length:=by
 induction ds with
 |nil=>intro zs;rfl
 |cons d r ih=>intro zs;simp[my,ih]
theorem Gt {ds:List D} {K:List Int->Prop} {v:V} {ρ:Env} {m:Nat->Nat} {val:aA} (h:u2 ds K v ρ) (hr:v.rel ρ m val):∃rs,K rs/\val=eL ds rs:=by
 unfold u2 at h;cases ho:outs ds v with
 |none=>simp[ho]at h
 |some os=>
  simp only[ho]at h;refine⟨_,h,?_⟩;unfold outs at ho;cases v with
  |any=>cases ho
  |oY _ _ _=>cases ho
  |mK _ _=>cases ho
  |w u=>
   simp only at ho;split at ho
   ·rename_i d;obtain⟨p1,bo⟩:=PB (ρ:=ρ) (m:=m) ho;simp only[V.rel]at hr;have:=bo [];rw[lr]at this;simp[eL,my,this,hr]
   ·cases ho
  |eX l=>
   simp only at ho;split at ho
   ·cases ho
   ·rename_i hne;have:=X3 (ρ:=ρ) (m:=m) ho;simp only[V.rel]at hr;unfold eL;split
    ·rename_i x heq;exfalso;have hl:=at2 ds (os.map (O.den ρ));rw[heq]at hl
     match ds,hl with
     |[d],_=>exact hne d rfl
    ·rw[hr,this]
noncomputable def awi (cons:List cf) (alr abU aqC:cB):dY:=λf=>
 cond (aG f alr) (some alq) <| cond (aG f abU) (some abT) <| cond (aG f aqC) (some aqB) <|
 match cons.find? (λc=>aG f c.f)with
 |some c=>some c.M
 |none=>none
section
variable {S:Nat->List Int->List Int->Prop} {P:bk} {gl:dA} {wb:ai}
noncomputable def G2 (cons:List cf):dY:=λf=>
 match cons.filter (λc=>aG f c.f)with
 |[]=>none
 |l=>some λbl vs n k=>match l.find? (λc=>(pk c.args vs).isSome)with
  |some c=>c.M bl vs n k
  |none=>match l with
   |c::_=>c.M bl vs n k
   |[]=> .stuck
theorem Tt {w0:cN} {cons:List cf} (hc:∀c∈cons,c.wV P w0.b (S c.id)):fq S P gl w0 (G2 cons):=by
 intro f g q8 L n ρ m bl vs xs h1 h2 h3 h4;unfold G2 at q8;split at q8
 ·cases q8
 ·rename_i l hl;simp only[aK]at q8;subst q8;intro G k hk;simp only at hk;split at hk
  ·rename_i c Ny;have cE:=List.mem_filter.1 (y5 Ny);have DX:=bA cE.2;subst DX;exact cf.snd (hc c cE.1) (λ_ _ h=>h) L n ρ m bl vs xs h3 h4 G k hk
  ·split at hk
   ·rename_i c r hl2;have cE:=List.mem_filter.1 (show c∈cons.filter (λc=>aG f c.f) from by rw[hl2];exact s8 (a:=c) (l:=r));have DX:=bA cE.2;subst DX;exact cf.snd (hc c cE.1) (λ_ _ h=>h) L n ρ m bl vs xs h3 h4 G k hk
   ·exact hk.elim
theorem Calls.some {f:cB} {args:Array aA} {w:ai} {R:pT->ai->Prop} (h:gU P f args w R):∃e w',R e w':=by
 obtain⟨e,w',pn,h1,_⟩:=h [];exact⟨e,w',h1⟩
noncomputable def cf.tree (P:bk) (gl:dA) (cal:dY) (li:cB->Nat->Option cX) (rounds d:Nat) (c:cf):T:=
 G3 P gl cal li rounds d c.f (dB c.args).length ((sS 0 c.args).map V.w) [] λ_ v _=> .leaf v
theorem Sy {ρ:Env} {m:Nat->Nat}:∀(l:List W),dh ρ m (l.map V.w) (l.map (W.den ρ m))
 |[]=>trivial
 |_::r=>⟨rfl,Sy r⟩
theorem cf.calls {c:cf} {cal:dY} {li:cB->Nat->Option cX} {rounds d:Nat} {L:V->Env->Prop} (hm:P.follows .mixedOrders=true) (cy:∀r ex ro,fq S P gl ⟨wb,r,ex,ro,[]⟩ cal) (hg:eQ gl ⟨wb,wb,λ_=>False,λ_=>False,[]⟩) {zs:List Int} (hz:bd (dB c.args) zs)
 (ht:(c.tree P gl cal li rounds d).holds S L (λ_ _=>False) (bf (λ_=>0) 0 zs)) (w:ai) (hw:wb.Extends w):
 gU P c.f (my c.args zs).toArray w λe w'=>∃v ag m val,e= .returned val/\v.rel ag m val/\L v ag/\w.Extends w':=by
 have hs:=QK (m:=λ_=>0) (nb:=0) (N:=(dB c.args).length) c.args hz (fF.bf (λ_=>0) 0 zs) (by omega);have:=acP (L:=L) (b:=wb) (w:=w) hm (cy w _ _) hg c.f _ _ _ ((sS 0 c.args).map (W.den (bf (λ_=>0) 0 zs) λ_=>0)) hw (λv hv=>by
  obtain⟨u,hu,rfl⟩:=List.mem_map.1 hv;exact hs.1 u hu) (Sy _) ht
 rw[hs.2]at this;refine this.mono λe w' ⟨v,ag,m,val,nb,h1,h2,_,h3,h4⟩=>⟨v,ag,m,val,h1,h2,h3,h4⟩
end
end Go.bg
namespace Go.bg
open M
structure avw where
 f:cB
 id:Nat
 k:di
 N:Nat
 lo:Int
 hi:Int
 ty:aS
 off:Nat
 len:Nat
 cap:Nat
 args:List D
 res:List D
section
variable {S:Nat->List Int->List Int->Prop} {P:bk} {gl:dA} {w0:cN}
end
end Go.bg
namespace Go.bg
def qU (P:bk) (f:cB):Bool:=match P.funcs[f]? with
 |some fn=> !(fn.name== "runtime.NumGoroutine")&&fn.body.isSome
 |none=>false
theorem enters {P:bk} {f:cB} (h:qU P f=true) (args:Array aA) (w:ai):(callFunc f args).run P w= .ok (.enter f args) w:=by
 unfold qU at h;cases hf:P.funcs[f]? with
 |none=>simp[hf]at h
 |some fn=>
  simp only[hf,aO,fZ]at h;have h1:fn.name≠ "runtime.NumGoroutine" :=by simpa using h.1
  obtain⟨c,hc⟩:=Option.isSome_iff_exists.1 h.2;simp[callFunc,hf,h1,hc,Sem.run]
section
variable {S:Nat->List Int->List Int->Prop} {P:bk} {gl:dA} {wb:ai}
end
end Go.bg
namespace Go.bg
abbrev gp:=List (Nat×Nat)
abbrev gn:=List (List Int)
def qo:gp->gn->Nat->Int
 |(s,k)::st,l::aJ,i=>cond (bC s i&&b6 i (s+k)) (l.getD (i-s) 0) (qo st aJ i)
 |_,_,_=>0
def O8:gp->gn->Prop
 |(_,k)::st,l::aJ=>l.length=k/\O8 st aJ
 |[],[]=>True
 |_,_=>False
def mG (ρ:Env) (st:gp) (aJ:gn):Prop:=O8 st aJ/\∀i,ρ i=qo st aJ i
def zK (st:gp) (aJ:gn):List (Int×Nat)->Int
 |[]=>0
 |(k,i)::r=>match r with
  |[]=>cond (k==1) (qo st aJ i) (k*qo st aJ i)
  |_=>cond (k==1) (qo st aJ i) (k*qo st aJ i)+zK st aJ r
def aa.ek (st:gp) (aJ:gn) (l:aa):Int:=
 match l.ts with
 |[]=>l.c
 |ts=>cond (l.c==0) (zK st aJ ts) (zK st aJ ts+l.c)
theorem TL {ρ:Env} {st:gp} {aJ:gn} (h:∀i,ρ i=qo st aJ i):∀ts,zK st aJ ts=gu ρ ts
 |[]=>rfl
 |(k,i)::[]=>by
  simp only[zK,gu,<-h i];cases hk:(k==1)with
  |true=>have:k=1:=by simpa using hk
         subst this;simp
  |false=>simp
 |(k,i)::t::r=>by
  have ih:=TL h (t::r);rw[zK,gu,ih,<-h i]
  ·cases hk:(k==1)with
   |true=>have:k=1:=by simpa using hk
          subst this;simp
   |false=>simp
  ·intro hc;cases hc
theorem aa.ik {ρ:Env} {st:gp} {aJ:gn} (h:∀i,ρ i=qo st aJ i) (l:aa):l.ek st aJ=l.den ρ:=by
 unfold aa.ek aa.den;cases hl:l.ts with
 |nil=>simp[gu]
 |cons t r=>
  simp only[TL h];cases hc:(l.c==0)with
  |true=>have:l.c=0:=by simpa using hc
         rw[this];simp
  |false=>simp
def xh:gp->gn->Nat->Nat->Option (List Int)
 |(s,k)::st,l::aJ,i,len=>cond (aG s i&&aG k len) (some l) (cond (bC (i+len) s||bC (s+k) i) (xh st aJ i len) none)
 |_,_,_,_=>none
theorem Uj:∀{st:gp} {aJ:gn} {i len:Nat} {l:List Int},xh st aJ i len=some l->O8 st aJ->l.length=len/\∀j,j<len->qo st aJ (i+j)=l.getD j 0
 |[],_,_,_,_,h,_=>by simp[xh]at h
 |_::_,[],_,_,_,h,_=>by simp[xh]at h
 |(s,k)::st,bV::aJ,i,len,l,h,hl=>by
  unfold xh at h;cases h1:(aG s i&&aG k len)with
  |true=>
   simp only[h1,cond_true,aK]at h;subst h;simp only[aO]at h1;have e1:=bA h1.1;have e2:=bA h1.2;subst e1;subst e2;refine⟨hl.1,λj hj=>?_⟩;unfold qo;have:(bC s (s+j)&&b6 (s+j) (s+k))=true:=by simp[b6];omega
   rw[this,cond_true,Nat.add_sub_cancel_left]
  |false=>
   simp only[h1,cond_false]at h;cases h2:(bC (i+len) s||bC (s+k) i)with
   |false=>simp[h2]at h
   |true=>
    simp only[h2,cond_true]at h;obtain⟨g1,g2⟩:=Uj h hl.2;refine⟨g1,λj hj=>?_⟩;rw[<-g2 j hj]
    conv=>lhs;unfold qo
    have:(bC s (i+j)&&b6 (i+j) (s+k))=false:=by
     simp only[oA,Nat.ble_eq]at h2;cases h3:(bC s (i+j)&&b6 (i+j) (s+k))with
     |false=>rfl
     |true=>simp[b6]at h3;omega
    rw[this,cond_false]
def EE:Nat->List aa->Bool
 |_,[]=>true
 |i,l::r=>(l.c==0&&(match l.ts with|[(k,j)]=>k==1&&aG i j|_=>false))&&EE (i+1) r
def firstVar:List aa->Nat
 |[]=>0
 |l::_=>match l.ts with|[(_,j)]=>j|_=>0
theorem WS {ρ:Env}:∀{ls:List aa} {i:Nat},EE i ls=true->∀j,j<ls.length->(ls.map (·.den ρ)).getD j 0=ρ (i+j)
 |[],_,_,j,hj=>by simp at hj
 |l::r,i,h,j,hj=>by
  simp only[EE,aO]at h;cases j with
  |zero=>
   obtain⟨⟨h1,h2⟩,_⟩:=h;have hc:l.c=0:=by simpa using h1
   cases hl:l.ts with
   |nil=>simp[hl]at h2
   |cons t s=>
    cases s with
    |cons t' j0=>simp[hl]at h2
    |nil=>
     obtain⟨k,q⟩:=t;simp only[hl,aO]at h2;have e1:k=1:=by simpa using h2.1
     have e2:=bA h2.2;subst e1;subst e2;simp[aa.den,hl,gu,hc]
  |succ j=>
   have:=WS (ρ:=ρ) h.2 j (by simpa using hj);simp only[ct,J6];rw[this]
   congr 1;omega
def sQ (st:gp) (aJ:gn) (ls:List aa):List Int:=
 cond (b6 1 ls.length&&EE (firstVar ls) ls) (match xh st aJ (firstVar ls) ls.length with|some l=>l|none=>ls.map (aa.ek st aJ)) (ls.map (aa.ek st aJ))
theorem Xn {l bV:List Int} (hl:l.length=bV.length) (h:∀j,j<l.length->l.getD j 0=bV.getD j 0):l=bV:=by
 apply List.ext_getElem hl;intro j h1 h2;have:=h j h1;simpa [List.getD_eq_getElem?_getD,gy h1,gy h2]using this
theorem Jy {ρ:Env} {st:gp} {aJ:gn} (h:mG ρ st aJ) (ls:List aa):sQ st aJ ls=ls.map (·.den ρ):=by
 have e0:ls.map (aa.ek st aJ)=ls.map (·.den ρ):=gI λl _=>aa.ik h.2 l;unfold sQ;cases h1:(b6 1 ls.length&&EE (firstVar ls) ls)with
 |false=>simpa using e0
 |true=>
  simp only[cond_true];simp only[aO]at h1;cases h2:xh st aJ (firstVar ls) ls.length with
  |none=>exact e0
  |some l=>
   obtain⟨g1,g2⟩:=Uj h2 h.1;show l=_;refine Xn (by simp[g1]) λj hj=>?_;rw[WS h1.2 j (by omega),h.2,g2 j (by omega)]
def mc:bh->Option (List aa×List aa)
 | .eq a b=>some ([a],[b])
 | .and (.eq a b) r=>match mc r with|some (x,y)=>some (a::x,b::y)|none=>none
 |_=>none
def bh.ek (st:gp) (aJ:gn):bh->Bool
 |lit b=>b
 |eq a b=>decide (a.ek st aJ=b.ek st aJ)
 |lt a b=>decide (a.ek st aJ<b.ek st aJ)
 |le a b=>decide (a.ek st aJ<=b.ek st aJ)
 |not a=> !a.ek st aJ
 |and a b=>match mc (.and a b)with
  |some (x,y)=>decide (sQ st aJ x=sQ st aJ y)
  |none=>a.ek st aJ&&b.ek st aJ
 |iff a b=>a.ek st aJ==b.ek st aJ
theorem Uc {ρ:Env}:∀{b:bh} {x y:List aa},mc b=some (x,y)->b.den ρ=decide (x.map (·.den ρ)=y.map (·.den ρ))
 | .eq a b,x,y,h=>by
  simp only[mc,aK,cv]at h;obtain⟨rfl,rfl⟩:=h;simp[bh.den]
 | .and (.eq a b) r,x,y,h=>by
  simp only[mc]at h;cases hr:mc r with
  |none=>simp[hr]at h
  |some p=>
   obtain⟨j3,jI⟩:=p;simp only[hr,aK,cv]at h;obtain⟨rfl,rfl⟩:=h;have ih:=Uc (ρ:=ρ) hr;simp only[bh.den,ih,ct,kz];simp
 | .lit _,_,_,h=>by simp[mc]at h
 | .lt _ _,_,_,h=>by simp[mc]at h
 | .le _ _,_,_,h=>by simp[mc]at h
 | .not _,_,_,h=>by simp[mc]at h
 | .iff _ _,_,_,h=>by simp[mc]at h
 | .and (.lit _) _,_,_,h=>by simp[mc]at h
 | .and (.lt _ _) _,_,_,h=>by simp[mc]at h
 | .and (.le _ _) _,_,_,h=>by simp[mc]at h
 | .and (.not _) _,_,_,h=>by simp[mc]at h
 | .and (.and _ _) _,_,_,h=>by simp[mc]at h
 | .and (.iff _ _) _,_,_,h=>by simp[mc]at h
theorem bh.ik {ρ:Env} {st:gp} {aJ:gn} (h:mG ρ st aJ):∀b:bh,b.ek st aJ=b.den ρ
 |lit _=>rfl
 |eq a b=>by simp only[ek,den,aa.ik h.2]
 |lt a b=>by simp only[ek,den,aa.ik h.2]
 |le a b=>by simp only[ek,den,aa.ik h.2]
 |not a=>by simp only[ek,den,bh.ik h a]
 |and a b=>by
  have e1:=bh.ik h a;have e2:=bh.ik h b;unfold ek;cases hq:mc (.and a b)with
  |none=>simp only[den,e1,e2]
  |some p=>
   obtain⟨x,y⟩:=p;simp only[Uc (ρ:=ρ) hq,Jy h]
 |iff a b=>by simp only[ek,den,bh.ik h a,bh.ik h b]
def gF {α:Type}:List Nat->List α->List (List α)
 |[],[]=>[]
 |[],x::l=>[x::l]
 |k::lg,l=>l.take k::gF lg (l.drop k)
theorem JC {α β:Type} (f:α->β):∀(lg:List Nat) (l:List α),gF lg (l.map f)=(gF lg l).map (List.map f)
 |[],[]=>rfl
 |[],_::_=>rfl
 |k::lg,l=>by simp only[gF,ct,<-y2,<-y3,JC f lg]
def vb:List Nat->Nat->List (Int×Int)->(gp->gn->List (List Int)->Prop)->gp->gn->Prop
 |[],_,[],P,st,aJ=>P st aJ []
 |[],_,_::_,_,_,_=>False
 |k::lg,n,bds,P,st,aJ=>cond (aG k 1)
  (match bds with
  |(lo,hi)::S8=>∀z:Int,lo<=z->z<=hi->vb lg (n+1) S8 (λnK nq ls=>P nK nq ([z]::ls)) ((n,1)::st) ([z]::aJ)
  |[]=>False)
  (cond (bC k bds.length) (∀r:List Int,bd (bds.take k) r->vb lg (n+k) (bds.drop k) (λnK nq ls=>P nK nq (r::ls)) ((n,k)::st) (r::aJ)) False)
theorem ZH:∀(a b:List Int) (n:Nat) (ρ:Env),bf ρ n (a++b)=bf (bf ρ n a) (n+a.length) b
 |[],b,n,ρ=>rfl
 |z::a,b,n,ρ=>by
  simp only[s9,bf,cS];rw[ZH a b]
  congr 1;omega
theorem ZI:∀(l:List Int) (n:Nat) (ρ:Env) (i:Nat),bf ρ n l i=cond (bC n i&&b6 i (n+l.length)) (l.getD (i-n) 0) (ρ i)
 |[],n,ρ,i=>by
  have:(bC n i&&b6 i (n+0))=false:=by
   cases h:(bC n i&&b6 i (n+0))with
   |false=>rfl
   |true=>simp[b6]at h;omega
  simp only[bf,eF,this,cond_false]
 |z::l,n,ρ,i=>by
  simp only[bf];rw[ZI l (n+1)];by_cases h1:i=n
  ·subst h1;have e1:(bC (i+1) i&&b6 i (i+1+l.length))=false:=by
    have:bC (i+1) i=false:=by
     cases h:bC (i+1) i with
     |false=>rfl
     |true=>exact absurd (eE h) (by omega)
    simp[this]
   have e2:(bC i i&&b6 i (i+(z::l).length))=true:=by simp[b6]
   rw[e1,e2];simp[cV]
  ·have hu:cV ρ n z i=ρ i:=QS ρ z h1;by_cases h2:n<=i/\i<n+1+l.length
   ·have e1:(bC (n+1) i&&b6 i (n+1+l.length))=true:=by simp[b6];omega
    have e2:(bC n i&&b6 i (n+(z::l).length))=true:=by simp[b6];omega
    rw[e1,e2];simp only[cond_true];rw[show i-n=(i-(n+1))+1 by omega,J6]
   ·have e1:(bC (n+1) i&&b6 i (n+1+l.length))=false:=by
     cases h:(bC (n+1) i&&b6 i (n+1+l.length))with
     |false=>rfl
     |true=>simp[b6]at h;omega
    have e2:(bC n i&&b6 i (n+(z::l).length))=false:=by
     cases h:(bC n i&&b6 i (n+(z::l).length))with
     |false=>rfl
     |true=>simp[b6]at h;omega
    rw[e1,e2];simp[hu]
theorem mG.push {ρ:Env} {st:gp} {aJ:gn} (h:mG ρ st aJ) (n:Nat) (l:List Int):mG (bf ρ n l) ((n,l.length)::st) (l::aJ):=
 ⟨⟨rfl,h.1⟩,λi=>by rw[ZI,qo,<-h.2 i]⟩
theorem WI:∀{bds:List (Int×Int)} {zs:List Int} (k:Nat),bd bds zs->bd (bds.take k) (zs.take k)/\bd (bds.drop k) (zs.drop k)
 |[],[],k,_=>by simp[bd]
 |[],_::_,_,h=>h.elim
 |(_,_)::_,[],_,h=>h.elim
 |(l,u)::b,z::zs,0,h=>by simpa [bd]using h
 |(l,u)::b,z::zs,k+1,h=>by
  obtain⟨h1,h2,h3⟩:=h;obtain⟨g1,g2⟩:=WI (bds:=b) (zs:=zs) k h3;exact⟨⟨h1,h2,g1⟩,g2⟩
theorem zq:∀{lg:List Nat} {n:Nat} {bds:List (Int×Int)} {P:gp->gn->List (List Int)->Prop} {st:gp} {aJ:gn} {ρ:Env} {zs:List Int},vb lg n bds P st aJ->mG ρ st aJ->bd bds zs->∃nK nq,mG (bf ρ n zs) nK nq/\P nK nq (gF lg zs)
 |[],n,[],P,st,aJ,ρ,[],h,ht,_=>⟨st,aJ,ht,h⟩
 |[],_,[],_,_,_,_,_::_,_,_,hi=>hi.elim
 |[],_,_::_,_,_,_,_,_,h,_,_=>h.elim
 |k::lg,n,bds,P,st,aJ,ρ,zs,h,ht,hi=>by
  unfold vb at h;cases hk:aG k 1 with
  |true=>
   have e:=bA hk;subst e;simp only[hk,cond_true]at h;cases bds with
   |nil=>exact h.elim
   |cons b S8=>
    obtain⟨lo,nv⟩:=b;cases zs with
    |nil=>exact hi.elim
    |cons z zs=>
     obtain⟨h1,h2,h3⟩:=hi;have:=zq (h z h1 h2) (ht.push n [z]) h3;obtain⟨nK,nq,g1,g2⟩:=this;refine⟨nK,nq,g1,?_⟩;simpa [gF]using g2
  |false=>
   simp only[hk,cond_false]at h;cases hb:bC k bds.length with
   |false=>simp only[hb,cond_false]at h
   |true=>
    simp only[hb,cond_true]at h;have hb':k<=bds.length:=by simpa using hb
    have hlen:=gi hi;obtain⟨i1,i2⟩:=WI k hi;have e:(zs.take k).length=k:=by simp;omega
    have hE:=ht.push n (zs.take k);rw[e]at hE;obtain⟨nK,nq,g1,g2⟩:=zq (h _ i1) hE i2;refine⟨nK,nq,?_,g2⟩;have e2:=ZH (zs.take k) (zs.drop k) n ρ;rw[ju,e]at e2;rw[e2];exact g1
abbrev zg:=Nat->List (List Int)->Prop
def zg.set (A:zg) (iR:Nat) (p:List (List Int)->Prop):zg:=λi=>cond (aG i iR) p (A i)
def T.k7 (sh:Nat->List Nat×List Nat) (lsh:Nat->List Nat) (S:Nat->List (List Int)->List (List Int)->Prop) (L:V->gp->gn->Prop):T->zg->gp->gn->Prop
 |stuck,_,_,_=>False
 |leaf v,_,st,aJ=>L v st aJ
 |div n x d lo hi r,A,st,aJ=>∀q:Int,lo<=q->q<=hi->0<=x.ek st aJ-d*q->x.ek st aJ-d*q<d->r.k7 sh lsh S L A ((n,1)::st) ([q]::aJ)
 |mul n x y lo hi r,A,st,aJ=>∀p:Int,lo<=p->p<=hi->p=x.ek st aJ*y.ek st aJ->r.k7 sh lsh S L A ((n,1)::st) ([p]::aJ)
 |bit n op k x y r,A,st,aJ=>∀z:Int,0<=z->z<=k.max->z=cC op k (x.ek st aJ) (y.ek st aJ)->r.k7 sh lsh S L A ((n,1)::st) ([z]::aJ)
 |shr n x y lo hi r,A,st,aJ=>∀z:Int,lo<=z->z<=hi->z=x.ek st aJ/2^(y.ek st aJ).toNat->r.k7 sh lsh S L A ((n,1)::st) ([z]::aJ)
 |Jz n cs bj lo hi r,A,st,aJ=>∀z:Int,lo<=z->z<=hi->z=(sQ st aJ cs).getD (bj.ek st aJ).toNat 0->r.k7 sh lsh S L A ((n,1)::st) ([z]::aJ)
 |tv b t e,A,st,aJ=>(b.ek st aJ=true->t.k7 sh lsh S L A st aJ)/\(b.ek st aJ=false->e.k7 sh lsh S L A st aJ)
 |call id args n bds r,A,st,aJ=>vb (sh id).2 n bds (λnK nq rs=>S id ((gF (sh id).1 args).map (sQ st aJ)) rs->r.k7 sh lsh S L A nK nq) st aJ
 |loop iR init n bds r,A,st,aJ=>∃(I:List (List Int)->Prop) (j9:List (List Int)->Nat),I ((gF (lsh iR) init).map (sQ st aJ))/\
  vb (lsh iR) n bds (λnK nq zs=>I zs->r.k7 sh lsh S L (A.set iR λvs=>I vs/\j9 vs<j9 zs) nK nq) st aJ
 |again iR vals,A,st,aJ=>A iR ((gF (lsh iR) vals).map (sQ st aJ))
 |both a b,A,st,aJ=>a.k7 sh lsh S L A st aJ/\b.k7 sh lsh S L A st aJ
 |fn n op args lo hi r,A,st,aJ=>∀z:Int,lo<=z->z<=hi->z=aw op (args.map (aa.ek st aJ))->r.k7 sh lsh S L A ((n,1)::st) ([z]::aJ)
 |ind n b r,A,st,aJ=>∀z:Int,0<=z->z<=1->b.ek st aJ=decide (z=1)->r.k7 sh lsh S L A ((n,1)::st) ([z]::aJ)
 |sU n lo hi r,A,st,aJ=>∀z:Int,lo<=z->z<=hi->r.k7 sh lsh S L A ((n,1)::st) ([z]::aJ)
 |nat n r,A,st,aJ=>∀z:Int,0<=z->r.k7 sh lsh S L A ((n,1)::st) ([z]::aJ)
 |vf op args r,A,st,aJ=>af op (args.map (aa.ek st aJ))->r.k7 sh lsh S L A st aJ
 |oN op args r,A,st,aJ=>af op (args.map (aa.ek st aJ))/\r.k7 sh lsh S L A st aJ
theorem Qq {ρ:Env} {st:gp} {aJ:gn} (h:mG ρ st aJ) (lg:List Nat) (l:List aa):(gF lg l).map (sQ st aJ)=gF lg (l.map (·.den ρ)):=by
 rw[JC];exact gI λx _=>Jy h x
def b7 (sh:Nat->List Nat×List Nat) (S:Nat->List (List Int)->List (List Int)->Prop):Nat->List Int->List Int->Prop:=λid zs rs=>S id (gF (sh id).1 zs) (gF (sh id).2 rs)
theorem Pm {ρ:Env} {st:gp} {aJ:gn} (h:mG ρ st aJ) (l:List aa):l.map (aa.ek st aJ)=l.map (·.den ρ):=gI λx _=>aa.ik h.2 x
theorem lM {sh:Nat->List Nat×List Nat} {lsh:Nat->List Nat} {S:Nat->List (List Int)->List (List Int)->Prop} {St:V->gp->gn->Prop} {L:V->Env->Prop} (bZ:∀v ρ st aJ,mG ρ st aJ->St v st aJ->L v ρ):
 ∀(t:T) (fP:zg) (A:df) (ρ:Env) (st:gp) (aJ:gn),(∀iR vs,fP iR (gF (lsh iR) vs)->A iR vs)->mG ρ st aJ->t.k7 sh lsh S St fP st aJ->t.holds (b7 sh S) L A ρ
 | .stuck,_,_,_,_,_,_,_,h=>h
 | .leaf v,_,_,ρ,st,aJ,_,ht,h=>bZ v ρ st aJ ht h
 | .div n x d lo hi r,fP,A,ρ,st,aJ,hA,ht,h=>λq h1 h2 h3 h4=>lM bZ r fP A _ _ _ hA (ht.push n [q]) (h q h1 h2 (by rw[aa.ik ht.2];exact h3) (by rw[aa.ik ht.2];exact h4))
 | .mul n x y lo hi r,fP,A,ρ,st,aJ,hA,ht,h=>λq h1 h2 h3=>lM bZ r fP A _ _ _ hA (ht.push n [q]) (h q h1 h2 (by rw[aa.ik ht.2,aa.ik ht.2];exact h3))
 | .bit n op k x y r,fP,A,ρ,st,aJ,hA,ht,h=>λq h1 h2 h3=>lM bZ r fP A _ _ _ hA (ht.push n [q]) (h q h1 h2 (by rw[aa.ik ht.2,aa.ik ht.2];exact h3))
 | .shr n x y lo hi r,fP,A,ρ,st,aJ,hA,ht,h=>λq h1 h2 h3=>lM bZ r fP A _ _ _ hA (ht.push n [q]) (h q h1 h2 (by rw[aa.ik ht.2,aa.ik ht.2];exact h3))
 | .Jz n cs bj lo hi r,fP,A,ρ,st,aJ,hA,ht,h=>λq h1 h2 h3=>lM bZ r fP A _ _ _ hA (ht.push n [q]) (h q h1 h2 (by rw[Jy ht,aa.ik ht.2];exact h3))
 | .tv b t e,fP,A,ρ,st,aJ,hA,ht,h=>⟨λhb=>lM bZ t fP A _ _ _ hA ht (h.1 (by rw[bh.ik ht];exact hb)),λhb=>lM bZ e fP A _ _ _ hA ht (h.2 (by rw[bh.ik ht];exact hb))⟩
 | .call id args n bds r,fP,A,ρ,st,aJ,hA,ht,h=>by
  refine rX λrs hi hs=>?_;obtain⟨nK,nq,h1,h2⟩:=zq h ht hi;exact lM bZ r fP A _ _ _ hA h1 (h2 (by rw[Qq ht];exact hs))
 | .loop iR init n bds r,fP,A,ρ,st,aJ,hA,ht,h=>by
  obtain⟨I,j9,h1,h2⟩:=h;refine⟨λzs=>I (gF (lsh iR) zs),λzs=>j9 (gF (lsh iR) zs),?_,?_⟩
  ·rw[Qq ht]at h1;exact h1
  ·refine rX λzs hi hI=>?_;obtain⟨nK,nq,g1,g2⟩:=zq h2 ht hi;refine lM bZ r _ _ _ _ _ (λakf vs hv=>?_) g1 (g2 hI);unfold zg.set at hv;unfold df.set;cases hq:aG akf iR with
   |true=>
    rw[hq]at hv;have e:=bA hq;subst e;exact hv
   |false=>rw[hq]at hv;exact hA _ _ hv
 | .again iR vals,fP,A,ρ,st,aJ,hA,ht,h=>hA iR _ (by rw[<-Qq ht];exact h)
 | .both x y,fP,A,ρ,st,aJ,hA,ht,h=>⟨lM bZ x fP A ρ st aJ hA ht h.1,lM bZ y fP A ρ st aJ hA ht h.2⟩
 | .fn n op args lo hi r,fP,A,ρ,st,aJ,hA,ht,h=>λq h1 h2 h3=>lM bZ r fP A _ _ _ hA (ht.push n [q]) (h q h1 h2 (by rw[Pm ht];exact h3))
 | .ind n b r,fP,A,ρ,st,aJ,hA,ht,h=>λq h1 h2 h3=>lM bZ r fP A _ _ _ hA (ht.push n [q]) (h q h1 h2 (by rw[bh.ik ht];exact h3))
 | .sU n lo hi r,fP,A,ρ,st,aJ,hA,ht,h=>λq h1 h2=>lM bZ r fP A _ _ _ hA (ht.push n [q]) (h q h1 h2)
 | .nat n r,fP,A,ρ,st,aJ,hA,ht,h=>λq h1=>lM bZ r fP A _ _ _ hA (ht.push n [q]) (h q h1)
 | .vf op args r,fP,A,ρ,st,aJ,hA,ht,h=>λh1=>lM bZ r fP A ρ st aJ hA ht (h (by rw[Pm ht];exact h1))
 | .oN op args r,fP,A,ρ,st,aJ,hA,ht,h=>⟨by rw[<-Pm ht];exact h.1,lM bZ r fP A _ _ _ hA ht h.2⟩
def vQ:List O->Option (List aa)
 |[]=>some []
 | .l x::r=>match vQ r with|some l=>some (x::l)|none=>none
 | .b _::_=>none
def O.ek (st:gp) (aJ:gn):O->Int
 |l x=>x.ek st aJ
 |b x=>cond (x.ek st aJ) 1 0
def BT (st:gp) (aJ:gn) (os:List O):List Int:=
 match vQ os with
 |some ls=>sQ st aJ ls
 |none=>os.map (O.ek st aJ)
theorem Xm {ρ:Env}:∀{os:List O} {ls:List aa},vQ os=some ls->ls.map (·.den ρ)=os.map (O.den ρ)
 |[],ls,h=>by simp[vQ]at h;subst h;rfl
 | .l x::r,ls,h=>by
  simp only[vQ]at h;cases hr:vQ r with
  |none=>simp[hr]at h
  |some l=>
   simp only[hr,aK]at h;subst h;simp only[ct,Xm hr,O.den]
 | .b _::_,_,h=>by simp[vQ]at h
theorem O.ik {ρ:Env} {st:gp} {aJ:gn} (h:mG ρ st aJ):∀o:O,o.ek st aJ=o.den ρ
 | .l x=>aa.ik h.2 x
 | .b x=>by simp only[ek,den,bh.ik h]
theorem Y6 {ρ:Env} {st:gp} {aJ:gn} (h:mG ρ st aJ) (os:List O):BT st aJ os=os.map (O.den ρ):=by
 unfold BT;cases hl:vQ os with
 |some ls=>exact(Jy h ls).trans (Xm hl)
 |none=>exact gI λo _=>O.ik h o
def aln (k:Nat):List Nat:=match k with
 |12=>[4,4,4]
 |15=>[5,5,5]
 |20=>[5,5,5,5]
 |k=>[k]
def D.IV:D->List Nat
 | .mix l=>aln l.length
 | .j1 _=>[]
 | .ob .. =>[]
 |d=>[d.num]
def sE (ds:List D):List Nat:=ds.flatMap D.IV
def Ln (ds:List D) (K:List (List Int)->Prop) (v:V) (st:gp) (aJ:gn):Prop:=
 match outs ds v with
 |some os=>K ((gF (sE ds) os).map (BT st aJ))
 |none=>False
theorem abh {ds:List D} {K:List (List Int)->Prop} (v:V) (ρ:Env) (st:gp) (aJ:gn) (ht:mG ρ st aJ) (h:Ln ds K v st aJ):u2 ds (λrs=>K (gF (sE ds) rs)) v ρ:=by
 unfold Ln at h;unfold u2;cases ho:outs ds v with
 |none=>simp[ho]at h
 |some os=>
  simp only[ho]at h⊢;rw[JC]
  rwa [show(gF (sE ds) os).map (BT st aJ)=(gF (sE ds) os).map (List.map (O.den ρ)) from gI λo _=>Y6 ht o]at h
def tk (sh:Nat->List Nat×List Nat) (lsh:Nat->List Nat) (S:Nat->List (List Int)->List (List Int)->Prop) (K:List (List Int)->List (List Int)->Prop) (lens:List Nat) (bds:List (Int×Int)) (ds:List D) (t:T):Prop:=
 vb lens 0 bds (λst aJ zs=>t.k7 sh lsh S (Ln ds (K zs)) (λ_ _=>False) st aJ) [] []
theorem abQ {sh:Nat->List Nat×List Nat} {lsh:Nat->List Nat} {S:Nat->List (List Int)->List (List Int)->Prop} {K:List (List Int)->List (List Int)->Prop} {lens:List Nat} {bds:List (Int×Int)} {ds:List D} {t:T}
 (h:tk sh lsh S K lens bds ds t):oJ bds λzs=>t.holds (b7 sh S) (u2 ds λrs=>K (gF lens zs) (gF (sE ds) rs)) (λ_ _=>False) (bf (λ_=>0) 0 zs):=by
 refine rX λzs hi=>?_;obtain⟨st,aJ,h1,h2⟩:=zq h (show mG (λ_=>0) [] [] from⟨trivial,λ_=>rfl⟩) hi;exact lM (λv ρ st aJ ht hl=>abh v ρ st aJ ht hl) t _ _ _ st aJ (λ_ _ hf=>hf.elim) h1 h2
end Go.bg
namespace Go.bg
open Go.ChangeShapes Go.WideShapes Go.RowKit
variable {H:Type} {enc:aS×aA->H} {P:bk}
theorem ZM {k:di} {z:Int}:(Lit.int k z).wf=true↔k.min<=z/\z<=k.max:=by simp[Lit.wf]
theorem Ty {k:di}:∀(cs:List aA) (xs:List (nO H×List qA)),cs.length=xs.length->
 (∀i,i<xs.length->∃z,(cs.drop i).take 1=[.int k z]/\xs[i]?=some (.lit (.int k z),[])/\(Lit.int k z).wf=true)->
 ∃zs:List Int,cs=zs.map (.int k)/\xs=zs.map (λz=>(.lit (.int k z),[]))/\∀z∈zs,(Lit.int k z).wf=true
 |[],[],_,_=>⟨[],rfl,rfl,λ_ h=>by cases h⟩
 |[],_::_,h,_=>by simp at h
 |_::_,[],h,_=>by simp at h
 |c::cs,x::xs,hl,h=>by
  obtain⟨z,h1,h2,h3⟩:=h 0 (by simp);simp at h1 h2;obtain⟨zs,e1,e2,e3⟩:=Ty cs xs (by simpa using hl) λi hi=>by
   obtain⟨y,g1,g2,g3⟩:=h (i+1) (by simpa using hi);exact⟨y,by simpa using g1,by simpa using g2,g3⟩
  refine⟨z::zs,by rw[h1,e1];rfl,by rw[h2,e2];rfl,λy hy=>?_⟩;rcases List.mem_cons.1 hy with rfl|hy
  ·exact h3
  ·exact e3 y hy
theorem WD:∀{b b':List (Int×Int)} {l bV:List Int},bd b l->bd b' bV->bd (b++b') (l++bV)
 |[],_,[],_,_,h=>h
 |_::_,_,_::_,_,h,h'=>⟨h.1,h.2.1,WD h.2.2 h'⟩
 |[],_,_::_,_,h,_=>h.elim
 |_::_,_,[],_,h,_=>h.elim
theorem D.ZJ (d:D) {zs l:List Int} (h:zs.length=d.num):d.val (zs++l)=d.val zs:=by
 cases d with
 |str=>match zs,h with|[z],_=>rfl
 |int k lo hi=>match zs,h with|[z],_=>rfl
 |bool=>match zs,h with|[z],_=>rfl
 |agg k n lo hi=>simp only[D.num]at h;simp only[D.val,<-h];simp
 |j1 p=>rfl
 |ob k c=>rfl
 |mix p=>
  simp only[D.num]at h;simp only[D.val]
  congr 2
  revert zs;induction p with
  |nil=>intro zs h;simp
  |cons a p ih=>
   intro zs h
   match zs,h with
   |z::zs,h=>simp only[s9,Ka,ih (zs:=zs) (by simpa using h)]
theorem ajh {w w':ai} (h:w.Extends w') (may:qA->Prop):w.keptBut w' may:=
 Below.frame (W:=w) ⟨h.os,h.tape,h.output,h.size,λi hi=>h.block i hi⟩ may
theorem UK {w:ai} {name:String} {g:Nat} {t e:aS} {k:di} {n:Nat} {cs:Array aA} {fuel:Nat} {p:List qA} {zs:List Int} {spare:Nat->Bool} {held:Bool} {base:Nat} {enc:aS×aA->Unit}
 (hg:P.globalNamed name=some g) (ht:P.underlying t=some (.array n e)) (he:P.underlying e=some (.int k)) (Vl:P.cellsOf e=1) (gM:P.cellsOf t=n)
 (hv:w.var? P name=some cs) (hd:Kb enc P w base spare held fuel t cs.toList=some (.agg (zs.map λz=> .lit (.int k z)),p)):
 g<w.heap.size/\∃t' pn,w.heap[g]?=some (Obj.cells (zs.map (rJ k)).toArray t' pn):=by
 obtain⟨xs,m,rfl,hx,hlen,hn,Ap⟩:=auF ht hd;obtain⟨fx,e1,e2,e3⟩:=Ty (k:=k) cs.toList xs (by rw[hlen,gM,hn]) λi hi=>by
  have:=Ap i (by omega);rw[Vl,F3]at this;cases Wg:xs[i]? with
  |none=>simp at Wg;omega
  |some y=>
   rw[Wg]at this;obtain⟨z,g1,g2,g3⟩:=aaz he this;exact⟨z,g1,by rw[g2],g3⟩
 simp only[cv,azQ]at hx;have hy:fx=zs:=by
  have h1:=hx.1;rw[e2,kT]at h1;have xF:∀a b:Int,(auG (.int k a):nO Unit)= .lit (.int k b)->a=b:=λa b h=>by cases h;rfl
  exact((List.map_inj_right (f:=λz:Int=>(auG (.int k z):nO Unit)) xF).1 h1).symm
 subst hy;simp only[World.var?,hg,Option.bind_some]at hv;split at hv
 ·rename_i jb t' pn hb;simp only[aK]at hv;subst hv;refine⟨?_,t',pn,?_⟩
  ·exact(Array.getElem?_eq_some_iff.1 hb).1
  ·rw[hb,<-e1]
 ·cases hv
end Go.bg
namespace Go.bg
open M
inductive bP where
 |d (x:D)
 |rd (sh:List ay)
 |jC (sh:List ay) (e:aS)
def bP.num:bP->Nat
 |d x=>x.num
 |_=>1
noncomputable def bP.bds:bP->List (Int×Int)
 |d x=>x.bds
 |_=>[(0,ch)]
noncomputable def cg:List bP->List (Int×Int)
 |[]=>[]
 |x::r=>x.bds++cg r
def bP.dN:bP->Bool
 |d _=>true
 |_=>false
def bP.jW:bP->Bool
 |jC _ _=>true
 |_=>false
def bP.jk:bP->Bool
 |rd _=>true
 |_=>false
def kF:List bP->Bool
 |[]=>true
 | .d _::r=>kF r
 | .rd _::r=>r.all (λb=> !b.jW)&&kF r
 | .jC sh _::r=>r.all bP.dN&&iS sh&&kF r
def gB (F:Nat->Prop) (w:ai) (sh:List ay) (rows:List (List Int)) (v:aA):Prop:=
 ((∃p,v= .slice p 0 0)/\rows=[])∨∃(g o cap:Nat) (cells:Array aA) (t:aS) (fz:Nat×Nat),v= .slice (some ⟨g,o,none⟩) rows.length cap/\(rows.length<=cap/\(cap:Int)<=9223372036854775807)/\F g/\w.heap[g]?=some (.cells cells t fz)/\ig F w cells o sh rows
def pf (N:Nat->Prop) (w:ai) (sh:List ay) (e:aS) (rows:List (List Int)) (v:aA):Prop:=
 ((∃p,v= .slice p 0 0)/\rows=[])∨∃(g cap:Nat) (cells:Array aA),v= .slice (some ⟨g,0,none⟩) rows.length cap/\(rows.length<=cap/\(cap:Int)<=9223372036854775807)/\N g/\w.heap[g]?=some (.cells cells e (0,0))/\pY cells 0 sh rows/\cells.size=cap*sh.length
def bP.at (F N:Nat->Prop) (w:ai):bP->List Int->aA->Prop
 |d x,zs,v=>v=x.val zs
 |rd sh,zs,v=>gB F w sh (ab (zs.getD 0 0)) v
 |jC sh e,zs,v=>pf N w sh e (ab (zs.getD 0 0)) v
def gq (F N:Nat->Prop) (w:ai):List bP->List Int->List aA->Prop
 |[],_,[]=>True
 |b::r,zs,v::vs=>b.at F N w zs v/\gq F N w r (zs.drop b.num) vs
 |_,_,_=>False
def lV (us:List aA):aA:=match us with|[x]=>x|l=> .tuple l.toArray
structure dx where
 f:cB
 id:Nat
 args:List bP
 res:List bP
 pre:Nat:=0
def uv:Nat->List Int->Prop
 |0,_=>True
 |p+1,l=>af (p+1) l
def EZ:Nat->List aa->T->T
 |0,_,r=>r
 |p+1,ls,r=> .oN (p+1) ls r
def EY:Nat->List aa->T->T
 |0,_,r=>r
 |p+1,ls,r=> .vf (p+1) ls r
theorem preM_holds {S:Nat->List Int->List Int->Prop} {L:V->Env->Prop} {A:df} {ρ:Env} {p:Nat} {ls:List aa} {r:T} (h:(EZ p ls r).holds S L A ρ):uv p (ls.map (·.den ρ))/\r.holds S L A ρ:=by
 cases p with
 |zero=>exact⟨trivial,h⟩
 |succ p=>exact h
theorem preA_holds {S:Nat->List Int->List Int->Prop} {L:V->Env->Prop} {A:df} {ρ:Env} {p:Nat} {ls:List aa} {r:T} (h:(EY p ls r).holds S L A ρ) (hp:uv p (ls.map (·.den ρ))):r.holds S L A ρ:=by
 cases p with
 |zero=>exact h
 |succ p=>exact h hp
def dx.dZ (P:bk) (wb:ai) (c:dx) (spec:List Int->List Int->Prop):Prop:=
 (∀args w,(callFunc c.f args).run P w= .ok (.enter c.f args) w)/\
 ∀(F:Nat->Prop) (w:ai) (vs:List aA) (zs:List Int),wb.Extends w->bd (cg c.args) zs->uv c.pre zs->gq F (λ_=>False) w c.args zs vs->
  gU P c.f vs.toArray w λe w'=>w.Extends w'/\∃rs us,bd (cg c.res) rs/\spec zs rs/\gq (λg=>F g∨w.heap.size<=g) (λg=>w.heap.size<=g) w' c.res rs us/\e= .returned (lV us)
noncomputable def nU:List bP->Nat->Nat->List W->List ao->(Nat->List W->List ao->T)->T
 |[],_,n,us,bl,k=>k n us bl
 | .d x::r,s,n,us,bl,k=>nU r (s+x.num) n (us++[x.sym s]) bl k
 | .rd sh::r,s,n,us,bl,k=> .nat n (.sU (n+1) (-2) 9223372036854775807 (.fn (n+2) 20 [.var s] 0 9223372036854775807
  (nU r (s+1) (n+3) (us++[.one (.sl bl.length sh.length (.var n) (.const 0) (.var (n+2)) (.var (n+1)))]) (bl++[([.rows sh (.var n) (.var s) (.var (n+1)) 1],(0,false))]) k)))
 | .jC sh e::r,s,n,us,bl,k=> .sU n (-2) 9223372036854775807 (.fn (n+1) 20 [.var s] 0 9223372036854775807
  (nU r (s+1) (n+2) (us++[.one (.sl bl.length sh.length (.const 0) (.const 0) (.var (n+1)) (.var n))]) (bl++[([.rows sh (.const 0) (.var s) (.var n) 2],(e,false))]) k))
section
variable {S:Nat->List Int->List Int->Prop} {L:V->Env->Prop} {w0:cN} {P:bk} {gl:dA} {cal:dY}
theorem fF.agree {ρ ag:Env} {s n:Nat} {zs:List Int} (h:fF ρ s zs) (ha:agree n ρ ag) (hn:s+zs.length<=n):fF ag s zs:=λj hj=>by rw[ha (s+j) (by omega)];exact h j hj
theorem qy {ρ:Env} {n i:Nat} {z:Int} (h:i<n):cV ρ n z i=ρ i:=QS ρ z (by omega)
theorem rY {F N:Nat->Prop} (hF:∀g,F g->w0.ex g∨w0.ro g∨w0.r.heap.size<=g) (hN:∀g,N g->w0.b.heap.size<=g/\w0.r.heap.size<=g):∀{l:List bP} {s n:Nat} {us:List W} {bl:List ao} {k:Nat->List W->List ao->T} {G:df} {ρ:Env} {m:Nat->Nat} {w:ai} {zs:List Int} {vals:List aA},
 kF l=true->b9 n bl.length ρ bl->Mem w0 ρ m bl w->fF ρ s zs->bd (cg l) zs->s+(cg l).length<=n->gq F N w l zs vals->
 ((l.all λb=> !b.jk)=true∨∀(i:Nat) (p:ao),bl[i]?=some p->F (m i)->aQ ρ p.1<=1)->((l.all λb=> !b.jW)=true∨∀(i:Nat) (p:ao),bl[i]?=some p->N (m i)->aQ ρ p.1=0)->
 ((l.all λb=> !b.jW)=true∨∀g,N g->ni w0 ρ m bl w g)->
 (∀u∈us,W.ok n bl.length ρ u)->
 (nU l s n us bl k).holds S L G ρ->∃n' ag m' jH aI,cQ n bl.length ρ m n' (kA aI) ag m'/\b9 n' aI.length ag aI/\Mem w0 ag m' aI w/\jH.map (W.den ag m')=us.map (W.den ρ m)++vals/\(∀u∈jH,W.ok n' aI.length ag u)/\(k n' jH aI).holds S L G ag
 |[],s,n,us,bl,k,G,ρ,m,w,zs,vals,_,hb,hm,_,_,_,hat,_,_,_,pB,ah=>by
  match vals,hat with
  |[],_=>exact⟨n,ρ,m,us,bl,cQ.refl _ _ _ _,hb,hm,by simp,pB,ah⟩
 | .d x::r,s,n,us,bl,k,G,ρ,m,w,zs,vals,aY,hb,hm,hA,hz,hn,hat,h1,h2,ki,pB,ah=>by
  match vals,hat with
  |v::vs,hat=>
   obtain⟨hv,hat⟩:=hat;have hv:v=x.val zs:=hv;simp only[cg,bP.bds]at hz hn;simp only[dm]at hn;obtain⟨i1,i2⟩:=Ik hz;rw[D.qM]at i1 i2 hn;have hs:=D.Fs (ρ:=ρ) (m:=m) (N:=n) (nb:=bl.length) x i1 hA (by omega);obtain⟨n',ag,m',jH,aI,g1,g2,g3,g4,g5,g6⟩:=rY hF hN (l:=r) (s:=s+x.num) (us:=us++[x.sym s]) (zs:=zs.drop x.num) aY hb hm (hA.drop x.num) i2 (by omega) hat (by
    rcases h1 with h1|h1
    ·left;simpa [bP.jk]using h1
    ·exact .inr h1) (by
    rcases h2 with h2|h2
    ·left;simpa [bP.jW]using h2
    ·exact .inr h2) (by
    rcases ki with h2|h2
    ·left;simpa [bP.jW]using h2
    ·exact .inr h2) (λu hu=>by
    rcases List.mem_append.1 hu with hu|hu
    ·exact pB u hu
    ·simp at hu;subst hu;exact hs.1) ah
   exact⟨n',ag,m',jH,aI,g1,g2,g3,by rw[g4,ga,hv];simp[hs.2],g5,g6⟩
 | .rd sh::r,s,n,us,bl,k,G,ρ,m,w,zs,vals,aY,hb,hm,hA,hz,hn,hat,h1,h2,ki,pB,ah=>by
  match vals,hat with
  |v::vs,hat=>
   obtain⟨hv,hat⟩:=hat
   match zs,hz with
   |z::zs,hz=>
    obtain⟨ae,z2,hz⟩:=hz;have hv:gB F w sh (ab z) v:=hv;obtain⟨vu,mN⟩:=hA.tail;have h1:∀(i:Nat) (p:ao),bl[i]?=some p->F (m i)->aQ ρ p.1<=1:=by
     rcases h1 with h1|h1
     ·simp[bP.jk]at h1
     ·exact h1
    simp only[cg,bP.bds,dm,cS,eF]at hn;simp only[kF,aO]at aY;have hlen:(ab z).length<=9223372036854775807:=by
     rcases hv with⟨_,h⟩|⟨_,_,cap,_,_,_,_,⟨h3,h4⟩,_⟩
     ·simp[h]
     ·omega
    have mU:zs.length=(cg r).length:=gi hz;obtain⟨g,o,cap,hg1,D0,hg3,hg4,Ar⟩:∃(g:Nat) (o:Nat) (cap:Int),(-2<=cap/\cap<=9223372036854775807)/\(cap<0->ab z=[])/\(0<=cap->((ab z).length:Int)<=cap)/\
     (v=if cap<0 then Cp (lZ cap g) 0 0 else .slice (some ⟨g,o,none⟩) (ab z).length cap.toNat)/\
     (0<=cap->F g/\∃cells t fz,w.heap[g]?=some (.cells cells t fz)/\ig F w cells o sh (ab z)):=by
     rcases hv with⟨⟨p,h3⟩,h4⟩|⟨g,o,cap,cells,t,fz,h3,⟨h4,h5⟩,h6,h7,bS⟩
     ·obtain⟨c,g,hc,hp⟩:=Rd p;exact⟨g,0,c,by omega,λ_=>h4,λh=>by omega,by rw[if_pos hc.2,hp,h3],λh=>by omega⟩
     ·exact⟨g,o,cap,by omega,λh=>by omega,λ_=>by omega,by rw[if_neg (by omega)];simpa using h3,λ_=>⟨h6,cells,t,fz,h7,bS⟩⟩
    have D4:=ah (o:Int) (by omega) cap hg1.1 hg1.2 (ab z).length (by omega) (by omega) (by
     simp only[ct,et,aw,aa.cp];rw[qy (by omega),qy (by omega),vu])
    generalize mV:cV (cV (cV ρ n (o:Int)) (n+1) cap) (n+2) ((ab z).length:Int)=eO at D4;have ha:agree n ρ eO:=by
     rw[<-mV];intro i hi;rw[qy (by omega),qy (by omega),qy hi]
    have e0:eO n=o:=by rw[<-mV,qy (by omega),qy (by omega),jG]
    have e1:eO (n+1)=cap:=by rw[<-mV,qy (by omega),jG]
    have e2:eO (n+2)=(ab z).length:=by rw[<-mV,jG]
    have e3:eO s=z:=by rw[ha s (by omega)];exact vu
    have vC:=hm.dP hb ha;have DK:=hb.ext ha (show n<=n+3 by omega) (aW bl.length);have Dw:(A.rows sh (.var n) (.var s) (.var (n+1)) 1).ok (n+3) bl.length eO:=⟨⟨aa.er (by omega),aa.er (by omega),aa.er (by omega)⟩,by rw[aa.cp,e3];exact⟨ae,z2⟩,by rw[aa.cp,e1];exact hg1⟩;have iv:aQ eO [A.rows sh (.var n) (.var s) (.var (n+1)) 1]<=1:=by
     simp only[aQ];split<;>omega
    have DD:∀ba,F ba->cc w0 eO (fg m bl.length g) (bl++[([.rows sh (.var n) (.var s) (.var (n+1)) 1],(0,false))]) ba:=λba ed=>cc.push ⟨hF ba ed,λi p hi hk he=>by
     have bb:=h1 i p hi (by rw[he];exact ed);rw[mq (hb _ (cZ hi)) ha]at hk;omega⟩ (.inl iv)
    have hM:=vC.push (x:=([.rows sh (.var n) (.var s) (.var (n+1)) 1],(0,false))) (g:=g) DK (λy hy=>by simp at hy;subst hy;exact Dw) (λho=>by cases ho) (λcP dV code' dT eW he=>by
     cases he;intro _;refine⟨λh=>by rw[aa.cp,e1]at h;rw[aa.cp,e3];exact D0 h,λh=>?_⟩;rw[aa.cp,e1]at h;obtain⟨xu,cells,t,fz,k1,k2⟩:=Ar h;exact⟨hF g xu,cells,t,fz,k1,⟨by rw[aa.cp,e0];omega,by rw[aa.cp,aa.cp,e0,e3];exact k2.mono (Fr.of w DD)⟩,λh2=>by omega⟩) (λi p hi he=>by
      by_cases hc:0<=cap
      ·refine .inl ⟨?_,?_⟩
       ·rw[mq (hb _ (cZ hi)) ha];exact h1 i p hi (by rw[he];exact(Ar hc).1)
       ·rw[iz (by decide) (by rw[aa.cp,e1];exact hc)];exact aW 1
      ·refine .inr (.inr ?_);simp only[aQ,aa.cp,e1];rw[if_pos (by omega)]) (vC.Jv iv)
    have NY:cQ n bl.length ρ m (n+3) (bl++[([A.rows sh (.var n) (.var s) (.var (n+1)) 1],((0:aS),false))]).length eO (fg m bl.length g):=⟨by omega,ha,by simp,λb hb=>iF hb⟩;have xz:b9 (n+3) (bl++[([A.rows sh (.var n) (.var s) (.var (n+1)) 1],((0:aS),false))]).length eO (bl++[([.rows sh (.var n) (.var s) (.var (n+1)) 1],(0,false))]):=λp hp a fu=>by
     rcases List.mem_append.1 hp with hp|hp
     ·exact(DK p hp a fu).ext (agree.refl _ _) (aW _) (by simp)
     ·simp at hp;subst hp;simp at fu;subst fu;exact Dw.ext (agree.refl _ _) (aW _) (by simp)
    have Oq:W.ok (n+3) (bl++[([A.rows sh (.var n) (.var s) (.var (n+1)) 1],((0:aS),false))]).length eO (.one (.sl bl.length sh.length (.var n) (.const 0) (.var (n+2)) (.var (n+1)))):=by
     refine⟨by simp,⟨aa.er (by omega),aa.cH _ _,aa.er (by omega),aa.er (by omega)⟩,?_⟩;simp only[aa.cp,aa.aT,e0,e1,e2];exact⟨by omega,by omega,λh=>by rw[D0 h];rfl,hg3⟩
    obtain⟨n',ag,m',jH,aI,g1,g2,g3,g4,g5,g6⟩:=rY hF hN (l:=r) (s:=s+1) (us:=us++[.one (.sl bl.length sh.length (.var n) (.const 0) (.var (n+2)) (.var (n+1)))]) (zs:=zs) (vals:=vs) aY.2 xz hM (mN.agree ha (by omega)) hz (by omega) hat (.inr λi p hi hf=>by
     rw[List.getElem?_append]at hi;split at hi
     ·rename_i dw;rw[iF dw]at hf;rw[mq (hb _ (cZ hi)) ha];exact h1 i p hi hf
     ·have:i=bl.length:=by
       have:=(List.getElem?_eq_some_iff.1 hi).1;simp at this;omega
      subst this;simp at hi;subst hi;simp only[aQ];split<;>omega) (.inl aY.1) (.inl aY.1) (λu hu=>by
     rcases List.mem_append.1 hu with hu|hu
     ·exact(pB u hu).ext ha (by omega) (by simp)
     ·simp at hu;subst hu;exact Oq) D4
    refine⟨n',ag,m',jH,aI,NY.trans g1,g2,g3,?_,g5,g6⟩;rw[g4,ga,gJ]
    congr 1
    ·exact gI λu hu=>W.kf (pB u hu) ha (λb hb=>iF hb)
    ·simp only[ct,et,s9,jK,W.den,A.den,aa.cp,aa.aT,e0,e1,e2,j2];rw[hg4];simp
 | .jC sh e::r,s,n,us,bl,k,G,ρ,m,w,zs,vals,aY,hb,hm,hA,hz,hn,hat,h1,h2,ki,pB,ah=>by
  match vals,hat with
  |v::vs,hat=>
   obtain⟨hv,hat⟩:=hat
   match zs,hz with
   |z::zs,hz=>
    obtain⟨ae,z2,hz⟩:=hz;have hv:pf N w sh e (ab z) v:=hv;obtain⟨vu,mN⟩:=hA.tail;simp only[cg,bP.bds,dm,cS,eF]at hn;simp only[kF,aO]at aY;have h2:∀(i:Nat) (p:ao),bl[i]?=some p->N (m i)->aQ ρ p.1=0:=by
     rcases h2 with h2|h2
     ·simp[bP.jW]at h2
     ·exact h2
    have ki:∀g,N g->ni w0 ρ m bl w g:=by
     rcases ki with h2|h2
     ·simp[bP.jW]at h2
     ·exact h2
    have hlen:(ab z).length<=9223372036854775807:=by
     rcases hv with⟨_,h⟩|⟨_,cap,_,_,⟨h3,h4⟩,_⟩
     ·simp[h]
     ·omega
    have mU:zs.length=(cg r).length:=gi hz;obtain⟨g,cap,hg1,D0,hg3,hg4,Ar⟩:∃(g:Nat) (cap:Int),(-2<=cap/\cap<=9223372036854775807)/\(cap<0->ab z=[])/\(0<=cap->((ab z).length:Int)<=cap)/\
     (v=if cap<0 then Cp (lZ cap g) 0 0 else .slice (some ⟨g,0,none⟩) (ab z).length cap.toNat)/\
     (0<=cap->N g/\∃cells,w.heap[g]?=some (.cells cells e (0,0))/\pY cells 0 sh (ab z)/\cells.size=cap.toNat*sh.length):=by
     rcases hv with⟨⟨p,h3⟩,h4⟩|⟨g,cap,cells,h3,⟨h4,h5⟩,h6,h7,bS,bb⟩
     ·obtain⟨c,g,hc,hp⟩:=Rd p;exact⟨g,c,by omega,λ_=>h4,λh=>by omega,by rw[if_pos hc.2,hp,h3],λh=>by omega⟩
     ·exact⟨g,cap,by omega,λh=>by omega,λ_=>by omega,by rw[if_neg (by omega)];simpa using h3,λ_=>⟨h6,cells,h7,bS,by simpa using bb⟩⟩
    have D4:=ah cap hg1.1 hg1.2 (ab z).length (by omega) (by omega) (by
     simp only[ct,et,aw,aa.cp];rw[qy (by omega),vu])
    generalize mV:cV (cV ρ n cap) (n+1) ((ab z).length:Int)=eO at D4;have ha:agree n ρ eO:=by
     rw[<-mV];intro i hi;rw[qy (by omega),qy hi]
    have e1:eO n=cap:=by rw[<-mV,qy (by omega),jG]
    have e2:eO (n+1)=(ab z).length:=by rw[<-mV,jG]
    have e3:eO s=z:=by rw[ha s (by omega)];exact vu
    have vC:=hm.dP hb ha;have DK:=hb.ext ha (show n<=n+2 by omega) (aW bl.length);have Dw:(A.rows sh (.const 0) (.var s) (.var n) 2).ok (n+2) bl.length eO:=⟨⟨aa.cH _ _,aa.er (by omega),aa.er (by omega)⟩,by rw[aa.cp,e3];exact⟨ae,z2⟩,by rw[aa.cp,e1];exact hg1⟩;have agm:∀(i:Nat) (cP:List ay) (dV code' dT:aa) (eW:Nat) (t':aS×Bool),bl[i]?=some ([.rows cP dV code' dT eW],t')->gK w0 eO (cc w0 eO (fg m bl.length g) (bl++[([.rows sh (.const 0) (.var s) (.var n) 2],(e,false))])) (m i) cP dV code' dT eW t'.1 w:=λi cP dV code' dT eW t' hi=>by
     rcases hU cap 0 with hc|hc
     ·exact vC.Jv (by simp only[aQ,aa.cp,e1];rw[if_pos hc];decide) i cP dV code' dT eW t' hi
     ·exact(((ki g (Ar hc).1) i cP dV code' dT eW t' hi).dP (hb _ (cZ hi) _ (by simp)) ha).mono λba h'=>(cc.dP hb ha h'.1).push (.inr h'.2)
    have hM:=vC.push (x:=([.rows sh (.const 0) (.var s) (.var n) 2],(e,false))) (g:=g) DK (λy hy=>by simp at hy;subst hy;exact Dw) (λho=>by cases ho) (λcP dV code' dT eW he=>by
     cases he;intro _;refine⟨λh=>by rw[aa.cp,e1]at h;rw[aa.cp,e3];exact D0 h,λh=>?_⟩;rw[aa.cp,e1]at h;obtain⟨afe,cells,k1,k2,k3⟩:=Ar h;have ee:=hN g afe;exact⟨.inr (.inr ee.2),cells,e,(0,0),k1,⟨by rw[aa.aT];exact bD _,by rw[aa.aT,aa.cp,e3];exact(mF aY.1.2).2 k2⟩,λ_=>⟨rfl,aa.aT _ _,.ER,by rw[aa.cp,e1];exact k3,ee.1,.inr ee.2⟩⟩) (λi p hi he=>by
      by_cases hc:0<=cap
      ·refine .inr (.inl ?_);rw[mq (hb _ (cZ hi)) ha];exact h2 i p hi (by rw[he];exact(Ar hc).1)
      ·refine .inr (.inr ?_);simp only[aQ,aa.cp,e1];rw[if_pos (by omega)]) agm
    have NY:cQ n bl.length ρ m (n+2) (bl++[([A.rows sh (.const 0) (.var s) (.var n) 2],(e,false))]).length eO (fg m bl.length g):=⟨by omega,ha,by simp,λb hb=>iF hb⟩;have xz:b9 (n+2) (bl++[([A.rows sh (.const 0) (.var s) (.var n) 2],(e,false))]).length eO (bl++[([.rows sh (.const 0) (.var s) (.var n) 2],(e,false))]):=λp hp a fu=>by
     rcases List.mem_append.1 hp with hp|hp
     ·exact(DK p hp a fu).ext (agree.refl _ _) (aW _) (by simp)
     ·simp at hp;subst hp;simp at fu;subst fu;exact Dw.ext (agree.refl _ _) (aW _) (by simp)
    have Oq:W.ok (n+2) (bl++[([A.rows sh (.const 0) (.var s) (.var n) 2],(e,false))]).length eO (.one (.sl bl.length sh.length (.const 0) (.const 0) (.var (n+1)) (.var n))):=by
     refine⟨by simp,⟨aa.cH _ _,aa.cH _ _,aa.er (by omega),aa.er (by omega)⟩,?_⟩;simp only[aa.cp,aa.aT,e1,e2];exact⟨by omega,by omega,λh=>by rw[D0 h];rfl,hg3⟩
    obtain⟨n',ag,m',jH,aI,g1,g2,g3,g4,g5,g6⟩:=S3 (w0:=w0) (l:=r) (s:=s+1) (us:=us++[.one (.sl bl.length sh.length (.const 0) (.const 0) (.var (n+1)) (.var n))]) (zs:=zs) (vals:=vs) aY.1.1 xz hM (mN.agree ha (by omega)) hz (by omega) hat (λu hu=>by
     rcases List.mem_append.1 hu with hu|hu
     ·exact(pB u hu).ext ha (by omega) (by simp)
     ·simp at hu;subst hu;exact Oq) D4
    refine⟨n',ag,m',jH,aI,NY.trans g1,g2,g3,?_,g5,g6⟩;rw[g4,ga,gJ]
    congr 1
    ·exact gI λu hu=>W.kf (pB u hu) ha (λb hb=>iF hb)
    ·simp only[ct,et,s9,jK,W.den,A.den,aa.cp,aa.aT,e1,e2,j2];rw[hg4];simp
where
 S3 {w0:cN} {F N:Nat->Prop}:∀{l:List bP} {s n:Nat} {us:List W} {bl:List ao} {k:Nat->List W->List ao->T} {G:df} {ρ:Env} {m:Nat->Nat} {w:ai} {zs:List Int} {vals:List aA},
  (l.all bP.dN)=true->b9 n bl.length ρ bl->Mem w0 ρ m bl w->fF ρ s zs->bd (cg l) zs->s+(cg l).length<=n->gq F N w l zs vals->
  (∀u∈us,W.ok n bl.length ρ u)->
  (nU l s n us bl k).holds S L G ρ->∃n' ag m' jH aI,cQ n bl.length ρ m n' (kA aI) ag m'/\b9 n' aI.length ag aI/\Mem w0 ag m' aI w/\jH.map (W.den ag m')=us.map (W.den ρ m)++vals/\(∀u∈jH,W.ok n' aI.length ag u)/\(k n' jH aI).holds S L G ag
 |[],s,n,us,bl,k,G,ρ,m,w,zs,vals,_,hb,hm,_,_,_,hat,pB,ah=>by
  match vals,hat with
  |[],_=>exact⟨n,ρ,m,us,bl,cQ.refl _ _ _ _,hb,hm,by simp,pB,ah⟩
 | .d x::r,s,n,us,bl,k,G,ρ,m,w,zs,vals,aY,hb,hm,hA,hz,hn,hat,pB,ah=>by
  match vals,hat with
  |v::vs,hat=>
   obtain⟨hv,hat⟩:=hat;have hv:v=x.val zs:=hv;simp only[cg,bP.bds]at hz hn;simp only[dm]at hn;obtain⟨i1,i2⟩:=Ik hz;rw[D.qM]at i1 i2 hn;have hs:=D.Fs (ρ:=ρ) (m:=m) (N:=n) (nb:=bl.length) x i1 hA (by omega);obtain⟨n',ag,m',jH,aI,g1,g2,g3,g4,g5,g6⟩:=S3 (l:=r) (s:=s+x.num) (us:=us++[x.sym s]) (zs:=zs.drop x.num) (by simpa [bP.dN]using aY) hb hm (hA.drop x.num) i2 (by omega) hat (λu hu=>by
    rcases List.mem_append.1 hu with hu|hu
    ·exact pB u hu
    ·simp at hu;subst hu;exact hs.1) ah
   exact⟨n',ag,m',jH,aI,g1,g2,g3,by rw[g4,ga,hv];simp[hs.2],g5,g6⟩
 | .rd _::_,_,_,_,_,_,_,_,_,_,_,_,aY,_,_,_,_,_,_,_,_=>by simp[bP.dN]at aY
 | .jC _ _::_,_,_,_,_,_,_,_,_,_,_,_,aY,_,_,_,_,_,_,_,_=>by simp[bP.dN]at aY
end
end Go.bg
namespace Go.bg
open M
def fI:V->List Nat
 | .w (.one (.sl b _ _ _ _ _))=>[b]
 | .w (.one (.slc b _ _ _))=>[b]
 |_=>[]
noncomputable def BK (kq:Bool) (sh:List ay) (bl:List ao) (v:V):M aa:=
 match v with
 | .w (.one (.con (.slice none 0 0)))=>pure (.const 0)
 | .w (.one (.sl b aM o ro len cap))=>match bl[b]? with
  |some ([.rows cP off code cU kind],_)=>cond (b6 0 kind&&iU sh cP&&aa.beq o off&&aG aM sh.length) (bind (fj 22 [code,ro,ro.add len]) λ_=>bind (zE cap cU) λ_=>eB 22 [code,ro,ro.add len] 0 ch) fail
  |_=>fail
 | .w (.one (.slc b off len cap))=>match oU bl b off (len*sh.length)with
  |some cs=>cond (ln sh&&bC len 1073741824&&bC len cap&&bC cap 9223372036854775807&&(iS sh||kq)) (cond (iS sh) (zr sh (mb sh.length len cs) (.const 0)) (GJ bl sh (mb sh.length len cs) (.const 0))) fail
  |none=>fail
 |_=>fail
noncomputable def PC (sh:List ay) (e:aS) (bl:List ao) (v:V):M aa:=
 match v with
 | .w (.one (.con (.slice none 0 0)))=>pure (.const 0)
 | .w (.one (.sl b aM o ro len cap))=>match bl[b]? with
  |some ([.rows cP off code cU kind],t)=>cond (aG kind 2&&iU sh cP&&aa.beq o (.const 0)&&aa.beq off (.const 0)&&aa.beq ro (.const 0)&&aa.beq cap cU&&aG aM sh.length&&aG t.1 e&&iS sh) (bind (fj 22 [code,.const 0,len]) λ_=>eB 22 [code,.const 0,len] 0 ch) fail
  |_=>fail
 | .w (.one (.slc b off len cap))=>match bl[b]? with
  |some (C,t)=>match oU bl b off (len*sh.length)with
   |some cs=>cond (ln sh&&bC len 1073741824&&bC len cap&&bC cap 9223372036854775807&&aG off 0&&aG C.length (cap*sh.length)&& !t.2&&aG t.1 e&&iS sh) (zr sh (mb sh.length len cs) (.const 0)) fail
   |none=>fail
  |none=>fail
 |_=>fail
def jF:V->List Nat
 | .w (.one (.slc b _ _ _))=>[b]
 |_=>[]
def RN (w0:cN) (ρ:Env) (m:Nat->Nat) (bl:List ao) (bs os:List Nat) (g:Nat):Prop:=
 (∃b∈bs,m b=g/\∃p,bl[b]?=some p/\aQ ρ p.1≠0/\(bT p.1=true->b∈os))/\(w0.ex g∨w0.ro g∨w0.r.heap.size<=g)
def oF (F:Nat->Prop) (w0:cN) (ρ:Env) (m:Nat->Nat) (bl:List ao) (bs os:List Nat) (g:Nat):Prop:=RN w0 ρ m bl bs os g∨F g
def wR (F:Nat->Prop) (w0:cN) (ρ:Env) (m:Nat->Nat) (bl:List ao) (w:ai):Prop:=
 ∀(i:Nat) (sh:List ay) (off code cap:aa) (kind:Nat) (t:aS×Bool),bl[i]?=some ([.rows sh off code cap kind],t)->gK w0 ρ F (m i) sh off code cap kind t.1 w
def oE (w0:cN) (ρ:Env) (m:Nat->Nat) (bl:List ao) (bs os:List Nat) (g:Nat):Prop:=RN w0 ρ m bl bs os g∨cc w0 ρ m bl g
section
variable {S:Nat->List Int->List Int->Prop} {L:V->Env->Prop} {n:Nat} {ρ:Env} {m:Nat->Nat} {bl:List ao} {gl:dA} {w0:cN} {P:bk} {w:ai}
theorem gB.mono {F F':Nat->Prop} {sh:List ay} {rows:List (List Int)} {v:aA} (h:gB F w sh rows v) (hF:∀g,F g->F' g):gB F' w sh rows v:=by
 rcases h with h|⟨g,o,cap,cells,t,fz,h1,h2,h3,h4⟩
 ·exact .inl h
 ·exact .inr ⟨g,o,cap,cells,t,fz,h1,h2,hF g h3,h4.1,h4.2.mono (Fr.of w hF)⟩
theorem Zi {b off len:Nat} {C:List A} {t:aS×Bool} {cs:List A} {sh:List ay} {rows:List (List Int)} (hb:b9 n bl.length ρ bl) (hw:Mem w0 ρ m bl w) (hbl:bl[b]?=some (C,t)) (hcs:oU bl b off (len*sh.length)=some cs)
 (jh:∀row∈rows,bO sh row) (hZ:bm sh rows=cs.map (A.den ρ m)):w0.b.heap.size<=m b/\(w0.ex (m b)∨w0.r.heap.size<=m b)/\∃cells:Array aA,w.heap[m b]?=some (.cells cells t.1 (0,0))/\pY cells off sh rows/\(t.2=false->cells.size=C.length):=by
 unfold oU at hcs;rw[hbl]at hcs;simp only at hcs;cases hc:(bC (off+len*sh.length) C.length&&bT C)with
 |false=>rw[hc]at hcs;cases hcs
 |true=>
  rw[hc]at hcs;simp only[cond_true,aK]at hcs;simp only[aO]at hc;have hle:=eE hc.1;obtain⟨g1,g2,r,hr,g3⟩:=hw.blk b C t hbl hc.2;refine⟨g1,g2,_,g3,⟨jh,(C.take off).map (A.den ρ m),((C.drop off).drop (len*sh.length)).map (A.den ρ m)++r,?_,by simp;omega⟩,λht=>by rw[hr ht];simp⟩;rw[hZ,<-hcs];show C.map (A.den ρ m)++r=_;have e:C=C.take off++((C.drop off).take (len*sh.length)++(C.drop off).drop (len*sh.length)):=by rw[ju,ju]
  conv=>lhs;rw[e]
  simp only[ga,gJ]
theorem rB:ab ((aa.const 0).den ρ)=[]:=by rw[aa.aT];exact fN
theorem rU:(0:Int)<=ch:=pR (fe []) (oI (l:=[]) (by simp) (by simp))
theorem Zh {sh:List ay} {len:Nat} {cs:List A} (km:ln sh=true) (hl:len<=1073741824) (aY:∀a∈cs,A.ok n bl.length ρ a) (hh:cs.length=len*sh.length):
 ar S L (zr sh (mb sh.length len cs) (.const 0)) n ρ λag n' l=>l.aZ n'/\(0<=l.den ag/\l.den ag<=ch)/\(ab (l.den ag)).length=len/\(∀row∈ab (l.den ag),bO sh row)/\bm sh (ab (l.den ag))=cs.map (A.den ρ m):=by
 have jS:=C1 (w:=sh.length) (k:=len) hh;refine(LC (nb:=bl.length) (m:=m) km (rs:=mb sh.length len cs) (c:= .const 0) (λrow hr a ha=>aY a (C2 row hr a ha)) (aa.cH _ _) (by rw[aa.aT];exact⟨bD _,rU⟩) (by rw[rB];intro _ h;simp at h) (by rw[rB,jS.1];simpa using hl)).mono λaD n1 l hn ha ⟨p1,bo,dy,bU,c6,dF,eD⟩=>?_;rw[rB,jK]at bU;rw[bU];exact⟨p1,bo,by rw[c6,jS.1],dF,by rw[eD,jS.2]⟩
theorem acQ {cap cU:aa} {α:Type} {x:M α} {R:Env->Nat->α->Prop} (h:(0<=cap.den ρ->0<=cU.den ρ)->ar S L x n ρ R):ar S L (bind (zE cap cU) λ_=>x) n ρ R:=by
 unfold zE;cases hc:aa.beq cap cU with
 |true=>exact h (by rw[aa.beq_eq hc];exact id)
 |false=>exact gD h
theorem aqh {F:Nat->Prop} {b off len:Nat} {C:List A} {t:aS×Bool} {cs:List A} {sh:List ay} {rows:List (List Int)} (hw:Mem w0 ρ m bl w) (hbl:bl[b]?=some (C,t)) (hcs:oU bl b off (len*sh.length)=some cs)
 (jh:∀row∈rows,bO sh row) (hZ:eH F w sh rows (cs.map (A.den ρ m))):w0.b.heap.size<=m b/\(w0.ex (m b)∨w0.r.heap.size<=m b)/\∃cells:Array aA,w.heap[m b]?=some (.cells cells t.1 (0,0))/\ig F w cells off sh rows:=by
 unfold oU at hcs;rw[hbl]at hcs;simp only at hcs;cases hc:(bC (off+len*sh.length) C.length&&bT C)with
 |false=>rw[hc]at hcs;cases hcs
 |true=>
  rw[hc]at hcs;simp only[cond_true,aK]at hcs;simp only[aO]at hc;have hle:=eE hc.1;obtain⟨g1,g2,r,hr,g3⟩:=hw.blk b C t hbl hc.2;refine⟨g1,g2,_,g3,jh,(C.take off).map (A.den ρ m),cs.map (A.den ρ m),((C.drop off).drop (len*sh.length)).map (A.den ρ m)++r,?_,by simp;omega,hZ⟩;rw[<-hcs];show C.map (A.den ρ m)++r=_;have e:C=C.take off++((C.drop off).take (len*sh.length)++(C.drop off).drop (len*sh.length)):=by rw[ju,ju]
  conv=>lhs;rw[e]
  simp only[ga,gJ]
theorem PW {F:Nat->Prop} {kq:Bool} (hF:wR F w0 ρ m bl w) (hN:kq=true->∀g,cc w0 ρ m bl g->F g) {sh:List ay} {v:V} {X:aA} (hb:b9 n bl.length ρ bl) (hw:Mem w0 ρ m bl w) (hv:v.ok n bl.length ρ) (bL:v.rel ρ m X):
 ar S L (BK kq sh bl v) n ρ λag n' l=>l.aZ n'/\(0<=l.den ag/\l.den ag<=ch)/\gB (oF F w0 ρ m bl (fI v) (jF v)) w sh (ab (l.den ag)) X:=by
 unfold BK;split
 ·refine ar.pure ⟨aa.cH _ _,by rw[aa.aT];exact⟨bD _,rU⟩,.inl ⟨⟨_,bL⟩,rB⟩⟩
 ·rename_i b aM o ro len cap;split
  ·rename_i cP off code cU kind t hbl;refine ei λhc=>gD λhk=>?_;simp only[aO]at hc;obtain⟨⟨⟨c1,c2⟩,c3⟩,c4⟩:=hc;have c1:0<kind:=eE c1;have c2:=o4 c2;have c3:=aa.beq_eq c3;have c4:=bA c4
   subst c2;subst c3;subst c4;simp only[ct,et,af,aa.den_add]at hk;have x5:(A.sl b sh.length o ro len cap).ok n bl.length ρ:=hv;obtain⟨ptr,e1,e2,e3⟩:=oo (m:=m) x5;have bL:X=(A.sl b sh.length o ro len cap).den ρ m:=bL;obtain⟨x1,⟨x2,x3,eT,iG⟩,⟨iW,ox,lq,nN⟩,⟨ov,ow⟩,fE,gT⟩:=x5;have e6:(A.rows sh o code cU kind).ok n bl.length ρ:=hb _ (cZ hbl) _ (by simp);have hf:aw 22 ([code,ro,ro.add len].map (·.den ρ))=rc (((ab (code.den ρ)).drop (ro.den ρ).toNat).take (len.den ρ).toNat):=by
    simp only[ct,et,aw,aa.den_add]
    congr 2;omega
   have dQ:rc (((ab (code.den ρ)).drop (ro.den ρ).toNat).take (len.den ρ).toNat)<=ch:=by
    have h1:=PV (ab (code.den ρ)) (ro.den ρ).toNat (len.den ρ).toNat;rw[PU e6.2.1.1]at h1;exact pR h1 e6.2.1.2
   refine acQ λqf=>?_;refine(gf (by rw[hf];exact fe _) (by rw[hf];exact dQ)).mono λaD n1 l hn ha ⟨k1,k2⟩=>?_;rw[hf]at k2;refine⟨k1,by rw[k2];exact⟨fe _,dQ⟩,?_⟩;rw[k2,dv];have hlen:(((ab (code.den ρ)).drop (ro.den ρ).toNat).take (len.den ρ).toNat).length=(len.den ρ).toNat:=by simp;omega
   rcases hU (cap.den ρ) 0 with cK|cK
   ·left
    have:=fE cK;refine⟨⟨_,by rw[bL,e1,e2 cK,if_pos cK,this];rfl⟩,by rw[this];simp⟩
   ·right
    clear dQ;rcases hU (cU.den ρ) 0 with nu|nu
    ·have:=qf cK;omega
    ·obtain⟨q0,cells,gS,fz,q1,⟨q2,q3⟩,_⟩:=(hF b sh o code cU kind t hbl (by omega)).2 nu;refine⟨m b,(o.den ρ).toNat+(ro.den ρ).toNat*sh.length,(cap.den ρ).toNat,cells,gS,fz,?_,⟨by rw[hlen];have:=gT cK;omega,by omega⟩,(.inl ⟨⟨b,by simp[fI],rfl,_,hbl,by rw[iz (by omega) nu];omega,λh=>by cases h⟩,q0⟩),q1,?_⟩
     ·rw[bL,e1,e3 cK,hlen,if_neg (by omega)]
     ·exact(q3.sub (ro.den ρ).toNat (len.den ρ).toNat (by omega)).mono (Fr.of w λg hg=> .inr hg)
  ·exact ar.fail
 ·rename_i b off len cap;split
  ·rename_i cs hcs;refine ei λhc=>?_;simp only[aO]at hc;obtain⟨⟨⟨⟨c1,c2⟩,c3⟩,c4⟩,ja⟩:=hc;have c2:=eE c2;have c3:=eE c3;have c4:=eE c4
   obtain⟨d1,d2,d3⟩:=NF hw hb hcs;have bL:X= .slice (some ⟨m b,off,none⟩) len cap:=bL;have jz:∀C t,bl[b]?=some (C,t)->bT C=true:=λC t hbl=>by
    unfold oU at hcs;rw[hbl]at hcs;simp only at hcs;cases hc:(bC (off+len*sh.length) C.length&&bT C)with
    |false=>rw[hc]at hcs;cases hcs
    |true=>simp only[aO]at hc;exact hc.2
   cases TG:iS sh with
   |false=>
    have ahu:kq=true:=by rw[TG,Bool.false_or]at ja;exact ja
    have jS:=C1 (w:=sh.length) (k:=len) d1;refine(LD c1 (rs:=mb sh.length len cs) (c:= .const 0) hb hw (λrow hr a ha=>d2 a (C2 row hr a ha)) (aa.cH _ _) (by rw[aa.aT];exact⟨bD _,rU⟩) (by rw[rB];intro _ h;simp at h) (by rw[rB,jS.1];simpa using c2)).mono λaD n1 l hn ha ⟨p1,bo,dy,bU,c6,dF,eD⟩=>⟨p1,bo,.inr ?_⟩;rw[rB,jK]at bU;rw[bU];rw[jS.2]at eD;rw[jS.1]at c6;cases hbl:bl[b]? with
    |none=>unfold oU at hcs;rw[hbl]at hcs;cases hcs
    |some q=>
     obtain⟨C,t⟩:=q;obtain⟨g1,g2,cells,g3,g4⟩:=aqh hw hbl hcs dF (eD.mono (Fr.of w λg hg=>(.inr (hN ahu g hg):oF F w0 ρ m bl (fI (.w (.one (.slc b off len cap)))) (jF (.w (.one (.slc b off len cap)))) g)));exact⟨m b,off,cap,cells,t.1,(0,0),by rw[bL,c6],⟨by omega,by omega⟩,(.inl ⟨⟨b,by simp[fI],rfl,_,hbl,by rw[hH (jz C t hbl)];decide,λ_=>by simp[jF]⟩,g2.elim .inl λh=> .inr (.inr h)⟩),g3,g4⟩
   |true=>
   refine(Zh (m:=m) c1 c2 d2 d1).mono λaD n1 l hn ha ⟨k1,k2,k3,k4,oe⟩=>⟨k1,k2,.inr ?_⟩;cases hbl:bl[b]? with
   |none=>unfold oU at hcs;rw[hbl]at hcs;cases hcs
   |some q=>
    obtain⟨C,t⟩:=q;obtain⟨g1,g2,cells,g3,g4,_⟩:=Zi hb hw hbl hcs k4 oe;exact⟨m b,off,cap,cells,t.1,(0,0),by rw[bL,k3],⟨by omega,by omega⟩,(.inl ⟨⟨b,by simp[fI],rfl,_,hbl,by rw[hH (jz C t hbl)];decide,λ_=>by simp[jF]⟩,g2.elim .inl λh=> .inr (.inr h)⟩),g3,(mF TG).2 g4⟩
  ·exact ar.fail
 ·exact ar.fail
theorem apa {kq:Bool} {sh:List ay} {v:V} {X:aA} (hb:b9 n bl.length ρ bl) (hw:Mem w0 ρ m bl w) (hv:v.ok n bl.length ρ) (bL:v.rel ρ m X):
 ar S L (BK kq sh bl v) n ρ λag n' l=>l.aZ n'/\(0<=l.den ag/\l.den ag<=ch)/\gB (oE w0 ρ m bl (fI v) (jF v)) w sh (ab (l.den ag)) X:=PW (F:=cc w0 ρ m bl) hw.rws (λ_ _ h=>h) hb hw hv bL
theorem anj {sh:List ay} {e:aS} {v:V} {X:aA} (hex:∀g,¬w0.ex g) (hb:b9 n bl.length ρ bl) (hw:Mem w0 ρ m bl w) (hv:v.ok n bl.length ρ) (bL:v.rel ρ m X):
 ar S L (PC sh e bl v) n ρ λag n' l=>l.aZ n'/\(0<=l.den ag/\l.den ag<=ch)/\pf (λg=>w0.r.heap.size<=g) w sh e (ab (l.den ag)) X:=by
 unfold PC;split
 ·refine ar.pure ⟨aa.cH _ _,by rw[aa.aT];exact⟨bD _,rU⟩,.inl ⟨⟨_,bL⟩,rB⟩⟩
 ·rename_i b aM o ro len cap;split
  ·rename_i cP off code cU kind t hbl;refine ei λhc=>gD λhk=>?_;simp only[aO]at hc;obtain⟨⟨⟨⟨⟨⟨⟨⟨c1,c2⟩,c3⟩,G0⟩,LQ⟩,fi⟩,c4⟩,c5⟩,ja⟩:=hc;have c1:=bA c1;have c2:=o4 c2;have c3:=aa.beq_eq c3;have G0:=aa.beq_eq G0;have LQ:=aa.beq_eq LQ;have fi:=aa.beq_eq fi;have c4:=bA c4;have c5:=bA c5
   subst c2;subst c3;subst c4;subst G0;subst LQ;subst fi;subst c5;subst c1;simp only[ct,et,af,aa.aT]at hk;have x5:(A.sl b sh.length (.const 0) (.const 0) len cap).ok n bl.length ρ:=hv;obtain⟨ptr,e1,e2,e3⟩:=oo (m:=m) x5;have bL:X=(A.sl b sh.length (.const 0) (.const 0) len cap).den ρ m:=bL;obtain⟨x1,⟨x2,x3,eT,iG⟩,⟨iW,ox,lq,nN⟩,⟨ov,ow⟩,fE,gT⟩:=x5;rw[aa.aT]at ow;have e6:(A.rows sh (.const 0) code cap 2).ok n bl.length ρ:=hb _ (cZ hbl) _ (by simp);have hf:aw 22 ([code,.const 0,len].map (·.den ρ))=rc (((ab (code.den ρ)).drop 0).take (len.den ρ).toNat):=by
    simp only[ct,et,aw,aa.aT]
    congr 2
   have dQ:rc (((ab (code.den ρ)).drop 0).take (len.den ρ).toNat)<=ch:=by
    have h1:=PV (ab (code.den ρ)) 0 (len.den ρ).toNat;rw[PU e6.2.1.1]at h1;exact pR h1 e6.2.1.2
   refine(gf (by rw[hf];exact fe _) (by rw[hf];exact dQ)).mono λaD n1 l hn ha ⟨k1,k2⟩=>?_;rw[hf]at k2;refine⟨k1,by rw[k2];exact⟨fe _,dQ⟩,?_⟩;rw[k2,dv];have hlen:(((ab (code.den ρ)).drop 0).take (len.den ρ).toNat).length=(len.den ρ).toNat:=by simp;omega
   rcases hU (cap.den ρ) 0 with cK|cK
   ·left
    have:=fE cK;refine⟨⟨_,by rw[bL,e1,e2 cK,if_pos cK,this];rfl⟩,by rw[this];simp⟩
   ·right
    clear dQ;obtain⟨q0,cells,gS,fz,q1,⟨q2,q3⟩,de⟩:=(hw.rws b sh (.const 0) code cap 2 t hbl (by omega)).2 cK;obtain⟨p0,p1,bo,bU,c6,dF⟩:=de (by omega);have bo:=bo.two;subst p0;subst bo;rw[aa.aT]at q3;refine⟨m b,(cap.den ρ).toNat,cells,?_,⟨by rw[hlen];have:=gT cK;omega,by omega⟩,dF.elim (λh=>absurd h (hex _)) id,q1,?_,bU⟩
    ·rw[bL,e1,e3 cK,hlen,if_neg (by omega)];simp[aa.aT]
    ·have:=((mF ja).1 q3).sub 0 (len.den ρ).toNat (by omega);simpa using this
  ·exact ar.fail
 ·rename_i b off len cap;split
  ·rename_i C t hbl;split
   ·rename_i cs hcs;refine ei λhc=>?_;simp only[aO]at hc;obtain⟨⟨⟨⟨⟨⟨⟨⟨c1,c2⟩,c3⟩,c4⟩,c5⟩,fi⟩,ke⟩,mI⟩,ja⟩:=hc;have c2:=eE c2;have c3:=eE c3;have c4:=eE c4
    have c5:=bA c5;have fi:=bA fi;have mI:=bA mI
    subst c5;subst mI;obtain⟨d1,d2,d3⟩:=NF hw hb hcs;refine(Zh (m:=m) c1 c2 d2 d1).mono λaD n1 l hn ha ⟨k1,k2,k3,k4,oe⟩=>⟨k1,k2,.inr ?_⟩;have bL:X= .slice (some ⟨m b,0,none⟩) len cap:=bL;obtain⟨g1,g2,cells,g3,g4,g5⟩:=Zi hb hw hbl hcs k4 oe;exact⟨m b,cap,cells,by rw[bL,k3],⟨by omega,by omega⟩,g2.elim (λh=>absurd h (hex _)) id,g3,g4,by rw[g5 (by simpa using ke),fi]⟩
   ·exact ar.fail
  ·exact ar.fail
 ·exact ar.fail
end
def Mz (d:D) (v:V):M (List aa):=
 match d,v with
 | .bool,.w (.one (.bool e))=>match e with
  | .lit v=>pure [.const (cond v 1 0)]
  |e=>bind (yd e) λl=>pure [l]
 | .int k lo hi,.w (.one (.int a6 x))=>cond (decide (k=a6)) (cond (nW lo hi x) (pure [x.l]) (bind (fj 39 [x.l,.const lo,.const hi]) λ_=>pure [x.l])) fail
 | .mix l,.w (.agg s)=>Fg l s
 | .str,.w (.one (.str l))=>pure [l]
 | .j1 l,.w (.one (.str x))=>match x.du with|some c=>cond (decide (c=dC (qn l))) (pure []) fail|none=>fail
 | .ob k c,.w (.one (.int a6 x))=>match x.l.du with|some d=>cond (decide (k=a6)&&decide (d=c)) (pure []) fail|none=>fail
 | .agg k n lo hi,.w (.agg l)=>cond (aG l.length n) (match k0 k lo hi l with|some r=>pure r|none=>fail) fail
 |_,_=>fail
def GK:List ay:=[.int .u8 0 127]
def CI:List ay:=[.int .u8 0 255]
def WR (bl:List ao):V->Bool
 | .w (.one (.sl b _ _ _ _ _))=>match bl[b]? with
  |some ([.rows cP _ _ _ _],_)=>iU cP CI
  |_=>false
 |_=>false
noncomputable def PX (kq:Bool) (sh:List ay) (bl:List ao) (v:V):M aa:=
 cond (iU sh GK&&WR bl v) (bind (BK kq CI bl v) λl=>bind (fj 86 [l]) λ_=>pure l) (BK kq sh bl v)
noncomputable def r9 (kq:Bool) (bl:List ao):List bP->List V->M (List aa)
 |[],[]=>pure []
 | .d x::r,v::s=>bind (Mz x v) λa=>bind (r9 kq bl r s) λb=>pure (a++b)
 | .rd sh::r,v::s=>bind (PX kq sh bl v) λa=>bind (r9 kq bl r s) λb=>pure (a::b)
 |_,_=>fail
section
variable {S:Nat->List Int->List Int->Prop} {L:V->Env->Prop} {w0:cN} {P:bk} {w:ai}
theorem P8:∀{sh:List ay} {zs:List Int},bO sh zs->bd (sh.map ay.dS) zs/\o9 ay.val sh zs=dp sh zs
 |[],[],_=>⟨trivial,rfl⟩
 |c::sh,z::zs,h=>⟨⟨h.1.1,h.1.2,(P8 h.2).1⟩,by simp[dp,(P8 h.2).2]⟩
 |[],_::_,h=>h.elim
 |_::_,[],h=>h.elim
theorem aea {d:D} {v:V} {X:aA} {n nb:Nat} {ρ:Env} {m:Nat->Nat} (hv:v.ok n nb ρ) (bL:v.rel ρ m X):ar S L (Mz d v) n ρ λag n' ls=>(∀x∈ls,aa.aZ n' x)/\bd d.bds (ls.map (·.den ag))/\X=d.val (ls.map (·.den ag)):=by
 unfold Mz;split
 ·rename_i e;have bL:X= .bool (e.den ρ):=bL;have key:ar S L (bind (yd e) λl=>pure [l]) n ρ λag n' ls=>(∀x∈ls,aa.aZ n' x)/\bd D.bool.bds (ls.map (·.den ag))/\X=D.bool.val (ls.map (·.den ag)):=
   Il.bind λaD n1 l hn ha ⟨g1,g2,g3⟩=>ar.pure ⟨λx hx=>by simp at hx;subst hx;exact g1,⟨g2.1,g2.2,trivial⟩,by rw[bL,g3];rfl⟩
  cases e with
  |lit b=>
   refine ar.pure ⟨λx hx=>by simp at hx;subst hx;exact aa.cH _ _,?_,?_⟩
   ·simp only[ct,et,aa.aT,D.bds];cases b<;>exact⟨by decide,by decide,trivial⟩
   ·rw[bL];simp only[ct,et,aa.aT];cases b<;>rfl
  |_=>exact key
 ·rename_i k lo hi a6 x;refine ei λhk=>?_;have hk:k=a6:=by simpa using hk
  subst hk;have hv:x.ok n ρ:=hv;have bL:X= .int k (x.l.den ρ):=bL;cases hf:nW lo hi x with
  |true=>
   have:=De hf hv;exact ar.pure ⟨λy hy=>by simp at hy;subst hy;exact hv.1,⟨this.1,this.2,trivial⟩,bL⟩
  |false=>
   refine gD λhk=>ar.pure ?_;simp only[ct,et,af,aa.aT]at hk;exact⟨λy hy=>by simp at hy;subst hy;exact hv.1,⟨hk.1,hk.2,trivial⟩,bL⟩
 ·rename_i l s;have bL:X= .agg (s.map (A.den ρ m)).toArray:=bL;refine(Jq (nb:=nb) (m:=m) hv).mono λaD n1 ls hn ha ⟨g1,g2,g3⟩=>?_;have:=P8 g2;refine⟨g1,this.1,?_⟩;rw[bL,<-g3];simp only[D.val,this.2]
 ·rename_i l;have bL:X= .string (aL (U (l.den ρ))):=bL;have hv:l.aZ n/\0<=l.den ρ/\l.den ρ<=bx:=hv;exact ar.pure ⟨λy hy=>by simp at hy;subst hy;exact hv.1,⟨hv.2.1,hv.2.2,trivial⟩,bL⟩
 ·rename_i l x;have bL:X= .string (aL (U (x.den ρ))):=bL;cases hc:x.du with
  |none=>exact ar.fail
  |some c=>
   refine ei λhd=>ar.pure ⟨λy hy=>by simp at hy,trivial,?_⟩;rw[bL,Zq (n:=n) hc (by simpa using hd)];rfl
 ·rename_i k c a6 x;have bL:X= .int a6 (x.l.den ρ):=bL;cases hc:x.l.du with
  |none=>exact ar.fail
  |some d=>
   refine ei λhd=>ar.pure ⟨λy hy=>by simp at hy,trivial,?_⟩;simp only[aO,decide_eq_true_eq]at hd;rw[bL,aa.iO hc,<-hd.1,hd.2];rfl
 ·rename_i k n' lo hi l;refine ei λhk=>?_;have hk:=bA hk;have bL:X= .agg (l.map (A.den ρ m)).toArray:=bL;cases hf:k0 k lo hi l with
  |none=>exact ar.fail
  |some r=>
   obtain⟨g1,g2,g3⟩:=Mw (m:=m) hf hv;rw[hk]at g2;refine ar.pure ⟨Mv hf hv,g2,?_⟩;rw[bL,g3];simp only[D.val];rw[ky (by simp[g1,hk])]
 ·exact ar.fail
theorem Xv {n:Nat} {ρ ag:Env} {ls:List aa} (h:∀x∈ls,aa.aZ n x) (ha:agree n ρ ag):ls.map (·.den ag)=ls.map (·.den ρ):=gI λx hx=>aa.bG ha (h x hx)
theorem oF.later {F:Nat->Prop} {n nb:Nat} {ρ ag:Env} {m:Nat->Nat} {bl:List ao} {bs os:List Nat} {g:Nat} (hb:b9 n nb ρ bl) (ha:agree n ρ ag) (h:oF F w0 ag m bl bs os g):oF F w0 ρ m bl bs os g:=by
 rcases h with⟨⟨b,h1,h2,p,h3,h4,h6⟩,h5⟩|h
 ·exact .inl ⟨⟨b,h1,h2,p,h3,by rw[<-mq (hb p (cZ h3)) ha];exact h4,h6⟩,h5⟩
 ·exact .inr h
theorem oF.more {F:Nat->Prop} {ρ:Env} {m:Nat->Nat} {bl:List ao} {bs os bs' EV:List Nat} {g:Nat} (h:oF F w0 ρ m bl bs os g) (h1:∀b∈bs,b∈bs') (h2:∀b∈os,b∈EV):oF F w0 ρ m bl bs' EV g:=by
 rcases h with⟨⟨b,k1,k2,p,k3,k4,mY⟩,oe⟩|h
 ·exact .inl ⟨⟨b,h1 b k1,k2,p,k3,k4,λh=>h2 b (mY h)⟩,oe⟩
 ·exact .inr h
theorem wR.dP {F:Nat->Prop} {n nb:Nat} {ρ ag:Env} {m:Nat->Nat} {bl:List ao} {w:ai} (h:wR F w0 ρ m bl w) (hb:b9 n nb ρ bl) (ha:agree n ρ ag):wR F w0 ag m bl w:=λi sh off code cap kind t hi=>
 (h i sh off code cap kind t hi).dP (hb _ (cZ hi) _ (by simp)) ha
theorem S4 {F:Nat->Prop} {w:ai}:∀{rows:List (List Int)} {vs:List aA},eH F w CI rows vs->eH F w GK rows vs
 |[],_,h=>h
 |row::rows,vs,h=>by
  obtain⟨x,y,h1,h2,h3⟩:=h;have xo:dX F w [.int .u8 0 255] row x:=h2;have key:∀(row:List Int) (x:List aA),dX F w [.int .u8 0 255] row x->dX F w [.int .u8 0 127] row x:=λrow x h=>by
   match row,x,h with
   |[z],[v],h=>exact h
   |[],_,h=>exact h.elim
   |_::_,[],h=>exact h.elim
   |_::_::_,_::_,h=>exact h.2.elim
   |[_],_::_::_,h=>exact h.2.elim
  exact⟨x,y,h1,key row x xo,S4 h3⟩
theorem gB.ab6 {F:Nat->Prop} {w:ai} {rows:List (List Int)} {v:aA} (h:gB F w CI rows v) (hb:∀row∈rows,row.getD 0 0<128):gB F w GK rows v:=by
 rcases h with h|⟨g,o,cap,cells,t,fz,h1,h2,h3,h4,r1,pre,vs,post,e1,e2,e3⟩
 ·exact .inl h
 ·refine .inr ⟨g,o,cap,cells,t,fz,h1,h2,h3,h4,λrow hr=>?_,pre,vs,post,e1,e2,S4 e3⟩;have bS:bO [.int .u8 0 255] row:=r1 row hr;have h7:=hb row hr
  match row,bS,h7 with
  |[],bS,_=>exact bS.elim
  |_::_::_,bS,_=>exact bS.2.elim
  |[z],bS,h7=>
   have bb:(0:Int)<=z/\z<=255:=bS.1;have h7:z<128:=h7;exact⟨⟨bb.1,by show z<=127;omega⟩,trivial⟩
theorem apb {n:Nat} {ρ:Env} {m:Nat->Nat} {bl:List ao} {F:Nat->Prop} {kq:Bool} (hF:wR F w0 ρ m bl w) (hN:kq=true->∀g,cc w0 ρ m bl g->F g) {sh:List ay} {v:V} {X:aA} (hb:b9 n bl.length ρ bl) (hw:Mem w0 ρ m bl w) (hv:v.ok n bl.length ρ) (bL:v.rel ρ m X):
 ar S L (PX kq sh bl v) n ρ λag n' l=>l.aZ n'/\(0<=l.den ag/\l.den ag<=ch)/\gB (oF F w0 ρ m bl (fI v) (jF v)) w sh (ab (l.den ag)) X:=by
 unfold PX;cases hc:(iU sh GK&&WR bl v)with
 |false=>exact PW hF hN hb hw hv bL
 |true=>
  simp only[aO]at hc;have:=o4 hc.1;subst this;refine(PW (sh:=CI) hF hN hb hw hv bL).bind λaD n1 l hn ha ⟨g1,g2,g3⟩=>gD λhk=>ar.pure ⟨g1,g2,g3.ab6 hk⟩
theorem Di {kq:Bool} {F0:Nat->Prop} {bl:List ao} {m:Nat->Nat}:∀{ds:List bP} {vs:List V} {xs:List aA} {n:Nat} {ρ:Env},wR F0 w0 ρ m bl w->(kq=true->∀g,cc w0 ρ m bl g->F0 g)->b9 n bl.length ρ bl->Mem w0 ρ m bl w->(∀v∈vs,V.ok n bl.length ρ v)->dh ρ m vs xs->
 ar S L (r9 kq bl ds vs) n ρ λag n' ls=>(∀x∈ls,aa.aZ n' x)/\bd (cg ds) (ls.map (·.den ag))/\∀F:Nat->Prop,(∀g,oF F0 w0 ρ m bl (vs.flatMap fI) (vs.flatMap jF) g->F g)->gq F (λ_=>False) w ds (ls.map (·.den ag)) xs
 |[],[],[],n,ρ,_,_,_,_,_,_=>ar.pure ⟨λ_ h=>by simp at h,trivial,λ_ _=>trivial⟩
 | .d x::r,v::s,X::xs,n,ρ,h0,hN,hb,hw,hv,hr=>by
  unfold r9;refine(aea (hv v (by simp)) hr.1).bind λaD n1 a hn ha ⟨g1,g2,g3⟩=>?_;refine(Di (ds:=r) (vs:=s) (xs:=xs) (h0.dP hb ha) (λh g hg=>hN h g (cc.Jl hb ha hg)) (hb.ext ha hn (aW _)) (hw.dP hb ha) (λu hu=>(hv u (cF _ hu)).ext ha hn (aW _)) (dh.later (λu hu=>hv u (cF _ hu)) ha hr.2)).bind λbp n2 b ee db ⟨k1,k2,k3⟩=>ar.pure ⟨λy hy=>?_,?_,λF hF=>?_⟩
  ·rcases List.mem_append.1 hy with hy|hy
   ·exact(g1 y hy).mono ee
   ·exact k1 y hy
  ·rw[ga,Xv g1 db];exact rl g2 k2
  ·have hl:(a.map (·.den aD)).length=x.num:=by rw[gi g2,D.qM]
   rw[ga,Xv g1 db];refine⟨?_,?_⟩
   ·show X=x.val _;rw[D.ZJ x hl];exact g3
   ·show gq F _ w r (List.drop x.num _) xs;rw[<-hl,s7];exact k3 F λg hg=>hF g (by
     exact(oF.later hb ha hg).more (λb' h1=>by simp only[qB,qD];exact .inr h1) (λb' h1=>by simp only[qB,qD];exact .inr h1))
 | .rd sh::r,v::s,X::xs,n,ρ,h0,hN,hb,hw,hv,hr=>by
  unfold r9;refine(apb h0 hN hb hw (hv v (by simp)) hr.1).bind λaD n1 a hn ha ⟨g1,g2,g3⟩=>?_;refine(Di (ds:=r) (vs:=s) (xs:=xs) (h0.dP hb ha) (λh g hg=>hN h g (cc.Jl hb ha hg)) (hb.ext ha hn (aW _)) (hw.dP hb ha) (λu hu=>(hv u (cF _ hu)).ext ha hn (aW _)) (dh.later (λu hu=>hv u (cF _ hu)) ha hr.2)).bind λbp n2 b ee db ⟨k1,k2,k3⟩=>ar.pure ⟨λy hy=>?_,?_,λF hF=>?_⟩
  ·rcases List.mem_cons.1 hy with rfl|hy
   ·exact g1.mono ee
   ·exact k1 y hy
  ·simp only[ct,aa.bG db g1];exact⟨g2.1,g2.2,k2⟩
  ·simp only[ct,aa.bG db g1];refine⟨?_,?_⟩
   ·show gB F w sh (ab _) X;exact g3.mono λg hg=>hF g (by
     exact hg.more (λb' h1=>by simp only[qB,qD];exact .inl h1) (λb' h1=>by simp only[qB,qD];exact .inl h1))
   ·exact k3 F λg hg=>hF g (by
     exact(oF.later hb ha hg).more (λb' h1=>by simp only[qB,qD];exact .inr h1) (λb' h1=>by simp only[qB,qD];exact .inr h1))
 |[],_::_,_,_,_,_,_,_,_,_,_=>ar.fail
 | .d _::_,[],_,_,_,_,_,_,_,_,_=>ar.fail
 | .rd _::_,[],_,_,_,_,_,_,_,_,_=>ar.fail
 | .jC _ _::_,[],_,_,_,_,_,_,_,_,_=>ar.fail
 | .jC _ _::_,_::_,_,_,_,_,_,_,_,_,_=>ar.fail
 |_,[],_::_,_,_,_,_,_,_,_,hr=>hr.elim
 |_,_::_,[],_,_,_,_,_,_,_,hr=>hr.elim
where
 dh.later {n nb:Nat} {ρ ag:Env} {m:Nat->Nat}:∀{vs:List V} {xs:List aA},(∀v∈vs,V.ok n nb ρ v)->agree n ρ ag->dh ρ m vs xs->dh ag m vs xs
 |[],[],_,_,_=>trivial
 |v::vs,x::xs,hv,ha,hr=>⟨V.rel.ext hr.1 (hv v (by simp)) ha (λ_ _=>rfl),dh.later (λu hu=>hv u (cF _ hu)) ha hr.2⟩
 |[],_::_,_,_,hr=>hr.elim
 |_::_,[],_,_,hr=>hr.elim
theorem Mx {kq:Bool} {bl:List ao} {m:Nat->Nat} {ds:List bP} {vs:List V} {xs:List aA} {n:Nat} {ρ:Env} (hb:b9 n bl.length ρ bl) (hw:Mem w0 ρ m bl w) (hv:∀v∈vs,V.ok n bl.length ρ v) (hr:dh ρ m vs xs):
 ar S L (r9 kq bl ds vs) n ρ λag n' ls=>(∀x∈ls,aa.aZ n' x)/\bd (cg ds) (ls.map (·.den ag))/\∀F:Nat->Prop,(∀g,oE w0 ρ m bl (vs.flatMap fI) (vs.flatMap jF) g->F g)->gq F (λ_=>False) w ds (ls.map (·.den ag)) xs:=Di (F0:=cc w0 ρ m bl) hw.rws (λ_ _ h=>h) hb hw hv hr
end
end Go.bg
namespace Go.bg
open M
def tG:List Nat->List ao->List ao
 |[],bl=>bl
 |b::r,bl=>match bl[b]? with
  |some ([.rows sh off code cap (k+1)],t)=>tG r (cM bl b ([.rows sh off code cap 1],t))
  |_=>tG r bl
def pK (us:List W):V:=match us with|[u]=> .w u|l=> .eX l
def oi:List V->Bool
 |[]=>true
 | .w (.one (.slc ..))::_=>false
 |_::r=>oi r
noncomputable def dx.qF (c:dx) (n:Nat) (vs:List V) (bl:List ao) (k:RK):T:=
 r9 true bl c.args vs n λls n1=>cond (kF c.res&&(!(c.res.any bP.jk)||oi vs)) (EZ c.pre ls (.call c.id ls n1 (cg c.res) (nU c.res n1 (n1+(cg c.res).length) [] (cond (c.res.any bP.jk) (tG (vs.flatMap fI) bl) bl) λn2 us gC=>k n2 (pK us) gC))) .stuck
noncomputable def sT:List bP->List V->List ao->M (List V×List ao)
 |[],vs,bl=>pure (vs,bl)
 | .d _::_,[],bl=>pure ([],bl)
 | .rd _::_,[],bl=>pure ([],bl)
 | .jC _ _::_,[],bl=>pure ([],bl)
 | .d _::r,v::s,bl=>bind (sT r s bl) λq=>pure (v::q.1,q.2)
 | .jC _ _::r,v::s,bl=>bind (sT r s bl) λq=>pure (v::q.1,q.2)
 | .rd sh::r,v::s,bl=>match v with
  | .w (.one (.slc b 0 len cap))=>match bl[b]? with
   |some (C,t)=>cond (bT C&& !t.2&&aG len cap&&aG C.length (len*sh.length)&&ln sh&&bC len 1000000&&iS sh&&b6 0 len)
    (bind (zr sh (mb sh.length len C) (.const 0)) λcode=>bind (sT r s (cM bl b ([.rows sh (.const 0) code (.const len) 2],t))) λq=>pure (.w (.one (.sl b sh.length (.const 0) (.const 0) (.const len) (.const len)))::q.1,q.2))
    (bind (sT r s bl) λq=>pure (v::q.1,q.2))
   |none=>bind (sT r s bl) λq=>pure (v::q.1,q.2)
  |_=>bind (sT r s bl) λq=>pure (v::q.1,q.2)
noncomputable def dx.E (c:dx) (n:Nat) (vs:List V) (bl:List ao) (k:RK):T:=
 c.qF n vs bl k
section
variable {S:Nat->List Int->List Int->Prop} {L:V->Env->Prop} {w0:cN} {P:bk}
theorem zU {n nb:Nat} {ρ:Env} {m:Nat->Nat} {w:ai}:∀{bs:List Nat} {bl:List ao},Mem w0 ρ m bl w->b9 n nb ρ bl->Mem w0 ρ m (tG bs bl) w/\b9 n nb ρ (tG bs bl)/\(tG bs bl).length=bl.length/\
 ∀(i:Nat) (p:ao),(tG bs bl)[i]?=some p->∃p',bl[i]?=some p'/\aQ ρ p.1<=aQ ρ p'.1/\(i∈bs->bT p'.1=false->aQ ρ p.1<=1)
 |[],bl,h,hb=>⟨h,hb,rfl,λi p hi=>⟨p,hi,aW _,λh=>by simp at h⟩⟩
 |b::r,bl,h,hb=>by
  unfold tG;split
  ·rename_i sh off code cap k t hbl;have mO:b<bl.length:=(List.getElem?_eq_some_iff.1 hbl).1;have hb':b9 n nb ρ (cM bl b ([.rows sh off code cap 1],t)):=λp hp a ha=>by
    rw[iE]at hp;rcases Cu hp with hp|hp
    ·exact hb p hp a ha
    ·subst hp;simp at ha;subst ha;have h0:A.ok n nb ρ (.rows sh off code cap (k+1)):=hb _ (cZ hbl) _ (by simp);exact h0
   obtain⟨g1,g2,g3,g4⟩:=zU (bs:=r) (h.low hbl) hb';refine⟨g1,g2,by rw[g3,kr],λi p hp=>?_⟩;obtain⟨p',h1,h2,h3⟩:=g4 i p hp;by_cases gN:i=b
   ·subst gN;rw[iE,List.getElem?_set_self mO]at h1;cases h1;refine⟨_,hbl,gk h2 (by simp only[aQ];split<;>omega),λ_ _=>gk h2 (by simp only[aQ];split<;>omega)⟩
   ·rw[iE,List.getElem?_set_ne (λe=>gN e.symm)]at h1;exact⟨p',h1,h2,λhi ho=>h3 (by simpa [gN]using hi) ho⟩
  ·rename_i hno;obtain⟨g1,g2,g3,g4⟩:=zU (bs:=r) h hb;refine⟨g1,g2,g3,λi p hp=>?_⟩;obtain⟨p',h1,h2,h3⟩:=g4 i p hp;refine⟨p',h1,h2,λhi ho=>?_⟩;rcases List.mem_cons.1 hi with rfl|hi
   ·obtain⟨C,t⟩:=p';obtain⟨sh,off,code,cap,k,rfl⟩:=I3 ho;cases k with
    |zero=>
     have:aQ ρ [A.rows sh off code cap 0]=0:=by simp[aQ]
     simp only[this]at h2;omega
    |succ k=>exact absurd h1 (hno _ _ _ _ _ _)
   ·exact h3 hi ho
theorem Jk {n nb:Nat} {ρ:Env} {m:Nat->Nat} {us:List W} {vals:List aA} (h:∀u∈us,W.ok n nb ρ u) (hm:us.map (W.den ρ m)=vals):(pK us).ok n nb ρ/\(pK us).rel ρ m (lV vals):=by
 subst hm;unfold pK lV;split
 ·exact⟨h _ (by simp),rfl⟩
 ·rename_i hne;refine⟨h,?_⟩;split
  ·rename_i x hx
   match us,hne,hx with
   |[u],hne,_=>exact absurd rfl (hne u)
  ·rfl
theorem Ps:∀{vs:List V},oi vs=true->vs.flatMap jF=[]
 |[],_=>rfl
 |v::r,h=>by
  unfold oi at h;split at h
  ·rename_i heq;cases heq
  ·cases h
  ·rename_i hne heq;cases heq;rw[qB,Ps h,lr];unfold jF;split
   ·exact(hne _ _ _ _ rfl).elim
   ·rfl
theorem Pt:∀{vs:List V} {b:Nat},oi vs=true->b∈vs.flatMap fI->∃aM o ro len cap,V.w (.one (.sl b aM o ro len cap))∈vs
 |[],b,_,h=>by simp at h
 |v::r,b,h,hb=>by
  simp only[qB,qD]at hb;rcases hb with hb|hb
  ·unfold fI at hb;split at hb
   ·simp at hb;subst hb;exact⟨_,_,_,_,_,s8 ..⟩
   ·simp[oi]at h
   ·simp at hb
  ·have h':oi r=true:=by
    unfold oi at h;split at h
    ·rename_i heq;cases heq
    ·cases h
    ·rename_i heq;cases heq;exact h
   obtain⟨aM,o,ro,len,cap,h1⟩:=Pt h' hb;exact⟨aM,o,ro,len,cap,cF _ h1⟩
theorem dx.Gk {c:dx} {spec:List Int->List Int->Prop} {f:cB} {CH:Array aA} (cd:∀zs rs,spec zs rs->S c.id zs rs) (n:Nat) (vs:List V) (bl:List ao) (k:RK) (G:df) (ρ:Env) (m:Nat->Nat) (w:ai) (xs:List aA) (R':pT->ai->Prop)
 (hc:∀zs,bd (cg c.args) zs->uv c.pre zs->gq (oE w0 ρ m bl (vs.flatMap fI) (vs.flatMap jF)) (λ_=>False) w c.args zs xs->
   gU P f CH w λe w'=>w.Extends w'/\∃rs us,bd (cg c.res) rs/\spec zs rs/\gq (λg=>oE w0 ρ m bl (vs.flatMap fI) (vs.flatMap jF) g∨w.heap.size<=g) (λg=>w.heap.size<=g) w' c.res rs us/\e= .returned (lV us))
 (hb:b9 n bl.length ρ bl) (hw:Mem w0 ρ m bl w) (hv:∀v∈vs,V.ok n bl.length ρ v) (hr:dh ρ m vs xs) (ah:(c.qF n vs bl k).holds S L G ρ) (hk:pd S L w0 k n bl.length ρ m G R'):
 gU P f CH w R':=by
 unfold dx.qF at ah;obtain⟨aD,n1,ls,fl,dM,⟨g1,g2,g3⟩,ah⟩:=Mx (S:=S) (L:=L) hb hw hv hr G _ ah;cases hq:(kF c.res&&(!(c.res.any bP.jk)||oi vs))with
 |false=>rw[hq]at ah;exact ah.elim
 |true=>
  rw[hq]at ah;simp only[cond_true]at ah;obtain⟨gP,ah⟩:=preM_holds ah;simp only[T.holds]at ah;simp only[aO,oA,fZ]at hq;refine(hc _ g2 gP (g3 _ λ_ h=>h)).mono ?_
  rintro e w' ⟨he,rs,us,r1,r2,r3,rfl⟩
  have ah:=kC ah r1 (cd _ _ r2);have hb1:=hb.ext dM fl (aW bl.length);have Ox:=(hw.grow he).dP hb dM;have db:agree n1 aD (bf aD n1 rs):=agree.bf rs n1 aD;have hb2:=hb1.ext db (Cl n1 (cg c.res).length) (aW bl.length);have x6:=Ox.dP hb1 db;have hA:fF (bf aD n1 rs) n1 rs:=fF.bf aD n1 rs;have Ej:rs.length=(cg c.res).length:=gi r1;have lJ:=dM.trans db fl;have xw:cQ n bl.length ρ m (n1+(cg c.res).length) bl.length (bf aD n1 rs) m:=⟨by omega,lJ,aW _,λ_ _=>rfl⟩;have fv:∀(i:Nat) (p:ao),bl[i]?=some p->aQ (bf aD n1 rs) p.1=aQ ρ p.1:=λi p hi=>mq (hb p (cZ hi)) lJ;have tR:∀(i:Nat) (p:ao),bl[i]?=some p->w.heap.size<=m i->aQ ρ p.1=0:=λi p hi eR=>by
   by_cases h0:aQ ρ p.1=0
   ·exact h0
   ·have:=hw.lt hi h0;omega
  have fin:∀aI:List ao,b9 (n1+(cg c.res).length) aI.length (bf aD n1 rs) aI->Mem w0 (bf aD n1 rs) m aI w'->aI.length=bl.length->
   (∀(i:Nat) (p:ao),aI[i]?=some p->(oE w0 ρ m bl (vs.flatMap fI) (vs.flatMap jF) (m i)∨w.heap.size<=m i)->(c.res.any bP.jk)=true->aQ (bf aD n1 rs) p.1<=1)->
   (∀(i:Nat) (p:ao),aI[i]?=some p->w.heap.size<=m i->aQ (bf aD n1 rs) p.1=0)->(∀g,w.heap.size<=g->ni w0 (bf aD n1 rs) m aI w' g)->
   (nU c.res n1 (n1+(cg c.res).length) [] aI λn2 us gC=>k n2 (pK us) gC).holds S L G (bf aD n1 rs)->R' (.returned (lV us)) w':=λaI hb' nA hlen dj Nq ki ah=>by
   have hF:∀g,(oE w0 ρ m bl (vs.flatMap fI) (vs.flatMap jF) g∨w.heap.size<=g)->w0.ex g∨w0.ro g∨w0.r.heap.size<=g:=λg hg=>by
    rcases hg with(hg|hg)|hg
    ·exact hg.2
    ·exact hg.1
    ·exact .inr (.inr (gk hw.ew hg))
   have hN:∀g,w.heap.size<=g->w0.b.heap.size<=g/\w0.r.heap.size<=g:=λg hg=>⟨gk hw.ext.size hg,gk hw.ew hg⟩;have h1:(c.res.all λb=> !b.jk)=true∨∀(i:Nat) (p:ao),aI[i]?=some p->(oE w0 ρ m bl (vs.flatMap fI) (vs.flatMap jF) (m i)∨w.heap.size<=m i)->aQ (bf aD n1 rs) p.1<=1:=by
    cases lN:c.res.any bP.jk with
    |true=>exact .inr λi p hi hf=>dj i p hi hf lN
    |false=>
     left
     rw[pQ];intro b hb;cases dQ:b.jk with
     |false=>rfl
     |true=>rw[List.any_eq_true.2 ⟨b,hb,dQ⟩]at lN;cases lN
   obtain⟨n',ag,m',jH,gC,p1,bo,bU,c6,dF,eD⟩:=rY (S:=S) (L:=L) hF hN (l:=c.res) (us:=[]) (vals:=us) hq.1 hb' nA hA r1 (aW _) r3 h1 (.inr Nq) (.inr ki) (λu hu=>by simp at hu) ah;have jA:=Jk (m:=m') dF (by simpa using c6);exact hk n' (pK jH) gC G ag m' w' (lV us) (xw.trans (hlen▸p1)) (dJ.refl _ _) jA.1 jA.2 bo bU eD
  cases lN:c.res.any bP.jk with
  |false=>
   rw[lN]at ah;exact fin bl hb2 x6 rfl (λ_ _ _ _ h=>by rw[lN]at h;cases h) (λi p hi eR=>by rw[fv i p hi];exact tR i p hi eR) (λg hg=>(hw.ve he hg).dP hb lJ) ah
  |true=>
   rw[lN]at ah hq;obtain⟨f1,f2,f3,f4⟩:=zU (bs:=vs.flatMap fI) x6 hb2;have jV:oi vs=true:=by
    rcases hq.2 with h|h
    ·cases h
    ·exact h
   refine fin _ (by rw[f3];exact f2) f1 f3 (λi p hi hf _=>?_) (λi p hi eR=>?_) (λg hg=>(zU (bs:=vs.flatMap fI) (hw.dP hb lJ) hb2).1.ve he hg) ah
   ·obtain⟨p',h1,h2,h3⟩:=f4 i p hi;rw[fv i p' h1]at h2;rcases hf with(⟨⟨b,DO,DN,q,nz,n6,Oh⟩,_⟩|n5)|eR
    rotate_left
    ·rcases mC (aQ ρ p'.1) 2 with bb|bb
     ·omega
     ·exact absurd rfl (n5.2 i p' h1 bb)
    rotate_left
    ·obtain⟨aM,o,ro,len,cap,kL⟩:=Pt jV DO;rcases hw.inj i b p' q h1 nz (by rw[DN])with h5|h5|h5|h5
     ·subst h5;rw[h1]at nz;cases nz;cases ho:bT p'.1 with
      |false=>exact h3 DO ho
      |true=>
       have:=Oh ho;rw[Ps jV]at this;simp at this
     ·omega
     ·omega
     ·exact absurd h5 n6
    ·have:=tR i p' h1 eR;omega
   ·obtain⟨p',h1,h2,_⟩:=f4 i p hi;rw[fv i p' h1]at h2;have:=tR i p' h1 eR;omega
theorem dx.Gl {c:dx} {spec:List Int->List Int->Prop} (hc:c.dZ P w0.b spec) (cd:∀zs rs,spec zs rs->S c.id zs rs) (n:Nat) (vs:List V) (bl:List ao) (k:RK) (G:df) (ρ:Env) (m:Nat->Nat) (w:ai) (xs:List aA) (R':pT->ai->Prop)
 (hb:b9 n bl.length ρ bl) (hw:Mem w0 ρ m bl w) (hv:∀v∈vs,V.ok n bl.length ρ v) (hr:dh ρ m vs xs) (ah:(c.qF n vs bl k).holds S L G ρ) (hk:pd S L w0 k n bl.length ρ m G R'):
 (callFunc c.f xs.toArray).run P w= .ok (.enter c.f xs.toArray) w/\gU P c.f xs.toArray w R':=by
 exact⟨hc.1 _ _,dx.Gk cd n vs bl k G ρ m w xs R' (λzs h1 h2 h3=>hc.2 _ w xs zs hw.ext h1 h2 h3) hb hw hv hr ah hk⟩
theorem QN {m:Nat->Nat} {w:ai}:∀{ds:List bP} {vs:List V} {bl:List ao} {xs:List aA} {n:Nat} {ρ:Env},Mem w0 ρ m bl w->b9 n bl.length ρ bl->(∀v∈vs,V.ok n bl.length ρ v)->dh ρ m vs xs->
 ar S L (sT ds vs bl) n ρ λag n' q=>Mem w0 ag m q.2 w/\b9 n' q.2.length ag q.2/\q.2.length=bl.length/\(∀v∈q.1,V.ok n' bl.length ag v)/\dh ag m q.1 xs
 |[],vs,bl,xs,n,ρ,hm,hb,hv,hr=>ar.pure ⟨hm,hb,rfl,hv,hr⟩
 | .d _::_,[],bl,xs,n,ρ,hm,hb,hv,hr=>ar.pure ⟨hm,hb,rfl,hv,hr⟩
 | .rd _::_,[],bl,xs,n,ρ,hm,hb,hv,hr=>ar.pure ⟨hm,hb,rfl,hv,hr⟩
 | .jC _ _::_,[],bl,xs,n,ρ,hm,hb,hv,hr=>ar.pure ⟨hm,hb,rfl,hv,hr⟩
 |d::r,v::s,bl,xs,n,ρ,hm,hb,hv,hr=>by
  match xs,hr with
  |x::xs,hr=>
  have eC:ar S L (bind (sT r s bl) λq=>pure (v::q.1,q.2)) n ρ λag n' q=>Mem w0 ag m q.2 w/\b9 n' q.2.length ag q.2/\q.2.length=bl.length/\(∀v∈q.1,V.ok n' bl.length ag v)/\dh ag m q.1 (x::xs):=
   (QN (ds:=r) (vs:=s) hm hb (λu hu=>hv u (cF _ hu)) hr.2).bind λaD n1 q hn ha ⟨g1,g2,g3,g4,g5⟩=>ar.pure ⟨g1,g2,g3,λu hu=>by
     rcases List.mem_cons.1 hu with rfl|hu
     ·exact(hv u (by simp)).ext ha hn (aW _)
     ·exact g4 u hu,V.rel.ext hr.1 (hv v (by simp)) ha (λ_ _=>rfl),g5⟩
  cases d with
  |d y=>exact eC
  |jC sh e=>exact eC
  |rd sh=>
   unfold sT;split
   ·rename_i b len cap _;split
    ·rename_i C t hbl;cases hc:(bT C&& !t.2&&aG len cap&&aG C.length (len*sh.length)&&ln sh&&bC len 1000000&&iS sh&&b6 0 len)with
     |false=>exact eC
     |true=>
      simp only[cond_true];simp only[aO]at hc;obtain⟨⟨⟨⟨⟨⟨⟨ho,c1⟩,bE⟩,c2⟩,c3⟩,c4⟩,c5⟩,fi⟩:=hc;have c1:t.2=false:=by simpa using c1
      have bE:=bA bE;have c2:=bA c2;have c4:=eE c4;subst bE;have aY:∀x∈C,A.ok n bl.length ρ x:=hb _ (cZ hbl);have mO:b<bl.length:=(List.getElem?_eq_some_iff.1 hbl).1;have jS:=C1 (w:=sh.length) (k:=len) c2;refine(LC (nb:=bl.length) (m:=m) c3 (rs:=mb sh.length len C) (c:= .const 0) (λrow hr x hx=>aY x (C2 row hr x hx)) (aa.cH _ _) (by rw[aa.aT];exact⟨bD _,rU⟩) (by rw[rB];intro _ h;simp at h) (by rw[rB,jS.1];simp;omega)).bind λaD n1 code fl dM ⟨p1,bo,dy,bU,c6,dF,eD⟩=>?_;rw[rB,jK]at bU;have ahn:C.map (A.den aD m)=C.map (A.den ρ m):=qp aY dM (λ_ _=>rfl);have hM:=(hm.dP hb dM).YM (n:=n1) (c:=len) (sh:=sh) (code:=code) hbl ho c1 c5 (by rw[bU];exact dF) (by rw[bU,eD,jS.2,ahn]) c2;have hb1:b9 n1 (cM bl b ([.rows sh (.const 0) code (.const len) 2],t)).length aD (cM bl b ([.rows sh (.const 0) code (.const len) 2],t)):=(hb.ext dM fl (aW _)).set (λy hy=>by
       have hy:y= .rows sh (.const 0) code (.const len) 2:=by simpa using hy
       subst hy;exact⟨⟨aa.cH _ _,p1,aa.cH _ _⟩,bo,by rw[aa.aT];omega⟩)
      have HS:=kr bl b ([.rows sh (.const 0) code (.const len) 2],t);refine(QN (ds:=r) (vs:=s) hM hb1 (λu hu=>by rw[HS];exact(hv u (cF _ hu)).ext dM fl (aW _)) (Di.dh.later (λu hu=>hv u (cF _ hu)) dM hr.2)).bind λbp n2 q ee db ⟨g1,g2,g3,g4,g5⟩=>ar.pure ⟨g1,g2,by rw[g3,HS],λu hu=>?_,?_,g5⟩
      ·rcases List.mem_cons.1 hu with rfl|hu
       ·refine⟨mO,⟨aa.cH _ _,aa.cH _ _,aa.cH _ _,aa.cH _ _⟩,?_⟩;simp only[aa.aT];exact⟨⟨by omega,by omega,by omega,by omega⟩,⟨by omega,by omega⟩,λh=>by omega,λ_=>by omega⟩
       ·rw[<-HS];exact g4 u hu
      ·have h0:x= .slice (some ⟨m b,0,none⟩) len len:=hr.1;have lL:¬((len:Int)<0):=by omega
       rw[h0];simp[V.rel,W.den,A.den,aa.aT,lL]
    ·exact eC
   ·exact eC
theorem dx.th {c:dx} {spec:List Int->List Int->Prop} (hc:c.dZ P w0.b spec) (cd:∀zs rs,spec zs rs->S c.id zs rs) (n:Nat) (vs:List V) (bl:List ao) (k:RK) (G:df) (ρ:Env) (m:Nat->Nat) (w:ai) (xs:List aA) (R':pT->ai->Prop)
 (hb:b9 n bl.length ρ bl) (hw:Mem w0 ρ m bl w) (hv:∀v∈vs,V.ok n bl.length ρ v) (hr:dh ρ m vs xs) (ah:(c.E n vs bl k).holds S L G ρ) (hk:pd S L w0 k n bl.length ρ m G R'):
 (callFunc c.f xs.toArray).run P w= .ok (.enter c.f xs.toArray) w/\gU P c.f xs.toArray w R':=by
 exact c.Gl hc cd n _ _ k G ρ m w xs R' hb hw hv hr ah hk
end
end Go.bg
namespace Go.bg
open M
def O.aZ (n:Nat):O->Prop
 |l x=>x.aZ n
 |b x=>x.aZ n
theorem O.bG {n:Nat} {ρ ag:Env} (ha:agree n ρ ag):∀{o:O},o.aZ n->o.den ag=o.den ρ
 | .l x,h=>aa.bG ha h
 | .b x,h=>by simp only[O.den];rw[bh.bG ha h]
theorem X1 {k:di} {n nb:Nat} {ρ:Env}:∀{l:List A} {os:List O},iB k l=some os->(∀a∈l,A.ok n nb ρ a)->∀o∈os,O.aZ n o
 |[],os,h,_=>by simp[iB]at h;subst h;intro x hx;simp at hx
 | .int a6 x::s,os,h,aY=>by
  simp only[iB]at h;cases hc:decide (k=a6)with
  |false=>simp[hc]at h
  |true=>
   cases hr:iB k s with
   |none=>simp[hc,hr]at h
   |some r'=>
    simp only[hc,hr,cond_true,aK]at h;subst h;intro y hy;rcases List.mem_cons.1 hy with hy|hy
    ·rw[hy];have h0:A.ok n nb ρ (.int a6 x):=aY _ (s8 ..);have h0:x.ok n ρ:=h0;exact h0.1
    ·exact X1 hr (λa ha=>aY a (cF _ ha)) y hy
 | .bool _::_,_,h,_=>by simp[iB]at h
 | .ptr .. ::_,_,h,_=>by simp[iB]at h
 | .oj .. ::_,_,h,_=>by simp[iB]at h
 | .gptr .. ::_,_,h,_=>by simp[iB]at h
 | .slc .. ::_,_,h,_=>by simp[iB]at h
 | .con _::_,_,h,_=>by simp[iB]at h
 | .str _::_,_,h,_=>by simp[iB]at h
 | .rows .. ::_,_,h,_=>by simp[iB]at h
 | .sl .. ::_,_,h,_=>by simp[iB]at h
 | .ep .. ::_,_,h,_=>by simp[iB]at h
theorem ay.anh {c:ay} {a:A} {o:O} {n nb:Nat} {ρ:Env} (h:c.out a=some o) (ha:a.ok n nb ρ):o.aZ n:=by
 unfold ay.out at h;split at h
 ·rename_i k _ _ a6 x;cases hk:decide (k=a6)with
  |false=>simp[hk]at h
  |true=>
   simp only[hk,cond_true,aK]at h;subst h;have ha:x.ok n ρ:=ha;exact ha.1
 ·simp only[aK]at h;subst h;exact ha.1
 ·simp only[aK]at h;subst h;exact ha
 ·simp only[aK]at h;subst h;exact aa.cH _ _
 ·cases h
theorem X4 {n nb:Nat} {ρ:Env}:∀{d:List ay} {l:List A} {os:List O},oZ d l=some os->(∀a∈l,A.ok n nb ρ a)->∀o∈os,O.aZ n o
 |[],[],os,h,_=>by simp[oZ]at h;subst h;intro x hx;simp at hx
 |c::d,a::s,os,h,aY=>by
  simp only[oZ]at h;cases h1:c.out a with
  |none=>simp[h1]at h
  |some o=>
   cases h2:oZ d s with
   |none=>simp[h1,h2]at h
   |some EV=>
    simp only[h1,h2,aK]at h;subst h;intro y hy;rcases List.mem_cons.1 hy with hy|hy
    ·rw[hy];exact ay.anh h1 (aY a (s8 ..))
    ·exact X4 h2 (λb hb=>aY b (cF _ hb)) y hy
 |[],_::_,_,h,_=>by simp[oZ]at h
 |_::_,[],_,h,_=>by simp[oZ]at h
theorem ang {d:D} {u:W} {os:List O} {n nb:Nat} {ρ:Env} (h:ur d u=some os) (hu:u.ok n nb ρ):∀o∈os,O.aZ n o:=by
 unfold ur at h;split at h
 ·rename_i k _ _ a6 x;cases hk:decide (k=a6)with
  |false=>simp[hk]at h
  |true=>
   simp only[hk,cond_true,aK]at h;subst h;have hu:x.ok n ρ:=hu;intro o ho;simp at ho;subst ho;exact hu.1
 ·simp only[aK]at h;subst h;intro o ho;simp at ho;subst ho;exact hu
 ·rename_i k n' _ _ l;cases hk:aG l.length n' with
  |false=>simp[hk]at h
  |true=>
   simp only[hk,cond_true]at h;exact X1 h hu
 ·simp only[aK]at h;subst h;intro o ho;simp at ho;subst ho;exact hu.1
 ·exact X4 h hu
 ·cases h
noncomputable def BO (bl:List ao):bP->W->M (List O)
 | .d x,u=>match ur x u with|some os=>pure os|none=>fail
 | .rd sh,u=>bind (BK true sh bl (.w u)) λl=>pure [.l l]
 | .jC sh e,u=>bind (PC sh e bl (.w u)) λl=>pure [.l l]
noncomputable def BP (bl:List ao):List bP->List W->M (List O)
 |[],[]=>pure []
 |b::r,u::s=>bind (BO bl b u) λa=>bind (BP bl r s) λc=>pure (a++c)
 |_,_=>fail
noncomputable def Fb (bl:List ao) (ds:List bP) (v:V):M (List O):=
 match v with
 | .w u=>match ds with|[d]=>BO bl d u|_=>fail
 | .eX l=>match ds with|[_]=>fail|_=>BP bl ds l
 |_=>fail
def O.toW:O->W
 |l x=> .one (.int .u8 ⟨x,0,0⟩)
 |b x=> .one (.bool x)
def W.toO:W->O
 | .one (.int _ x)=> .l x.l
 | .one (.bool e)=> .b e
 |_=> .l (.const 0)
theorem O.toW_toO (o:O):o.toW.toO=o:=by cases o<;>rfl
def sG (os:List O):V:= .eX (os.map O.toW)
def pc (K:List Int->Prop) (v:V) (ρ:Env):Prop:=
 match v with
 | .eX l=>K (l.map λu=>u.toO.den ρ)
 |_=>False
theorem Gs {K:List Int->Prop} {os:List O} {ρ:Env}:pc K (sG os) ρ=K (os.map (O.den ρ)):=by
 unfold pc sG;simp only[kT]
 congr 1
 exact gI λo _=>by simp[J4,O.toW_toO]
section
variable {S:Nat->List Int->List Int->Prop} {L:V->Env->Prop} {w0:cN} {P:bk} {w:ai}
theorem pf.mono {N CC:Nat->Prop} {sh:List ay} {e:aS} {rows:List (List Int)} {v:aA} (h:pf N w sh e rows v) (hN:∀g,N g->CC g):pf CC w sh e rows v:=by
 rcases h with h|⟨g,cap,cells,h1,h2,h3,h4⟩
 ·exact .inl h
 ·exact .inr ⟨g,cap,cells,h1,h2,hN g h3,h4⟩
def F0 (w0:cN) (g:Nat):Prop:=w0.ex g∨w0.ro g∨w0.r.heap.size<=g
theorem Yt {d:bP} {u:W} {n:Nat} {ρ:Env} {m:Nat->Nat} {bl:List ao} (hex:∀g,¬w0.ex g) (hb:b9 n bl.length ρ bl) (hw:Mem w0 ρ m bl w) (hu:u.ok n bl.length ρ):
 ar S L (BO bl d u) n ρ λag n' os=>(∀o∈os,O.aZ n' o)/\os.length=d.num/\(d.dN=false->bd d.bds (os.map (O.den ag)))/\∀zs,d.at (F0 w0) (λg=>w0.r.heap.size<=g) w (os.map (O.den ag)++zs) (u.den ρ m):=by
 cases d with
 |d x=>
  unfold BO;cases ho:ur x u with
  |none=>simp only[ho];exact ar.fail
  |some os=>
   simp only[ho];have:=PB (ρ:=ρ) (m:=m) ho;exact ar.pure ⟨ang ho hu,this.1,λh=>(by simp[bP.dN]at h),λzs=>(this.2 zs).symm⟩
 |rd sh=>
  unfold BO;refine(apa (v:= .w u) hb hw hu rfl).bind λaD n1 l hn ha ⟨g1,g2,g3⟩=>ar.pure ⟨λo ho=>by simp at ho;subst ho;exact g1,rfl,λ_=>⟨g2.1,g2.2,trivial⟩,λzs=>?_⟩;exact g3.mono λg hg=>hg.elim (λh=>h.2) λh=>h.1
 |jC sh e=>
  unfold BO;refine(anj (v:= .w u) hex hb hw hu rfl).bind λaD n1 l hn ha ⟨g1,g2,g3⟩=>ar.pure ⟨λo ho=>by simp at ho;subst ho;exact g1,rfl,λ_=>⟨g2.1,g2.2,trivial⟩,λzs=>g3⟩
theorem alb {n:Nat} {ρ ag:Env} {os:List O} (h:∀x∈os,O.aZ n x) (ha:agree n ρ ag):os.map (O.den ag)=os.map (O.den ρ):=gI λx hx=>O.bG ha (h x hx)
theorem Jj {m:Nat->Nat} {bl:List ao} (hex:∀g,¬w0.ex g):∀{ds:List bP} {us:List W} {n:Nat} {ρ:Env},b9 n bl.length ρ bl->Mem w0 ρ m bl w->(∀u∈us,W.ok n bl.length ρ u)->
 ar S L (BP bl ds us) n ρ λag n' os=>(∀o∈os,O.aZ n' o)/\gq (F0 w0) (λg=>w0.r.heap.size<=g) w ds (os.map (O.den ag)) (us.map (W.den ρ m))
 |[],[],n,ρ,_,_,_=>ar.pure ⟨λ_ h=>by simp at h,trivial⟩
 |b::r,u::s,n,ρ,hb,hw,hu=>by
  unfold BP;refine(Yt hex hb hw (hu u (by simp))).bind λaD n1 a hn ha ⟨g1,g2,_,g3⟩=>?_;refine(Jj (ds:=r) (us:=s) hex (hb.ext ha hn (aW _)) (hw.dP hb ha) (λx hx=>(hu x (cF _ hx)).ext ha hn (aW _))).bind λbp n2 c ee db ⟨k1,k2⟩=>ar.pure ⟨λo ho=>?_,?_⟩
  ·rcases List.mem_append.1 ho with ho|ho
   ·have:=g1 o ho;cases o with
    |l x=>exact aa.aZ.mono this ee
    |b x=>exact bh.aZ.mono ee this
   ·exact k1 o ho
  ·rw[ga,alb g1 db];refine⟨g3 _,?_⟩;rw[<-g2,<-j8 (f:=O.den aD) (as:=a),s7];have e:s.map (W.den ρ m)=s.map (W.den aD m):=gI λx hx=>(W.kf (hu x (cF _ hx)) ha (λ_ _=>rfl)).symm;rw[e];exact k2
 |[],_::_,_,_,_,_,_=>ar.fail
 |_::_,[],_,_,_,_,_=>ar.fail
theorem P1 {ds:List bP} {v:V} {val:aA} {n:Nat} {ρ:Env} {m:Nat->Nat} {bl:List ao} (hex:∀g,¬w0.ex g) (hb:b9 n bl.length ρ bl) (hw:Mem w0 ρ m bl w) (hv:v.ok n bl.length ρ) (hr:v.rel ρ m val):
 ar S L (Fb bl ds v) n ρ λag n' os=>∃us,val=lV us/\gq (F0 w0) (λg=>w0.r.heap.size<=g) w ds (os.map (O.den ag)) us:=by
 unfold Fb;split
 ·rename_i u;split
  ·rename_i d;refine(Yt hex hb hw hv).mono λaD n1 os hn ha ⟨g1,g2,_,g3⟩=>⟨[u.den ρ m],hr,?_,trivial⟩;have:=g3 []
   rwa [lr]at this
  ·exact ar.fail
 ·rename_i l;split
  ·exact ar.fail
  ·rename_i hne;refine(Jj (ds:=ds) hex hb hw hv).mono λaD n1 os hn ha ⟨g1,g2⟩=>⟨l.map (W.den ρ m),?_,g2⟩;have hr:val= .tuple (l.map (W.den ρ m)).toArray:=hr;rw[hr];unfold lV;split
   ·rename_i x hx;exfalso;have hl:l.length=1:=by have:=congrArg kA hx;simpa using this
    match ds,l,hl,g2,hne with
    |[d],[u],_,_,hne=>exact hne d rfl
    |[],[u],_,g2,_=>simp[gq]at g2
    |_::_::_,[u],_,g2,_=>simp[gq]at g2
   ·rfl
 ·exact ar.fail
def ym (i:Nat):aa:=⟨0,[(1,i)]⟩
theorem EO (ρ:Env) (zs:List Int):((da zs.length).map ym).map (·.den (bf ρ 0 zs))=zs:=by
 refine Xn (by simp) λj hj=>?_;have hj:j<zs.length:=by simpa using hj
 have:=fF.bf ρ 0 zs j hj;rw[y7]at this;simp[ym,aa.den,gu,aB,hj]at this⊢;exact this
noncomputable def dx.tree (bc:hW) (P:bk) (gl:dA) (cal:dY) (li:cB->Nat->Option cX) (rounds d:Nat) (c:dx):T:=
 cond (kF c.args&& !(c.args.any bP.jW)) (EY c.pre ((da (cg c.args).length).map ym) (nU c.args 0 (cg c.args).length [] [] λn us bl=>xa bc P gl cal li rounds d c.f n (us.map V.w) bl λn' v aI=>Fb aI c.res v n' λos _=> .leaf (sG os))) .stuck
theorem Gq {ρ:Env} {m:Nat->Nat}:∀{us:List W} {xs:List aA},us.map (W.den ρ m)=xs->dh ρ m (us.map V.w) xs
 |[],[],_=>trivial
 |u::us,x::xs,h=>by
  simp only[ct,kz]at h;exact⟨h.1.symm,Gq h.2⟩
 |[],_::_,h=>by simp at h
 |_::_,[],h=>by simp at h
noncomputable def iM:List dx->hW
 |[],_=>none
 |c::r,f=>cond (aG c.f f) (some c.E) (iM r f)
theorem kE {wb:ai} {r:ai} {ex ro:Nat->Prop}:∀{l:List dx},(∀c∈l,c.dZ P wb (S c.id))->l9 S L ⟨wb,r,ex,ro,[]⟩ P (iM l)
 |[],_=>λf g h=>by cases h
 |c::l,h=>λf g hf=>by
  unfold iM at hf;cases hb:aG c.f f with
  |true=>
   rw[hb]at hf;simp only[cond_true,aK]at hf;have:=bA hb;subst this;subst hf;intro n vs bl k G ρ m w xs R' h1 h2 h3 h4 h5 h6;exact dx.th (w0:=⟨wb,r,ex,ro,[]⟩) (h c (by simp)) (λ_ _ h=>h) n vs bl k G ρ m w xs R' h1 h2 h3 h4 h5 h6
  |false=>
   rw[hb]at hf;exact kE (λc hc=>h c (cF _ hc)) f g hf
theorem dx.vT {wb:ai} {gl:dA} {c:dx} {bc:hW} {cal:dY} {li:cB->Nat->Option cX} {rounds d:Nat} {spec:List Int->List Int->Prop} (hm:P.follows .mixedOrders=true) (cy:∀r ex ro,fq S P gl ⟨wb,r,ex,ro,[]⟩ cal) (hg:eQ gl ⟨wb,wb,λ_=>False,λ_=>False,[]⟩)
 (fS:∀(L:V->Env->Prop) (r:ai) (ro:Nat->Prop),l9 S L ⟨wb,r,λ_=>False,ro,[]⟩ P bc) (hf:∀args w,(callFunc c.f args).run P w= .ok (.enter c.f args) w)
 (ht:oJ (cg c.args) λzs=>(c.tree bc P gl cal li rounds d).holds S (pc λrs=>bd (cg c.res) rs/\spec zs rs) (λ_ _=>False) (bf (λ_=>0) 0 zs)):c.dZ P wb spec:=by
 refine⟨hf,λF w vs zs hw hz xV hat=>?_⟩;have ah:=kC ht hz;have mU:=gi hz;unfold dx.tree at ah;cases hq:(kF c.args&& !(c.args.any bP.jW))with
 |false=>rw[hq]at ah;exact ah.elim
 |true=>
  rw[hq]at ah;simp only[cond_true]at ah;have ah:=preA_holds ah (by rw[<-mU,EO];exact xV);simp only[aO,fZ]at hq;have kL:Mem ⟨wb,w,λ_=>False,F,[]⟩ (bf (λ_=>0) 0 zs) (λ_=>0) [] w:=⟨hw,rfl,rfl,rfl,aW _,λ_ _ _=>rfl,λi cs t h=>by simp at h,λi sh off code cap kind t h=>by simp at h,λi j p q h=>by simp at h⟩;have hall:(c.args.all λb=> !b.jW)=true:=by
   rw[pQ];intro b hb;cases dQ:b.jW with
   |false=>rfl
   |true=>rw[List.any_eq_true.2 ⟨b,hb,dQ⟩]at hq;cases hq.2
  obtain⟨n',ag,m',us,bl,p1,bo,bU,c6,dF,eD⟩:=rY (S:=S) (L:=_) (w0:=⟨wb,w,λ_=>False,F,[]⟩) (F:=F) (N:=λ_=>False) (λg hg=> .inr (.inl hg)) (λg hg=>hg.elim) (l:=c.args) (s:=0) (us:=[]) (bl:=[]) (m:=λ_=>0) hq.1 (λp hp=>by simp at hp) kL (fF.bf _ 0 zs) hz (by omega) hat (.inr λi p h=>by simp at h) (.inl hall) (.inl hall) (λu hu=>by simp at hu) ah;have D2:eQ gl ⟨wb,w,λ_=>False,F,[]⟩:=hg;refine(CW (S:=S) (w0:=⟨wb,w,λ_=>False,F,[]⟩) rfl hm (cy w (λ_=>False) F) D2 (fS _ _ _) d c.f n' (us.map V.w) bl _ _ ag m' w vs _ bo bU (λv hv=>by
   obtain⟨u,hu,rfl⟩:=List.mem_map.1 hv;exact dF u hu) (Gq (by simpa using c6)) eD ?_).2
  intro n2 v aI dg bp m2 w' val h1 h2 h3 h4 h5 h6 h7;obtain⟨eO,n3,os,ra,pr,⟨xs,hx1,hx2⟩,hl⟩:=P1 (S:=S) (w0:=⟨wb,w,λ_=>False,F,[]⟩) (λg hg=>hg) h5 h6 h3 h4 dg _ h7;have hl:pc _ (sG os) eO:=hl;rw[Gs]at hl;refine⟨?_,os.map (O.den eO),xs,hl.1,hl.2,?_,by rw[hx1]⟩
  ·have hblk:∀i:Nat,i<w.heap.size->w'.heap[i]?=w.heap[i]?:=λi hi=>h6.gg i hi λh=>h;exact⟨h6.jf,h6.ji,h6.iy,h6.ew,λa ha=>by simp only[jL,hblk a.block ha],λa ha=>by simp only[s6,hblk a.block ha],hblk⟩
  ·exact w5 (λg hg=>by
    rcases hg with hg|hg|hg
    ·exact hg.elim
    ·exact .inl hg
    ·exact .inr hg) (λg hg=>hg) hx2
where
 w5 {F F' N CC:Nat->Prop} {w:ai} (hF:∀g,F g->F' g) (hN:∀g,N g->CC g):∀{ds:List bP} {zs:List Int} {vs:List aA},gq F N w ds zs vs->gq F' CC w ds zs vs
 |[],_,[],_=>trivial
 | .d x::r,zs,v::vs,h=>⟨h.1,w5 hF hN h.2⟩
 | .rd sh::r,zs,v::vs,h=>⟨gB.mono h.1 hF,w5 hF hN h.2⟩
 | .jC sh e::r,zs,v::vs,h=>⟨pf.mono h.1 hN,w5 hF hN h.2⟩
 |[],_,_::_,h=>h.elim
 |_::_,_,[],h=>by simp[gq]at h
end
def bP.IV:bP->List Nat
 | .d x=>x.IV
 |_=>[1]
def sD (ds:List bP):List Nat:=ds.flatMap bP.IV
def Lo (ds:List bP) (K:List (List Int)->Prop) (v:V) (st:gp) (aJ:gn):Prop:=
 match v with
 | .eX l=>K ((gF (sD ds) (l.map W.toO)).map (BT st aJ))
 |_=>False
theorem abi {ds:List bP} {K:List (List Int)->Prop} (v:V) (ρ:Env) (st:gp) (aJ:gn) (ht:mG ρ st aJ) (h:Lo ds K v st aJ):pc (λrs=>K (gF (sD ds) rs)) v ρ:=by
 unfold Lo at h;unfold pc;split at h
 ·rename_i l;have e:l.map (λu=>u.toO.den ρ)=(l.map W.toO).map (O.den ρ):=by simp
  simp only[e];rw[JC]
  rwa [show(gF (sD ds) (l.map W.toO)).map (BT st aJ)=(gF (sD ds) (l.map W.toO)).map (List.map (O.den ρ)) from gI λo _=>Y6 ht o]at h
 ·exact h.elim
def ij (sh:Nat->List Nat×List Nat) (lsh:Nat->List Nat) (S:Nat->List (List Int)->List (List Int)->Prop) (K:List (List Int)->List (List Int)->Prop) (lens:List Nat) (bds:List (Int×Int)) (ds:List bP) (t:T):Prop:=
 vb lens 0 bds (λst aJ zs=>t.k7 sh lsh S (Lo ds (K zs)) (λ_ _=>False) st aJ) [] []
theorem GC {sh:Nat->List Nat×List Nat} {lsh:Nat->List Nat} {S:Nat->List (List Int)->List (List Int)->Prop} {K:List (List Int)->List (List Int)->Prop} {lens:List Nat} {bds:List (Int×Int)} {ds:List bP} {t:T}
 (h:ij sh lsh S K lens bds ds t):oJ bds λzs=>t.holds (b7 sh S) (pc λrs=>K (gF lens zs) (gF (sD ds) rs)) (λ_ _=>False) (bf (λ_=>0) 0 zs):=by
 refine rX λzs hi=>?_;obtain⟨st,aJ,h1,h2⟩:=zq h (show mG (λ_=>0) [] [] from⟨trivial,λ_=>rfl⟩) hi;exact lM (λv ρ st aJ ht hl=>abi v ρ st aJ ht hl) t _ _ _ st aJ (λ_ _ hf=>hf.elim) h1 h2
end Go.bg
namespace Go.bg
open M
structure kc where
 c:cf
 pre:Nat
def kc.dZ (P:bk) (wb:ai) (q:kc) (spec:List Int->List Int->Prop):Prop:=
 ∀zs,bd (dB q.c.args) zs->af q.pre zs->∃rs,bd (dB q.c.res) rs/\spec zs rs/\∀w,wb.Extends w->zi P q.c.f (my q.c.args zs).toArray w (eL q.c.res rs)
noncomputable def kc.M (q:kc):List ao->List V->M V:=λ_ vs n k=>
 match pk q.c.args vs with
 |some l=> .oN q.pre l (.call q.c.id l n (dB q.c.res) (k (BQ q.c.res n) (n+(dB q.c.res).length)))
 |none=> .stuck
noncomputable def cD (Jg:List kc) (cons:List cf):dY:=λf=>
 match Jg.filter (λq=>aG f q.c.f)with
 |[]=>G2 cons f
 |l=>some λbl vs n k=>match l.find? (λq=>(pk q.c.args vs).isSome)with
  |some q=>q.M bl vs n k
  |none=>match G2 cons f with
   |some g=>g bl vs n k
   |none=> .stuck
section
variable {S:Nat->List Int->List Int->Prop} {P:bk} {gl:dA} {w0:cN}
theorem kc.snd {q:kc} {spec:List Int->List Int->Prop} (hc:q.dZ P w0.b spec) (cd:∀zs rs,spec zs rs->S q.c.id zs rs) (L:V->Env->Prop) (n:Nat) (ρ:Env) (m:Nat->Nat) (bl:List ao) (vs:List V) (xs:List aA)
 (kn:∀v∈vs,V.ok n bl.length ρ v) (hr:dh ρ m vs xs):ar S L (q.M bl vs) n ρ λag n' v=>v.ok n' bl.length ag/\∃val,v.rel ag m val/\∀w,Mem w0 ρ m bl w->zi P q.c.f xs.toArray w val:=by
 intro G k hk;unfold kc.M at hk;cases hl:pk q.c.args vs with
 |none=>simp[hl,T.holds]at hk
 |some l=>
  simp only[hl]at hk;obtain⟨fB,hk⟩:=hk;obtain⟨h1,h2⟩:=MA hl kn hr;obtain⟨rs,r1,r2,r3⟩:=hc _ h1 fB;have ah:=LS hk r1 (cd _ _ r2);have hlen:=gi r1;have jA:=P2 (m:=m) (nb:=bl.length) (N:=n+(dB q.c.res).length) r1 (fF.bf ρ n rs) (aW _);refine⟨_,_,_,Cl _ _,agree.bf rs n ρ,⟨jA.1,_,jA.2,λw hw=>?_⟩,ah⟩;rw[h2]at r3;exact r3 w hw.ext
theorem cJ {Jg:List kc} {cons:List cf} (hq:∀q∈Jg,q.dZ P w0.b (S q.c.id)) (hc:∀c∈cons,c.wV P w0.b (S c.id)):fq S P gl w0 (cD Jg cons):=by
 intro f g q8 L n ρ m bl vs xs h1 h2 h3 h4;unfold cD at q8;split at q8
 ·exact Tt (gl:=gl) hc f g q8 L n ρ m bl vs xs h1 h2 h3 h4
 ·rename_i l hl;simp only[aK]at q8;subst q8;intro G k hk;simp only at hk;split at hk
  ·rename_i q Ny;have cE:=List.mem_filter.1 (y5 Ny);have DX:=bA cE.2;subst DX;exact kc.snd (hq q cE.1) (λ_ _ h=>h) L n ρ m bl vs xs h3 h4 G k hk
  ·split at hk
   ·rename_i ba ed;exact Tt (gl:=gl) hc f ba ed L n ρ m bl vs xs h1 h2 h3 h4 G k hk
   ·exact hk.elim
def idx (c:Int):List UInt8->Int
 |[]=>-1
 |b::r=>if(b.toNat:Int)=c then 0 else if idx c r<0 then-1 else idx c r+1
theorem yc (c:Int):∀l:List UInt8,-1<=idx c l/\idx c l<l.length
 |[]=>by simp[idx]
 |b::r=>by
  have:=yc c r;simp only[idx,cS];split
  ·omega
  ·split<;>omega
theorem find_range (p:Nat->Bool):∀n:Nat,(da (n+1)).find? p=if p 0=true then some 0 else((da n).find? λi=>p (i+1)).map (·+1):=λn=>by
 rw[List.range_succ_eq_map,zc];cases h:p 0 with
 |true=>simp
 |false=>
  simp only[pU,if_false];rw[List.find?_map];rfl
theorem Wy (c:Int):∀l:List UInt8,(match(da l.length).find? λi=>decide (((l.getD i 0).toNat:Int)=c)with|some i=>(i:Int)|none=>-1)=idx c l
 |[]=>rfl
 |b::r=>by
  have ih:=Wy c r;rw[cS,find_range];simp only[List.getD_cons_zero,J6,decide_eq_true_eq,idx];by_cases h:(b.toNat:Int)=c
  ·simp[h]
  ·simp only[if_neg h];have hr:=yc c r;cases hf:(da r.length).find? λi=>decide (((r.getD i 0).toNat:Int)=c)with
   |none=>rw[hf]at ih;simp only[Option.map_none]at ih⊢;rw[<-ih];simp
   |some i=>rw[hf]at ih;simp only[Option.map_some]at ih⊢;rw[<-ih,if_neg (by omega)];rfl
theorem find_congr {α:Type} {p q:α->Bool}:∀{l:List α},(∀x∈l,p x=q x)->l.find? p=l.find? q
 |[],_=>rfl
 |x::r,h=>by
  rw[zc,zc,h x (by simp),find_congr λy hy=>h y (cF _ hy)]
theorem apM (l:List UInt8) (c:Int) (h0:0<=c) (h1:c<=255) (w:ai):(RD #[.string (aL l),.int .u8 c]).run P w= .ok (.int .i64 (idx c l)) w:=by
 have hsz:(aL l).size=l.length:=nV l;have oV:∀i,i<l.length->(aL l)[i]! =l.getD i 0:=λi hi=>by
  have:i<(aL l).size:=by omega
  rw[getElem!_pos (aL l) i this];simp only[aB,gy hi,Option.getD_some];rfl
 have e:((da (aL l).size).find? λi=>(aL l)[i]! ==c.toNat.toUInt8)=(da l.length).find? λi=>decide (((l.getD i 0).toNat:Int)=c):=by
  rw[hsz];refine find_congr λi hi=>?_;have hi:=List.mem_range.1 hi;rw[oV i hi];have hc:c.toNat.toUInt8.toNat=c.toNat:=by simp;omega
  rw[Bool.eq_iff_iff];simp only[beq_iff_eq,decide_eq_true_eq];rw[<-UInt8.toNat_inj,hc];omega
 have hf:=Wy c l;have hd:RD #[.string (aL l),.int .u8 c]=(match(da (aL l).size).find? (λi=>(aL l)[i]! ==c.toNat.toUInt8)with
  |some i=>Co (goInt i)
  |none=>Co (goInt (-1)):Sem aA):=rfl
 rw[hd,e,<-hf];cases(da l.length).find? λi=>decide (((l.getD i 0).toNat:Int)=c)<;>rfl
theorem ais {f:cB} {fn:Func} {id:Nat} {wb:ai} (hf:P.funcs[f]?=some fn) (ahq:(fn.name== "runtime.NumGoroutine")=false) (hb:fn.body.isNone=true) (hn:Extern.findNext fn=none) (he:Extern.find fn=some RD):
 (⟨f,id,[.str,.int .u8 0 255],[.int .i64 (-1) 9223372036854775807]⟩:cf).wV P wb λzs rs=>rs=[idx (zs.getD 1 0) (U (zs.getD 0 0))]:=by
 intro zs hz
 match zs,hz with
 |[s,c],hz=>
  obtain⟨s1,s2,c1,c2,_⟩:=hz;have hr:=yc c (U s);have hl:(U s).length<=9223372036854775807:=by have:=rR s2;unfold eK at this;omega
  refine⟨[idx c (U s)],(show bd [((-1:Int),9223372036854775807)] _ from⟨by omega,by omega,trivial⟩),rfl,λw _=> .inl ?_⟩;rw[run_callFunc_extern hf ahq hb hn he];have:=apM (P:=P) (U s) c c1 c2 w;show((RD #[.string (aL (U s)),.int .u8 c]).run P w).andThen _=_;rw[this];rfl
 |[],h=>exact h.elim
 |[_],h=>exact(h.2.2).elim
 |_::_::_::_,h=>exact(h.2.2.2.2).elim
end
end Go.bg
namespace Go.bg
section
variable {S:Nat->List Int->List Int->Prop} {P:bk} {gl:dA} {wb:ai}
def cY (args res:List D) (spec:List Int->List Int->Prop):Prop:=∀zs rs ff,bd (dB args) zs->bd (dB res) rs->bd (dB res) ff->spec zs rs->spec zs ff->eL res rs=eL res ff
theorem cf.Pu {c:cf} {cal:dY} {li:cB->Nat->Option cX} {rounds d:Nat} {spec:List Int->List Int->Prop} (hm:P.follows .mixedOrders=true) (cy:∀r ex ro,fq S P gl ⟨wb,r,ex,ro,[]⟩ cal) (hg:eQ gl ⟨wb,wb,λ_=>False,λ_=>False,[]⟩)
 (hf:∀args w,(callFunc c.f args).run P w= .ok (.enter c.f args) w) (hu:cY c.args c.res spec)
 (ht:oJ (dB c.args) λzs=>(c.tree P gl cal li rounds d).holds S (u2 c.res λrs=>bd (dB c.res) rs/\spec zs rs) (λ_ _=>False) (bf (λ_=>0) 0 zs)):c.dZ P wb spec:=by
 refine⟨hf,λzs hz=>?_⟩;have h0:=cf.calls hm cy hg hz (kC ht hz) wb (nf wb);obtain⟨e,w',v,ag,m,val,h1,h2,h3,h4⟩:=Calls.some h0;obtain⟨rs,⟨hb,hs⟩,hv⟩:=Gt h3 h2;refine⟨rs,hb,hs,λw hw=>?_⟩;refine(cf.calls hm cy hg hz (kC ht hz) w hw).mono λe w' ⟨v,ag,m,val,h1,h2,h3,h4⟩=>?_;obtain⟨ff,⟨hb',Ok⟩,hv'⟩:=Gt h3 h2;rw[hu zs ff rs hz hb' hb Ok hs]at hv';exact⟨by rw[h1,hv'],h4⟩
noncomputable def kc.tree (P:bk) (gl:dA) (cal:dY) (li:cB->Nat->Option cX) (rounds d:Nat) (q:kc):T:=
 .vf q.pre ((da (dB q.c.args).length).map ym) (q.c.tree P gl cal li rounds d)
theorem kc.Pu {q:kc} {cal:dY} {li:cB->Nat->Option cX} {rounds d:Nat} {spec:List Int->List Int->Prop} (hm:P.follows .mixedOrders=true) (cy:∀r ex ro,fq S P gl ⟨wb,r,ex,ro,[]⟩ cal) (hg:eQ gl ⟨wb,wb,λ_=>False,λ_=>False,[]⟩)
 (hf:∀args w,(callFunc q.c.f args).run P w= .ok (.enter q.c.f args) w) (hu:cY q.c.args q.c.res spec)
 (ht:oJ (dB q.c.args) λzs=>(q.tree P gl cal li rounds d).holds S (u2 q.c.res λrs=>bd (dB q.c.res) rs/\spec zs rs) (λ_ _=>False) (bf (λ_=>0) 0 zs)):q.dZ P wb spec:=by
 intro zs hz hp;have hE:=kC ht hz;have hl:=gi hz;unfold kc.tree at hE;rw[<-hl]at hE;have hE:=hE (by rw[EO];exact hp);have h0:=cf.calls hm cy hg hz hE wb (nf wb);obtain⟨e,w',v,ag,m,val,h1,h2,h3,h4⟩:=Calls.some h0;obtain⟨rs,⟨hb,hs⟩,hv⟩:=Gt h3 h2;refine⟨rs,hb,hs,λw hw=> .inr ⟨hf _ _,?_⟩⟩;refine(cf.calls hm cy hg hz hE w hw).mono λe w' ⟨v,ag,m,val,h1,h2,h3,h4⟩=>?_;obtain⟨ff,⟨hb',Ok⟩,hv'⟩:=Gt h3 h2;rw[hu zs ff rs hz hb' hb Ok hs]at hv';exact⟨by rw[h1,hv'],h4⟩
end
theorem B2 {α:Type}:∀(lg:List Nat) (l:List α),(gF lg l).flatten=l
 |[],[]=>rfl
 |[],_::_=>by simp[gF]
 |k::lg,l=>by simp only[gF,F8,B2 lg,ju]
section
variable {P:bk} {gl:dA} {wb:ai} {sh:Nat->List Nat×List Nat} {SB:Nat->List (List Int)->List (List Int)->Prop}
def aX (SB:Nat->List (List Int)->List (List Int)->Prop) (res:List D) (id:Nat):List (List Int)->List (List Int)->Prop:=λzs rs=>bd (dB res) rs.flatten/\SB id zs rs
theorem ZK {lsh:Nat->List Nat} {id:Nat} {lens:List Nat} {bds:List (Int×Int)} {ds:List D} {t:T} (hl:lens=(sh id).1) (hd:sE ds=(sh id).2) (h:tk sh lsh SB (aX SB ds id) lens bds ds t):
 oJ bds λzs=>t.holds (b7 sh SB) (u2 ds λrs=>bd (dB ds) rs/\b7 sh SB id zs rs) (λ_ _=>False) (bf (λ_=>0) 0 zs):=by
 refine rX λzs hz=>?_;have h:=kC (abQ h) hz;simp only[aX,B2]at h;rw[hl,hd]at h;exact h
theorem am1 {c:cf} {cal:dY} {li:cB->Nat->Option cX} {rounds d:Nat} {lsh:Nat->List Nat} {lens:List Nat} (hm:P.follows .mixedOrders=true) (cy:∀r ex ro,fq (b7 sh SB) P gl ⟨wb,r,ex,ro,[]⟩ cal) (hg:eQ gl ⟨wb,wb,λ_=>False,λ_=>False,[]⟩)
 (hf:qU P c.f=true) (hu:cY c.args c.res (b7 sh SB c.id)) (hl:lens=(sh c.id).1) (hd:sE c.res=(sh c.id).2)
 (hv:tk sh lsh SB (aX SB c.res c.id) lens (dB c.args) c.res (c.tree P gl cal li rounds d)):c.dZ P wb (b7 sh SB c.id):=
 cf.Pu hm cy hg (enters hf) hu (ZK hl hd hv)
theorem ao0 {q:kc} {cal:dY} {li:cB->Nat->Option cX} {rounds d:Nat} {lsh:Nat->List Nat} {lens:List Nat} (hm:P.follows .mixedOrders=true) (cy:∀r ex ro,fq (b7 sh SB) P gl ⟨wb,r,ex,ro,[]⟩ cal) (hg:eQ gl ⟨wb,wb,λ_=>False,λ_=>False,[]⟩)
 (hf:qU P q.c.f=true) (hu:cY q.c.args q.c.res (b7 sh SB q.c.id)) (hl:lens=(sh q.c.id).1) (hd:sE q.c.res=(sh q.c.id).2)
 (hv:tk sh lsh SB (aX SB q.c.res q.c.id) lens (dB q.c.args) q.c.res (q.tree P gl cal li rounds d)):q.dZ P wb (b7 sh SB q.c.id):=
 kc.Pu hm cy hg (enters hf) hu (ZK hl hd hv)
end
end Go.bg
namespace Go.bg
open Go.ChangeShapes Go.WideShapes Go.RowKit
variable {H:Type} {enc:aS×aA->H} {P:bk}
def BW (g:aS->Option (List ay)) (cells:aS->Nat):List Field->Nat->Option (List ay)
 |[],_=>some []
 |f::r,o=>match g f.type,BW g cells r (o+cells f.type)with
  |some l,some m=>cond (aG f.offset o&&aG (cells f.type) l.length) (some (l++m)) none
  |_,_=>none
def QJ (l:List ay):Option (List ay):=cond (iU l (mx 0)) (some [.sub 0]) (cond (iU l (mx 1)) (some [.sub 1]) none)
theorem aqD {l sh:List ay} (h:QJ l=some sh):∃k,l=mx k/\sh=[.sub k]:=by
 unfold QJ at h;cases h0:iU l (mx 0)with
 |true=>
  rw[h0]at h;simp only[cond_true,aK]at h;exact⟨0,o4 h0,h.symm⟩
 |false=>
  cases h1:iU l (mx 1)with
  |true=>
   rw[h0,h1]at h;simp only[cond_true,cond_false,aK]at h;exact⟨1,o4 h1,h.symm⟩
  |false=>rw[h0,h1]at h;cases h
def rG (P:bk):Nat->aS->Option (List ay)
 |0,_=>none
 |d+1,t=>match P.underlying t with
  |some (.int k)=>some [.int k k.min k.max]
  |some .string=>some [.str]
  |some .bool=>some [.bool]
  |some (.struct dH)=>BW (rG P d) P.cellsOf dH.toList 0
  |some (.array n e)=>match rG P d e with
   |some l=>cond (aG (P.cellsOf e) l.length) (some (e4 n l).flatten) none
   |none=>none
  |some (.slice e)=>match rG P d e with
   |some l=>cond (aG (P.cellsOf e) l.length&&b6 0 (P.bytesOf e)) (QJ l) none
   |none=>none
  |_=>none
theorem bO.append:∀{a b:List ay} {x y:List Int},bO a x->bO b y->bO (a++b) (x++y)/\dp (a++b) (x++y)=dp a x++dp b y
 |[],_,[],_,_,h=>⟨h,rfl⟩
 |_::_,_,_::_,_,h,h'=>by
  have:=bO.append h.2 h';exact⟨⟨h.1,this.1⟩,by simp only[s9,dp,this.2]⟩
 |[],_,_::_,_,h,_=>h.elim
 |_::_,_,[],_,h,_=>h.elim
theorem P9 {F:Nat->Prop} {w:ai}:∀{a b:List ay} {x y:List Int} {u v:List aA},dX F w a x u->dX F w b y v->dX F w (a++b) (x++y) (u++v)
 |[],_,[],_,[],_,_,h=>h
 |_::_,_,_::_,_,_::_,_,h,h'=>⟨h.1,P9 h.2 h'⟩
 |[],_,_::_,_,_,_,h,_=>h.elim
 |[],_,[],_,_::_,_,h,_=>h.elim
 |_::_,_,[],_,_,_,h,_=>h.elim
 |_::_,_,_::_,_,[],_,h,_=>h.elim
def Gw (enc:aS×aA->H) (P:bk) (w:ai) (t:aS) (sh:List ay):Prop:=
 ∀(n:Nat) (cs:List aA) (x:nO H×List qA),Kb enc P w 0 (λ_=>true) true n t cs=some x->cs.length=sh.length->(∀m∈x.1.weights P t,m<=reachBytes)->
  ∃zs,bO sh zs/\dX (λg=>g<w.heap.size) w sh zs cs
theorem XX {n:Nat} {w:ai} {g:aS->Option (List ay)} (hg:∀t sh,g t=some sh->Gw enc P w t sh) {cs:List aA}:∀(dH:List Field) (o:Nat) (sh:List ay) (xs:List (nO H×List qA)),BW g P.cellsOf dH o=some sh->cs.length=o+sh.length->xs.length=dH.length->
 (∀(j:Nat) (f:Field),dH[j]?=some f->Kb enc P w 0 (λ_=>true) true n f.type ((cs.drop f.offset).take (P.cellsOf f.type))=xs[j]?)->
 (∀m∈Ki P (dH.map (·.type)) (xs.map (·.1)),m<=reachBytes)->
 ∃zs,bO sh zs/\dX (λg=>g<w.heap.size) w sh zs (cs.drop o)
 |[],o,sh,xs,h,hl,hx,_,_=>by
  simp only[BW,aK]at h;subst h;have:xs=[]:=List.length_eq_zero_iff.1 (by simpa using hx);subst this;exact⟨[],trivial,by rw[FT (by simp at hl;omega)];trivial⟩
 |f::dH,o,sh,[],_,_,hx,_,_=>by simp at hx
 |f::dH,o,sh,x::xs,h,hl,hx,hf,hw=>by
  unfold BW at h;cases h1:g f.type with
  |none=>simp[h1]at h
  |some l=>
   cases h2:BW g P.cellsOf dH (o+P.cellsOf f.type)with
   |none=>simp[h1,h2]at h
   |some m=>
    simp only[h1,h2]at h;cases hc:(aG f.offset o&&aG (P.cellsOf f.type) l.length)with
    |false=>simp[hc]at h
    |true=>
     simp only[hc,cond_true,aK]at h;subst h;simp only[aO]at hc;have e1:=bA hc.1;have e2:=bA hc.2;have h0:=hf 0 f rfl;simp only[nd]at h0;simp only[ct,Ki,qD]at hw;simp only[dm]at hl;obtain⟨zs,a1,a2⟩:=hg f.type l h1 n ((cs.drop f.offset).take (P.cellsOf f.type)) x h0 (by rw[ng,qC,e1,e2];omega) λm' hm=>hw m' (.inl hm);obtain⟨fx,b1,b2⟩:=XX (cs:=cs) hg dH (o+P.cellsOf f.type) m xs h2 (by omega) (by simpa using hx) (λj nr hj=>by simpa using hf (j+1) nr (by simpa using hj)) λm' hm=>hw m' (.inr hm);have ki:=bO.append a1 b1;refine⟨zs++fx,ki.1,?_⟩;have:=P9 a2 b2
     rwa [e1,<-Cq,ju]at this
theorem XW {n:Nat} {w:ai} {e:aS} {l:List ay} (hg:Gw enc P w e l) (hc:P.cellsOf e=l.length) {cs:List aA}:∀(k i:Nat) (xs:List (nO H×List qA)),cs.length=(i+k)*l.length->xs.length=k->
 (∀j,j<k->Kb enc P w 0 (λ_=>true) true n e ((cs.drop ((i+j)*P.cellsOf e)).take (P.cellsOf e))=xs[j]?)->
 (∀m∈Kj P e (xs.map (·.1)),m<=reachBytes)->
 ∃zs,bO (e4 k l).flatten zs/\dX (λg=>g<w.heap.size) w (e4 k l).flatten zs (cs.drop (i*l.length))
 |0,i,xs,hl,hx,_,_=>by
  have:xs=[]:=List.length_eq_zero_iff.1 hx;subst this;exact⟨[],trivial,by rw[FT (by rw[hl];exact aW _)];trivial⟩
 |k+1,i,[],_,hx,_,_=>by simp at hx
 |k+1,i,x::xs,hl,hx,hf,hw=>by
  have h0:=hf 0 (Nat.succ_pos k);simp only[nd,lu]at h0;simp only[ct,Kj,qD]at hw;have hl2:cs.length=i*l.length+(l.length+k*l.length):=by rw[hl,Nat.add_mul,rK];omega
  obtain⟨zs,a1,a2⟩:=hg n _ x h0 (by rw[ng,qC,hc];omega) λm' hm=>hw m' (.inl hm);obtain⟨fx,b1,b2⟩:=XW hg hc k (i+1) xs (by rw[hl];congr 1;omega) (by simpa using hx) (λj hj=>by
   have:=hf (j+1) (by omega);rw[show i+(j+1)=i+1+j by omega]at this;simpa using this) λm' hm=>hw m' (.inr hm)
  have ki:=bO.append a1 b1;refine⟨zs++fx,by rw[Cx,F8];exact ki.1,?_⟩;have:=P9 a2 b2;rw[hc,rK,<-Cq,ju]at this;rw[Cx,F8];exact this
theorem Tx {base:Nat} {w:ai} {a:Addr} {n:Nat} {cs:List aA} (h:w.cells? base a n=some cs):cs.length=n/\∀j,j<n->w.cell? (a.add j)=cs[j]?:=by
 unfold World.cells? at h;split at h
 ·have hl:=List.Xj h;refine⟨by simpa using hl,λj hj=>?_⟩;have:=List.UJ h j j (by simp[hj]);exact this
 ·cases h
where
 List.Xj {α β:Type} {f:α->Option β}:∀{l:List α} {r:List β},l.mapM f=some r->r.length=l.length
  |[],r,h=>by simp at h;subst h;rfl
  |x::l,r,h=>by
   rw[aay]at h;cases hx:f x with
   |none=>simp[hx]at h
   |some y=>
    cases hl:l.mapM f with
    |none=>simp[hx,hl]at h
    |some s=>
     simp[hx,hl]at h;subst h;simp[List.Xj hl]
 List.UJ {α β:Type} {f:α->Option β}:∀{l:List α} {r:List β},l.mapM f=some r->∀(j:Nat) (x:α),l[j]?=some x->f x=r[j]?
  |[],r,h,j,x,hx=>by simp at hx
  |y::l,r,h,j,x,hx=>by
   rw[aay]at h;cases hy:f y with
   |none=>simp[hy]at h
   |some z=>
    cases hl:l.mapM f with
    |none=>simp[hy,hl]at h
    |some s=>
     simp[hy,hl]at h;subst h;cases j with
     |zero=>simp at hx;subst hx;simp[hy]
     |succ j=>simpa using List.UJ hl j x (by simpa using hx)
theorem YL {F:Nat->Prop} {w:ai} {cells:Array aA} {sh:List ay}:∀(len o:Nat),o<=cells.size->(∀i,i<len->∃zs vs,bO sh zs/\dX F w sh zs vs/\∀j,j<sh.length->cells[o+i*sh.length+j]?=vs[j]?)->(0<len->0<sh.length)->
 ∃rows:List (List Int),rows.length=len/\ig F w cells o sh rows
 |0,o,ho,_,_=>⟨[],rfl,λ_ h=>by simp at h,cells.toList.take o,[],cells.toList.drop o,by simp,by simp;omega,rfl⟩
 |len+1,o,ho,h,hp=>by
  obtain⟨zs,us,a1,a0,a2⟩:=h 0 (Nat.succ_pos _);have hp:=hp (Nat.succ_pos _);have hv:=a0.len;have NX:=a2 (sh.length-1) (by omega);have hsz:o+sh.length<=cells.size:=by
   have:us[sh.length-1]?≠none:=by rw[gy (by omega)];simp
   rw[<-NX]at this;have:=Array.aep.1 this;omega
  obtain⟨rows,b1,b2,pre,vs,post,b3,b4,p2⟩:=YL len (o+sh.length) hsz (λi hi=>by
   obtain⟨fx,vs,c1,bE,c2⟩:=h (i+1) (by omega);refine⟨fx,vs,c1,bE,λj hj=>?_⟩;rw[<-c2 j hj]
   congr 1
   rw[rK];omega) λ_=>hp
  refine⟨zs::rows,by simp[b1],λrow hr=>?_,cells.toList.take o,us++vs,post,?_,by simp;omega,us,vs,rfl,a0,p2⟩
  ·rcases List.mem_cons.1 hr with rfl|hr
   ·exact a1
   ·exact b2 row hr
  ·have e1:pre=cells.toList.take (o+sh.length):=by
    rw[b3,gJ,List.take_left' b4]
   have e2:pre=cells.toList.take o++us:=by
    rw[e1,List.take_add]
    congr 1
    refine List.ext_getElem? λj=>?_;by_cases hj:j<sh.length
    ·have:=a2 j hj;rw[List.getElem?_take,if_pos hj,List.getElem?_drop,<-this];simp
    ·rw[aaU (by simp;omega),aaU (by omega)]
   rw[<-gJ,<-e2];exact b3
where
 Array.aep {α:Type} {a:Array α} {i:Nat}:a[i]?≠none↔i<a.size:=by simp
theorem Xx {e:aS}:∀{l:List (nO H×List qA)} {i:Nat} {y:nO H×List qA} {m:Nat},l[i]?=some y->m∈y.1.weights P e->m∈Kj P e (l.map (·.1))
 |x::l,0,y,m,h,hm=>by
  simp only[nd,aK]at h;subst h;simp only[ct,Kj,qD];exact .inl hm
 |x::l,i+1,y,m,h,hm=>by
  simp only[ct,Kj,qD];exact .inr (Xx (by simpa using h) hm)
 |[],_,_,_,h,_=>by simp at h
theorem XY {w:ai} {t e:aS} {sh:List ay} (ho:Gw enc P w e sh) (ht:P.underlying t=some (.slice e)) (hc:P.cellsOf e=sh.length) (hp:0<sh.length) {n:Nat} {cs:List aA} {x:nO H×List qA} (h:Kb enc P w 0 (λ_=>true) true n t cs=some x) (hw:∀m∈x.1.weights P t,m<=reachBytes):
 ∃(v:aA) (rows:List (List Int)),cs=[v]/\(∀row∈rows,bO sh row)/\(rows.length<=maxLen/\(0<P.bytesOf e->rows.length<=140737488351232))/\(((∃p,v= .slice p 0 0)/\rows=[])∨∃(g o cap:Nat) (cells:Array aA) (t:aS) (fz:Nat×Nat),v= .slice (some ⟨g,o,none⟩) rows.length cap/\(rows.length<=cap/\(cap:Int)<=9223372036854775807)/\g<w.heap.size/\w.heap[g]?=some (.cells cells t fz)/\ig (λg=>g<w.heap.size) w cells o sh rows):=by
 rcases avb ht h with⟨rfl,_⟩|⟨ad,len,cap,elems,rest,n,rfl,rfl,hx,_,D7,sg,Ap,Vx,hsp,_⟩
 ·exact⟨_,[],rfl,λ_ h=>by simp at h,⟨iI _,λ_=>iI _⟩,.inl ⟨⟨_,rfl⟩,rfl⟩⟩
 ·rcases aaW cap with h0|h0
  ·subst h0;have:len=0:=by omega
   subst this;exact⟨_,[],rfl,λ_ h=>by simp at h,⟨iI _,λ_=>iI _⟩,.inl ⟨⟨_,rfl⟩,rfl⟩⟩
  ·have hsp:=(hsp rfl).2;have NK:∃cs,w.cells? 0 (ad.add 0) (P.cellsOf e)=some cs:=by
    rcases aaW len with hl|hl
    ·have h1:=(avb ht h);have h2:=hsp 0 (by omega);cases hy:rest[0]? with
     |none=>
      exfalso;rcases h1 with⟨h1,_⟩|⟨avW,vO,dT,awr,ayM,n',_,h3,h4,_,_,_,h5,_,h6,_⟩
      ·simp at h1
      ·simp only[kz,aBb,aK,and_true]at h3;rw[hx]at h4;simp only[cv,aBc]at h4;have h7:=congrArg kA h4.1.2;simp only[j8]at h7;have bS:=(h6 rfl).1;rw[aaX]at hy;omega
     |some y=>
      rw[hy,aaY,hl]at h2;obtain⟨cs,g1,_⟩:=h2;exact⟨cs,by simpa using g1⟩
    ·have h2:=Vx 0 hl;cases hy:elems[0]? with
     |none=>rw[aaX]at hy;omega
     |some y=>
      rw[hy,aaY]at h2;obtain⟨cs,g1,_⟩:=h2;exact⟨cs,by simpa using g1⟩
   obtain⟨TH,NK⟩:=NK;obtain⟨l1,l2⟩:=Tx NK;have hc0:=l2 0 (by omega);have hc1:TH[0]?≠none:=by rw[gy (by omega)];simp
   rw[<-hc0]at hc1;have HF:(ad.add 0).add 0=ad:=by simp[Addr.add]
   rw[HF]at hc1;obtain⟨g,o,sp⟩:=ad;unfold jL at hc1;split at hc1
   ·rename_i cells tt fz sm;simp only at sm;cases V9:sp with
    |some k=>rw[V9]at hc1;exact absurd rfl hc1
    |none=>
    subst V9;simp only[rL,pU,if_false]at hc1;have gh:o<cells.size:=by
     rcases mC o cells.size with h|h
     ·exact h
     ·exact absurd (Array.getElem?_eq_none h) hc1
    rw[hx]at hw;simp only[Kk,ht,kS,qD]at hw;obtain⟨rows,r1,r2⟩:=YL (F:=λg=>g<w.heap.size) (w:=w) (cells:=cells) (sh:=sh) len o (by omega) (λi hi=>by
     have:=Vx i hi;cases hy:elems[i]? with
     |none=>rw[aaX]at hy;omega
     |some y=>
      rw[hy,aaY]at this;obtain⟨cs,g1,g2⟩:=this;obtain⟨l1,l2⟩:=Tx g1;obtain⟨zs,ae,z2⟩:=ho n cs y g2 (by rw[l1,hc]) λm hm=>by
       refine hw m (.inr (.inl ?_));exact Xx hy hm
      refine⟨zs,cs,ae,z2,λj hj=>?_⟩;have:=l2 j (by rw[hc];exact hj);rw[jw,jw]at this;simp only[jL,sm,rL,pU,if_false]at this;rw[<-this,hc]) λ_=>hp
    have cK:(cap:Int)<=9223372036854775807:=by unfold maxLen at sg;omega
    have AD:(elems.length+rest.length)*P.bytesOf e<=reachBytes:=hw _ (.inl (by simp));refine⟨_,rows,rfl,r2.1,⟨by omega,λhb=>?_⟩,.inr ⟨g,o,cap,cells,tt,fz,by rw[r1],by rw[r1];exact⟨D7,cK⟩,(Array.getElem?_eq_some_iff.1 sm).1,sm,r2⟩⟩;have bS:(elems.length+rest.length)*1<=(elems.length+rest.length)*P.bytesOf e:=Rp _ hb;unfold reachBytes at AD;omega
   ·exact absurd rfl hc1
theorem I0 {w:ai}:∀(d:Nat) (t:aS) (sh:List ay),rG P d t=some sh->Gw enc P w t sh
 |0,t,sh,h=>by simp[rG]at h
 |d+1,t,sh,h=>by
  have ih:=I0 (w:=w) d;intro n cs x hx hl hw;unfold rG at h;split at h
  ·rename_i k hu;simp only[aK]at h;subst h;obtain⟨z,rfl,rfl,Oy⟩:=aaz hu hx;have:=ZM.1 Oy;exact⟨[z],⟨this,trivial⟩,rfl,trivial⟩
  ·rename_i hu;simp only[aK]at h;subst h;obtain⟨s,rfl,rfl,hs⟩:=avc hu hx;have hb:s.data.toList.length<=eK:=hw _ (by simp[Kk]);refine⟨[dC s.data.toList],⟨⟨ph _,nR hb⟩,trivial⟩,?_,trivial⟩;show _=ay.val .str _;simp[ay.val,ea,aL]
  ·rename_i hu;simp only[aK]at h;subst h;obtain⟨b,rfl,rfl⟩:=DataW.trod_bool hu hx;refine⟨[cond b 1 0],⟨?_,trivial⟩,?_,trivial⟩
   ·cases b<;>simp[ay.dS]
   ·show _=ay.val .bool _;cases b<;>simp[ay.val]
  ·rename_i dH hu;obtain⟨xs,m,rfl,rfl,hlen,hn,Ap⟩:=DataW.trod_struct hu hx;simp only[Kk,hu]at hw;obtain⟨zs,a1,a2⟩:=XX (n:=m) ih dH.toList 0 sh xs h (by omega) (by rw[hn];simp) (λj f hj=>Ap j f (by simpa using hj)) hw;exact⟨zs,a1,by simpa using a2⟩
  ·rename_i k e hu;cases h1:rG P d e with
   |none=>simp[h1]at h
   |some l=>
    simp only[h1]at h;cases hc:aG (P.cellsOf e) l.length with
    |false=>simp[hc]at h
    |true=>
     simp only[hc,cond_true,aK]at h;subst h;have hc:=bA hc;obtain⟨xs,m,rfl,rfl,hlen,hn,Ap⟩:=auF hu hx;simp only[Kk,hu]at hw;have hZ:(e4 k l).flatten.length=k*l.length:=by simp
     obtain⟨zs,a1,a2⟩:=XW (n:=m) (ih e l h1) hc k 0 xs (by rw[hl,hZ];simp) hn (λj hj=>by
      have:=Ap j hj;simpa using this) hw
     exact⟨zs,a1,by simpa using a2⟩
  ·rename_i e hu;cases h1:rG P d e with
   |none=>simp[h1]at h
   |some l=>
    simp only[h1]at h;cases hc:(aG (P.cellsOf e) l.length&&b6 0 (P.bytesOf e))with
    |false=>rw[hc]at h;cases h
    |true=>
     rw[hc]at h;simp only[cond_true]at h;simp only[aO,oz]at hc;obtain⟨k,rfl,rfl⟩:=aqD h;obtain⟨v,rows,rfl,r1,⟨r2,jD⟩,r3⟩:=XY (ih e _ h1) hu (bA hc.1) (by unfold mx;split<;>decide) hx hw;have Ej:(rows.length:Int)<=9223372036854775807:=by unfold maxLen at r2;omega
     refine⟨[rc rows],⟨⟨fe _,SE Ej r1⟩,trivial⟩,?_,trivial⟩;show qH _ _ _ (ab (rc rows)) v;rw[dv];rcases r3 with r3|⟨g,o,cap,cells,t,fz,q1,q2,q3,de,iT⟩
     ·exact .inl r3
     ·exact .inr ⟨g,o,cap,cells,t,fz,q1,⟨q2.1,q2.2,jD hc.2⟩,q3,de,(mF (Zr k)).1 iT⟩
  ·cases h
def Cz (P:bk) (t:aS):bP->Prop
 | .d (.int k lo hi)=>P.underlying t=some (.int k)/\lo=k.min/\hi=k.max
 | .d .bool=>P.underlying t=some .bool
 | .d .str=>P.underlying t=some .string
 | .d (.agg k n lo hi)=>∃e,P.underlying t=some (.array n e)/\rG P 8 t=some (e4 n (.int k lo hi))/\P.cellsOf t=n
 | .d (.mix l)=>((∃dH,P.underlying t=some (.struct dH))∨∃n e,P.underlying t=some (.array n e))/\rG P 8 t=some l/\P.cellsOf t=l.length/\iS l=true
 | .d (.j1 _)=>False
 | .d (.ob ..)=>False
 | .rd sh=>∃e,P.underlying t=some (.slice e)/\rG P 8 e=some sh/\P.cellsOf e=sh.length/\ln sh=true
 | .jC _ _=>False
theorem bO.bd:∀{sh:List ay} {zs:List Int},bO sh zs->bd (sh.map ay.dS) zs
 |[],[],_=>trivial
 |_::_,_::_,h=>⟨h.1.1,h.1.2,bO.bd h.2⟩
 |[],_::_,h=>h.elim
 |_::_,[],h=>h.elim
theorem YE:∀(sh:List ay) (zs:List Int),dp sh zs=o9 ay.val sh zs
 |[],_=>by simp[dp]
 |_::_,[]=>by simp[dp]
 |c::sh,z::zs=>by simp only[dp,Ka,YE sh zs]
theorem YD (k:di) (lo hi:Int):∀(n:Nat) (zs:List Int),zs.length=n->dp (e4 n (.int k lo hi)) zs=zs.map (rJ k)
 |0,[],_=>rfl
 |n+1,z::zs,h=>by
  rw[Cx];simp only[dp,ct,YD k lo hi n zs (by simpa using h)];rfl
 |0,_::_,h=>by simp at h
 |n+1,[],h=>by simp at h
theorem Xw (k:di) (lo hi:Int):∀n:Nat,(e4 n (ay.int k lo hi)).map ay.dS=h8 lo hi n
 |0=>rfl
 |n+1=>by rw[Cx,ct,Xw k lo hi n];rfl
theorem anb {b0:Nat} {w:ai} {t:aS} {b:bP} {v:aA} {x:nO H} {ps:List qA} (ht:Cz P t b) (n9:Kl P w .any b0 t v) (hd:DataW.Trod enc P w 0 (λ_=>true) true t v x ps) (hw:∀m∈x.weights P t,m<=reachBytes):
 ∃zs,bd b.bds zs/\zs.length=b.num/\b.at (λg=>g<w.heap.size) (λ_=>False) w zs v:=by
 obtain⟨fuel,hf⟩:=hd;have agg:((∃dH,P.underlying t=some (.struct dH))∨∃n e,P.underlying t=some (.array n e))->∃cs,v= .agg cs/\cs.size=P.cellsOf t:=λh=>by
  unfold Kl at n9;rcases h with⟨dH,h⟩|⟨n,e,h⟩
  ·rw[h]at n9;obtain⟨cs,a,b,_⟩:=n9;exact⟨cs,a,b⟩
  ·rw[h]at n9;obtain⟨cs,a,b,_⟩:=n9;exact⟨cs,a,b⟩
 cases b with
 |jC _ _=>exact ht.elim
 |d y=>
  cases y with
  |j1 l=>exact ht.elim
  |ob k c=>exact ht.elim
  |int k lo hi=>
   obtain⟨h1,rfl,rfl⟩:=ht;obtain⟨n,rfl⟩:=okWide_int h1 n9;obtain⟨n',h,hx,Oy⟩:=aaz h1 hf;simp[Ct]at h;subst h;have:=ZM.1 Oy;exact⟨[n],⟨this.1,this.2,trivial⟩,rfl,rfl⟩
  |bool=>
   obtain⟨c,rfl⟩:=okWide_bool ht n9;refine⟨[cond c 1 0],?_,rfl,?_⟩
   ·cases c<;>simp[bP.bds,D.bds,bd]
   ·cases c<;>simp[bP.at,D.val]
  |str=>
   obtain⟨s,rfl⟩:=okWide_string ht n9;obtain⟨j0,h,hx,hs⟩:=avc ht hf;simp[Ct]at h;subst h;simp only[cv]at hx;have hb:s.data.toList.length<=eK:=hw _ (by rw[hx.1];simp[Kk]);exact⟨[dC s.data.toList],⟨ph _,nR hb,trivial⟩,rfl,by simp[bP.at,D.val,ea,aL]⟩
  |agg k n lo hi=>
   obtain⟨e,h1,h2,h3⟩:=ht;obtain⟨cs,rfl,hsz⟩:=agg (.inr ⟨n,e,h1⟩);obtain⟨zs,a1,a2⟩:=I0 8 t _ h2 fuel _ _ hf (by show cs.toList.length=_;simp[hsz,h3]) hw;have a2:=(Fi (by simp[iS,ay.plain]) a1).1 a2;have hl:zs.length=n:=by have:=a1.len;simpa using this
   have hcs:cs=(dp (e4 n (.int k lo hi)) zs).toArray:=by rw[<-a2];simp[Ct]
   refine⟨zs,?_,hl,?_⟩
   ·have:=a1.bd;rw[Xw]at this;exact this
   ·show Cy cs=_;rw[hcs,YD k lo hi n zs hl];simp only[D.val,<-hl,J9]
  |mix l=>
   obtain⟨h1,h2,h3,h4⟩:=ht;obtain⟨cs,rfl,hsz⟩:=agg h1;obtain⟨zs,a1,a2⟩:=I0 8 t _ h2 fuel _ _ hf (by show cs.toList.length=_;simp[hsz,h3]) hw;have a2:=(Fi h4 a1).1 a2;have hl:zs.length=l.length:=a1.len;have hcs:cs=(dp l zs).toArray:=by rw[<-a2];simp[Ct]
   refine⟨zs,a1.bd,hl,?_⟩;show Cy cs=_;rw[hcs,YE];rfl
 |rd sh=>
  obtain⟨e,h1,h2,h3,ss⟩:=ht;have h4:0<sh.length:=by
   unfold ln at ss;simp only[aO,oz]at ss;exact ss.1.2
  obtain⟨u,rows,hu,r1,⟨r2,_⟩,r3⟩:=XY (I0 8 e sh h2) h1 h3 h4 hf hw;obtain⟨a,len,cap,rfl⟩:=okWide_slice h1 n9;have hu:u= .slice a len cap:=by simpa [Ct]using hu.symm
  subst hu;refine⟨[rc rows],⟨fe _,oI r2 λr hr=>(r1 r hr).row ss,trivial⟩,rfl,?_⟩;show gB _ _ _ (ab (rc rows)) _;rw[dv];exact r3
def Kq (P:bk):List aS->List bP->Prop
 |[],[]=>True
 |t::ts,b::bs=>Cz P t b/\Kq P ts bs
 |_,_=>False
theorem bP.ab8 {F N:Nat->Prop} {w:ai} (b:bP) {zs l:List Int} {v:aA} (h:zs.length=b.num) (ha:b.at F N w zs v):b.at F N w (zs++l) v:=by
 cases b with
 |d x=>
  show v=x.val (zs++l);rw[D.ZJ x (l:=l) h];exact ha
 |rd sh=>match zs,h with|[z],_=>exact ha
 |jC sh e=>match zs,h with|[z],_=>exact ha
theorem XV {b0:Nat} {w:ai}:∀{ts:List aS} {bs:List bP} {vs:List aA} {xs:List (nO H)} {ps:List qA},Kq P ts bs->(∀(j:Nat) t v,ts[j]?=some t->vs[j]?=some v->Kl P w .any b0 t v)->aaZ enc P w 0 (λ_=>true) true ts vs xs ps->
 (∀m∈Ki P ts xs,m<=reachBytes)->∃zs,bd (cg bs) zs/\gq (λg=>g<w.heap.size) (λ_=>False) w bs zs vs/\xs.length=bs.length
 |[],[],[],[],ps,_,_,h,_=>⟨[],trivial,trivial,rfl⟩
 |[],[],_::_,_,_,_,_,h,_=>h.elim
 |[],[],[],_::_,_,_,_,h,_=>h.elim
 |[],_::_,_,_,_,h,_,_,_=>h.elim
 |_::_,[],_,_,_,h,_,_,_=>h.elim
 |_::_,_::_,[],_,_,_,_,h,_=>by cases h
 |_::_,_::_,_::_,[],_,_,_,h,_=>by cases h
 |t::ts,b::bs,v::vs,x::xs,ps,ht,hv,h,hw=>by
  obtain⟨p,q,h1,h2,rfl⟩:=h;simp only[Ki,qD]at hw;obtain⟨zs,a1,a2,a3⟩:=anb ht.1 (hv 0 t v rfl rfl) h1 λm hm=>hw m (.inl hm);obtain⟨fx,b1,b2,b3⟩:=XV ht.2 (λj t v h1 h2=>hv (j+1) t v (by simpa using h1) (by simpa using h2)) h2 λm hm=>hw m (.inr hm);refine⟨zs++fx,WD a1 b1,⟨bP.ab8 b a2 a3,?_⟩,by simp[b3]⟩;rw[<-a2,s7];exact b2
theorem ZA (hl:laidOutB P=true) {W W':ai} (hb:Below W.heap.size W W'):∀{ts:List aS} {vs:List aA} {xs:List (nO H)} {ps:List qA},(∀t∈ts,P.readableRec t=true/\t<P.types.size)->aaZ enc P W 0 (λ_=>true) true ts vs xs ps->(∀x∈ps,x.block<W.heap.size)->
 aaZ enc P W' 0 (λb=>decide (b<W.heap.size)) true ts vs xs ps
 |[],[],[],_,_,h,_=>h
 |[],_::_,_,_,_,h,_=>h.elim
 |[],[],_::_,_,_,h,_=>h.elim
 |_::_,[],_,_,_,h,_=>by cases h
 |_::_,_::_,[],_,_,h,_=>by cases h
 |t::ts,v::vs,x::xs,ps,hr,h,hlt=>by
  obtain⟨p,q,h1,h2,rfl⟩:=h;exact⟨p,q,Below.trod hl (hr t (by simp)).1 (hr t (by simp)).2 h1 hb λx hx=>hlt x (List.mem_append.2 (.inl hx)),ZA hl hb (λt ht=>hr t (cF _ ht)) h2 λx hx=>hlt x (List.mem_append.2 (.inr hx)),rfl⟩
theorem ac4 {C:Checked} {os:Os} {f:cB} {fn:Func} {s:ChangeSpec} {apart:Bool} {X:ai->Array aA->Prop}
 (bL:∀(w w':ai) (args:Array aA),w.heap=w'.heap->X w args->X w' args)
 (own:ownKnob C.prog.godebug=none) (started:os.Started) (Pr:C.prog.inits.idxOf? f=none) (Aq:C.prog.funcs[f]?=some fn)
 (witness:∃(w:ai) (tape:Tape) (i:Input),w.os=os/\(w.forCall tape i).Shaped C.prog/\i.vars=[]/\avd C.prog (w.forCall tape i) .any w.heap.size f i/\
   ((s.pre enc C.prog fn [] apart (w.forCall tape i).memory i.args/\X (w.forCall tape i).memory i.args)/\sizedMet enc C.prog fn (RE s) apart (w.forCall tape i).memory i.args)/\({}:Assume).holds C.prog (lone (ave C.prog f i.args .normal) [] (w.forCall tape i)))
 (contract:∀(W:ai) (base:Nat) (args:Array aA) (ds gs:List (nO H)) (before:List qA),
   (∀(j:Nat) t v,fn.params[j]?=some t->args[j]?=some v->Kl C.prog W .any base t v)->
   DataW.Whole enc C.prog fn.params.toList s.vars apart W args.toList ds gs before->(Ki C.prog (fn.params.toList++s.plain.varTypes C.prog) (ds++gs)).all (·<=reachBytes)=true->X W args->W.ShapedOpen C.prog->
   gU C.prog f args W λe W'=>∃v,e= .returned v/\s.post enc C.prog fn apart true false false W args v W'):
 ReturnsInHanded {} C os f .any (λw args=>(s.pre enc C.prog fn [] apart w args/\X w args)/\sizedMet enc C.prog fn (RE s) apart w args) (s.post enc C.prog fn apart true false false):=by
 refine returnsInHanded_of_calls own started Pr witness ?_;intro w tape i _ km _ aY gP awL;obtain⟨_,_,_,aeg,DY,_,_,_,_,n9⟩:=aY;have e:aeg=fn:=gH (DY.symm.trans Aq);subst e;obtain⟨⟨⟨ds,gs,before,hw,hc⟩,hx⟩,hz⟩:=gP;have nA:=aBi (w':=w.forCall tape i) (by rfl) hw;refine(contract (w.forCall tape i) w.heap.size i.args ds gs before n9 nA (hz.weights hw) (bL _ _ _ (by rfl) hx) km).mono λe W' ⟨v,he,hp⟩=>?_;subst he;exact aBj hp
theorem ajy {C:Checked} {os:Os} {f:cB} {fn:Func} {s:ChangeSpec} {X:ai->Array aA->Prop} {apart:Bool} {ts:List aS} {tb:aS} {bs:List bP}
 (bL:∀(w w':ai) (args:Array aA),w.heap=w'.heap->X w args->X w' args)
 (own:ownKnob C.prog.godebug=none) (started:os.Started) (Pr:C.prog.inits.idxOf? f=none) (Aq:C.prog.funcs[f]?=some fn)
 (witness:∃(w:ai) (tape:Tape) (i:Input),w.os=os/\(w.forCall tape i).Shaped C.prog/\i.vars=[]/\avd C.prog (w.forCall tape i) .any w.heap.size f i/\
   ((s.pre enc C.prog fn [] apart (w.forCall tape i).memory i.args/\X (w.forCall tape i).memory i.args)/\sizedMet enc C.prog fn (RE s) apart (w.forCall tape i).memory i.args)/\({}:Assume).holds C.prog (lone (ave C.prog f i.args .normal) [] (w.forCall tape i)))
 (hp:fn.params.toList=ts) (hr:fn.resultTypes.toList=[tb]) (eJ:fn.resultTypes.size=1) (ah2:C.prog.underlying tb=some .bool) (Es:Kq C.prog ts bs) (pz:laidOutB C.prog=true) (lN:(ts.all λt=>C.prog.readableRec t&&decide (t<C.prog.types.size))=true) (Ov:s.vars=[])
 (hs:∀xs:List (nO H),xs.length=bs.length->s.fn H xs={results:=[.lit (.bool true)],args:=xs,vars:=[]})
 (contract:∀(W:ai) (zs:List Int) (vs:List aA),bd (cg bs) zs->gq (λg=>g<W.heap.size) (λ_=>False) W bs zs vs->X W vs.toArray->W.ShapedOpen C.prog->gU C.prog f vs.toArray W λe W'=>e= .returned (.bool true)/\W.Extends W'):
 ReturnsInHanded {} C os f .any (λw args=>(s.pre enc C.prog fn [] apart w args/\X w args)/\sizedMet enc C.prog fn (RE s) apart w args) (s.post enc C.prog fn apart true false false):=by
 refine ac4 bL own started Pr Aq witness ?_;intro W base args xs gs before ah6 DF hsz hx km;have afk:=DF;have hlt:=DF.lt;obtain⟨p,q,hA,Nc,rfl,HL,Eb⟩:=DF;rw[hp]at hA;rw[Ov]at Nc;obtain⟨rfl,rfl⟩:gs=[]/\q=[]:=by
  cases gs with
  |nil=>exact⟨rfl,Nc⟩
  |cons g r=>exact absurd Nc (by intro h;cases h)
 have n9:∀(j:Nat) t v,ts[j]?=some t->args.toList[j]?=some v->Kl C.prog W .any base t v:=λj t v h1 h2=>ah6 j t v (by rw[<-hp]at h1;simpa using h1) (by simpa using h2);have e:(fn.params.toList++s.plain.varTypes C.prog)=ts:=by rw[hp];simp[DataSpec.varTypes,aBl,Ov]
 rw[e,lr,pQ]at hsz;obtain⟨zs,hz,hat,hlen⟩:=XV Es n9 hA λn hn=>by simpa using hsz n hn
 have nt:args=args.toList.toArray:=by simp
 rw[nt]at hx;have nY:gU C.prog f args W λe W'=>e= .returned (.bool true)/\W.Extends W':=by
  have:=contract W zs args.toList hz hat hx km
  rwa [<-nt]at this
 refine nY.mono λe W' ⟨he,hw⟩=>?_;subst he;have DY:=hs (xs++[]) (by simp[hlen]);have ago:Below W.heap.size W W':=⟨hw.os,hw.tape,hw.output,hw.size,λi hi=>hw.block i hi⟩;refine⟨_,rfl,_,_,_,[],p,[],afk,?_,?_,?_,ajh hw _,λh=>by cases h⟩
 ·rw[DY,hr,eJ];exact trodAll_mk1 (shut_bool ah2 true)
 ·rw[DY,hp,lr];exact ZA pz ago (λt ht=>by
   have:=List.all_eq_true.1 lN t ht;simpa using this) hA λx hx=>hlt x (by simp[hx])
 ·rw[DY,Ov];rfl
section
variable {gl:dA} {wb:ai} {sh:Nat->List Nat×List Nat} {SB:Nat->List (List Int)->List (List Int)->Prop}
def ev (SB:zzS) (res:List bP) (id:Nat):List (List Int)->List (List Int)->Prop:=λzs rs=>bd (cg res) rs.flatten/\SB id zs rs
theorem acy {c:dx} {bc:hW} {cal:dY} {li:cB->Nat->Option cX} {rounds d:Nat} {lsh:Nat->List Nat} {lens:List Nat} (hm:P.follows .mixedOrders=true) (cy:∀r ex ro,fq (b7 sh SB) P gl ⟨wb,r,ex,ro,[]⟩ cal) (hg:eQ gl ⟨wb,wb,λ_=>False,λ_=>False,[]⟩)
 (fS:∀(L:V->Env->Prop) (r:ai) (ro:Nat->Prop),l9 (b7 sh SB) L ⟨wb,r,λ_=>False,ro,[]⟩ P bc) (hf:qU P c.f=true) (hl:lens=(sh c.id).1) (hd:sD c.res=(sh c.id).2)
 (hv:ij sh lsh SB (ev SB c.res c.id) lens (cg c.args) c.res (c.tree bc P gl cal li rounds d)):c.dZ P wb (b7 sh SB c.id):=by
 refine dx.vT (li:=li) (rounds:=rounds) (d:=d) hm cy hg fS (enters hf) (rX λzs hz=>?_);have h:=kC (GC hv) hz;simp only[ev,B2]at h;rw[hl,hd]at h;exact h
theorem ajx {c:dx} {W:ai} {vs:List aA} {zs:List Int} (hc:c.dZ P W (b7 sh SB c.id)) (jA:c.res=[.d .bool]) (gP:c.pre=0) (hz:bd (cg c.args) zs) (hat:gq (λg=>g<W.heap.size) (λ_=>False) W c.args zs vs) (h1:∀a z,SB c.id a [[z]]->z=1) (h2:(sh c.id).2=[1]):
 gU P c.f vs.toArray W λe W'=>e= .returned (.bool true)/\W.Extends W':=by
 refine(hc.2 _ W vs zs (nf W) hz (by rw[gP];trivial) hat).mono λe W' ⟨hx,rs,us,hb,hs,hr,he⟩=>⟨?_,hx⟩;rw[jA]at hb hr
 match rs,hb,us,hr,hs,he with
 |[z],hb,[u],hr,hs,he=>
  unfold b7 at hs;rw[h2]at hs;have e1:z=1:=h1 _ z hs;subst e1;have:u= .bool true:=hr.1;subst this;rw[he];rfl
 |[z],hb,[],hr,hs,he=>exact hr.elim
 |[z],hb,_::_::_,hr,hs,he=>exact hr.2.elim
 |[],hb,_,_,_,_=>exact hb.elim
 |_::_::_,hb,_,_,_,_=>exact hb.2.2.elim
end
end Go.bg
namespace Go.bg
open M
def iK (w w':ai) (own:Option Nat):Prop:=
 w'.os=w.os/\w'.tape=w.tape/\w'.output=w.output/\w.heap.size<=w'.heap.size/\∀k:Nat,k<w.heap.size->own≠some k->w'.heap[k]?=w.heap[k]?
structure ka where
 f:cB
 id:Nat
 sh:List ay
 e:aS
 args:List bP
 pre:Nat:=0
def gj:aA->Option Nat
 | .slice (some a) _ (_+1)=>some a.block
 |_=>none
def ka.dZ (P:bk) (wb:ai) (c:ka) (spec:List Int->List Int->Prop):Prop:=
 (∀args w,(callFunc c.f args).run P w= .ok (.enter c.f args) w)/\
 ∀(F:Nat->Prop) (w:ai) (v0:aA) (code:Int) (vs:List aA) (zs:List Int),wb.Extends w->pf (λg=>wb.heap.size<=g) w c.sh c.e (ab code) v0->(0<=code/\code<=ch)->bd (cg c.args) zs->uv c.pre (code::zs)->gq F (λ_=>False) w c.args zs vs->(∀g,F g->gj v0≠some g)->
  gU P c.f (v0::vs).toArray w λe w'=>iK w w' (gj v0)/\∃code' v',(0<=code'/\code'<=ch)/\spec (code::zs) [code']/\pf (λg=>gj v0=some g∨w.heap.size<=g) w' c.sh c.e (ab code') v'/\e= .returned v'
noncomputable def ka.R (c:ka) (n:Nat) (code:aa) (r:List V) (bl:List ao) (k:RK):T:=
 cond (iS c.sh) (r9 false bl c.args r n λls n1=>EZ c.pre (code::ls) (.call c.id (code::ls) n1 [(0,ch)] (nU [.jC c.sh c.e] n1 (n1+1) [] bl λn2 us gC=>k n2 (pK us) gC))) .stuck
noncomputable def ka.E (c:ka) (n:Nat) (vs:List V) (bl:List ao) (k:RK):T:=
 match vs with
 | .w (.one (.sl b aM o ro len cap))::r=>match bl[b]? with
  |some ([.rows sh off code cU kind],bX)=>cond (iU c.sh sh&&aG kind 2&&aa.beq o (.const 0)&&aa.beq off (.const 0)&&aa.beq ro (.const 0)&&aa.beq cap cU&&aG bX.1 c.e)
   (.oN 31 [code,len] (c.R n code r (cM bl b ([.rows sh off code cU 0],bX)) k)) .stuck
  |_=> .stuck
 | .w (.one (.con (.slice none 0 0)))::r=>c.R n (.const 0) r bl k
 | .w (.one (.slc b 0 0 0))::r=>match bl[b]? with
  |some ([],(t,false))=>cond (aG t c.e) (c.R n (.const 0) r bl k) .stuck
  |_=> .stuck
 |_=> .stuck
section
variable {S:Nat->List Int->List Int->Prop} {L:V->Env->Prop} {w0:cN} {P:bk}
theorem Mem.akz {ρ:Env} {m:Nat->Nat} {bl:List ao} {w w':ai} {b:Nat} {sh:List ay} {off code cap:aa} {t:aS×Bool} (h:Mem w0 ρ m bl w) (hbl:bl[b]?=some ([.rows sh off code cap 2],t)) {own:Option Nat} (hown:∀g,own=some g->0<=cap.den ρ/\g=m b) (hn:iK w w' own):Mem w0 ρ m (cM bl b ([.rows sh off code cap 0],t)) w':=by
 have h1:=h.kill hbl;obtain⟨n1,n2,n3,sC,pJ⟩:=hn;have gR:=h.rws b sh off code cap 2 t hbl (by decide);have hg:∀g,own=some g->w0.b.heap.size<=g/\(w0.ex g∨w0.r.heap.size<=g):=λg hg=>by
  obtain⟨hc,rfl⟩:=hown g hg;obtain⟨_,cells,gS,fz,g1,_,g4⟩:=gR.2 hc;obtain⟨_,_,_,_,g8,g9⟩:=g4 (by decide);exact⟨g8,g9⟩
 have iw:0<=cap.den ρ->aQ ρ [.rows sh off code cap 2]=2:=λhc=>iz (by decide) hc;have hblk:∀i:Nat,i<w0.b.heap.size->w'.heap[i]?=w0.b.heap[i]?:=λi hi=>by
  rw[pJ i (uQ hi h.ext.size) (λe=>by have:=(hg i e).1;omega),h.ext.block i hi]
 have dc:∀(i:Nat) (p:ao),(cM bl b ([.rows sh off code cap 0],t))[i]?=some p->(i=b/\p=([.rows sh off code cap 0],t))∨(i≠b/\bl[i]?=some p):=λi p hi=>by
  have mO:b<bl.length:=(List.getElem?_eq_some_iff.1 hbl).1;rw[iE,oC]at hi;split at hi
  ·rename_i eG;subst eG;simp only[mO,if_true,aK]at hi;exact .inl ⟨rfl,hi.symm⟩
  ·rename_i eG;exact .inr ⟨λe=>eG e.symm,hi⟩
 have vE:∀(i:Nat) (p:ao),i≠b->bl[i]?=some p->aQ ρ p.1≠0->w'.heap[m i]?=w.heap[m i]?:=λi p hne hi hk=>by
  refine pJ _ (h.lt hi hk) λe=>?_;obtain⟨hc,e⟩:=hown _ e;exact h.ne hbl hi (by rw[iw hc];exact aW _) hk (λe=>hne e.symm) e.symm
 refine⟨⟨n1.trans h.ext.os,n2.trans h.ext.tape,n3.trans h.ext.output,gk h.ext.size sC,λa ha=>by simp only[jL,hblk a.block ha],λa ha=>by simp only[s6,hblk a.block ha],hblk⟩,n1.trans h.jf,n2.trans h.ji,n3.trans h.iy,gk h.ew sC,λi hi hx=>?_,λi cs t' hi ho=>?_,λi cP dV code' dT eW t' hi=>?_,h1.inj⟩
 ·rw[pJ i (uQ hi h.ew) (λe=>by rcases(hg i e).2 with h|h;exact hx h;omega)];exact h.gg i hi hx
 ·rcases dc i _ hi with⟨rfl,cL⟩|⟨hne,hi⟩
  ·cases cL;cases ho
  ·obtain⟨g1,g2,r,hr,g3⟩:=h.blk i cs t' hi ho;exact⟨g1,g2,r,hr,by rw[vE i _ hne hi (by rw[hH ho];decide)];exact g3⟩
 ·rcases dc i _ hi with⟨rfl,cL⟩|⟨hne,hi⟩
  ·cases cL;exactλhk=>absurd rfl hk
  ·refine(h.rws i cP dV code' dT eW t' hi).grow (λba ed o ho=>⟨ed.set hbl (by simp[aQ]),?_⟩) λhk hc=>vE i _ hne hi (by simp only[iz hk hc];exact hk);rw[pJ ba (Array.getElem?_eq_some_iff.1 ho).1 λe=>?_]
   ·exact ho
   ·obtain⟨hc,e⟩:=hown _ e;exact ed.2 b _ hbl (by rw[iw hc];exact aW _) e.symm
theorem ka.Lq {c:ka} {spec:List Int->List Int->Prop} (hc:c.dZ P w0.b spec) (cd:∀zs rs,spec zs rs->S c.id zs rs) (n nb:Nat) (code:aa) (r:List V) (kG:List ao) (k:RK) (G:df) (ρ:Env) (m:Nat->Nat) (w:ai) (X:aA) (xs:List aA) (R':pT->ai->Prop)
 (N3:kG.length=nb) (qX:b9 n kG.length ρ kG) (xL:Mem w0 ρ m kG w) (hv:∀v∈r,V.ok n kG.length ρ v) (hr:dh ρ m r xs) (r2:code.aZ n) (fM:0<=code.den ρ/\code.den ρ<=ch)
 (Av:pf (λg=>w0.b.heap.size<=g) w c.sh c.e (ab (code.den ρ)) X) (ahh:∀w',iK w w' (gj X)->Mem w0 ρ m kG w') (HZ:∀g,gj X=some g->w0.b.heap.size<=g/\w0.r.heap.size<=g) (N5:∀(i:Nat) (p:ao),kG[i]?=some p->gj X=some (m i)->aQ ρ p.1=0) (ki:∀g,gj X=some g->ni w0 ρ m kG w g)
 (ah:(c.R n code r kG k).holds S L G ρ) (hk:pd S L w0 k n nb ρ m G R'):gU P c.f (X::xs).toArray w R':=by
 subst N3;unfold ka.R at ah;cases tY:iS c.sh with
 |false=>rw[tY]at ah;exact ah.elim
 |true=>
 rw[tY]at ah;simp only[cond_true]at ah;have DB:wR (λba=>cc w0 ρ m kG ba/\gj X≠some ba) w0 ρ m kG w:=λi cP dV code' dT eW t' hi=>by
  cases ho:gj X with
  |none=>exact(xL.rws i cP dV code' dT eW t' hi).mono λba h'=>⟨h',λe=>by cases e⟩
  |some g=>exact(ki g ho i cP dV code' dT eW t' hi).mono λba h'=>⟨h'.1,λe=>by cases e;exact h'.2 rfl⟩
 obtain⟨aD,n1,ls,fl,dM,⟨g1,g2,g3⟩,ah⟩:=Di (S:=S) (L:=L) DB (λh=>by cases h) qX xL hv hr G _ ah;obtain⟨gP,ah⟩:=preM_holds ah;simp only[T.holds]at ah;have adN:code.den aD=code.den ρ:=aa.bG dM r2;have hF:∀g,oF (λba=>cc w0 ρ m kG ba/\gj X≠some ba) w0 ρ m kG (r.flatMap fI) (r.flatMap jF) g->gj X≠some g:=λg hg he=>by
  rcases hg with⟨⟨b',_,DN,p,vD,xT,_⟩,_⟩|hg
  ·exact xT (N5 b' p vD (by rw[he,DN]))
  ·exact hg.2 he
 rw[ct,adN]at gP ah;refine(hc.2 (oF (λba=>cc w0 ρ m kG ba/\gj X≠some ba) w0 ρ m kG (r.flatMap fI) (r.flatMap jF)) w X (code.den ρ) xs _ xL.ext Av fM g2 gP (g3 _ λ_ h=>h) hF).mono ?_
 rintro e w' ⟨ix,code',v',k1,k3,k4,rfl⟩
 have ah:=kC ah (show bd [((0:Int),ch)] [code'] from⟨k1.1,k1.2,trivial⟩) (cd _ _ k3);have hl:=ahh w' ix;have hb1:=qX.ext dM fl (aW kG.length);have db:agree n1 aD (bf aD n1 [code']):=agree.bf [code'] n1 aD;have hb2:=hb1.ext db (Cl n1 1) (aW kG.length);have x6:=(hl.dP qX dM).dP hb1 db;have hA:fF (bf aD n1 [code']) n1 [code']:=fF.bf aD n1 [code'];have lJ:=dM.trans db fl;have xw:cQ n kG.length ρ m (n1+1) kG.length (bf aD n1 [code']) m:=⟨by omega,lJ,aW _,λ_ _=>rfl⟩;have hN:∀g,(gj X=some g∨w.heap.size<=g)->w0.b.heap.size<=g/\w0.r.heap.size<=g:=λg hg=>by
  rcases hg with hg|hg
  ·exact HZ g hg
  ·exact⟨gk xL.ext.size hg,gk xL.ew hg⟩
 have tR:∀(i:Nat) (p:ao),kG[i]?=some p->(gj X=some (m i)∨w.heap.size<=m i)->aQ (bf aD n1 [code']) p.1=0:=λi p hi hg=>by
  rw[mq (qX p (cZ hi)) lJ];rcases hg with hg|hg
  ·exact N5 i p hi hg
  ·by_cases h0:aQ ρ p.1=0
   ·exact h0
   ·have:=xL.lt hi h0;omega
 have agl:∀g,(gj X=some g∨w.heap.size<=g)->ni w0 (bf aD n1 [code']) m kG w' g:=λg hg=>ni.dP (n':=n) (λi cP dV fk dT eW t' hi=>(DB i cP dV fk dT eW t' hi).grow (λba ed o ho=>by
  have hlt:=(Array.getElem?_eq_some_iff.1 ho).1;refine⟨⟨ed.1,λe=>?_⟩,by rw[ix.2.2.2.2 ba hlt ed.2];exact ho⟩;rcases hg with hg|hg
  ·exact ed.2 (by rw[e];exact hg)
  ·omega) λhk hc=>by
  have fB:aQ ρ [A.rows cP dV fk dT eW]≠0:=by rw[iz hk hc];exact hk
  exact ix.2.2.2.2 _ (xL.lt hi fB) λe=>fB (N5 i _ hi e)) qX lJ
 obtain⟨n',ag,m',jH,gC,p1,bo,bU,c6,dF,eD⟩:=rY (S:=S) (L:=L) (w0:=w0) (F:=λ_=>False) (N:=λg=>gj X=some g∨w.heap.size<=g) (λg hg=>hg.elim) hN (l:=[.jC c.sh c.e]) (us:=[]) (vals:=[v']) (by simp[kF,tY]) hb2 x6 hA (show bd [((0:Int),ch)] [code'] from⟨k1.1,k1.2,trivial⟩) (aW _) ⟨k4,trivial⟩ (.inl rfl) (.inr tR) (.inr agl) (λu hu=>by simp at hu) ah;have jA:=Jk (m:=m') (vals:=[v']) dF (by rw[c6];rfl);exact hk n' (pK jH) gC G ag m' w' v' (xw.trans p1) (dJ.refl _ _) jA.1 jA.2 bo bU eD
theorem iK.ext {w w':ai} (h:iK w w' none):w.Extends w':=by
 obtain⟨n1,n2,n3,sC,pJ⟩:=h;have hblk:∀i:Nat,i<w.heap.size->w'.heap[i]?=w.heap[i]?:=λi hi=>pJ i hi (λe=>by cases e);exact⟨n1,n2,n3,sC,λa ha=>by simp only[jL,hblk a.block ha],λa ha=>by simp only[s6,hblk a.block ha],hblk⟩
theorem ka.th {c:ka} {spec:List Int->List Int->Prop} (hex:∀g,¬w0.ex g) (hc:c.dZ P w0.b spec) (cd:∀zs rs,spec zs rs->S c.id zs rs) (n:Nat) (vs:List V) (bl:List ao) (k:RK) (G:df) (ρ:Env) (m:Nat->Nat) (w:ai) (xs:List aA) (R':pT->ai->Prop)
 (hb:b9 n bl.length ρ bl) (hw:Mem w0 ρ m bl w) (hv:∀v∈vs,V.ok n bl.length ρ v) (hr:dh ρ m vs xs) (ah:(c.E n vs bl k).holds S L G ρ) (hk:pd S L w0 k n bl.length ρ m G R'):
 (callFunc c.f xs.toArray).run P w= .ok (.enter c.f xs.toArray) w/\gU P c.f xs.toArray w R':=by
 refine⟨hc.1 _ _,?_⟩;have z4:0<=(aa.const 0).den ρ/\(aa.const 0).den ρ<=ch:=by rw[aa.aT];exact⟨bD _,by have:=oI (l:=[]) (by simp) (by simp);exact pR (fe []) this⟩
 have z0:ab ((aa.const 0).den ρ)=[]:=by rw[aa.aT];exact fN
 unfold ka.E at ah;split at ah
 ·rename_i b aM o ro len cap r;split at ah
  rotate_left
  ·exact ah.elim
  rename_i sh off code cU kind bX hbl;cases hgd:(iU c.sh sh&&aG kind 2&&aa.beq o (.const 0)&&aa.beq off (.const 0)&&aa.beq ro (.const 0)&&aa.beq cap cU&&aG bX.1 c.e)with
  |false=>rw[hgd]at ah;exact ah.elim
  |true=>
  rw[hgd]at ah;simp only[cond_true]at ah;simp only[aO]at hgd;obtain⟨⟨⟨⟨⟨⟨b0,k2⟩,b1⟩,b2⟩,b3⟩,b4⟩,p2⟩:=hgd;have b0:=o4 b0;have p2:=bA p2;have k2:=bA k2;have b1:=aa.beq_eq b1;have b2:=aa.beq_eq b2;have b3:=aa.beq_eq b3;have b4:=aa.beq_eq b4;subst k2;subst b1;subst b2;subst b3;subst b4;subst b0
  match xs,hr with
  |X::xs,hr=>
  obtain⟨D6,ah⟩:=ah;have D6:len.den ρ=(ab (code.den ρ)).length:=D6;have ss:(A.sl b aM (.const 0) (.const 0) len cap).ok n bl.length ρ:=hv (.w (.one (.sl b aM (.const 0) (.const 0) len cap))) (by simp);obtain⟨ptr,e1,e2,e3⟩:=oo (m:=m) ss;have qk:X=(A.sl b aM (.const 0) (.const 0) len cap).den ρ m:=hr.1;rw[e1]at qk;obtain⟨x1,⟨x2,x3,eT,iG⟩,⟨iW,ox,lq,nN⟩,⟨ov,ow⟩,fE,gT⟩:=ss;rw[aa.aT]at ow;have gR:=hw.rws b c.sh (.const 0) code cap 2 bX hbl (by decide);have e6:(A.rows c.sh (.const 0) code cap 2).ok n bl.length ρ:=hb _ (cZ hbl) _ (by simp);obtain⟨⟨r1,r2,r3⟩,fM,cR⟩:=e6;have mO:b<bl.length:=(List.getElem?_eq_some_iff.1 hbl).1;have HU:(len.den ρ).toNat=(ab (code.den ρ)).length:=by omega
  have tY:iS c.sh=true:=by
   cases tY:iS c.sh with
   |true=>rfl
   |false=>unfold ka.R at ah;rw[tY]at ah;exact ah.elim
  have hown:(∀g,gj X=some g->0<=cap.den ρ/\g=m b)/\pf (λg=>w0.b.heap.size<=g) w c.sh c.e (ab (code.den ρ)) X/\(∀g,gj X=some g->w0.b.heap.size<=g/\w0.r.heap.size<=g):=by
   by_cases hc0:cap.den ρ<0
   ·have hl0:=fE hc0;have bL:X= .slice (lZ (cap.den ρ) (m b)) 0 0:=by rw[qk,e2 hc0,if_pos hc0,hl0];rfl
    have Ee:∀g,gj X=some g->False:=λg h=>by
     rw[bL]at h;cases hz:lZ (cap.den ρ) (m b)with
     |none=>rw[hz]at h;cases h
     |some a=>rw[hz]at h;cases h
    exact⟨λg h=>(Ee g h).elim,Or.inl ⟨⟨_,bL⟩,gR.1 hc0⟩,λg h=>(Ee g h).elim⟩
   ·obtain⟨_,cells,gS,fz,g1,⟨g2,g3⟩,g4⟩:=gR.2 (by omega);obtain⟨g0,g5,g6,g7,g8,g9⟩:=g4 (by decide);have g6:=g6.two;subst g0 g6;rw[aa.aT]at g3;have bL:X= .slice (some ⟨m b,0,none⟩) (ab (code.den ρ)).length (cap.den ρ).toNat:=by
     rw[qk,e3 (by omega),if_neg hc0,HU,aa.aT];simp
    have hh:=gT (by omega);have Ee:∀g,gj X=some g->g=m b:=λg h=>by
     rw[bL]at h;unfold gj at h;split at h
     ·rename_i heq;injection heq with h1 h2 h3
      injection h1 with h1
      rw[<-h1]at h;cases h;rfl
     ·cases h
    refine⟨(λg h=>⟨by omega,Ee g h⟩),Or.inr ⟨m b,(cap.den ρ).toNat,cells,bL,⟨by omega,by omega⟩,g8,by rw[<-p2];exact g1,(mF tY).1 g3,g7⟩,(λg h=>by
     rw[Ee g h];rcases g9 with h|h
     ·exact absurd h (hex _)
     ·exact⟨g8,h⟩)⟩
  obtain⟨nx,Av,HZ⟩:=hown;have Vg:=kr bl b ([.rows c.sh (.const 0) code cap 0],bX);refine ka.Lq (S:=S) (L:=L) (w0:=w0) hc cd n bl.length code r (cM bl b ([.rows c.sh (.const 0) code cap 0],bX)) k G ρ m w X xs R' Vg ?_ (hw.kill hbl) (λv hv'=>by rw[Vg];exact hv v (cF _ hv')) hr.2 r2 fM Av (λw' hn=>hw.akz hbl nx hn) HZ (λi p hi hg=>?_) (λg hg=>by obtain⟨hc,rfl⟩:=nx g hg;exact hw.S2 hbl (aW 2) hc) ah hk
  ·refine hb.set ?_;intro y hy;have hy:y= .rows c.sh (.const 0) code cap 0:=by simpa using hy
   subst hy;exact hb _ (cZ hbl) (.rows c.sh (.const 0) code cap 2) (by simp)
  ·by_cases h0:aQ ρ p.1=0
   ·exact h0
   ·exfalso;obtain⟨hc,aho⟩:=nx _ hg;have dc:i≠b/\bl[i]?=some p:=by
     rw[iE,oC]at hi;split at hi
     ·rename_i eG;subst eG;simp only[mO,if_true,aK]at hi;subst hi;exact absurd (by simp[aQ]) h0
     ·rename_i eG;exact⟨λe=>eG e.symm,hi⟩
    exact hw.ne hbl dc.2 (by rw[iz (by decide) hc];exact aW _) h0 (λe=>dc.1 e.symm) aho.symm
 ·rename_i r
  match xs,hr with
  |X::xs,hr=>
  have bL:X= .slice none 0 0:=hr.1;subst bL;exact ka.Lq (S:=S) (L:=L) (w0:=w0) hc cd n bl.length (.const 0) r bl k G ρ m w _ xs R' rfl hb hw (λv hv'=>hv v (cF _ hv')) hr.2 (aa.cH _ _) z4 (Or.inl ⟨⟨_,rfl⟩,z0⟩) (λw' hn=>hw.grow hn.ext) (λg h=>by cases h) (λi p hi h=>by cases h) (λg h=>by cases h) ah hk
 ·rename_i b r;split at ah
  rotate_left
  ·exact ah.elim
  rename_i t hbl;cases Ep:aG t c.e with
  |false=>rw[Ep]at ah;exact ah.elim
  |true=>
   rw[Ep]at ah;simp only[cond_true]at ah;have Ep:=bA Ep;subst Ep
   match xs,hr with
   |X::xs,hr=>
   have bL:X= .slice (some ⟨m b,0,none⟩) 0 0:=hr.1;subst bL;obtain⟨g1,g2,yI,g3,g4⟩:=hw.blk b [] (c.e,false) hbl rfl;have g3:=g3 rfl;subst g3;refine ka.Lq (S:=S) (L:=L) (w0:=w0) hc cd n bl.length (.const 0) r bl k G ρ m w _ xs R' rfl hb hw (λv hv'=>hv v (cF _ hv')) hr.2 (aa.cH _ _) z4 (Or.inr ⟨m b,0,#[],?_,⟨?_,by decide⟩,g1,by simpa using g4,?_,by simp⟩) (λw' hn=>hw.grow hn.ext) (λg h=>by cases h) (λi p hi h=>by cases h) (λg h=>by cases h) ah hk
   ·rw[z0];rfl
   ·rw[z0];exact aW _
   ·rw[z0];exact⟨λ_ h=>by simp at h,[],[],by simp[bm],rfl⟩
 ·exact ah.elim
noncomputable def Ih:List ka->hW->hW
 |[],g,f=>g f
 |c::r,g,f=>cond (aG c.f f) (some c.E) (Ih r g f)
theorem Wv {wb r:ai} {ro:Nat->Prop} {bc:hW} (fS:l9 S L ⟨wb,r,λ_=>False,ro,[]⟩ P bc):∀{l:List ka},(∀c∈l,c.dZ P wb (S c.id))->l9 S L ⟨wb,r,λ_=>False,ro,[]⟩ P (Ih l bc)
 |[],_=>fS
 |c::l,h=>λf g hf=>by
  unfold Ih at hf;cases hb:aG c.f f with
  |true=>
   rw[hb]at hf;simp only[cond_true,aK]at hf;have:=bA hb;subst this;subst hf;intro n vs bl k G ρ m w xs R' h1 h2 h3 h4 h5 h6;exact ka.th (w0:=⟨wb,r,λ_=>False,ro,[]⟩) (λ_ h=>h) (h c (by simp)) (λ_ _ h=>h) n vs bl k G ρ m w xs R' h1 h2 h3 h4 h5 h6
  |false=>
   rw[hb]at hf;exact Wv fS (λc hc=>h c (cF _ hc)) f g hf
end
end Go.bg
namespace Go.bg
open M
def lG:List Nat->List aA->List aA
 |[],l=>l
 |0::r,v::l=>v::lG r l
 |0::_,[]=>[]
 |(k+1)::r,l=> .agg (l.take (k+1)).toArray::lG r (l.drop (k+1))
def BA:List W->Option (List A)
 |[]=>some []
 | .one a::r=>match BA r with|some l=>some (a::l)|none=>none
 | .agg _::_=>none
def sa:List Nat->List W->Option (List W)
 |[],l=>some l
 |0::r,u::l=>match sa r l with|some x=>some (u::x)|none=>none
 |0::_,[]=>some []
 |(k+1)::r,l=>match BA (l.take (k+1)),sa r (l.drop (k+1))with|some s,some x=>some (.agg s::x)|_,_=>none
theorem XU {n nb:Nat} {ρ:Env} {m:Nat->Nat}:∀{l:List W} {s:List A},BA l=some s->(∀u∈l,W.ok n nb ρ u)->(∀a∈s,A.ok n nb ρ a)/\s.map (A.den ρ m)=l.map (W.den ρ m)
 |[],s,h,_=>by cases h;exact⟨λ_ h=>by simp at h,rfl⟩
 | .one a::r,s,h,hu=>by
  unfold BA at h;cases h1:BA r with
  |none=>rw[h1]at h;cases h
  |some l=>
   rw[h1]at h;cases h;obtain⟨g1,g2⟩:=XU (m:=m) h1 λu n8=>hu u (cF _ n8);refine⟨λb hb=>?_,by rw[ct,ct,g2];rfl⟩;rcases List.mem_cons.1 hb with rfl|hb
   ·exact hu _ (s8 ..)
   ·exact g1 b hb
 | .agg _::_,s,h,_=>by cases h
theorem Hu {n nb:Nat} {ρ:Env} {m:Nat->Nat}:∀{g:List Nat} {l x:List W},(∀u∈l,W.ok n nb ρ u)->sa g l=some x->(∀u∈x,W.ok n nb ρ u)/\x.map (W.den ρ m)=lG g (l.map (W.den ρ m))
 |[],l,x,hu,h=>by cases h;exact⟨hu,rfl⟩
 |0::r,u::l,x,hu,h=>by
  unfold sa at h;cases h1:sa r l with
  |none=>rw[h1]at h;cases h
  |some y=>
   rw[h1]at h;cases h;obtain⟨g1,g2⟩:=Hu (m:=m) (λu n8=>hu u (cF _ n8)) h1;refine⟨λb hb=>?_,by rw[ct,ct,g2];rfl⟩;rcases List.mem_cons.1 hb with rfl|hb
   ·exact hu _ (s8 ..)
   ·exact g1 b hb
 |0::_,[],x,hu,h=>by cases h;exact⟨λ_ h=>by simp at h,rfl⟩
 |(k+1)::r,l,x,hu,h=>by
  unfold sa at h;cases h1:BA (l.take (k+1))with
  |none=>rw[h1]at h;cases h
  |some s=>
   cases h2:sa r (l.drop (k+1))with
   |none=>rw[h1,h2]at h;cases h
   |some y=>
    rw[h1,h2]at h;cases h;obtain⟨g1,g2⟩:=XU (m:=m) h1 λu n8=>hu u (j7 n8);obtain⟨k1,k2⟩:=Hu (m:=m) (λu n8=>hu u (List.mem_of_mem_drop n8)) h2;refine⟨λb hb=>?_,?_⟩
    ·rcases List.mem_cons.1 hb with rfl|hb
     ·exact g1
     ·exact k1 b hb
    ·show Cy (s.map (A.den ρ m)).toArray::y.map (W.den ρ m)= .agg ((l.map (W.den ρ m)).take (k+1)).toArray::lG r ((l.map (W.den ρ m)).drop (k+1));rw[g2,k2,y2,y3]
noncomputable def Dl (g:List Nat) (us:List W) (k:List W->T):T:=match sa g us with|some x=>k x|none=> .stuck
theorem gK_holds {S:Nat->List Int->List Int->Prop} {L:V->Env->Prop} {G:df} {ρ:Env} {g:List Nat} {us:List W} {k:List W->T} (h:(Dl g us k).holds S L G ρ):∃x,sa g us=some x/\(k x).holds S L G ρ:=by
 unfold Dl at h;cases h1:sa g us with
 |none=>rw[h1]at h;exact h.elim
 |some x=>rw[h1]at h;exact⟨x,rfl,h⟩
def qx:List Nat->List W->Option (List W)
 |[],l=>some l
 |0::r,u::l=>match qx r l with|some x=>some (u::x)|none=>none
 |(k+1)::r,.agg s::l=>cond (aG s.length (k+1)) (match qx r l with|some x=>some (s.map W.one++x)|none=>none) none
 |_,_=>none
theorem JM {n nb:Nat} {ρ:Env} {m:Nat->Nat}:∀{g:List Nat} {l x:List W},(∀u∈l,W.ok n nb ρ u)->qx g l=some x->(∀u∈x,W.ok n nb ρ u)/\lG g (x.map (W.den ρ m))=l.map (W.den ρ m)
 |[],l,x,hu,h=>by cases h;exact⟨hu,rfl⟩
 |0::r,u::l,x,hu,h=>by
  unfold qx at h;cases h1:qx r l with
  |none=>rw[h1]at h;cases h
  |some y=>
   rw[h1]at h;cases h;obtain⟨g1,g2⟩:=JM (m:=m) (λu n8=>hu u (cF _ n8)) h1;refine⟨λb hb=>?_,by rw[ct,ct,<-g2];rfl⟩;rcases List.mem_cons.1 hb with rfl|hb
   ·exact hu _ (s8 ..)
   ·exact g1 b hb
 |0::_,[],x,_,h=>by simp[qx]at h
 |(k+1)::r,.agg s::l,x,hu,h=>by
  unfold qx at h;cases hc:aG s.length (k+1)with
  |false=>rw[hc]at h;cases h
  |true=>
   rw[hc]at h;simp only[cond_true]at h;have hc:=bA hc;cases h1:qx r l with
   |none=>rw[h1]at h;cases h
   |some y=>
    rw[h1]at h;cases h;obtain⟨g1,g2⟩:=JM (m:=m) (λu n8=>hu u (cF _ n8)) h1;have hs:∀a∈s,A.ok n nb ρ a:=hu _ (s8 ..);refine⟨λb hb=>?_,?_⟩
    ·rcases List.mem_append.1 hb with hb|hb
     ·obtain⟨a,ha,rfl⟩:=List.mem_map.1 hb;exact hs a ha
     ·exact g1 b hb
    ·have e:(s.map W.one++y).map (W.den ρ m)=s.map (A.den ρ m)++y.map (W.den ρ m):=by rw[ga,kT];rfl
     rw[e];show Cy ((s.map (A.den ρ m)++y.map (W.den ρ m)).take (k+1)).toArray::lG r ((s.map (A.den ρ m)++y.map (W.den ρ m)).drop (k+1))=Cy (s.map (A.den ρ m)).toArray::l.map (W.den ρ m);rw[<-hc,<-j8 (as:=s) (f:=A.den ρ m),Ru,s7,g2]
 |(k+1)::_,.one _::_,x,_,h=>by simp[qx]at h
 |(k+1)::_,[],x,_,h=>by simp[qx]at h
def m7:List Nat->List V->Option (List V)
 |[],l=>some l
 |0::r,u::l=>match m7 r l with|some x=>some (u::x)|none=>none
 |(k+1)::r,.w (.agg s)::l=>cond (aG s.length (k+1)) (match m7 r l with|some x=>some (s.map (λa=> .w (.one a))++x)|none=>none) none
 |_,_=>none
theorem Sv {ρ:Env} {m:Nat->Nat}:∀{a b:List V} {x y:List aA},dh ρ m a x->dh ρ m b y->dh ρ m (a++b) (x++y)
 |[],_,[],_,_,h=>h
 |v::a,b,x::xs,y,h1,h2=>⟨h1.1,Sv h1.2 h2⟩
 |[],_,_::_,_,h,_=>h.elim
 |_::_,_,[],_,h,_=>h.elim
theorem Sx {ρ:Env} {m:Nat->Nat}:∀s:List A,dh ρ m (s.map λa=>V.w (.one a)) (s.map (A.den ρ m))
 |[]=>trivial
 |a::s=>⟨rfl,Sx s⟩
theorem QR {n nb:Nat} {ρ:Env} {m:Nat->Nat}:∀{g:List Nat} {l x:List V} {xs:List aA},(∀v∈l,V.ok n nb ρ v)->dh ρ m l xs->m7 g l=some x->(∀v∈x,V.ok n nb ρ v)/\∃fx,dh ρ m x fx/\lG g fx=xs
 |[],l,x,xs,hu,hr,h=>by cases h;exact⟨hu,xs,hr,rfl⟩
 |0::r,u::l,x,[],hu,hr,h=>hr.elim
 |0::r,u::l,x,v::xs,hu,hr,h=>by
  unfold m7 at h;cases h1:m7 r l with
  |none=>rw[h1]at h;cases h
  |some y=>
   rw[h1]at h;cases h;obtain⟨g1,fx,g2,g3⟩:=QR (λu n8=>hu u (cF _ n8)) hr.2 h1;refine⟨λb hb=>?_,v::fx,⟨hr.1,g2⟩,by rw[<-g3];rfl⟩;rcases List.mem_cons.1 hb with rfl|hb
   ·exact hu _ (s8 ..)
   ·exact g1 b hb
 |0::_,[],x,_,_,_,h=>by simp[m7]at h
 |(k+1)::r,.w (.agg s)::l,x,[],hu,hr,h=>hr.elim
 |(k+1)::r,.w (.agg s)::l,x,v::xs,hu,hr,h=>by
  unfold m7 at h;cases hc:aG s.length (k+1)with
  |false=>rw[hc]at h;cases h
  |true=>
   rw[hc]at h;simp only[cond_true]at h;have hc:=bA hc;cases h1:m7 r l with
   |none=>rw[h1]at h;cases h
   |some y=>
    rw[h1]at h;cases h;obtain⟨g1,fx,g2,g3⟩:=QR (λu n8=>hu u (cF _ n8)) hr.2 h1;have hs:∀a∈s,A.ok n nb ρ a:=hu _ (s8 ..);have hv:v=Cy (s.map (A.den ρ m)).toArray:=hr.1;refine⟨λb hb=>?_,s.map (A.den ρ m)++fx,Sv (Sx s) g2,?_⟩
    ·rcases List.mem_append.1 hb with hb|hb
     ·obtain⟨a,ha,rfl⟩:=List.mem_map.1 hb;exact hs a ha
     ·exact g1 b hb
    ·show Cy ((s.map (A.den ρ m)++fx).take (k+1)).toArray::lG r ((s.map (A.den ρ m)++fx).drop (k+1))=v::xs;rw[<-hc,<-j8 (as:=s) (f:=A.den ρ m),Ru,s7,g3,hv]
 |(k+1)::_,[],x,_,_,_,h=>by simp[m7]at h
 |(k+1)::_,.w (.one _)::_,x,_,_,_,h=>by simp[m7]at h
 |(k+1)::_,.eX _::_,x,_,_,_,h=>by simp[m7]at h
 |(k+1)::_,.any::_,x,_,_,_,h=>by simp[m7]at h
 |(k+1)::_,.oY .. ::_,x,_,_,_,h=>by simp[m7]at h
 |(k+1)::_,.mK .. ::_,x,_,_,_,h=>by simp[m7]at h
structure eP where
 c:dx
 vq:List Nat
 gr:List Nat
def eP.dZ (P:bk) (wb:ai) (c:eP) (spec:List Int->List Int->Prop):Prop:=
 (∀args w,(callFunc c.c.f args).run P w= .ok (.enter c.c.f args) w)/\
 ∀(F:Nat->Prop) (w:ai) (vs:List aA) (zs:List Int),wb.Extends w->bd (cg c.c.args) zs->uv c.c.pre zs->gq F (λ_=>False) w c.c.args zs vs->
  gU P c.c.f (lG c.vq vs).toArray w λe w'=>w.Extends w'/\∃rs us,bd (cg c.c.res) rs/\spec zs rs/\gq (λg=>F g∨w.heap.size<=g) (λg=>w.heap.size<=g) w' c.c.res rs us/\e= .returned (lV (lG c.gr us))
noncomputable def eP.qF (c:eP) (n:Nat) (vs:List V) (bl:List ao) (k:RK):T:=
 r9 true bl c.c.args vs n λls n1=>cond (kF c.c.res&&(!(c.c.res.any bP.jk)||oi vs)) (EZ c.c.pre ls (.call c.c.id ls n1 (cg c.c.res) (nU c.c.res n1 (n1+(cg c.c.res).length) [] (cond (c.c.res.any bP.jk) (tG (vs.flatMap fI) bl) bl) λn2 us gC=>Dl c.gr us λx=>k n2 (pK x) gC))) .stuck
noncomputable def eP.K9 (c:eP) (n:Nat) (vs:List V) (bl:List ao) (k:RK):T:=
 cond (c.c.res.any bP.jk&& !oi vs) (sT c.c.args vs bl n λq n1=>c.qF n1 q.1 q.2 k) (c.qF n vs bl k)
noncomputable def eP.Sl (c:eP) (n:Nat) (vs:List V) (bl:List ao) (k:RK):T:=
 c.K9 n vs bl k
noncomputable def eP.E (c:eP) (n:Nat) (vs:List V) (bl:List ao) (k:RK):T:=match m7 c.vq vs with
 |some us=>c.Sl n us bl k
 |none=> .stuck
noncomputable def P0 (bl:List ao) (gr:List Nat) (ds:List bP) (v:V):M (List O):=
 match v with
 | .w u=>match qx gr [u]with|some ws=>BP bl ds ws|none=>fail
 | .eX l=>cond (aG l.length 1) fail (match qx gr l with|some ws=>BP bl ds ws|none=>fail)
 |_=>fail
noncomputable def eP.tree (bc:hW) (P:bk) (gl:dA) (cal:dY) (li:cB->Nat->Option cX) (rounds d:Nat) (c:eP):T:=
 cond (kF c.c.args&& !(c.c.args.any bP.jW)) (EY c.c.pre ((da (cg c.c.args).length).map ym) (nU c.c.args 0 (cg c.c.args).length [] [] λn us bl=>Dl c.vq us λx=>xa bc P gl cal li rounds d c.c.f n (x.map V.w) bl λn' v aI=>P0 aI c.gr c.c.res v n' λos _=> .leaf (sG os))) .stuck
def Ms:List bP->List V->Bool
 | .d (.ob _ c)::r,.w (.one (.int _ x))::s=>match x.l.du with
  |some d=>decide (d=c)&&Ms r s
  |none=>false
 |_::r,_::s=>Ms r s
 |_,_=>true
def Mt (p:eP) (vs:List V):Bool:=match m7 p.vq vs with
 |some us=>Ms p.c.args us
 |none=>false
noncomputable def tH:List eP->hW->hW
 |[],bc=>bc
 |p::r,bc=>λf=>cond (aG p.c.f f) (some λn vs bl k=>cond (Mt p vs) (p.E n vs bl k) (match tH r bc f with
  |some g=>g n vs bl k
  |none=> .stuck)) (tH r bc f)
section
variable {S:Nat->List Int->List Int->Prop} {L:V->Env->Prop} {w0:cN} {P:bk}
theorem apj {gr:List Nat} {ds:List bP} {v:V} {val:aA} {n:Nat} {ρ:Env} {m:Nat->Nat} {bl:List ao} {w:ai} (hex:∀g,¬w0.ex g) (hb:b9 n bl.length ρ bl) (hw:Mem w0 ρ m bl w) (hv:v.ok n bl.length ρ) (hr:v.rel ρ m val):
 ar S L (P0 bl gr ds v) n ρ λag n' os=>∃us,val=lV (lG gr us)/\gq (F0 w0) (λg=>w0.r.heap.size<=g) w ds (os.map (O.den ag)) us:=by
 unfold P0;split
 ·rename_i u;split
  ·rename_i ws h;obtain⟨g1,g2⟩:=JM (m:=m) (λx hx=>by simp at hx;subst hx;exact hv) h;refine(Jj hex hb hw g1).mono λaD n1 os hn ha ⟨k1,k2⟩=>⟨_,?_,k2⟩;rw[g2];exact hr
  ·exact ar.fail
 ·rename_i l;cases hc:aG l.length 1 with
  |true=>exact ar.fail
  |false=>
   simp only[cond_false];split
   ·rename_i ws h;obtain⟨g1,g2⟩:=JM (m:=m) hv h;refine(Jj hex hb hw g1).mono λaD n1 os hn ha ⟨k1,k2⟩=>⟨_,?_,k2⟩;rw[g2];have hr:val= .tuple (l.map (W.den ρ m)).toArray:=hr;rw[hr];unfold lV;split
    ·rename_i x hx;exfalso;have hl:l.length=1:=by have:=congrArg kA hx;simpa using this
     rw[hl]at hc;cases hc
    ·rfl
   ·exact ar.fail
 ·exact ar.fail
theorem eP.Gk {c:eP} {spec:List Int->List Int->Prop} {f:cB} {CH:Array aA} (cd:∀zs rs,spec zs rs->S c.c.id zs rs) (n:Nat) (vs:List V) (bl:List ao) (k:RK) (G:df) (ρ:Env) (m:Nat->Nat) (w:ai) (xs:List aA) (R':pT->ai->Prop)
 (hc:∀zs,bd (cg c.c.args) zs->uv c.c.pre zs->gq (oE w0 ρ m bl (vs.flatMap fI) (vs.flatMap jF)) (λ_=>False) w c.c.args zs xs->
   gU P f CH w λe w'=>w.Extends w'/\∃rs us,bd (cg c.c.res) rs/\spec zs rs/\gq (λg=>oE w0 ρ m bl (vs.flatMap fI) (vs.flatMap jF) g∨w.heap.size<=g) (λg=>w.heap.size<=g) w' c.c.res rs us/\e= .returned (lV (lG c.gr us)))
 (hb:b9 n bl.length ρ bl) (hw:Mem w0 ρ m bl w) (hv:∀v∈vs,V.ok n bl.length ρ v) (hr:dh ρ m vs xs) (ah:(c.qF n vs bl k).holds S L G ρ) (hk:pd S L w0 k n bl.length ρ m G R'):
 gU P f CH w R':=by
 unfold eP.qF at ah;obtain⟨aD,n1,ls,fl,dM,⟨g1,g2,g3⟩,ah⟩:=Mx (S:=S) (L:=L) hb hw hv hr G _ ah;cases hq:(kF c.c.res&&(!(c.c.res.any bP.jk)||oi vs))with
 |false=>rw[hq]at ah;exact ah.elim
 |true=>
  rw[hq]at ah;simp only[cond_true]at ah;obtain⟨gP,ah⟩:=preM_holds ah;simp only[T.holds]at ah;simp only[aO,oA,fZ]at hq;refine(hc _ g2 gP (g3 _ λ_ h=>h)).mono ?_
  rintro e w' ⟨he,rs,us,r1,r2,r3,rfl⟩
  have ah:=kC ah r1 (cd _ _ r2);have hb1:=hb.ext dM fl (aW bl.length);have Ox:=(hw.grow he).dP hb dM;have db:agree n1 aD (bf aD n1 rs):=agree.bf rs n1 aD;have hb2:=hb1.ext db (Cl n1 (cg c.c.res).length) (aW bl.length);have x6:=Ox.dP hb1 db;have hA:fF (bf aD n1 rs) n1 rs:=fF.bf aD n1 rs;have Ej:rs.length=(cg c.c.res).length:=gi r1;have lJ:=dM.trans db fl;have xw:cQ n bl.length ρ m (n1+(cg c.c.res).length) bl.length (bf aD n1 rs) m:=⟨by omega,lJ,aW _,λ_ _=>rfl⟩;have fv:∀(i:Nat) (p:ao),bl[i]?=some p->aQ (bf aD n1 rs) p.1=aQ ρ p.1:=λi p hi=>mq (hb p (cZ hi)) lJ;have tR:∀(i:Nat) (p:ao),bl[i]?=some p->w.heap.size<=m i->aQ ρ p.1=0:=λi p hi eR=>by
   by_cases h0:aQ ρ p.1=0
   ·exact h0
   ·have:=hw.lt hi h0;omega
  have fin:∀aI:List ao,b9 (n1+(cg c.c.res).length) aI.length (bf aD n1 rs) aI->Mem w0 (bf aD n1 rs) m aI w'->aI.length=bl.length->
   (∀(i:Nat) (p:ao),aI[i]?=some p->(oE w0 ρ m bl (vs.flatMap fI) (vs.flatMap jF) (m i)∨w.heap.size<=m i)->(c.c.res.any bP.jk)=true->aQ (bf aD n1 rs) p.1<=1)->
   (∀(i:Nat) (p:ao),aI[i]?=some p->w.heap.size<=m i->aQ (bf aD n1 rs) p.1=0)->(∀g,w.heap.size<=g->ni w0 (bf aD n1 rs) m aI w' g)->
   (nU c.c.res n1 (n1+(cg c.c.res).length) [] aI λn2 us gC=>Dl c.gr us λx=>k n2 (pK x) gC).holds S L G (bf aD n1 rs)->R' (.returned (lV (lG c.gr us))) w':=λaI hb' nA hlen dj Nq ki ah=>by
   have hF:∀g,(oE w0 ρ m bl (vs.flatMap fI) (vs.flatMap jF) g∨w.heap.size<=g)->w0.ex g∨w0.ro g∨w0.r.heap.size<=g:=λg hg=>by
    rcases hg with(hg|hg)|hg
    ·exact hg.2
    ·exact hg.1
    ·exact .inr (.inr (gk hw.ew hg))
   have hN:∀g,w.heap.size<=g->w0.b.heap.size<=g/\w0.r.heap.size<=g:=λg hg=>⟨gk hw.ext.size hg,gk hw.ew hg⟩;have h1:(c.c.res.all λb=> !b.jk)=true∨∀(i:Nat) (p:ao),aI[i]?=some p->(oE w0 ρ m bl (vs.flatMap fI) (vs.flatMap jF) (m i)∨w.heap.size<=m i)->aQ (bf aD n1 rs) p.1<=1:=by
    cases lN:c.c.res.any bP.jk with
    |true=>exact .inr λi p hi hf=>dj i p hi hf lN
    |false=>
     left
     rw[pQ];intro b hb;cases dQ:b.jk with
     |false=>rfl
     |true=>rw[List.any_eq_true.2 ⟨b,hb,dQ⟩]at lN;cases lN
   obtain⟨n',ag,m',jH,gC,p1,bo,bU,c6,dF,eD⟩:=rY (S:=S) (L:=L) hF hN (l:=c.c.res) (us:=[]) (vals:=us) hq.1 hb' nA hA r1 (aW _) r3 h1 (.inr Nq) (.inr ki) (λu hu=>by simp at hu) ah;obtain⟨x,hx1,hx2⟩:=gK_holds eD;obtain⟨kR,na⟩:=Hu (m:=m') dF hx1;have jA:=Jk (m:=m') kR (vals:=lG c.gr us) (by rw[na];congr 1);exact hk n' (pK x) gC G ag m' w' (lV (lG c.gr us)) (xw.trans (hlen▸p1)) (dJ.refl _ _) jA.1 jA.2 bo bU hx2
  cases lN:c.c.res.any bP.jk with
  |false=>
   rw[lN]at ah;exact fin bl hb2 x6 rfl (λ_ _ _ _ h=>by rw[lN]at h;cases h) (λi p hi eR=>by rw[fv i p hi];exact tR i p hi eR) (λg hg=>(hw.ve he hg).dP hb lJ) ah
  |true=>
   rw[lN]at ah hq;obtain⟨f1,f2,f3,f4⟩:=zU (bs:=vs.flatMap fI) x6 hb2;have jV:oi vs=true:=by
    rcases hq.2 with h|h
    ·cases h
    ·exact h
   refine fin _ (by rw[f3];exact f2) f1 f3 (λi p hi hf _=>?_) (λi p hi eR=>?_) (λg hg=>(zU (bs:=vs.flatMap fI) (hw.dP hb lJ) hb2).1.ve he hg) ah
   ·obtain⟨p',h1,h2,h3⟩:=f4 i p hi;rw[fv i p' h1]at h2;rcases hf with(⟨⟨b,DO,DN,q,nz,n6,Oh⟩,_⟩|n5)|eR
    rotate_left
    ·rcases mC (aQ ρ p'.1) 2 with bb|bb
     ·omega
     ·exact absurd rfl (n5.2 i p' h1 bb)
    rotate_left
    ·obtain⟨aM,o,ro,len,cap,kL⟩:=Pt jV DO;rcases hw.inj i b p' q h1 nz (by rw[DN])with h5|h5|h5|h5
     ·subst h5;rw[h1]at nz;cases nz;cases ho:bT p'.1 with
      |false=>exact h3 DO ho
      |true=>
       have:=Oh ho;rw[Ps jV]at this;simp at this
     ·omega
     ·omega
     ·exact absurd h5 n6
    ·have:=tR i p' h1 eR;omega
   ·obtain⟨p',h1,h2,_⟩:=f4 i p hi;rw[fv i p' h1]at h2;have:=tR i p' h1 eR;omega
theorem eP.Gl {c:eP} {spec:List Int->List Int->Prop} (hc:c.dZ P w0.b spec) (cd:∀zs rs,spec zs rs->S c.c.id zs rs) (n:Nat) (vs:List V) (bl:List ao) (k:RK) (G:df) (ρ:Env) (m:Nat->Nat) (w:ai) (xs:List aA) (R':pT->ai->Prop)
 (hb:b9 n bl.length ρ bl) (hw:Mem w0 ρ m bl w) (hv:∀v∈vs,V.ok n bl.length ρ v) (hr:dh ρ m vs xs) (ah:(c.qF n vs bl k).holds S L G ρ) (hk:pd S L w0 k n bl.length ρ m G R'):
 gU P c.c.f (lG c.vq xs).toArray w R':=
 eP.Gk cd n vs bl k G ρ m w xs R' (λzs h1 h2 h3=>hc.2 _ w xs zs hw.ext h1 h2 h3) hb hw hv hr ah hk
theorem eP.abb {c:eP} {spec:List Int->List Int->Prop} (hc:c.dZ P w0.b spec) (cd:∀zs rs,spec zs rs->S c.c.id zs rs) (n:Nat) (vs:List V) (bl:List ao) (k:RK) (G:df) (ρ:Env) (m:Nat->Nat) (w:ai) (xs:List aA) (R':pT->ai->Prop)
 (hb:b9 n bl.length ρ bl) (hw:Mem w0 ρ m bl w) (hv:∀v∈vs,V.ok n bl.length ρ v) (hr:dh ρ m vs xs) (ah:(c.K9 n vs bl k).holds S L G ρ) (hk:pd S L w0 k n bl.length ρ m G R'):
 gU P c.c.f (lG c.vq xs).toArray w R':=by
 unfold eP.K9 at ah;cases hq:(c.c.res.any bP.jk&& !oi vs)with
 |false=>rw[hq]at ah;exact c.Gl hc cd n _ _ k G ρ m w xs R' hb hw hv hr ah hk
 |true=>
  rw[hq]at ah;simp only[cond_true]at ah;obtain⟨aD,n1,q,hn,ha,⟨g1,g2,g3,g4,g5⟩,ah⟩:=QN (S:=S) (L:=L) (ds:=c.c.args) hw hb hv hr G _ ah;refine c.Gl hc cd n1 _ _ k G aD m w xs R' g2 g1 (λv hv=>by rw[g3];exact g4 v hv) g5 ah ?_;rw[g3];intro n' v aI dg ag m' w' val h1 h2 h3 h4 h5 h6 h7;exact hk n' v aI dg ag m' w' val (cQ.trans ⟨hn,ha,aW _,λ_ _=>rfl⟩ h1) (λl hl=>h2 l (uQ hl hn)) h3 h4 h5 h6 h7
theorem eP.th {c:eP} {spec:List Int->List Int->Prop} (hc:c.dZ P w0.b spec) (cd:∀zs rs,spec zs rs->S c.c.id zs rs) (n:Nat) (vs:List V) (bl:List ao) (k:RK) (G:df) (ρ:Env) (m:Nat->Nat) (w:ai) (xs:List aA) (R':pT->ai->Prop)
 (hb:b9 n bl.length ρ bl) (hw:Mem w0 ρ m bl w) (hv:∀v∈vs,V.ok n bl.length ρ v) (hr:dh ρ m vs xs) (ah:(c.E n vs bl k).holds S L G ρ) (hk:pd S L w0 k n bl.length ρ m G R'):
 (callFunc c.c.f xs.toArray).run P w= .ok (.enter c.c.f xs.toArray) w/\gU P c.c.f xs.toArray w R':=by
 refine⟨hc.1 _ _,?_⟩;unfold eP.E at ah;cases hq:m7 c.vq vs with
 |none=>rw[hq]at ah;exact ah.elim
 |some us=>
  rw[hq]at ah;obtain⟨kR,fx,na,wy⟩:=QR hv hr hq;have ah:(c.Sl n us bl k).holds S L G ρ:=ah;rw[<-wy];exact c.abb hc cd n _ _ k G ρ m w fx R' hb hw kR na ah hk
theorem Dn {bc:hW} (fS:l9 S L w0 P bc):∀{l:List eP},(∀p∈l,p.dZ P w0.b (S p.c.id))->l9 S L w0 P (tH l bc)
 |[],_=>fS
 |p::l,h=>λf g hf=>by
  unfold tH at hf;cases hb:aG p.c.f f with
  |true=>
   rw[hb]at hf;simp only[cond_true,aK]at hf;have:=bA hb;subst this;subst hf;intro n vs bl k G ρ m w xs R' h1 h2 h3 h4 h5 h6;have h5:(cond (Mt p vs) (p.E n vs bl k) (match tH l bc p.c.f with
    |some g=>g n vs bl k
    |none=> .stuck)).holds S L G ρ:=h5
   cases hq:Mt p vs with
   |true=>
    rw[hq]at h5;exact eP.th (h p (by simp)) (λ_ _ h=>h) n vs bl k G ρ m w xs R' h1 h2 h3 h4 h5 h6
   |false=>
    rw[hq]at h5;simp only[cond_false]at h5;cases hr:tH l bc p.c.f with
    |none=>rw[hr]at h5;exact h5.elim
    |some ba=>
     rw[hr]at h5;exact Dn fS (λp hp=>h p (cF _ hp)) p.c.f ba hr n vs bl k G ρ m w xs R' h1 h2 h3 h4 h5 h6
  |false=>
   rw[hb]at hf;exact Dn fS (λp hp=>h p (cF _ hp)) f g hf
theorem eP.vT {wb:ai} {gl:dA} {c:eP} {bc:hW} {cal:dY} {li:cB->Nat->Option cX} {rounds d:Nat} {spec:List Int->List Int->Prop} (hm:P.follows .mixedOrders=true) (cy:∀r ex ro,fq S P gl ⟨wb,r,ex,ro,[]⟩ cal) (hg:eQ gl ⟨wb,wb,λ_=>False,λ_=>False,[]⟩)
 (fS:∀(L:V->Env->Prop) (r:ai) (ro:Nat->Prop),l9 S L ⟨wb,r,λ_=>False,ro,[]⟩ P bc) (hf:∀args w,(callFunc c.c.f args).run P w= .ok (.enter c.c.f args) w)
 (ht:oJ (cg c.c.args) λzs=>(c.tree bc P gl cal li rounds d).holds S (pc λrs=>bd (cg c.c.res) rs/\spec zs rs) (λ_ _=>False) (bf (λ_=>0) 0 zs)):c.dZ P wb spec:=by
 refine⟨hf,λF w vs zs hw hz xV hat=>?_⟩;have ah:=kC ht hz;have mU:=gi hz;unfold eP.tree at ah;cases hq:(kF c.c.args&& !(c.c.args.any bP.jW))with
 |false=>rw[hq]at ah;exact ah.elim
 |true=>
  rw[hq]at ah;simp only[cond_true]at ah;have ah:=preA_holds ah (by rw[<-mU,EO];exact xV);simp only[aO,fZ]at hq;have kL:Mem ⟨wb,w,λ_=>False,F,[]⟩ (bf (λ_=>0) 0 zs) (λ_=>0) [] w:=⟨hw,rfl,rfl,rfl,aW _,λ_ _ _=>rfl,λi cs t h=>by simp at h,λi sh off code cap kind t h=>by simp at h,λi j p q h=>by simp at h⟩;have hall:(c.c.args.all λb=> !b.jW)=true:=by
   rw[pQ];intro b hb;cases dQ:b.jW with
   |false=>rfl
   |true=>rw[List.any_eq_true.2 ⟨b,hb,dQ⟩]at hq;cases hq.2
  obtain⟨n',ag,m',us,bl,p1,bo,bU,c6,dF,eD⟩:=rY (S:=S) (L:=_) (w0:=⟨wb,w,λ_=>False,F,[]⟩) (F:=F) (N:=λ_=>False) (λg hg=> .inr (.inl hg)) (λg hg=>hg.elim) (l:=c.c.args) (s:=0) (us:=[]) (bl:=[]) (m:=λ_=>0) hq.1 (λp hp=>by simp at hp) kL (fF.bf _ 0 zs) hz (by omega) hat (.inr λi p h=>by simp at h) (.inl hall) (.inl hall) (λu hu=>by simp at hu) ah;have D2:eQ gl ⟨wb,w,λ_=>False,F,[]⟩:=hg;obtain⟨x,hx1,hx2⟩:=gK_holds eD;obtain⟨kR,na⟩:=Hu (m:=m') dF hx1;refine(CW (S:=S) (w0:=⟨wb,w,λ_=>False,F,[]⟩) rfl hm (cy w (λ_=>False) F) D2 (fS _ _ _) d c.c.f n' (x.map V.w) bl _ _ ag m' w (lG c.vq vs) _ bo bU (λv hv=>by
   obtain⟨u,hu,rfl⟩:=List.mem_map.1 hv;exact kR u hu) (Gq (by rw[na];congr 1)) hx2 ?_).2
  intro n2 v aI dg bp m2 w' val h1 h2 h3 h4 h5 h6 h7;obtain⟨eO,n3,os,ra,pr,⟨xs,hx1,hx2⟩,hl⟩:=apj (S:=S) (w0:=⟨wb,w,λ_=>False,F,[]⟩) (λg hg=>hg) h5 h6 h3 h4 dg _ h7;have hl:pc _ (sG os) eO:=hl;rw[Gs]at hl;refine⟨?_,os.map (O.den eO),xs,hl.1,hl.2,?_,by rw[hx1]⟩
  ·have hblk:∀i:Nat,i<w.heap.size->w'.heap[i]?=w.heap[i]?:=λi hi=>h6.gg i hi λh=>h;exact⟨h6.jf,h6.ji,h6.iy,h6.ew,λa ha=>by simp only[jL,hblk a.block ha],λa ha=>by simp only[s6,hblk a.block ha],hblk⟩
  ·exact dx.vT.w5 (λg hg=>by
    rcases hg with hg|hg|hg
    ·exact hg.elim
    ·exact .inl hg
    ·exact .inr hg) (λg hg=>hg) hx2
end
end Go.bg
namespace Go.bg
open M Go.RowKit
variable {S:Nat->List Int->List Int->Prop} {L:V->Env->Prop} {P:bk} {gl:dA} {cal:dY}
def K8 (P:bk) (f:cB):Prop:=
 (∀args w,(callFunc f args).run P w= .ok (.enter f args) w)/\
 ∀(l bs oL:Nat) (sv:aA) (g off len cap c:Nat) (J:Nat->ai->Prop) (W:ai),
  0<c->len<=9223372036854775807->c∣len->len<=cap->c<=9223372036854775807->
  (sv= .slice (some ⟨g,off,none⟩) len cap∨((∃p,sv= .slice p 0 0)/\len=0))->
  (∀i W,J i W->W.cell? ⟨bs,0,none⟩=some sv/\W.cell? ⟨oL,0,none⟩=some (.int .i64 c))->
  (∀i W,J i W->J i W.drew)->
  (∀i W,J i W->c*i<len->YieldAt ze 0 P l #[.slice (some ⟨g,off+c*i,none⟩) c c] W λe W'=>e= .returned (.bool true)/\J (i+1) W')->
  J 0 W->CallsIn ze 0 P f #[.func (.yield l) #[] #[],.pointer (some ⟨bs,0,none⟩),.pointer (some ⟨oL,0,none⟩)] W λe W'=>(∃v,e= .returned v)/\J (len/c) W'
def CA (F:Nat->Prop) (w:ai) (F':Nat->Prop) (w':ai):Prop:=∀g,F g->∀cs t fz,w.heap[g]?=some (.cells cs t fz)->F' g/\w'.heap[g]?=some (.cells cs t fz)
theorem qH.pI {F F':Nat->Prop} {w w':ai} {sh:List ay} {rows:List (List Int)} {v:aA} (h:qH F w sh rows v) (hf:CA F w F' w'):qH F' w' sh rows v:=by
 rcases h with h|⟨g,o,cap,cells,t,fz,h1,h2,h3,h4,h5⟩
 ·exact .inl h
 ·obtain⟨k1,k2⟩:=hf g h3 _ _ _ h4;exact .inr ⟨g,o,cap,cells,t,fz,h1,h2,k1,k2,h5⟩
theorem p6.pI {F F':Nat->Prop} {w w':ai} {c:ay} {z:Int} {v:aA} (h:p6 F w c z v) (hf:CA F w F' w'):p6 F' w' c z v:=by
 cases c with
 |sub k=>exact qH.pI (F:=F) (w:=w) h hf
 |_=>exact h
theorem dX.pI {F F':Nat->Prop} {w w':ai} (hf:CA F w F' w'):∀{sh:List ay} {row:List Int} {vs:List aA},dX F w sh row vs->dX F' w' sh row vs
 |[],[],[],_=>trivial
 |c::sh,z::r,v::vs,h=>⟨h.1.pI hf,dX.pI hf h.2⟩
 |[],_::_,_,h=>h.elim
 |[],[],_::_,h=>h.elim
 |_::_,[],_,h=>h.elim
 |_::_,_::_,[],h=>h.elim
theorem eH.pI {F F':Nat->Prop} {w w':ai} (hf:CA F w F' w') {sh:List ay}:∀{rows:List (List Int)} {vs:List aA},eH F w sh rows vs->eH F' w' sh rows vs
 |[],_,h=>h
 |row::rows,vs,h=>by
  obtain⟨a,b,h1,h2,h3⟩:=h;exact⟨a,b,h1,h2.pI hf,eH.pI hf h3⟩
theorem ig.pI {F F':Nat->Prop} {w w':ai} {cells:Array aA} {off:Nat} {sh:List ay} {rows:List (List Int)} (h:ig F w cells off sh rows) (hf:CA F w F' w'):ig F' w' cells off sh rows:=by
 obtain⟨h1,pre,vs,post,h2,h3,h4⟩:=h;exact⟨h1,pre,vs,post,h2,h3,h4.pI hf⟩
theorem Ug {b w w':ai} (h:b.Extends w) (h1:w'.os=w.os) (h2:w'.tape=w.tape) (h3:w'.output=w.output) (h4:w.heap.size<=w'.heap.size) (h5:∀k,k<b.heap.size->w'.heap[k]?=w.heap[k]?):b.Extends w':=
 ⟨h1.trans h.os,h2.trans h.tape,h3.trans h.output,gk h.size h4,λa ha=>(World.cell?_of_block (h5 _ ha)).trans (h.cell a ha),λa ha=>(World.frozen?_of_block (h5 _ ha)).trans (h.frozen a ha),λi hi=>(h5 i hi).trans (h.block i hi)⟩
theorem Mem.yN {b r r':ai} {ex ro:Nat->Prop} {ds xd:List uS} {ρ:Env} {m:Nat->Nat} {bl:List ao} {w w':ai} (h:Mem ⟨b,r,ex,ro,ds⟩ ρ m bl w) (l:Nat) (hl:b.heap.size<=l) (hex:¬ex l) (hlt:l<r.heap.size)
 (hr:r'.os=r.os/\r'.tape=r.tape/\r'.output=r.output/\r'.heap.size=r.heap.size) (hw:w'.os=w.os/\w'.tape=w.tape/\w'.output=w.output/\w'.heap.size=w.heap.size)
 (h1:∀k,k≠l->r'.heap[k]?=r.heap[k]?) (h2:∀k,k≠l->w'.heap[k]?=w.heap[k]?) (h3:w'.heap[l]?=r'.heap[l]?) (hc:∀o:Obj,r.heap[l]?=some o->o.isCells=false):Mem ⟨b,r',ex,ro,xd⟩ ρ m bl w':=by
 have aid:w.heap[l]?=r.heap[l]?:=h.gg l hlt hex;have ne:∀{g:Nat} {cs:Array aA} {t:aS} {fz:Nat×Nat},w.heap[g]?=some (.cells cs t fz)->g≠l:=λ{g cs t fz} hg e=>by
  subst e;rw[aid]at hg;have:=hc _ hg;simp[Obj.isCells]at this
 refine⟨Ug h.ext hw.1 hw.2.1 hw.2.2.1 (by omega) (λk hk=>h2 k (by simp only at hl hk;omega)),by rw[hw.1,h.jf];exact hr.1.symm,by rw[hw.2.1,h.ji];exact hr.2.1.symm,by rw[hw.2.2.1,h.iy];exact hr.2.2.1.symm,by have:=h.ew;simp only at this⊢;omega,λi hi hx=>?_,λi cs t hi ho=>?_,λi sh off code cap kind t hi=>?_,h.inj⟩
 ·by_cases e:i=l
  ·subst e;exact h3
  ·rw[h2 i e,h1 i e];exact h.gg i (by simp only at hi⊢;omega) hx
 ·obtain⟨g1,g2,yI,gQ,g3⟩:=h.blk i cs t hi ho;refine⟨g1,g2.imp id λh=>?_,yI,gQ,by rw[h2 _ (ne g3)];exact g3⟩;simp only at h⊢;omega
 ·intro hk;obtain⟨g1,g2⟩:=h.rws i sh off code cap kind t hi hk;refine⟨g1,λcK=>?_⟩;obtain⟨k1,cells,t',fz,k2,k3,k4⟩:=g2 cK;refine⟨k1.imp id (·.imp id λh=>by simp only at h⊢;omega),cells,t',fz,by rw[h2 _ (ne k2)];exact k2,⟨k3.1,k3.2.pI λg hg cs t fz hc=>⟨⟨hg.1.imp id (·.imp id λh=>by simp only at h⊢;omega),hg.2⟩,by rw[h2 _ (ne hc)];exact hc⟩⟩,λDt=>?_⟩;obtain⟨c0,jX,mo,nC,pG,kN⟩:=k4 Dt;exact⟨c0,jX,mo,nC,pG,kN.imp id λh=>by simp only at h⊢;omega⟩
structure Sub (w1 w0:cN):Prop where
 b:w1.b=w0.b
 os:w1.r.os=w0.r.os
 tape:w1.r.tape=w0.r.tape
 out:w1.r.output=w0.r.output
 size:w0.r.heap.size<=w1.r.heap.size
 ex:∀g,w1.ex g∨w1.r.heap.size<=g->w0.ex g∨w0.r.heap.size<=g
 ro:∀g,w1.ro g->w0.ro g
 gg:∀i,i<w0.r.heap.size->¬w0.ex i->w1.r.heap[i]?=w0.r.heap[i]?
theorem Mem.less {w1 w0:cN} {ρ:Env} {m:Nat->Nat} {bl:List ao} {w:ai} (h:Mem w1 ρ m bl w) (s:Sub w1 w0):Mem w0 ρ m bl w:=by
 refine⟨s.b▸h.ext,h.jf.trans s.os,h.ji.trans s.tape,h.iy.trans s.out,gk s.size h.ew,λi hi hx=>?_,λi cs t hi ho=>?_,λi sh off code cap kind t hi=>?_,h.inj⟩
 ·have hne:¬w1.ex i:=λe=>by
   rcases s.ex i (.inl e)with e|e
   ·exact hx e
   ·omega
  exact(h.gg i (uQ hi s.size) hne).trans (s.gg i hi hx)
 ·obtain⟨g1,g2,g3⟩:=h.blk i cs t hi ho;exact⟨s.b▸g1,s.ex _ g2,g3⟩
 ·intro hk;obtain⟨g1,g2⟩:=h.rws i sh off code cap kind t hi hk;refine⟨g1,λcK=>?_⟩;obtain⟨k1,cells,t',fz,k2,k3,k4⟩:=g2 cK;refine⟨?_,cells,t',fz,k2,⟨k3.1,k3.2.pI λg hg cs t fz hc=>⟨⟨?_,hg.2⟩,hc⟩⟩,λDt=>?_⟩
  rotate_left
  ·rcases hg.1 with k1|k1|k1
   ·exact(s.ex _ (.inl k1)).imp id .inr
   ·exact .inr (.inl (s.ro _ k1))
   ·exact(s.ex _ (.inr k1)).imp id .inr
  rotate_left
  ·rcases k1 with k1|k1|k1
   ·exact(s.ex _ (.inl k1)).imp id .inr
   ·exact .inr (.inl (s.ro _ k1))
   ·exact(s.ex _ (.inr k1)).imp id .inr
  ·obtain⟨c0,jX,mo,nC,pG,kN⟩:=k4 Dt;exact⟨c0,jX,mo,nC,s.b▸pG,s.ex _ kN⟩
def narrow (w0:cN) (W:ai) (ds:List uS):cN:=⟨w0.b,W,λg=>(w0.ex g∨w0.r.heap.size<=g)/\∃o:Obj,W.heap[g]?=some o/\o.isCells=true,w0.ro,ds⟩
theorem Mem.narrow {w0:cN} {ρ:Env} {m:Nat->Nat} {bl:List ao} {w:ai} (h:Mem w0 ρ m bl w) (ds:List uS):Mem (narrow w0 w ds) ρ m bl w:=by
 refine⟨h.ext,rfl,rfl,rfl,aW _,λ_ _ _=>rfl,λi cs t hi ho=>?_,λi sh off code cap kind t hi=>?_,h.inj⟩
 ·obtain⟨g1,g2,yI,gQ,g3⟩:=h.blk i cs t hi ho;exact⟨g1,.inl ⟨g2,_,g3,rfl⟩,yI,gQ,g3⟩
 ·intro hk;obtain⟨g1,g2⟩:=h.rws i sh off code cap kind t hi hk;refine⟨g1,λcK=>?_⟩;obtain⟨k1,cells,t',fz,k2,k3,k4⟩:=g2 cK;refine⟨?_,cells,t',fz,k2,⟨k3.1,k3.2.pI λg hg cs t fz hc=>⟨⟨?_,hg.2⟩,hc⟩⟩,λDt=>?_⟩
  rotate_left
  ·rcases hg.1 with k1|k1|k1
   ·exact .inl ⟨.inl k1,_,hc,rfl⟩
   ·exact .inr (.inl k1)
   ·exact .inl ⟨.inr k1,_,hc,rfl⟩
  rotate_left
  ·rcases k1 with k1|k1|k1
   ·exact .inl ⟨.inl k1,_,k2,rfl⟩
   ·exact .inr (.inl k1)
   ·exact .inl ⟨.inr k1,_,k2,rfl⟩
  ·obtain⟨c0,jX,mo,nC,pG,kN⟩:=k4 Dt;exact⟨c0,jX,mo,nC,pG,.inl ⟨kN,_,k2,rfl⟩⟩
theorem Sub.narrow {w0:cN} {ρ:Env} {m:Nat->Nat} {bl:List ao} {w:ai} (h:Mem w0 ρ m bl w) (ds:List uS):Sub (narrow w0 w ds) w0:=
 ⟨rfl,h.jf,h.ji,h.iy,h.ew,λg hg=>by
  rcases hg with hg|hg
  ·exact hg.1
  ·exact .inr (gk h.ew hg),λ_ h=>h,λi hi hx=>h.gg i hi hx⟩
theorem Sub.yN {w0:cN} {b r r':ai} {ex ro:Nat->Prop} {ds xd:List uS} (s:Sub ⟨b,r,ex,ro,ds⟩ w0) (l:Nat) (hl:w0.r.heap.size<=l) (hr:r'.os=r.os/\r'.tape=r.tape/\r'.output=r.output/\r'.heap.size=r.heap.size)
 (h1:∀k,k≠l->r'.heap[k]?=r.heap[k]?):Sub ⟨b,r',ex,ro,xd⟩ w0:=
 ⟨s.b,hr.1.trans s.os,hr.2.1.trans s.tape,hr.2.2.1.trans s.out,by have:=s.size;simp only at this⊢;omega,λg hg=>s.ex g (hg.imp id λh=>by simp only at h⊢;omega),s.ro,λi hi hx=>by
  rw[h1 i (by omega)];exact s.gg i hi hx⟩
theorem Mem.ds {b r:ai} {ex ro:Nat->Prop} {ds xd:List uS} {ρ:Env} {m:Nat->Nat} {bl:List ao} {w:ai} (h:Mem ⟨b,r,ex,ro,ds⟩ ρ m bl w):Mem ⟨b,r,ex,ro,xd⟩ ρ m bl w:=
 ⟨h.ext,h.jf,h.ji,h.iy,h.ew,h.gg,h.blk,h.rws,h.inj⟩
theorem fq.ds {b r:ai} {ex ro:Nat->Prop} {ds xd:List uS} (h:fq S P gl ⟨b,r,ex,ro,ds⟩ cal):fq S P gl ⟨b,r,ex,ro,xd⟩ cal:=λf g hf L n ρ m bl vs xs h1 h2 h3 h4=>by
 obtain⟨w,hw⟩:=h2
 exactλG zf ah=>by
  obtain⟨ag,n',v,k1,k2,⟨k3,val,k4,oe⟩,mY⟩:=h f g hf L n ρ m bl vs xs h1 ⟨w,hw.ds⟩ h3 h4 G zf ah;exact⟨ag,n',v,k1,k2,⟨k3,val,k4,λw hw=>oe w hw.ds⟩,mY⟩
noncomputable def PT (P:bk) (gl:dA) (cal:dY) (inl:hX) (li:Nat->Option cX) (rounds:Nat) (cells:List (Nat×Nat×Int×Int)) (r7:cB) (g:Operand) (ps:Array Tmp) (assign body:Code) (n:Nat) (tm:List V) (bl:List ao) (k:fy):T:=
 match b8 tm g,ps.toList,hb cells 0 (n+1) bl with
 | .mK f [.ptr bs 0,.ptr oL 0],[p],some (dr,l2,b2)=>match bl[bs]?,bl[oL]?,dr[bs]?,dr[oL]? with
  |some ([.sl b aM o ro len cap],_),some ([.int .i64 N],_),some ([xs],_),some ([Fz],_)=>match N.l.du with
   |some c=>cond (aG f r7&&decide (0<c)&&decide (c<=9223372036854775807)&&aG aM 1&&ko assign&&ko body&&kZ tm tm&&kY dr dr&&A.beq xs (.sl b aM o ro len cap)&&A.beq Fz (.int .i64 N)&&bT [xs]&&bT [Fz])
    (.oN 70 [len,.const c] (.loop n (l2++[.const 0]) (n+1) (b2++[(0,9223372036854775807)])
      (.tv (.lt ((aa.var (n+1+l2.length)).smul c) len)
        (kX P gl cal inl li rounds assign (n+1+l2.length+1) (om tm p (.w (.one (.sl b 1 o (ro.add ((aa.var (n+1+l2.length)).smul c)) (.const c) (.const c))))) dr λx n' bz aI=>match x with
          | .normal=>kX P gl cal inl li rounds body n' bz aI λx n' bz aI=>match x with
           | .normal=>match hb cells 0 (n+1) (aI.take bl.length)with
            |some (mH,v2,_)=>cond (kY dr mH) (.again n (v2++[(aa.var (n+1+l2.length)).add (.const 1)])) .stuck
            |none=> .stuck
           |_=> .stuck
          |_=> .stuck)
        (k (n+1+l2.length+1) tm dr)))) .stuck
   |none=> .stuck
  |_,_,_,_=> .stuck
 |_,_,_=> .stuck
theorem V4 {eC:List Nat}:∀(tm:List V) (i s:Nat),(∀j,i<=j->j<i+tm.length->eC.any (aG j)=true)->hs eC [] i s tm=some (tm,[],[])
 |[],_,_,_=>rfl
 |v::r,i,s,h=>by
  unfold hs;rw[h i (aW _) (by simp),V4 r (i+1) s λj h1 h2=>h j (by omega) (by simp only[cS];omega)];rfl
theorem WY (tm:List V) (s:Nat):hs (da tm.length) [] 0 s tm=some (tm,[],[]):=
 V4 tm 0 s λj _ h=>List.any_eq_true.2 ⟨j,List.mem_range.2 (by omega),Ck j⟩
theorem sJ (w:ai) (l:Nat) (o:Obj):(w.putObj l o).os=w.os/\(w.putObj l o).tape=w.tape/\(w.putObj l o).output=w.output/\(w.putObj l o).heap.size=w.heap.size:=⟨rfl,rfl,rfl,RF⟩
theorem Mem.cell0 {w0:cN} {ρ:Env} {m:Nat->Nat} {bl:List ao} {w:ai} (h:Mem w0 ρ m bl w) {i:Nat} {x:A} {t:aS×Bool} (hi:bl[i]?=some ([x],t)) (ho:bT [x]=true):w.cell? ⟨m i,0,none⟩=some (x.den ρ m):=by
 obtain⟨_,_,r,_,h3⟩:=h.blk i _ t hi ho;simp[jL,h3]
def K7 (I:List Int->Prop) (w0:cN) (W1:ai) (n:Nat) (ρ:Env) (m:Nat->Nat) (tm:List V) (dr:List ao) (b2:List (Int×Int)) (k2:Nat) (tmps:Array aA) (i:Nat) (W:ai):Prop:=
 ∃zs,zs.length=k2/\bd (b2++[(0,9223372036854775807)]) (zs++[(i:Int)])/\I (zs++[(i:Int)])/\R (narrow w0 W1 []) (n+1+k2+1) (bf ρ (n+1) (zs++[(i:Int)])) m tm dr {tmps:=tmps,defers:=[]} W
theorem ao8 {w0:cN} {inl:hX} {li:Nat->Option cX} {rounds:Nat} {cells:List (Nat×Nat×Int×Int)} {r7:cB} {g:Operand} {ps:Array Tmp} {assign body:Code} (jS:K8 P r7) (hm:P.follows .mixedOrders=true)
 (cy:∀r ex ro,fq S P gl ⟨w0.b,r,ex,ro,[]⟩ cal) (hg:eQ gl w0) (ir:∀r ex ro,lx S L ⟨w0.b,r,ex,ro,[]⟩ P inl)
 {n:Nat} {ρ:Env} {m:Nat->Nat} {tm:List V} {bl:List ao} {a:Act} {w:ai} {G:df} {k:fy} {Q:Exit->Act->ai->Prop} (h:R w0 n ρ m tm bl a w) (mQ:w0.ds=[])
 (ah:(PT P gl cal inl li rounds cells r7 g ps assign body n tm bl k).holds S L G ρ)
 (hk:∀n' ag bz aI dg w1 D a' w',cQ n bl.length ρ m n' (kA aI) ag m->dJ n G dg->Sub w1 w0->¬w1.ex D->w1.r.heap[D]?=some (.deferred (some []))->w0.r.heap.size<=D->w0.b.heap.size<=D->w1.ds=[{target:= .collected D,args:=#[]}]->
   R w1 n' ag m bz aI a' w'->(k n' bz aI).holds S L dg ag->Q .normal a' w'):(Code.rangeFunc g ps assign body).wpIn ze 0 P Q a w:=by
 unfold PT at ah;split at ah
 rotate_left
 ·exact ah.elim
 rename_i f bs oL p dr l2 b2 e1 e2 e3;split at ah
 rotate_left
 ·exact ah.elim
 rename_i b aM o ro len cap ts N ayY xs m6 Fz ay5 q1 q2 q3 de;split at ah
 rotate_left
 ·exact ah.elim
 rename_i c hc;generalize gL:(aG f r7&&decide (0<c)&&decide (c<=9223372036854775807)&&aG aM 1&&ko assign&&ko body&&kZ tm tm&&kY dr dr&&A.beq xs (.sl b aM o ro len cap)&&A.beq Fz (.int .i64 N)&&bT [xs]&&bT [Fz])=mJ at ah;cases mJ with
 |false=>exact ah.elim
 |true=>
 simp only[aO,decide_eq_true_eq]at gL;obtain⟨⟨⟨⟨⟨⟨⟨⟨⟨⟨⟨c1,c2⟩,c3⟩,c4⟩,c5⟩,fi⟩,ke⟩,mI⟩,p5⟩,w9⟩,acI⟩,acJ⟩:=gL;have c1:=bA c1;have c4:=bA c4;subst c1;subst c4;have p5:=A.beq_eq p5;have w9:=A.beq_eq w9;subst p5;subst w9;simp only[cond_true,T.holds]at ah;obtain⟨Al,I,j9,M4,hB⟩:=ah;have Al:c∣len.den ρ:=by simpa [af,zH,aa.aT]using Al
 have N7:A.ok n bl.length ρ (.sl b 1 o ro len cap):=h.b _ (cZ q1) _ (by simp);obtain⟨Nv,⟨rb,nx,Av,HZ⟩,n7⟩:=N7;obtain⟨⟨s1,s2,eS,BS⟩,⟨ayQ,ayR⟩,Qn,YY⟩:=n7;have ag0:a.eval g= .func (.func f) #[] #[.pointer (some ⟨m bs,0,none⟩),.pointer (some ⟨m oL,0,none⟩)]:=by
  have:=(cu h.t g).2;rw[e1]at this;exact this
 have ahI:ps=#[p]:=by rw[<-Array.toArray_toList (xs:=ps),e2]
 subst ahI;refine wpIn_rangeFunc ?_;intro fn Aq;obtain⟨rec,xW⟩:∃rec:LoopState->Option Code->Loop,rec=λst aoD=>{state:=st,pending:=aoD,fn,tmps:=a.tmps,params:=#[p],assign,body,defers:=w.heap.size}:=⟨_,rfl⟩;obtain⟨W1,HD⟩:∃W1,(w.alloc (.deferred (some []))).alloc (.loop (rec .ready none))=W1:=⟨_,rfl⟩;have qd:W1.heap[w.heap.size+1]?=some (.loop (rec .ready none)):=by
  rw[<-HD];have:=avi (w.alloc (.deferred (some []))) (.loop (rec .ready none));rwa [World.size_alloc]at this
 have M5:W1.heap[w.heap.size]?=some (.deferred (some [])):=by
  rw[<-HD];exact(Below.heap_alloc _ _ _ (by simp)).trans (avi w _)
 have tW:w.heap.size+1<W1.heap.size:=(Array.getElem?_eq_some_iff.1 qd).1;have UW:Mem w0 ρ m bl W1:=by rw[<-HD];exact h.a7.grow (((nf w).alloc _).alloc _)
 have hbl:w0.b.heap.size<=w.heap.size:=h.a7.ext.size;have Ej:w0.r.heap.size<=w.heap.size:=h.a7.ew;generalize hl:w.heap.size+1=l at*;generalize hD:w.heap.size=D at*;have xB:∀(k:Nat) (o:Obj),W1.heap[k]?=some o->o.isCells=false->¬(narrow w0 W1 []).ex k:=λk o hk ho ⟨_,cm,h1,h2⟩=>by
  rw[hk]at h1;cases h1;rw[ho]at h2;cases h2
 have abx:R (narrow w0 W1 []) n ρ m tm bl {tmps:=a.tmps,defers:=[]} W1:=⟨h.t,rfl,h.b,UW.narrow []⟩;have H8:∀v∈tm,V.ok n bl.length ρ v:=λv hv=>by
  obtain⟨i,hi⟩:=List.getElem?_of_mem hv;exact(h.t.2 i v hi).1
 have Mk:hb cells 0 (n+1+([]:List aa).length) bl=some (dr,l2,b2):=e3;obtain⟨D9,awU⟩:=DL e3;have head:∀{n':Nat} {ag:Env} {m':Nat->Nat} {aI mH:List ao} {v2:List aa} {qL:List (Int×Int)} {W:ai} {x:aa},bl.length<=aI.length->agree n ρ ag->(∀b,b<bl.length->m' b=m b)->
  R (narrow w0 W1 []) n' ag m' tm aI {tmps:=a.tmps,defers:=[]} W->hb cells 0 (n+1) (aI.take bl.length)=some (mH,v2,qL)->kY dr mH=true->
  v2.length=l2.length/\bd b2 (v2.map (·.den ag))/\R (narrow w0 W1 []) (n+1+l2.length+1) (bf ρ (n+1) (v2.map (·.den ag)++[x.den ag])) m tm dr {tmps:=a.tmps,defers:=[]} W:=λ{n' ag m' aI mH v2 qL W x} k1 k2 k3 k4 oe mY=>by
  obtain⟨c0,jX,mo,_⟩:=Vs (li:={eC:=da tm.length,ints:=[],cells:=cells}) (ext:=[x]) k1 k2 k3 H8 h.b k4 (WY tm (n+1)) Mk (WY tm (n+1)) (v2:=v2) oe ke mY (λ_ h=>h) k4.a7.rws;simp only[eF,y7,lu,jK,cS,ga,ct,et]at c0 jX mo;exact⟨c0,jX,mo⟩
 obtain⟨i0,i1,i2⟩:=head (x:= .const 0) (aW _) (agree.refl n ρ) (λ_ _=>rfl) abx (by rw[J9];exact e3) mI;have ae9:K7 I w0 W1 n ρ m tm dr b2 l2.length a.tmps 0 W1:=by
  refine⟨l2.map (·.den ρ),by simp,rl i1 ⟨by simp,by simp,trivial⟩,?_,by simpa [aa.aT]using i2⟩;simpa [aa.aT]using M4
 have still:∀{i:Nat} {W:ai} {k:Nat} {o:Obj},K7 I w0 W1 n ρ m tm dr b2 l2.length a.tmps i W->W1.heap[k]?=some o->o.isCells=false->W.heap[k]?=some o:=λ{i W k o} hJ hk ho=>by
  obtain⟨zs,ae,z2,z3,z4⟩:=hJ;exact(z4.a7.gg k (Array.getElem?_eq_some_iff.1 hk).1 (xB k o hk ho)).trans hk
 obtain⟨C,hC⟩:∃C:Nat,(C:Int)=c:=⟨c.toNat,aaG (by omega)⟩;obtain⟨mE,M8⟩:∃mE:Nat,(mE:Int)=len.den ρ:=⟨(len.den ρ).toNat,aaG (by omega)⟩;have NC:C∣mE:=by rw[<-hC,<-M8]at Al;exact Int.natCast_dvd_natCast.1 Al
 have agw:mE<=(cap.den ρ).toNat:=by
  by_cases h0:cap.den ρ<0
  ·have:=Qn h0;omega
  ·have:=YY (by omega);omega
 have Ig:∀{i:Nat} {zs:List Int},zs.length=l2.length->bf ρ (n+1) (zs++[(i:Int)]) (n+1+l2.length)=i:=λ{i zs} hz=>by
  rw[B9 _ _ _ _ (by simp[hz]),<-hz];simp
 have jc:∀{i:Nat} {zs:List Int},agree n ρ (bf ρ (n+1) (zs++[(i:Int)])):=λ{i zs}=>(agree.bf _ (n+1) ρ).mono (by omega);have main:=jS.2 l (m bs) (m oL) ((A.sl b 1 o ro len cap).den ρ m) (m b) ((o.den ρ).toNat+(ro.den ρ).toNat) mE (cap.den ρ).toNat C (K7 I w0 W1 n ρ m tm dr b2 l2.length a.tmps) W1 (by omega) (by omega) NC agw (by omega)
  (by
    simp only[A.den];by_cases h0:cap.den ρ<0
    ·rw[if_pos h0];have:=Qn h0;exact .inr ⟨⟨_,rfl⟩,by omega⟩
    ·rw[if_neg h0];refine .inl ?_;rw[show(len.den ρ).toNat=mE by omega,F3])
  (λi W hJ=>by
    obtain⟨zs,ae,z2,z3,z4⟩:=hJ;have kR:=z4.a7.cell0 q3 acI;have na:=z4.a7.cell0 de acJ;have N7:A.ok n bl.length ρ (.sl b 1 o ro len cap):=h.b _ (cZ q1) _ (by simp);have ahz:A.ok n bl.length ρ (.int .i64 N):=h.b _ (cZ q2) _ (by simp);rw[A.kf N7 jc (λ_ _=>rfl)]at kR;rw[A.kf ahz jc (λ_ _=>rfl)]at na;refine⟨kR,na.trans ?_⟩;simp only[A.den,aa.iO hc,hC])
  (λi W hJ=>by
    obtain⟨zs,ae,z2,z3,z4⟩:=hJ;exact⟨zs,ae,z2,z3,z4.t,z4.d,z4.b,z4.a7.grow (FZ (nf W))⟩)
  ?_ ae9
 ·refine⟨l,[{target:= .collected D,args:=#[]}],W1,{target:= .fn (.func f) #[.pointer (some ⟨m bs,0,none⟩),.pointer (some ⟨m oL,0,none⟩)],args:=#[.func (.yield l) #[] #[]]},W1,f,
   #[.func (.yield l) #[] #[],.pointer (some ⟨m bs,0,none⟩),.pointer (some ⟨m oL,0,none⟩)],W1,?_,?_,λnr Vz=>trivial,?_,λhs=>by simp[ze]at hs,?_⟩
  ·rw[<-HD,xW,<-hl,<-hD];exact run_enterLoop_outer _ _ _ _ _
  ·simp only[resolve,ag0];simp[go_sem]
  ·simp[invoke,go_sem,jS.1]
  ·refine main.mono ?_
   rintro e W2 ⟨⟨v,rfl⟩,hJ⟩
   have HQ:=still hJ qd rfl;have awR:=still hJ M5 rfl;obtain⟨zs,ae,z2,z3,z4⟩:=hJ;have sf:=(kC hB z2 z3).2;have vA:len.den (bf ρ (n+1) (zs++[((mE/C:Nat):Int)]))=mE:=by rw[aa.bG jc Av,M8]
   have hq:C*(mE/C)=mE:=Nat.mul_div_cancel' NC;have qZ:bh.den (bf ρ (n+1) (zs++[((mE/C:Nat):Int)])) (.lt ((aa.var (n+1+l2.length)).smul c) len)=false:=by
    simp only[bh.den,aa.kg,aa.cp,Ig ae,vA,decide_eq_false_iff_not];rw[<-hC];have:(C:Int)*((mE/C:Nat):Int)=(mE:Int):=by exact_mod_cast hq
    omega
   have sf:=sf qZ;refine⟨none,_,by have:=run_endLoop (P:=P) HQ (by rw[xW];simp);rw[xW]at this;exact this,?_⟩;simp only;obtain⟨La,ae4⟩:∃o,o=Obj.loop {({state:= .ready,pending:=none,fn,tmps:=a.tmps,params:=#[p],assign,body,defers:=D}:Loop)with state:= .exhausted}:=⟨_,rfl⟩;rw[<-ae4];have abk:Mem ⟨w0.b,W1.putObj l La,(narrow w0 W1 []).ex,w0.ro,[{target:= .collected D,args:=#[]}]⟩ (bf ρ (n+1) (zs++[((mE/C:Nat):Int)])) m dr (W2.putObj l La):=
    Mem.yN z4.a7 l (by omega) (xB l _ qd rfl) tW (sJ _ _ _) (sJ _ _ _) (λk hk=>rM hk) (λk hk=>rM hk) (by rw[uX (Array.getElem?_eq_some_iff.1 HQ).1,uX tW]) (λo ho=>by rw[qd]at ho;cases ho;rfl)
   refine hk _ _ _ _ _ ⟨w0.b,W1.putObj l La,(narrow w0 W1 []).ex,w0.ro,[{target:= .collected D,args:=#[]}]⟩ D _ _ ⟨by omega,jc,by omega,λ_ _=>rfl⟩ (λbV sq=>?_) (Sub.yN (Sub.narrow UW []) l (by omega) (sJ _ _ _) (λk hk=>rM hk)) (xB D _ M5 rfl) ((rM (by omega)).trans M5) Ej hbl rfl ⟨z4.t,?_,z4.b,abk⟩ sf
   ·unfold df.set;cases hb:aG bV n with
    |true=>have:=bA hb;omega
    |false=>rfl
   ·show _++a.defers=_;rw[h.d,mQ];rfl
 ·
  intro i W hJ hlt;have HQ:=still hJ qd rfl;obtain⟨zs,ae,z2,z3,z4⟩:=hJ;have sf:=(kC hB z2 z3).1;have vA:len.den (bf ρ (n+1) (zs++[(i:Int)]))=mE:=by rw[aa.bG jc Av,M8]
  have qZ:bh.den (bf ρ (n+1) (zs++[(i:Int)])) (.lt ((aa.var (n+1+l2.length)).smul c) len)=true:=by
   simp only[bh.den,aa.kg,aa.cp,Ig ae,vA,decide_eq_true_eq];rw[<-hC];exact_mod_cast hlt
  have sf:=sf qZ;have hh:C*i+C<=mE:=by
   obtain⟨q,rfl⟩:=NC;have:i<q:=Nat.lt_of_mul_lt_mul_left hlt;have:C*(i+1)<=C*q:=Rp C this;rw[Nat.mul_succ]at this;omega
  have Ah:¬cap.den ρ<0:=λh0=>by have:=Qn h0;omega
  have DS:=YY (by omega);have hid:(ro.add ((aa.var (n+1+l2.length)).smul c)).den (bf ρ (n+1) (zs++[(i:Int)]))=ro.den ρ+(C*i:Nat):=by
   rw[aa.den_add,aa.kg,aa.cp,Ig ae,aa.bG jc nx,<-hC];simp
  have VX:o.den (bf ρ (n+1) (zs++[(i:Int)]))=o.den ρ:=aa.bG jc rb;have ah8:(V.w (.one (.sl b 1 o (ro.add ((aa.var (n+1+l2.length)).smul c)) (.const c) (.const c)))).ok (n+1+l2.length+1) dr.length (bf ρ (n+1) (zs++[(i:Int)])):=by
   refine⟨by omega,⟨rb.mono (by omega),aa.rE (nx.mono (by omega)) (aa.sP (aa.er (by omega))),aa.cH _ _,aa.cH _ _⟩,?_⟩;rw[hid,VX,aa.aT];exact⟨⟨s1,by omega,by omega,by omega⟩,⟨by omega,by omega⟩,λh=>by omega,λ_=>bD _⟩
  have aia:(V.w (.one (.sl b 1 o (ro.add ((aa.var (n+1+l2.length)).smul c)) (.const c) (.const c)))).rel (bf ρ (n+1) (zs++[(i:Int)])) m (.slice (some ⟨m b,(o.den ρ).toNat+(ro.den ρ).toNat+C*i,none⟩) C C):=by
   simp only[V.rel,bg.W.den,A.den,hid,VX,aa.aT,F3];rw[if_neg (by omega),show c.toNat=C by omega,show(ro.den ρ+(C*i:Nat)).toNat=(ro.den ρ).toNat+C*i by omega,Nat.add_assoc]
  have U2:R (narrow w0 W1 []) (n+1+l2.length+1) (bf ρ (n+1) (zs++[(i:Int)])) m (om tm p (.w (.one (.sl b 1 o (ro.add ((aa.var (n+1+l2.length)).smul c)) (.const c) (.const c))))) dr
   (({tmps:=a.tmps,defers:=[]}:Act).put (some p) (.slice (some ⟨m b,(o.den ρ).toNat+(ro.den ρ).toNat+C*i,none⟩) C C)) W:=
   ⟨dq.put z4.t (some p) ah8 aia,z4.d,z4.b,z4.a7⟩
  have hy:=run_yield (P:=P) (args:=#[.slice (some ⟨m b,(o.den ρ).toNat+(ro.den ρ).toNat+C*i,none⟩) C C]) HQ (by rw[xW];rfl);rw[xW]at hy;have adZ:(({tmps:=a.tmps,defers:=[]}:Act).put (some p) (.slice (some ⟨m b,(o.den ρ).toNat+(ro.den ρ).toNat+C*i,none⟩) C C))={tmps:=((#[p]:Array Tmp).zip #[Cp (some ⟨m b,(o.den ρ).toNat+(ro.den ρ).toNat+C*i,none⟩) C C]).foldl (λtmps (t,a)=>tmps.setIfInBounds t a) a.tmps,defers:=[]}:=by
   simp[Act.put]
  rw[adZ]at U2;refine⟨fn,_,assign,body,hy,roundIn_of_wpIn trivial ?_⟩;refine zI (rd:=some l) hm (cy _ _ _) (λg cs h=>hg g cs h) (ir _ _ _) assign (.inr c5) _ _ _ _ _ _ _ _ W _ U2 sf λx n1 aD fV JI CP G1 a1 w1 g1 g2 g3 g4=>?_;cases x with
  |exit id=>exact g4.elim
  |ret=>exact g4.elim
  |normal=>
   simp only at g4;have VM:w1.heap[l]?=some (.loop (rec .ready none)):=(g3.a7.gg l tW (xB l _ qd rfl)).trans qd;obtain⟨wM,MY⟩:∃o,o=Obj.loop {rec .ready none with state:= .busy}:=⟨_,rfl⟩;have ae1:wM.isCells=false:=by rw[MY];rfl
   have M2:Mem ⟨w0.b,W1.putObj l wM,(narrow w0 W1 []).ex,w0.ro,[]⟩ aD fV CP (w1.putObj l wM):=
    Mem.yN g3.a7 l (by omega) (xB l _ qd rfl) tW (sJ _ _ _) (sJ _ _ _) (λk hk=>rM hk) (λk hk=>rM hk) (by rw[uX (Array.getElem?_eq_some_iff.1 VM).1,uX tW]) (λo ho=>by rw[qd]at ho;cases ho;rfl)
   refine⟨w1.putObj l wM,by rw[MY];exact run_beginRound VM (by rw[xW]),?_⟩;refine zI (rd:=some l) hm (cy _ _ _) (λg cs h=>hg g cs h) (ir _ _ _) body (.inr fi) n1 JI CP _ G1 aD fV a1 _ _ (⟨g3.t,g3.d,g3.b,M2⟩:R ⟨w0.b,W1.putObj l wM,(narrow w0 W1 []).ex,w0.ro,[]⟩ n1 aD fV JI CP a1 (w1.putObj l wM)) g4 λx n2 bp m2 aqU gC Sn a2 w2 k1 k2 k3 k4=>?_;cases x with
   |exit id=>exact k4.elim
   |ret=>exact k4.elim
   |normal=>
    simp only at k4;split at k4
    rotate_left
    ·exact k4.elim
    rename_i mH v2 qL fr;cases hf:kY dr mH with
    |false=>rw[hf]at k4;exact k4.elim
    |true=>
    rw[hf]at k4;simp only[cond_true,T.holds]at k4;have HO:w2.heap[l]?=some wM:=(k3.a7.gg l (by rw[RF];exact tW) (xB l _ qd rfl)).trans (uX tW);have xP:=(Array.getElem?_eq_some_iff.1 HO).1;rw[MY]at HO;refine⟨_,_,run_endRound none HO,rfl,?_⟩;have ahQ:({{rec .ready none with state:= .busy}with state:=if(none:Option Code).isNone then .ready else .done,pending:=none}:Loop)=rec .ready none:=by rw[xW];rfl
    rw[ahQ];have abj:Mem (narrow w0 W1 []) bp m2 gC (w2.putObj l (.loop (rec .ready none))):=
     Mem.yN k3.a7 l (by omega) (xB l _ qd rfl) (by rw[RF];exact tW) ⟨rfl,rfl,rfl,World.putObj_size.symm⟩ (sJ _ _ _) (λk hk=>(rM hk).symm) (λk hk=>rM hk) (by rw[uX xP,qd]) (λo ho=>by rw[uX tW]at ho;cases ho;exact ae1)
    have M6:cQ n bl.length ρ m (n+1+l2.length+1) dr.length (bf ρ (n+1) (zs++[(i:Int)])) m:=⟨by omega,jc,by omega,λ_ _=>rfl⟩;have xv:=(M6.trans g1).trans k1;have abA:R (narrow w0 W1 []) n2 bp m2 tm gC {tmps:=a.tmps,defers:=[]} (w2.putObj l (.loop (rec .ready none))):=⟨h.t.ext xv.ha xv.hn xv.hb xv.hm,rfl,k3.b,abj⟩;obtain⟨ib,nM,pN⟩:=head (x:=(aa.var (n+1+l2.length)).add (.const 1)) xv.hb xv.ha xv.hm abA fr hf;have Wu:bp (n+1+l2.length)=i:=by rw[(g1.trans k1).ha _ (by omega),Ig ae]
    have hx:((aa.var (n+1+l2.length)).add (.const 1)).den bp=((i+1:Nat):Int):=by rw[aa.den_add,aa.cp,aa.aT,Wu];simp
    rw[hx]at pN;have M3:Sn n=λvs=>I vs/\j9 vs<j9 (zs++[(i:Int)]):=by
     rw[k2 n (by have:=g1.hn;omega),g2 n (by omega)];unfold df.set;rw[show aG n n=true from Ck n];rfl
    rw[M3,ga,ct,et,hx]at k4;have:i+1<=mE:=by
     have:=Nat.mul_le_mul_right i (show 1<=C by omega);omega
    exact⟨v2.map (·.den bp),by simp[ib],rl nM ⟨by omega,by omega,trivial⟩,k4.1,pN⟩
noncomputable def GW (P:bk) (gl:dA) (cal:dY) (inl:hX) (li:cB->Nat->Option cX) (rounds:Nat) (cells:List (Nat×Nat×Int×Int)) (r7:cB):hX:=
 λf n vs bl k=>match P.funcs[f]? with
  |none=> .stuck
  |some fn=>match fn.body with
   |some (.seq bE (.seq (.seq c1 (.block _ (.rangeFunc g ps assign body))) c3))=>cond (!(fn.name== "runtime.NumGoroutine")&&bC vs.length fn.ntmps)
    (kX P gl cal inl (li f) rounds bE n (vs++BN (fn.ntmps-vs.length)) bl λx n tm bl=>match x with
      | .normal=>kX P gl cal inl (li f) rounds c1 n tm bl λx n tm bl=>match x with
       | .normal=>PT P gl cal inl (li f) rounds cells r7 g ps assign body n tm bl λn tm bl=>
        kX P gl cal (λ_ _ _ _ _=> .stuck) (li f) rounds c3 n tm bl λx n tm bl=>match x with
         | .exit _=> .stuck
         |_=>Fa P gl fn n tm bl k
       |_=> .stuck
      |_=> .stuck) .stuck
   |_=> .stuck
theorem aiG {w0:cN}:lx S L w0 P (λ_ _ _ _ _=> .stuck):=λf n vs bl k G ρ m w xs R' _ _ _ _ ah _=>ah.elim
theorem acx {w0:cN} {inl:hX} {li:cB->Nat->Option cX} {rounds:Nat} {cells:List (Nat×Nat×Int×Int)} {r7:cB} (jS:K8 P r7) (hm:P.follows .mixedOrders=true)
 (cy:∀r ex ro,fq S P gl ⟨w0.b,r,ex,ro,[]⟩ cal) (hg:eQ gl w0) (ir:∀r ex ro,lx S L ⟨w0.b,r,ex,ro,[]⟩ P inl) (mQ:w0.ds=[]):lx S L w0 P (GW P gl cal inl li rounds cells r7):=by
 have Wd:w0=⟨w0.b,w0.r,w0.ex,w0.ro,[]⟩:=by cases w0;simp at mQ;subst mQ;rfl
 have Vk:fq S P gl w0 cal:=by rw[Wd];exact cy _ _ _
 have VD:lx S L w0 P inl:=by rw[Wd];exact ir _ _ _
 intro f n vs bl k G ρ m w xs R' hb kL kn hrel ah hk;unfold GW at ah;cases hf:P.funcs[f]? with
 |none=>simp[hf,T.holds]at ah
 |some fn=>
  simp only[hf]at ah;split at ah
  rotate_left
  ·exact ah.elim
  rename_i bE c1 id g ps assign body c3 tQ;cases hc:(!(fn.name== "runtime.NumGoroutine")&&bC vs.length fn.ntmps)with
  |false=>simp[hc,T.holds]at ah
  |true=>
   simp only[hc,cond_true]at ah;simp only[aO,fZ]at hc;have hlen:=Lk hrel;refine⟨?_,?_⟩
   ·have h1:¬fn.name= "runtime.NumGoroutine" :=by have:=hc.1;simpa using this
    simp[callFunc,hf,tQ,h1]
   ·refine(callsIn_wide (n:=0)).1 (callsIn_of_wp_marks hf tQ trivial ?_ rfl);have hR:R w0 n ρ m (vs++BN (fn.ntmps-vs.length)) bl {tmps:=xs.toArray++rI (fn.ntmps-xs.toArray.size) undef,defers:=[]} w:=by
     refine⟨?_,mQ.symm,hb,kL⟩;have:=GA (Lj (fn.ntmps-vs.length) kn hrel);have e:(xs++e4 (fn.ntmps-vs.length) undef).toArray=xs.toArray++rI (fn.ntmps-xs.toArray.size) undef:=by
      simp[hlen]
     rw[e]at this;exact this
    refine wpIn_seq (zI (rd:=none) hm Vk hg VD bE (.inl rfl) n _ bl _ G ρ m _ w _ hR ah λx n1 aD fV JI CP G1 a1 w1 h1 h2 h3 h4=>?_);cases x with
    |exit id=>exact h4.elim
    |ret=>exact h4.elim
    |normal=>
    refine wpIn_seq (wpIn_seq (zI (rd:=none) hm Vk hg VD c1 (.inl rfl) n1 JI CP _ G1 aD fV a1 w1 _ h3 h4 λx n2 bp m2 aqU gC Sn a2 w2 k1 k2 k3 k4=>?_));cases x with
    |exit id=>exact k4.elim
    |ret=>exact k4.elim
    |normal=>
    refine wpIn_block (ao8 jS hm cy hg ir k3 mQ k4 λn3 eO aqV acw abc b3 D a3 w3 p1 bo bU c6 dF eD o0 BC X8 X7=>?_);have agu:fq S P gl b3 cal:=by
     have e:b3=⟨w0.b,b3.r,b3.ex,b3.ro,b3.ds⟩:=by have:=bU.b;cases b3;simp at this;subst this;rfl
     rw[e];exact(cy _ _ _).ds
    have hg3:eQ gl b3:=λg cs h=>by rw[bU.b];exact hg g cs h
    refine zI (rd:=none) hm agu hg3 aiG c3 (.inl rfl) n3 aqV acw _ abc eO m2 a3 w3 _ X8 X7 λx sC Gf yn Zy CQ So a4 w4 q1 q2 q3 de=>?_;have hD:w4.heap[D]?=some (.deferred (some [])):=(q3.a7.gg D (Array.getElem?_eq_some_iff.1 dF).1 c6).trans dF;have ahj:=(Array.getElem?_eq_some_iff.1 hD).1;have abl:Mem ⟨b3.b,b3.r.putObj D (.deferred none),b3.ex,b3.ro,[]⟩ Gf yn CQ (w4.putObj D (.deferred none)):=by
     have e:b3=⟨b3.b,b3.r,b3.ex,b3.ro,b3.ds⟩:=rfl;refine Mem.yN (e▸q3.a7) D (by rw[bU.b];exact o0) c6 (Array.getElem?_eq_some_iff.1 dF).1 (sJ _ _ _) (sJ _ _ _) (λk hk=>rM hk) (λk hk=>rM hk) (by rw[uX ahj,uX (Array.getElem?_eq_some_iff.1 dF).1]) (λo ho=>by rw[dF]at ho;cases ho;rfl)
    have abG:Sub ⟨b3.b,b3.r.putObj D (.deferred none),b3.ex,b3.ro,[]⟩ w0:=Sub.yN (ds:=b3.ds) bU D eD (sJ _ _ _) (λk hk=>rM hk);have Sz:Mem w0 Gf yn CQ (w4.putObj D (.deferred none)):=abl.less abG;have abB:R w0 sC Gf yn Zy CQ {a4 with defers:=[]} (w4.putObj D (.deferred none)):=⟨q3.t,mQ.symm,q3.b,Sz⟩;have fin:(Fa P gl fn sC Zy CQ k).holds S L So Gf->LeavesInM ze 0 P fn a4.tmps R' a4.defers .returning w4:=λhr=>by
     obtain⟨v,val,ib,nM,pN,u4⟩:=PZ hg abB hr;have bZ:=(((h1.trans k1).trans p1).trans q1);have hA:=(((h2.trans k2 h1.hn).trans bo (h1.trans k1).hn).trans q2 ((h1.trans k1).trans p1).hn);rw[q3.d,BC];exact⟨by simp,.inl ⟨D,_,rfl,run_takeDeferred hD,val,pN,hk sC v CQ So Gf yn _ val bZ hA ib nM q3.b Sz u4⟩⟩
    cases x with
    |exit id=>exact de.elim
    |normal=>exact fin de
    |ret=>exact fin de
end Go.bg
namespace Go.bg
open M
variable {S:Nat->List Int->List Int->Prop} {L:V->Env->Prop} {P:bk} {gl:dA} {cal:dY}
structure jN where
 c:dx
 ty:aS
 nil:Bool
def BD (p:jN) (g k:Nat):Array aA:=cond p.nil #[.slice (some ⟨g,0,none⟩) k k,.slice none 0 0] #[.slice (some ⟨g,0,none⟩) k k]
def jN.dZ (P:bk) (wb:ai) (p:jN) (spec:List Int->List Int->Prop):Prop:=
 (∀args w,(callFunc p.c.f args).run P w= .ok (.enter p.c.f args) w)/\
 ∀(F:Nat->Prop) (w:ai) (vs:List aA) (zs:List Int) (g:Nat),wb.Extends w->bd (cg p.c.args) zs->uv p.c.pre zs->gq F (λ_=>False) w p.c.args zs vs->wb.heap.size<=g->¬F g->w.heap[g]?=some (.cells vs.toArray p.ty (0,0))->
  gU P p.c.f (BD p g vs.length) w λe w'=>w.Extends w'/\∃rs us,bd (cg p.c.res) rs/\spec zs rs/\gq (λg=>F g∨w.heap.size<=g) (λg=>w.heap.size<=g) w' p.c.res rs us/\e= .returned (lV us)
def I8 (nil:Bool) (vs:List V):Option (Nat×Nat×Nat):=
 match vs with
 |[.w (.one (.slc b 0 len cap))]=>cond nil none (some (b,len,cap))
 |[.w (.one (.slc b 0 len cap)),.w (.one (.con (.slice none 0 0)))]=>cond nil (some (b,len,cap)) none
 |_=>none
def jl (a:A):V:= .w (.one a)
noncomputable def jN.E (p:jN) (n:Nat) (vs:List V) (bl:List ao) (k:RK):T:=
 match I8 p.nil vs with
 |some (b,len,cap)=>match bl[b]? with
  |some (cs,(t,false))=>cond (bT cs&&aG len cs.length&&aG cap cs.length&&aG t p.ty&& !(((cs.map jl).flatMap fI).any (aG b))) (p.c.qF n (cs.map jl) bl k) .stuck
  |_=> .stuck
 |none=> .stuck
theorem Ll {ρ:Env} {m:Nat->Nat}:∀(cs:List A),dh ρ m (cs.map jl) (cs.map (A.den ρ m))
 |[]=>trivial
 |a::r=>⟨rfl,Ll r⟩
theorem aoz {p:jN} {vs:List V} {b len cap:Nat} {ρ:Env} {m:Nat->Nat} {xs:List aA} (h:I8 p.nil vs=some (b,len,cap)) (hr:dh ρ m vs xs) (D7:cap=len):xs.toArray=BD p (m b) len:=by
 subst D7;unfold I8 at h;split at h
 ·cases hn:p.nil with
  |true=>rw[hn]at h;cases h
  |false=>
   rw[hn]at h;cases h
   match xs,hr with
   |[x],hr=>have hx:x=_:=hr.1;rw[hx];simp[BD,hn,W.den,A.den]
 ·cases hn:p.nil with
  |false=>rw[hn]at h;cases h
  |true=>
   rw[hn]at h;cases h
   match xs,hr with
   |[x,y],hr=>have hx:x=_:=hr.1;have hy:y=_:=hr.2.1;rw[hx,hy];simp[BD,hn,W.den,A.den]
 ·cases h
theorem jN.th {w0:cN} {p:jN} {spec:List Int->List Int->Prop} (hc:p.dZ P w0.b spec) (cd:∀zs rs,spec zs rs->S p.c.id zs rs) (n:Nat) (vs:List V) (bl:List ao) (k:RK) (G:df) (ρ:Env) (m:Nat->Nat) (w:ai) (xs:List aA) (R':pT->ai->Prop)
 (hb:b9 n bl.length ρ bl) (hw:Mem w0 ρ m bl w) (hv:∀v∈vs,V.ok n bl.length ρ v) (hr:dh ρ m vs xs) (ah:(p.E n vs bl k).holds S L G ρ) (hk:pd S L w0 k n bl.length ρ m G R'):
 (callFunc p.c.f xs.toArray).run P w= .ok (.enter p.c.f xs.toArray) w/\gU P p.c.f xs.toArray w R':=by
 refine⟨hc.1 _ _,?_⟩;unfold jN.E at ah;split at ah
 rotate_left
 ·exact ah.elim
 rename_i b len cap hp;split at ah
 rotate_left
 ·exact ah.elim
 rename_i cs t hbl;cases gL:(bT cs&&aG len cs.length&&aG cap cs.length&&aG t p.ty&& !(((cs.map jl).flatMap fI).any (aG b)))with
 |false=>rw[gL]at ah;exact ah.elim
 |true=>
 rw[gL]at ah;simp only[aO,fZ]at gL;obtain⟨⟨⟨⟨c1,c2⟩,c3⟩,c4⟩,c5⟩:=gL;have c2:=bA c2;have c3:=bA c3;have c4:=bA c4;subst c4;rw[aoz hp hr (by omega),c2];obtain⟨b1,b2,r,jg,b3⟩:=hw.blk b cs _ hbl c1;have jg:=jg rfl;subst jg;rw[lr]at b3;refine dx.Gk (f:=p.c.f) cd n (cs.map jl) bl k G ρ m w (cs.map (A.den ρ m)) R' (λzs h1 h2 h3=>?_) hb hw (λv hv=>?_) (Ll cs) ah hk
 ·have:=hc.2 _ w _ zs (m b) hw.ext h1 h2 h3 b1 (λhF=>?_) b3
  ·rwa [j8]at this
  ·rcases hF with⟨⟨b',k1,k2,q,k3,k4,_⟩,_⟩|n5
   rotate_left
   ·exact n5.2 b _ hbl (by rw[hH c1];decide) rfl
   have hne:b≠b':=λe=>by
    subst e;rw[List.any_eq_true.2 ⟨b,k1,Ck b⟩]at c5;cases c5
   rcases hw.inj b b' _ q hbl k3 k2.symm with h|h|h|h
   ·exact hne h
   ·have:=hH (ρ:=ρ) c1;simp only at h;omega
   ·have:=hH (ρ:=ρ) c1;simp only at h;omega
   ·exact k4 h
 ·obtain⟨a,ha,rfl⟩:=List.mem_map.1 hv;exact hb _ (cZ hbl) a ha
def Mu (p:jN) (vs:List V):Bool:=match I8 p.nil vs with
 |some (_,len,_)=>aG len p.c.args.length
 |none=>false
noncomputable def uu:List jN->hW->hW
 |[],bc=>bc
 |p::r,bc=>λf=>cond (aG p.c.f f) (some λn vs bl k=>cond (Mu p vs) (p.E n vs bl k) (match uu r bc f with
  |some g=>g n vs bl k
  |none=> .stuck)) (uu r bc f)
theorem Ja {w0:cN} {bc:hW} (fS:l9 S L w0 P bc):∀{l:List jN},(∀p∈l,p.dZ P w0.b (S p.c.id))->l9 S L w0 P (uu l bc)
 |[],_=>fS
 |p::l,h=>λf g hf=>by
  unfold uu at hf;cases hb:aG p.c.f f with
  |true=>
   rw[hb]at hf;simp only[cond_true,aK]at hf;have:=bA hb;subst this;subst hf;intro n vs bl k G ρ m w xs R' h1 h2 h3 h4 h5 h6;have h5:(cond (Mu p vs) (p.E n vs bl k) (match uu l bc p.c.f with
    |some g=>g n vs bl k
    |none=> .stuck)).holds S L G ρ:=h5
   cases hq:Mu p vs with
   |true=>
    rw[hq]at h5;exact jN.th (h p (by simp)) (λ_ _ h=>h) n vs bl k G ρ m w xs R' h1 h2 h3 h4 h5 h6
   |false=>
    rw[hq]at h5;simp only[cond_false]at h5;cases hr:uu l bc p.c.f with
    |none=>rw[hr]at h5;exact h5.elim
    |some ba=>
     rw[hr]at h5;exact Ja fS (λp hp=>h p (cF _ hp)) p.c.f ba hr n vs bl k G ρ m w xs R' h1 h2 h3 h4 h5 h6
  |false=>
   rw[hb]at hf;exact Ja fS (λp hp=>h p (cF _ hp)) f g hf
def m1:W->A
 | .one a=>a
 |_=> .con undef
noncomputable def jN.tree (bc:hW) (P:bk) (gl:dA) (cal:dY) (li:cB->Nat->Option cX) (rounds d:Nat) (p:jN):T:=
 cond (kF p.c.args&& !(p.c.args.any bP.jW)) (EY p.c.pre ((da (cg p.c.args).length).map ym) (nU p.c.args 0 (cg p.c.args).length [] [] λn us bl=>
  cond (us.all (λu=>match u with| .one _=>true|_=>false)&&bT (us.map m1)) (xa bc P gl cal li rounds d p.c.f n (cond p.nil [jl (.slc bl.length 0 us.length us.length),jl (.con (.slice none 0 0))] [jl (.slc bl.length 0 us.length us.length)]) (bl++[(us.map m1,(p.ty,false))]) λn' v aI=>match aI[bl.length]? with
   |some (cs,(t,false))=>cond (nn cs (us.map m1)&&aG t p.ty) (Fb (cM aI bl.length dL) p.c.res v n' λos _=> .leaf (sG os)) .stuck
   |_=> .stuck) .stuck)) .stuck
theorem Mem.more {b r:ai} {ex ex' ro:Nat->Prop} {ds:List uS} {ρ:Env} {m:Nat->Nat} {bl:List ao} {w:ai} (h:Mem ⟨b,r,ex,ro,ds⟩ ρ m bl w) (he:∀g,ex g->ex' g):Mem ⟨b,r,ex',ro,ds⟩ ρ m bl w:=
 ⟨h.ext,h.jf,h.ji,h.iy,h.ew,λi hi hx=>h.gg i hi λjj=>hx (he i jj),λi cs t hi ho=>by
  obtain⟨h1,h2,h3⟩:=h.blk i cs t hi ho;exact⟨h1,h2.imp (he _) id,h3⟩,λi sh off code cap kind t hi hk=>by
  obtain⟨g1,g2⟩:=h.rws i sh off code cap kind t hi hk;refine⟨g1,λhc=>?_⟩;obtain⟨k1,cells,t',fz,k2,k3,k4⟩:=g2 hc;refine⟨k1.imp (he _) id,cells,t',fz,k2,⟨k3.1,k3.2.mono (Fr.of w λg hg=>⟨hg.1.imp (he _) id,hg.2⟩)⟩,λh2=>?_⟩;obtain⟨c0,jX,mo,nC,pG,kN⟩:=k4 h2;exact⟨c0,jX,mo,nC,pG,kN.imp (he _) id⟩,h.inj⟩
theorem gK.more {b r:ai} {ex ex' ro F:Nat->Prop} {ds:List uS} {ρ:Env} {g kind:Nat} {sh:List ay} {off code cap:aa} {t:aS} {w:ai} (h:gK ⟨b,r,ex,ro,ds⟩ ρ F g sh off code cap kind t w) (he:∀g,ex g->ex' g):gK ⟨b,r,ex',ro,ds⟩ ρ F g sh off code cap kind t w:=by
 intro hk;obtain⟨g1,g2⟩:=h hk;refine⟨g1,λhc=>?_⟩;obtain⟨k1,cells,t',fz,k2,k3,k4⟩:=g2 hc;refine⟨k1.imp (he _) id,cells,t',fz,k2,k3,λh2=>?_⟩;obtain⟨c0,jX,mo,nC,pG,kN⟩:=k4 h2;exact⟨c0,jX,mo,nC,pG,kN.imp (he _) id⟩
theorem Mem.drop {b r:ai} {ro:Nat->Prop} {ρ:Env} {m:Nat->Nat} {bl:List ao} {w:ai} {g i0:Nat} {cs:List A} {t:aS} (h:Mem ⟨b,r,λi=>i=g,ro,[]⟩ ρ m bl w) (hi:bl[i0]?=some (cs,(t,false))) (ho:bT cs=true) (hg:m i0=g) (hr:r.heap[g]?=some (.cells (cs.map (A.den ρ m)).toArray t (0,0))):
 Mem ⟨b,r,λ_=>False,ro,[]⟩ ρ m (cM bl i0 dL) w:=by
 have hlen:i0<bl.length:=(List.getElem?_eq_some_iff.1 hi).1;have dc:∀(i:Nat) (q:ao),(cM bl i0 dL)[i]?=some q->(i=i0/\q=dL)∨(i≠i0/\bl[i]?=some q):=λi q hq=>by
  rw[iE,oC]at hq;split at hq
  ·rename_i eG;subst eG;simp only[hlen,if_true,aK]at hq;exact .inl ⟨rfl,hq.symm⟩
  ·rename_i eG;exact .inr ⟨λe=>eG e.symm,hq⟩
 have fv:aQ ρ dL.1=0:=by simp[dL,aQ,aa.aT]
 have fB:aQ ρ cs=2:=hH ho;have hne:∀(i:Nat) (q:ao),i≠i0->bl[i]?=some q->aQ ρ q.1≠0->m i≠g:=λi q kk hq hk e=>by
  rcases h.inj i i0 q _ hq hi (by rw[e,hg])with h1|h1|h1|h1
  ·exact kk h1
  ·simp only at h1;omega
  ·exact hk h1
  ·simp only at h1;omega
 refine⟨h.ext,h.jf,h.ji,h.iy,h.ew,λi dw _=>?_,λi jb t' hq gh=>?_,λi sh off code cap kind t' hq=>?_,λi j p q hp hq he=>?_⟩
 ·by_cases e:i=g
  ·subst e;obtain⟨_,_,yI,gR,h3⟩:=h.blk i0 cs _ hi ho;have gR:=gR rfl;subst gR;rw[lr,hg]at h3;rw[h3];exact hr.symm
  ·exact h.gg i dw e
 ·rcases dc i _ hq with⟨_,e⟩|⟨kk,hq⟩
  ·simp only[dL,cv]at e;rw[e.1]at gh;simp[bT]at gh
  ·obtain⟨h1,h2,h3⟩:=h.blk i jb t' hq gh;refine⟨h1,?_,h3⟩;rcases h2 with h2|h2
   ·exact absurd h2 (hne i _ kk hq (by rw[hH gh];decide))
   ·exact .inr h2
 ·rcases dc i _ hq with⟨_,e⟩|⟨kk,hq⟩
  ·simp only[dL,cv,kz,A.rows.injEq,and_true]at e;intro hk;exact absurd e.1.2.2.2.2 hk
  ·intro hk;obtain⟨g1,g2⟩:=h.rws i sh off code cap kind t' hq hk;refine⟨g1,λhc=>?_⟩;have xQ:m i≠g:=hne i _ kk hq (by simp only[aQ];rw[if_neg (by omega)];exact hk);obtain⟨k1,cells,Ft,fz,k2,k3,k4⟩:=g2 hc;refine⟨?_,cells,Ft,fz,k2,⟨k3.1,k3.2.mono (Fr.of w λba ed=>⟨?_,λj q hj hk=>?_⟩)⟩,λh2=>?_⟩
   rotate_left
   ·rcases ed.1 with e|e
    ·have e:ba=g:=e;subst e;exact absurd hg (ed.2 i0 _ hi (by rw[fB];decide))
    ·exact .inr e
   ·rcases dc j _ hj with⟨_,e⟩|⟨_,hj⟩
    ·subst e;omega
    ·exact ed.2 j q hj hk
   rotate_left
   ·rcases k1 with k1|k1
    ·exact absurd k1 xQ
    ·exact .inr k1
   ·obtain⟨c0,jX,mo,nC,pG,kN⟩:=k4 h2;refine⟨c0,jX,mo,nC,pG,?_⟩;rcases kN with kN|kN
    ·exact absurd kN xQ
    ·exact .inr kN
 ·rcases dc i _ hp with⟨_,e⟩|⟨kk,hp⟩
  ·subst e;exact .inr (.inr (.inl fv))
  ·rcases dc j _ hq with⟨_,e⟩|⟨VG,hq⟩
   ·subst e;exact .inr (.inr (.inr fv))
   ·exact h.inj i j p q hp hq he
theorem jN.vT {wb:ai} {gl:dA} {p:jN} {bc:hW} {cal:dY} {li:cB->Nat->Option cX} {rounds d:Nat} {spec:List Int->List Int->Prop} (hm:P.follows .mixedOrders=true) (cy:∀r ex ro,fq S P gl ⟨wb,r,ex,ro,[]⟩ cal) (hg:eQ gl ⟨wb,wb,λ_=>False,λ_=>False,[]⟩)
 (fS:∀(L:V->Env->Prop) (r:ai) (ex ro:Nat->Prop),l9 S L ⟨wb,r,ex,ro,[]⟩ P bc) (hf:∀args w,(callFunc p.c.f args).run P w= .ok (.enter p.c.f args) w)
 (ht:oJ (cg p.c.args) λzs=>(p.tree bc P gl cal li rounds d).holds S (pc λrs=>bd (cg p.c.res) rs/\spec zs rs) (λ_ _=>False) (bf (λ_=>0) 0 zs)):p.dZ P wb spec:=by
 refine⟨hf,λF w vs zs g hw hz xV hat Nt xu hcell=>?_⟩;have ah:=kC ht hz;have mU:=gi hz;unfold jN.tree at ah;cases hq:(kF p.c.args&& !(p.c.args.any bP.jW))with
 |false=>rw[hq]at ah;exact ah.elim
 |true=>
  rw[hq]at ah;simp only[cond_true]at ah;have ah:=preA_holds ah (by rw[<-mU,EO];exact xV);simp only[aO,fZ]at hq;have kL:Mem ⟨wb,w,λ_=>False,F,[]⟩ (bf (λ_=>0) 0 zs) (λ_=>0) [] w:=⟨hw,rfl,rfl,rfl,aW _,λ_ _ _=>rfl,λi cs t h=>by simp at h,λi sh off code cap kind t h=>by simp at h,λi j p q h=>by simp at h⟩;have hall:(p.c.args.all λb=> !b.jW)=true:=by
   rw[pQ];intro b hb;cases dQ:b.jW with
   |false=>rfl
   |true=>rw[List.any_eq_true.2 ⟨b,hb,dQ⟩]at hq;cases hq.2
  obtain⟨n',ag,m',us,bl,p1,bo,bU,c6,dF,eD⟩:=rY (S:=S) (L:=_) (w0:=⟨wb,w,λ_=>False,F,[]⟩) (F:=F) (N:=λ_=>False) (λg hg=> .inr (.inl hg)) (λg hg=>hg.elim) (l:=p.c.args) (s:=0) (us:=[]) (bl:=[]) (m:=λ_=>0) hq.1 (λp hp=>by simp at hp) kL (fF.bf _ 0 zs) hz (by omega) hat (.inr λi p h=>by simp at h) (.inl hall) (.inl hall) (λu hu=>by simp at hu) ah;cases jy:(us.all (λu=>match u with| .one _=>true|_=>false)&&bT (us.map m1))with
  |false=>rw[jy]at eD;exact eD.elim
  |true=>
  rw[jy]at eD;simp only[cond_true]at eD;simp only[aO]at jy;have Wb:∀u∈us,u= .one (m1 u):=λu hu=>by
   have:=List.all_eq_true.1 jy.1 u hu;cases u with
   |one a=>rfl
   |_=>simp at this
  have kn:(us.map m1).map (A.den ag m')=vs:=by
   have e:us.map (W.den ag m')=vs:=by simpa using c6
   rw[<-e,kT];refine gI λu hu=>?_;rw[Wb u hu];rfl
  have Ot:∀a∈us.map m1,A.ok n' bl.length ag a:=λa ha=>by
   obtain⟨u,hu,rfl⟩:=List.mem_map.1 ha;have h1:=dF u hu;rw[Wb u hu]at h1;exact h1
  have vy:g<w.heap.size:=(Array.getElem?_eq_some_iff.1 hcell).1;have hM:=(bU.more (ex':=λi=>i=g) λ_ h=>h.elim).push (x:=(us.map m1,(p.ty,false))) (g:=g) bo Ot (λ_=>⟨Nt,.inl rfl,[],λ_=>rfl,by rw[lr,kn];exact hcell⟩) (λsh off code cap kind he=>by
   simp only at he;rw[he]at jy;simp[bT]at jy) (λi q hi he=>by
    refine .inr (.inl ?_);by_cases h0:aQ ag q.1=0
    ·exact h0
    ·exfalso;obtain⟨cs,t⟩:=q;cases ho:bT cs with
     |true=>
      obtain⟨_,h2,_⟩:=bU.blk i cs t hi ho;rcases h2 with h2|h2
      ·exact h2
      ·simp only at h2;omega
     |false=>
      obtain⟨sh,off,code,cap,k,e⟩:=I3 ho;subst e;simp only[aQ]at h0;split at h0
      ·exact h0 rfl
      ·rename_i hc;obtain⟨h1,_⟩:=(bU.rws i sh off code cap k t hi h0).2 (by omega);rcases h1 with h1|h1|h1
       ·exact h1
       ·rw[he]at h1;exact xu h1
       ·simp only at h1;omega) (λi sh off code cap kind t hi=>((bU.YX (x:=(us.map m1,(p.ty,false))) (g:=g) (λba ed e=>by
    subst e;rcases ed.1 with h1|h1|h1
    ·exact h1
    ·exact xu h1
    ·simp only at h1;omega) i sh off code cap kind t hi).more (ex':=λi=>i=g) λ_ h=>h.elim).mono λba ed=>⟨ed.1.imp (λh=>h.elim) id,ed.2⟩)
  have xz:b9 n' (bl++[(us.map m1,(p.ty,false))]).length ag (bl++[(us.map m1,(p.ty,false))]):=λq hq a fu=>by
   rcases List.mem_append.1 hq with hq|hq
   ·exact(bo q hq a fu).ext (agree.refl _ _) (aW _) (by simp)
   ·simp at hq;subst hq;exact(Ot a fu).ext (agree.refl _ _) (aW _) (by simp)
  have ah5:us.length=vs.length:=by rw[<-kn];simp
  have D2:eQ gl ⟨wb,w,λi=>i=g,F,[]⟩:=hg;have V7:V.ok n' (bl++[(us.map m1,(p.ty,false))]).length ag (jl (.slc bl.length 0 us.length us.length)):=by
   show bl.length<_;simp
  have n7:(jl (.slc bl.length 0 us.length us.length)).rel ag (fg m' bl.length g) (.slice (some ⟨g,0,none⟩) vs.length vs.length):=by
   simp[V.rel,jl,W.den,A.den,j2,ah5]
  have nt:∀v∈(cond p.nil [jl (.slc bl.length 0 us.length us.length),jl (.con (.slice none 0 0))] [jl (.slc bl.length 0 us.length us.length)]),V.ok n' (bl++[(us.map m1,(p.ty,false))]).length ag v:=λv hv=>by
   have agD:V.ok n' (bl++[(us.map m1,(p.ty,false))]).length ag (jl (.con (.slice none 0 0))):=rfl;cases hn:p.nil with
   |true=>
    rw[hn]at hv;simp only[cond_true,kS,uN,or_false]at hv;rcases hv with rfl|rfl
    ·exact V7
    ·exact agD
   |false=>
    rw[hn]at hv;simp only[cond_false,kS,uN,or_false]at hv;subst hv;exact V7
  have hrel:dh ag (fg m' bl.length g) (cond p.nil [jl (.slc bl.length 0 us.length us.length),jl (.con (.slice none 0 0))] [jl (.slc bl.length 0 us.length us.length)]) (BD p g vs.length).toList:=by
   unfold BD;cases hn:p.nil with
   |true=>simp only[cond_true];exact⟨n7,rfl,trivial⟩
   |false=>simp only[cond_false];exact⟨n7,trivial⟩
  have agv:=(CW (S:=S) (w0:=⟨wb,w,λi=>i=g,F,[]⟩) (R':=λe w'=>w.Extends w'/\∃rs us,bd (cg p.c.res) rs/\spec zs rs/\gq (λg=>F g∨w.heap.size<=g) (λg=>w.heap.size<=g) w' p.c.res rs us/\e= .returned (lV us)) rfl hm (cy w _ F) D2 (fS _ _ _ _) d p.c.f n' _ _ _ _ ag (fg m' bl.length g) w _ xz hM nt hrel eD ?_).2
  ·simpa using agv
  intro n2 v aI dg bp m2 w' val h1 h2 h3 h4 h5 h6 h7;simp only at h7;split at h7
  rotate_left
  ·exact h7.elim
  rename_i cs t hb2;cases gL:(nn cs (us.map m1)&&aG t p.ty)with
  |false=>rw[gL]at h7;exact h7.elim
  |true=>
  rw[gL]at h7;simp only[cond_true]at h7;simp only[aO]at gL;have adO:=zx gL.1;have mM:=bA gL.2;subst adO;subst mM;have Nu:bl.length<(bl++[(us.map m1,(p.ty,false))]).length:=by simp
  have Ea:m2 bl.length=g:=by rw[h1.hm _ Nu,j2]
  have qZ:(us.map m1).map (A.den bp m2)=vs:=by
   rw[<-kn];refine gI λa ha=>?_;rw[A.kf (Ot a ha) h1.ha (λb hb=>?_)];rw[h1.hm b (by simp;omega),iF hb]
  have hD:=h6.drop hb2 jy.2 Ea (by rw[qZ];exact hcell);have dQ:b9 n2 (cM aI bl.length dL).length bp (cM aI bl.length dL):=by
   rw[kr];intro q hq a ha;rw[iE]at hq;rcases Cu hq with hq|hq
   ·exact h5 q hq a ha
   ·subst hq;simp only[dL,kS,uN,or_false]at ha;subst ha;exact⟨⟨aa.cH _ _,aa.cH _ _,aa.cH _ _⟩,by rw[aa.aT];exact⟨bD _,rU⟩,by rw[aa.aT];omega⟩
  obtain⟨eO,n3,os,ra,pr,⟨xs,hx1,hx2⟩,hl⟩:=P1 (S:=S) (w0:=⟨wb,w,λ_=>False,F,[]⟩) (λg hg=>hg) dQ hD (by rw[kr];exact h3) h4 dg _ h7;have hl:pc _ (sG os) eO:=hl;rw[Gs]at hl;refine⟨?_,os.map (O.den eO),xs,hl.1,hl.2,?_,by rw[hx1]⟩
  ·have hblk:∀i:Nat,i<w.heap.size->w'.heap[i]?=w.heap[i]?:=λi hi=>hD.gg i hi λh=>h;exact⟨hD.jf,hD.ji,hD.iy,hD.ew,λa ha=>by simp only[jL,hblk a.block ha],λa ha=>by simp only[s6,hblk a.block ha],hblk⟩
  ·exact dx.vT.w5 (λg hg=>by
    rcases hg with hg|hg|hg
    ·exact hg.elim
    ·exact .inl hg
    ·exact .inr hg) (λg hg=>hg) hx2
section
variable {wb:ai} {sh:Nat->List Nat×List Nat} {SB:Nat->List (List Int)->List (List Int)->Prop}
theorem Yi {p:jN} {bc:hW} {cal:dY} {li:cB->Nat->Option cX} {rounds d:Nat} {lsh:Nat->List Nat} {lens:List Nat} (hm:P.follows .mixedOrders=true) (cy:∀r ex ro,fq (b7 sh SB) P gl ⟨wb,r,ex,ro,[]⟩ cal) (hg:eQ gl ⟨wb,wb,λ_=>False,λ_=>False,[]⟩)
 (fS:∀(L:V->Env->Prop) (r:ai) (ex ro:Nat->Prop),l9 (b7 sh SB) L ⟨wb,r,ex,ro,[]⟩ P bc) (hf:qU P p.c.f=true) (hl:lens=(sh p.c.id).1) (hd:sD p.c.res=(sh p.c.id).2)
 (hv:ij sh lsh SB (ev SB p.c.res p.c.id) lens (cg p.c.args) p.c.res (p.tree bc P gl cal li rounds d)):p.dZ P wb (b7 sh SB p.c.id):=by
 refine jN.vT (li:=li) (rounds:=rounds) (d:=d) hm cy hg fS (enters hf) (rX λzs hz=>?_);have h:=kC (GC hv) hz;simp only[ev,B2]at h;rw[hl,hd]at h;exact h
end
end Go.bg
namespace Go.bg
open M
variable {S:Nat->List Int->List Int->Prop} {L:V->Env->Prop} {P:bk} {gl:dA} {cal:dY}
inductive eV where
 |int (k:di) (c:Int)
 |fn (f:cB)
def eV.val:eV->aA
 |int k c=> .int k c
 |fn f=> .func (.func f) #[] #[]
def eV.A:eV->A
 |int k c=> .int k (bK.const c)
 |fn f=> .con (.func (.func f) #[] #[])
def Ho:eV->A->Bool
 | .int k c,.int a6 x=>decide (k=a6)&&(match x.l.du with|some d=>decide (d=c)|none=>false)
 | .fn f,.con v=>match v with
  | .func (.func nr) a b=>aG f nr&&aG a.size 0&&aG b.size 0
  |_=>false
 |_,_=>false
def Dh:List eV->List A->Bool
 |[],[]=>true
 |r::l,a::s=>Ho r a&&Dh l s
 |_,_=>false
def Dg:List eV->List V->Bool
 |[],[]=>true
 |r::l,.w (.one a)::s=>Ho r a&&Dg l s
 |_,_=>false
theorem Uq {r:eV} {a:A} {ρ:Env} {m:Nat->Nat} (h:Ho r a=true):a.den ρ m=r.val:=by
 unfold Ho at h;split at h
 ·rename_i k c a6 x;simp only[aO,decide_eq_true_eq]at h;obtain⟨h1,h2⟩:=h;cases hc:x.l.du with
  |none=>rw[hc]at h2;cases h2
  |some d=>
   rw[hc]at h2;have h2:=of_decide_eq_true h2;subst h1;subst h2;simp[A.den,eV.val,aa.iO hc]
 ·rename_i f v;split at h
  ·rename_i nr x y;simp only[aO]at h;obtain⟨⟨h1,h2⟩,h3⟩:=h;have h1:=bA h1;have h2:=bA h2;have h3:=bA h3;rw[uV h2,uV h3,h1];rfl
  ·cases h
 ·cases h
theorem Ur {ρ:Env} {m:Nat->Nat}:∀{l:List eV} {cs:List A},Dh l cs=true->cs.map (A.den ρ m)=l.map eV.val
 |[],[],_=>rfl
 |r::l,a::s,h=>by
  simp only[Dh,aO]at h;simp[Uq h.1,Ur h.2]
 |[],_::_,h=>by cases h
 |_::_,[],h=>by cases h
theorem Up {ρ:Env} {m:Nat->Nat}:∀{l:List eV} {vs:List V} {xs:List aA},Dg l vs=true->dh ρ m vs xs->xs=l.map eV.val
 |[],[],[],_,_=>rfl
 |r::l,.w (.one a)::s,x::xs,h,hr=>by
  simp only[Dg,aO]at h;have hx:x=a.den ρ m:=hr.1;rw[hx,Uq h.1,Up h.2 hr.2];rfl
 |[],[],_::_,_,h=>h.elim
 |_::_,[],_,h,_=>by cases h
structure lA where
 c:dx
 cells:List eV
 ty:aS
 tail:List eV
structure Lb (g:Nat) (w w':ai):Prop where
 os:w'.os=w.os
 tape:w'.tape=w.tape
 out:w'.output=w.output
 size:w.heap.size<=w'.heap.size
 blk:∀i,i<w.heap.size->i≠g->w'.heap[i]?=w.heap[i]?
def lA.dZ (P:bk) (wb:ai) (p:lA) (spec:List Int->List Int->Prop):Prop:=
 (∀args w,(callFunc p.c.f args).run P w= .ok (.enter p.c.f args) w)/\
 ∀(F:Nat->Prop) (w:ai) (vs:List aA) (zs:List Int) (g:Nat),wb.Extends w->bd (cg p.c.args) zs->uv p.c.pre zs->gq F (λ_=>False) w p.c.args zs vs->wb.heap.size<=g->¬F g->w.heap[g]?=some (.cells (p.cells.map eV.val).toArray p.ty (0,0))->
  gU P p.c.f (.pointer (some ⟨g,0,none⟩)::(vs++p.tail.map eV.val)).toArray w λe w'=>Lb g w w'/\∃rs us,bd (cg p.c.res) rs/\spec zs rs/\gq (λg=>F g∨w.heap.size<=g) (λg=>w.heap.size<=g) w' p.c.res rs us/\e= .returned (lV us)
noncomputable def lA.E (p:lA) (n:Nat) (vs:List V) (bl:List ao) (k:RK):T:=
 match vs with
 | .w (.one (.ptr b 0))::us=>match bl[b]? with
  |some (cs,(t,false))=>cond (bT cs&&Dh p.cells cs&&aG t p.ty&&Dg p.tail (us.drop p.c.args.length)&&bC p.c.args.length us.length&& !(((us.take p.c.args.length).flatMap fI).any (aG b))&&kF p.c.res&& !(p.c.res.any bP.jk))
   (r9 false bl p.c.args (us.take p.c.args.length) n λls n1=>EZ p.c.pre ls (.call p.c.id ls n1 (cg p.c.res) (nU p.c.res n1 (n1+(cg p.c.res).length) [] (cM bl b dL) λn2 us gC=>k n2 (pK us) gC))) .stuck
  |_=> .stuck
 |_=> .stuck
theorem Mem.but {w0:cN} {ρ:Env} {m:Nat->Nat} {bl:List ao} {w w':ai} {b:Nat} {cs:List A} {t:aS×Bool} (h:Mem w0 ρ m bl w) (hi:bl[b]?=some (cs,t)) (ho:bT cs=true) (hx:Lb (m b) w w'):Mem w0 ρ m (cM bl b dL) w':=by
 have hlen:b<bl.length:=(List.getElem?_eq_some_iff.1 hi).1;have dc:∀(i:Nat) (q:ao),(cM bl b dL)[i]?=some q->(i=b/\q=dL)∨(i≠b/\bl[i]?=some q):=λi q hq=>by
  rw[iE,oC]at hq;split at hq
  ·rename_i eG;subst eG;simp only[hlen,if_true,aK]at hq;exact .inl ⟨rfl,hq.symm⟩
  ·rename_i eG;exact .inr ⟨λe=>eG e.symm,hq⟩
 have fv:aQ ρ dL.1=0:=by simp[dL,aQ,aa.aT]
 have fB:aQ ρ cs=2:=hH ho;have hne:∀(i:Nat) (q:ao),i≠b->bl[i]?=some q->aQ ρ q.1≠0->m i≠m b:=λi q kk hq hk e=>by
  rcases h.inj i b q _ hq hi e with h1|h1|h1|h1
  ·exact kk h1
  ·simp only at h1;omega
  ·exact hk h1
  ·simp only at h1;omega
 obtain⟨hb1,hb2,_⟩:=h.blk b cs t hi ho;refine⟨Ug h.ext hx.os hx.tape hx.out hx.size (λk hk=>hx.blk k (uQ hk h.ext.size) (by omega)),hx.os.trans h.jf,hx.tape.trans h.ji,hx.out.trans h.iy,gk h.ew hx.size,λi dw hex=>?_,λi jb t' hq gh=>?_,λi sh off code cap kind t' hq=>?_,λi j p q hp hq he=>?_⟩
 ·have NQ:i≠m b:=λe=>by
   subst e;rcases hb2 with h2|h2
   ·exact hex h2
   ·omega
  rw[hx.blk i (uQ dw h.ew) NQ];exact h.gg i dw hex
 ·rcases dc i _ hq with⟨_,e⟩|⟨kk,hq⟩
  ·simp only[dL,cv]at e;rw[e.1]at gh;simp[bT]at gh
  ·obtain⟨h1,h2,r,h3,h4⟩:=h.blk i jb t' hq gh;exact⟨h1,h2,r,h3,by rw[hx.blk _ (Array.getElem?_eq_some_iff.1 h4).1 (hne i _ kk hq (by rw[hH gh];decide))];exact h4⟩
 ·rcases dc i _ hq with⟨_,e⟩|⟨kk,hq⟩
  ·simp only[dL,cv,kz,A.rows.injEq,and_true]at e;intro hk;exact absurd e.1.2.2.2.2 hk
  ·intro hk;obtain⟨g1,g2⟩:=h.rws i sh off code cap kind t' hq hk;refine⟨g1,λhc=>?_⟩;have xQ:=hne i _ kk hq (by simp only[aQ];rw[if_neg (by omega)];exact hk);obtain⟨k1,cells,Ft,fz,k2,k3,k4⟩:=g2 hc;exact⟨k1,cells,Ft,fz,by rw[hx.blk _ (Array.getElem?_eq_some_iff.1 k2).1 xQ];exact k2,⟨k3.1,k3.2.mono λba h' o gh=>⟨h'.set hi (λah=>by rw[fv]at ah;omega),by rw[hx.blk ba (Array.getElem?_eq_some_iff.1 gh).1 (λe=>h'.2 b _ hi (by rw[hH ho];decide) e.symm)];exact gh⟩⟩,k4⟩
 ·rcases dc i _ hp with⟨_,e⟩|⟨kk,hp⟩
  ·subst e;exact .inr (.inr (.inl fv))
  ·rcases dc j _ hq with⟨_,e⟩|⟨VG,hq⟩
   ·subst e;exact .inr (.inr (.inr fv))
   ·exact h.inj i j p q hp hq he
theorem Mem.acE {w0:cN} {ρ:Env} {m:Nat->Nat} {bl:List ao} {w w':ai} {b g:Nat} {cs:List A} {t:aS×Bool} (h:Mem w0 ρ m bl w) (hi:bl[b]?=some (cs,t)) (ho:bT cs=true) (hx:Lb (m b) w w') (hg:w.heap.size<=g):ni w0 ρ m (cM bl b dL) w' g:=λi sh off code cap kind t' hq=>by
 have fv:aQ ρ dL.1=0:=by simp[dL,aQ,aa.aT]
 have fB:aQ ρ cs=2:=hH ho;rcases Qt hq with⟨_,e,_⟩|⟨kk,h1⟩
 ·simp only[dL,cv,kz,A.rows.injEq,and_true]at e;intro hk;exact absurd e.1.2.2.2.2 hk
 ·refine(h.rws i sh off code cap kind t' h1).grow (λba h' o gh=>⟨⟨h'.set hi (λah=>by rw[fv]at ah;omega),by have:=(Array.getElem?_eq_some_iff.1 gh).1;omega⟩,by rw[hx.blk ba (Array.getElem?_eq_some_iff.1 gh).1 (λe=>h'.2 b _ hi (by rw[hH ho];decide) e.symm)];exact gh⟩) λhk hc=>?_;have je:aQ ρ [A.rows sh off code cap kind]≠0:=by simp only[iz hk hc];exact hk
  refine hx.blk _ (h.lt h1 je) λe=>?_;rcases h.inj i b _ _ h1 hi e with h3|h3|h3|h3
  ·exact kk h3
  ·simp only at h3;omega
  ·exact je h3
  ·simp only at h3;omega
theorem b9.dead {n nb:Nat} {ρ:Env} {bl:List ao} (h:b9 n nb ρ bl) (b:Nat):b9 n nb ρ (cM bl b dL):=by
 intro q hq a ha;rw[iE]at hq;rcases Cu hq with hq|hq
 ·exact h q hq a ha
 ·subst hq;simp only[dL,kS,uN,or_false]at ha;subst ha;exact⟨⟨aa.cH _ _,aa.cH _ _,aa.cH _ _⟩,by rw[aa.aT];exact⟨bD _,rU⟩,by rw[aa.aT];omega⟩
theorem Lm {ρ:Env} {m:Nat->Nat}:∀(k:Nat) {vs:List V} {xs:List aA},dh ρ m vs xs->dh ρ m (vs.take k) (xs.take k)/\dh ρ m (vs.drop k) (xs.drop k)
 |0,vs,xs,h=>⟨by simp;trivial,by simpa using h⟩
 |k+1,[],[],_=>⟨trivial,trivial⟩
 |k+1,v::vs,x::xs,h=>⟨⟨h.1,(Lm k h.2).1⟩,(Lm k h.2).2⟩
 |_+1,[],_::_,h=>h.elim
 |_+1,_::_,[],h=>h.elim
theorem lA.th {w0:cN} {p:lA} {spec:List Int->List Int->Prop} (hc:p.dZ P w0.b spec) (cd:∀zs rs,spec zs rs->S p.c.id zs rs) (n:Nat) (vs:List V) (bl:List ao) (k:RK) (G:df) (ρ:Env) (m:Nat->Nat) (w:ai) (xs:List aA) (R':pT->ai->Prop)
 (hb:b9 n bl.length ρ bl) (hw:Mem w0 ρ m bl w) (hv:∀v∈vs,V.ok n bl.length ρ v) (hr:dh ρ m vs xs) (ah:(p.E n vs bl k).holds S L G ρ) (hk:pd S L w0 k n bl.length ρ m G R'):
 (callFunc p.c.f xs.toArray).run P w= .ok (.enter p.c.f xs.toArray) w/\gU P p.c.f xs.toArray w R':=by
 refine⟨hc.1 _ _,?_⟩;unfold lA.E at ah;split at ah
 rotate_left
 ·exact ah.elim
 rename_i b us;split at ah
 rotate_left
 ·exact ah.elim
 rename_i cs t hbl
 match xs,hr with
 |x::xs,hr=>
 cases gL:(bT cs&&Dh p.cells cs&&aG t p.ty&&Dg p.tail (us.drop p.c.args.length)&&bC p.c.args.length us.length&& !(((us.take p.c.args.length).flatMap fI).any (aG b))&&kF p.c.res&& !(p.c.res.any bP.jk))with
 |false=>rw[gL]at ah;exact ah.elim
 |true=>
 rw[gL]at ah;simp only[cond_true]at ah;simp only[aO,fZ]at gL;obtain⟨⟨⟨⟨⟨⟨⟨c1,c2⟩,c3⟩,c4⟩,c5⟩,fi⟩,ke⟩,mI⟩:=gL;have c3:=bA c3;subst c3;obtain⟨hx,hr⟩:=hr;have hx:x= .pointer (some ⟨m b,0,none⟩):=hx;subst hx;obtain⟨r1,r2⟩:=Lm p.c.args.length hr;have Oo:=Up c4 r2;have gE:xs=xs.take p.c.args.length++p.tail.map eV.val:=by rw[<-Oo,ju]
 obtain⟨b1,b2,r,jg,b3⟩:=hw.blk b cs _ hbl c1;have jg:=jg rfl;subst jg;rw[lr,Ur c2]at b3;obtain⟨aD,n1,ls,fl,dM,⟨g1,g2,g3⟩,ah⟩:=Mx (S:=S) (L:=L) hb hw (λv hv'=>hv v (cF _ (j7 hv'))) r1 G _ ah;obtain⟨gP,ah⟩:=preM_holds ah;simp only[T.holds]at ah;rw[gE];refine(hc.2 (oE w0 ρ m bl ((us.take p.c.args.length).flatMap fI) ((us.take p.c.args.length).flatMap jF)) w _ _ (m b) hw.ext g2 gP (g3 _ λ_ h=>h) b1 (λhF=>?_) b3).mono ?_
 ·rcases hF with⟨⟨b',k1,k2,q,k3,k4,_⟩,_⟩|n5
  rotate_left
  ·exact n5.2 b _ hbl (by rw[hH c1];decide) rfl
  have hne:b≠b':=λe=>by
   subst e;rw[List.any_eq_true.2 ⟨b,k1,Ck b⟩]at fi;cases fi
  rcases hw.inj b b' _ q hbl k3 k2.symm with h|h|h|h
  ·exact hne h
  ·have:=hH (ρ:=ρ) c1;simp only at h;omega
  ·have:=hH (ρ:=ρ) c1;simp only at h;omega
  ·exact k4 h
 rintro e w' ⟨he,rs,jH,r1,r2,r3,rfl⟩
 have ah:=kC ah r1 (cd _ _ r2);have hM:=hw.but hbl c1 he;have dQ:=hb.dead b;have hl:(cM bl b dL).length=bl.length:=kr _ _ _;have db:agree n1 aD (bf aD n1 rs):=agree.bf rs n1 aD;have lJ:=dM.trans db fl;have hb2:b9 (n1+(cg p.c.res).length) (cM bl b dL).length (bf aD n1 rs) (cM bl b dL):=by rw[hl];exact dQ.ext lJ (by omega) (aW _)
 have afc:Mem w0 (bf aD n1 rs) m (cM bl b dL) w':=hM.dP (by rw[hl];exact dQ) lJ;have hA:fF (bf aD n1 rs) n1 rs:=fF.bf aD n1 rs;have xw:cQ n bl.length ρ m (n1+(cg p.c.res).length) (cM bl b dL).length (bf aD n1 rs) m:=⟨by omega,lJ,by rw[hl];exact aW _,λ_ _=>rfl⟩;have hF:∀g,(oE w0 ρ m bl ((us.take p.c.args.length).flatMap fI) ((us.take p.c.args.length).flatMap jF) g∨w.heap.size<=g)->w0.ex g∨w0.ro g∨w0.r.heap.size<=g:=λg hg=>by
  rcases hg with(hg|hg)|hg
  ·exact hg.2
  ·exact hg.1
  ·exact .inr (.inr (gk hw.ew hg))
 have hN:∀g,w.heap.size<=g->w0.b.heap.size<=g/\w0.r.heap.size<=g:=λg hg=>⟨gk hw.ext.size hg,gk hw.ew hg⟩;have lN:(p.c.res.all λb=> !b.jk)=true:=by
  rw[pQ];intro b hb;cases dQ:b.jk with
  |false=>rfl
  |true=>rw[List.any_eq_true.2 ⟨b,hb,dQ⟩]at mI;cases mI
 obtain⟨n',ag,m',asP,gC,p1,bo,bU,c6,dF,eD⟩:=rY (S:=S) (L:=L) hF hN (l:=p.c.res) (us:=[]) (vals:=jH) ke hb2 afc hA r1 (aW _) r3 (.inl lN) (.inr λi q hi eR=>by
  by_cases h0:aQ (bf aD n1 rs) q.1=0
  ·exact h0
  ·exfalso;rw[iE,oC]at hi;split at hi
   ·rename_i e;subst e;split at hi
    ·cases hi;exact h0 (by simp[dL,aQ,aa.aT])
    ·cases hi
   ·rw[mq (hb q (cZ hi)) lJ]at h0;have:=hw.lt hi h0;omega) (.inr λg hg=>(hw.acE hbl c1 he hg).dP (by rw[hl];exact dQ) lJ) (λu hu=>by simp at hu) ah
 have jA:=Jk (m:=m') dF (by simpa using c6);exact hk n' (pK asP) gC G ag m' w' (lV jH) (xw.trans p1) (dJ.refl _ _) jA.1 jA.2 bo bU eD
noncomputable def E6:List lA->hW->hW
 |[],bc=>bc
 |p::r,bc=>λf=>cond (aG p.c.f f) (some p.E) (E6 r bc f)
theorem Yn {w0:cN} {bc:hW} (fS:l9 S L w0 P bc):∀{l:List lA},(∀p∈l,p.dZ P w0.b (S p.c.id))->l9 S L w0 P (E6 l bc)
 |[],_=>fS
 |p::l,h=>λf g hf=>by
  unfold E6 at hf;cases hb:aG p.c.f f with
  |true=>
   rw[hb]at hf;simp only[cond_true,aK]at hf;have:=bA hb;subst this;subst hf;intro n vs bl k G ρ m w xs R' h1 h2 h3 h4 h5 h6;exact lA.th (h p (by simp)) (λ_ _ h=>h) n vs bl k G ρ m w xs R' h1 h2 h3 h4 h5 h6
  |false=>
   rw[hb]at hf;exact Yn fS (λp hp=>h p (cF _ hp)) f g hf
noncomputable def lA.tree (f:hX) (p:lA):T:=
 cond (kF p.c.args&& !(p.c.args.any bP.jW)) (EY p.c.pre ((da (cg p.c.args).length).map ym) (nU p.c.args 0 (cg p.c.args).length [] [] λn us bl=>
  cond (bT (p.cells.map eV.A)) (f p.c.f n (jl (.ptr bl.length 0)::(us.map V.w++p.tail.map λr=>jl r.A)) (bl++[(p.cells.map eV.A,(p.ty,false))]) λn' v aI=>match aI[bl.length]? with
   |some (cs,_)=>cond (bT cs) (Fb (cM aI bl.length dL) p.c.res v n' λos _=> .leaf (sG os)) .stuck
   |none=> .stuck) .stuck)) .stuck
theorem eV.RJ (r:eV) (ρ:Env) (m:Nat->Nat):r.A.den ρ m=r.val:=by cases r<;>simp[eV.A,eV.val,A.den,bK.const,aa.aT]
theorem eV.RL (r:eV) (n nb:Nat) (ρ:Env):r.A.ok n nb ρ:=by
 cases r with
 |int k c=>exact bK.np _ _ _
 |fn f=>rfl
theorem Sw {ρ:Env} {m:Nat->Nat}:∀{vs us:List V} {xs fx:List aA},dh ρ m vs xs->dh ρ m us fx->dh ρ m (vs++us) (xs++fx)
 |[],_,[],_,_,h=>h
 |_::_,_,_::_,_,h,h'=>⟨h.1,Sw h.2 h'⟩
 |[],_,_::_,_,h,_=>h.elim
 |_::_,_,[],_,h,_=>h.elim
theorem Mem.adx {b r r':ai} {ro:Nat->Prop} {ρ:Env} {m:Nat->Nat} {bl:List ao} {w:ai} {g i0:Nat} {cs:List A} {t:aS×Bool} (h:Mem ⟨b,r,λi=>i=g,ro,[]⟩ ρ m bl w) (hi:bl[i0]?=some (cs,t)) (ho:bT cs=true) (hg:m i0=g)
 (hr:r'.os=r.os/\r'.tape=r.tape/\r'.output=r.output/\r'.heap.size=r.heap.size) (h1:∀k,k≠g->r'.heap[k]?=r.heap[k]?) (h2:r'.heap[g]?=w.heap[g]?):
 Mem ⟨b,r',λ_=>False,ro,[]⟩ ρ m (cM bl i0 dL) w:=by
 have hlen:i0<bl.length:=(List.getElem?_eq_some_iff.1 hi).1;have dc:∀(i:Nat) (q:ao),(cM bl i0 dL)[i]?=some q->(i=i0/\q=dL)∨(i≠i0/\bl[i]?=some q):=λi q hq=>by
  rw[iE,oC]at hq;split at hq
  ·rename_i eG;subst eG;simp only[hlen,if_true,aK]at hq;exact .inl ⟨rfl,hq.symm⟩
  ·rename_i eG;exact .inr ⟨λe=>eG e.symm,hq⟩
 have fv:aQ ρ dL.1=0:=by simp[dL,aQ,aa.aT]
 have fB:aQ ρ cs=2:=hH ho;have hne:∀(i:Nat) (q:ao),i≠i0->bl[i]?=some q->aQ ρ q.1≠0->m i≠g:=λi q kk hq hk e=>by
  rcases h.inj i i0 q _ hq hi (by rw[e,hg])with h1|h1|h1|h1
  ·exact kk h1
  ·simp only at h1;omega
  ·exact hk h1
  ·simp only at h1;omega
 refine⟨h.ext,h.jf.trans hr.1.symm,h.ji.trans hr.2.1.symm,h.iy.trans hr.2.2.1.symm,by have:=h.ew;simp only at this⊢;omega,λi dw _=>?_,λi jb t' hq gh=>?_,λi sh off code cap kind t' hq=>?_,λi j p q hp hq he=>?_⟩
 ·by_cases e:i=g
  ·subst e;exact h2.symm
  ·show w.heap[i]?=r'.heap[i]?;rw[h1 i e];exact h.gg i (by simp only at dw⊢;omega) e
 ·rcases dc i _ hq with⟨_,e⟩|⟨kk,hq⟩
  ·simp only[dL,cv]at e;rw[e.1]at gh;simp[bT]at gh
  ·obtain⟨k1,k2,k3⟩:=h.blk i jb t' hq gh;refine⟨k1,?_,k3⟩;rcases k2 with k2|k2
   ·exact absurd k2 (hne i _ kk hq (by rw[hH gh];decide))
   ·exact .inr (by simp only at k2⊢;omega)
 ·rcases dc i _ hq with⟨_,e⟩|⟨kk,hq⟩
  ·simp only[dL,cv,kz,A.rows.injEq,and_true]at e;intro hk;exact absurd e.1.2.2.2.2 hk
  ·intro hk;obtain⟨g1,g2⟩:=h.rws i sh off code cap kind t' hq hk;refine⟨g1,λhc=>?_⟩;have xQ:m i≠g:=hne i _ kk hq (by simp only[aQ];rw[if_neg (by omega)];exact hk);obtain⟨k1,cells,Ft,fz,k2,k3,k4⟩:=g2 hc;refine⟨?_,cells,Ft,fz,k2,⟨k3.1,k3.2.mono (Fr.of w λba ed=>⟨?_,λj q hj hk=>?_⟩)⟩,λh2=>?_⟩
   rotate_left
   ·rcases ed.1 with e|e|e
    ·have e:ba=g:=e;subst e;exact absurd hg (ed.2 i0 _ hi (by rw[fB];decide))
    ·exact .inr (.inl e)
    ·exact .inr (.inr (by simp only at e⊢;omega))
   ·rcases dc j _ hj with⟨_,e⟩|⟨_,hj⟩
    ·subst e;omega
    ·exact ed.2 j q hj hk
   rotate_left
   ·rcases k1 with k1|k1|k1
    ·exact absurd k1 xQ
    ·exact .inr (.inl k1)
    ·exact .inr (.inr (by simp only at k1⊢;omega))
   ·obtain⟨c0,jX,mo,nC,pG,kN⟩:=k4 h2;refine⟨c0,jX,mo,nC,pG,?_⟩;rcases kN with kN|kN
    ·exact absurd kN xQ
    ·exact .inr (by simp only at kN⊢;omega)
 ·rcases dc i _ hp with⟨_,e⟩|⟨kk,hp⟩
  ·subst e;exact .inr (.inr (.inl fv))
  ·rcases dc j _ hq with⟨_,e⟩|⟨VG,hq⟩
   ·subst e;exact .inr (.inr (.inr fv))
   ·exact h.inj i j p q hp hq he
theorem lA.alI {wb:ai} {p:lA} {inl:hX} {spec:List Int->List Int->Prop}
 (ir:∀(L:V->Env->Prop) (r:ai) (ex ro:Nat->Prop),lx S L ⟨wb,r,ex,ro,[]⟩ P inl) (hf:∀args w,(callFunc p.c.f args).run P w= .ok (.enter p.c.f args) w)
 (ht:oJ (cg p.c.args) λzs=>(p.tree inl).holds S (pc λrs=>bd (cg p.c.res) rs/\spec zs rs) (λ_ _=>False) (bf (λ_=>0) 0 zs)):p.dZ P wb spec:=by
 refine⟨hf,λF w vs zs g hw hz xV hat Nt xu hcell=>?_⟩;have ah:=kC ht hz;have mU:=gi hz;unfold lA.tree at ah;cases hq:(kF p.c.args&& !(p.c.args.any bP.jW))with
 |false=>rw[hq]at ah;exact ah.elim
 |true=>
  rw[hq]at ah;simp only[cond_true]at ah;have ah:=preA_holds ah (by rw[<-mU,EO];exact xV);simp only[aO,fZ]at hq;have kL:Mem ⟨wb,w,λ_=>False,F,[]⟩ (bf (λ_=>0) 0 zs) (λ_=>0) [] w:=⟨hw,rfl,rfl,rfl,aW _,λ_ _ _=>rfl,λi cs t h=>by simp at h,λi sh off code cap kind t h=>by simp at h,λi j p q h=>by simp at h⟩;have hall:(p.c.args.all λb=> !b.jW)=true:=by
   rw[pQ];intro b hb;cases dQ:b.jW with
   |false=>rfl
   |true=>rw[List.any_eq_true.2 ⟨b,hb,dQ⟩]at hq;cases hq.2
  obtain⟨n',ag,m',us,bl,p1,bo,bU,c6,dF,eD⟩:=rY (S:=S) (L:=_) (w0:=⟨wb,w,λ_=>False,F,[]⟩) (F:=F) (N:=λ_=>False) (λg hg=> .inr (.inl hg)) (λg hg=>hg.elim) (l:=p.c.args) (s:=0) (us:=[]) (bl:=[]) (m:=λ_=>0) hq.1 (λp hp=>by simp at hp) kL (fF.bf _ 0 zs) hz (by omega) hat (.inr λi p h=>by simp at h) (.inl hall) (.inl hall) (λu hu=>by simp at hu) ah;cases jy:bT (p.cells.map eV.A)with
  |false=>rw[jy]at eD;exact eD.elim
  |true=>
  rw[jy]at eD;simp only[cond_true]at eD;have vy:g<w.heap.size:=(Array.getElem?_eq_some_iff.1 hcell).1;have qZ:∀ρ m,(p.cells.map eV.A).map (A.den ρ m)=p.cells.map eV.val:=λρ m=>by
   rw[kT];exact gI λr _=>r.RJ ρ m
  have Vn:∀n nb ρ,∀a∈p.cells.map eV.A,A.ok n nb ρ a:=λn nb ρ a ha=>by
   obtain⟨r,_,rfl⟩:=List.mem_map.1 ha;exact r.RL n nb ρ
  have hM:=(bU.more (ex':=λi=>i=g) λ_ h=>h.elim).push (x:=(p.cells.map eV.A,(p.ty,false))) (g:=g) bo (Vn _ _ _) (λ_=>⟨Nt,.inl rfl,[],λ_=>rfl,by rw[lr,qZ];exact hcell⟩) (λsh off code cap kind he=>by
   simp only at he;rw[he]at jy;simp[bT]at jy) (λi q hi he=>by
    refine .inr (.inl ?_);by_cases h0:aQ ag q.1=0
    ·exact h0
    ·exfalso;obtain⟨cs,t⟩:=q;cases ho:bT cs with
     |true=>
      obtain⟨_,h2,_⟩:=bU.blk i cs t hi ho;rcases h2 with h2|h2
      ·exact h2
      ·simp only at h2;omega
     |false=>
      obtain⟨sh,off,code,cap,k,e⟩:=I3 ho;subst e;simp only[aQ]at h0;split at h0
      ·exact h0 rfl
      ·rename_i hc;obtain⟨h1,_⟩:=(bU.rws i sh off code cap k t hi h0).2 (by omega);rcases h1 with h1|h1|h1
       ·exact h1
       ·rw[he]at h1;exact xu h1
       ·simp only at h1;omega) (λi sh off code cap kind t hi=>((bU.YX (x:=(p.cells.map eV.A,(p.ty,false))) (g:=g) (λba ed e=>by
    subst e;rcases ed.1 with h1|h1|h1
    ·exact h1
    ·exact xu h1
    ·simp only at h1;omega) i sh off code cap kind t hi).more (ex':=λi=>i=g) λ_ h=>h.elim).mono λba ed=>⟨ed.1.imp (λh=>h.elim) id,ed.2⟩)
  have xz:b9 n' (bl++[(p.cells.map eV.A,(p.ty,false))]).length ag (bl++[(p.cells.map eV.A,(p.ty,false))]):=λq hq a fu=>by
   rcases List.mem_append.1 hq with hq|hq
   ·exact(bo q hq a fu).ext (agree.refl _ _) (aW _) (by simp)
   ·simp at hq;subst hq;exact Vn _ _ _ a fu
  have nt:∀v∈(jl (.ptr bl.length 0)::(us.map V.w++p.tail.map λr=>jl r.A)),V.ok n' (bl++[(p.cells.map eV.A,(p.ty,false))]).length ag v:=λv hv=>by
   rcases List.mem_cons.1 hv with rfl|hv
   ·show bl.length<_;simp
   ·rcases List.mem_append.1 hv with hv|hv
    ·obtain⟨u,hu,rfl⟩:=List.mem_map.1 hv;exact W.ok.ext (dF u hu) (agree.refl _ _) (aW _) (by simp)
    ·obtain⟨r,_,rfl⟩:=List.mem_map.1 hv;exact r.RL _ _ _
  have Ou:∀u∈us,W.den ag (fg m' bl.length g) u=W.den ag m' u:=λu hu=>W.kf (dF u hu) (agree.refl _ _) (λb hb=>iF hb);have hrel:dh ag (fg m' bl.length g) (jl (.ptr bl.length 0)::(us.map V.w++p.tail.map λr=>jl r.A)) (.pointer (some ⟨g,0,none⟩)::(vs++p.tail.map eV.val)):=by
   refine⟨by simp[jl,V.rel,W.den,A.den,j2],Sw (Gq ?_) ?_⟩
   ·rw[gI Ou];simpa using c6
   ·have:=Ll (ρ:=ag) (m:=fg m' bl.length g) (p.tail.map eV.A);rw[kT,kT]at this;have e:(A.den ag (fg m' bl.length g)∘eV.A)=eV.val:=funext λr=>r.RJ _ _;rw[e]at this;exact this
  refine((ir _ _ _ _ p.c.f n' _ _ _ _ ag (fg m' bl.length g) w _ _ xz hM nt hrel eD ?_).2);intro n2 v aI dg bp m2 w' val h1 h2 h3 h4 h5 h6 h7;simp only at h7;split at h7
  rotate_left
  ·exact h7.elim
  rename_i cs t hb2;cases gL:bT cs with
  |false=>rw[gL]at h7;exact h7.elim
  |true=>
  rw[gL]at h7;simp only[cond_true]at h7;have Nu:bl.length<(bl++[(p.cells.map eV.A,(p.ty,false))]).length:=by simp
  have Ea:m2 bl.length=g:=by rw[h1.hm _ Nu,j2]
  obtain⟨Pv,ahx⟩:∃o,w'.heap[g]?=some o:=by
   obtain⟨_,_,r,_,bS⟩:=h6.blk bl.length cs t hb2 gL;rw[Ea]at bS;exact⟨_,bS⟩
  have hD:=h6.adx (r':=w.putObj g Pv) hb2 gL Ea (sJ _ _ _) (λk hk=>rM hk) (by rw[uX vy,ahx]);have dQ:b9 n2 (cM aI bl.length dL).length bp (cM aI bl.length dL):=by
   rw[kr];exact h5.dead _
  obtain⟨eO,n3,os,ra,pr,⟨xs,hx1,hx2⟩,hl⟩:=P1 (S:=S) (w0:=⟨wb,w.putObj g Pv,λ_=>False,F,[]⟩) (λg hg=>hg) dQ hD (by rw[kr];exact h3) h4 dg _ h7;have hl:pc _ (sG os) eO:=hl;rw[Gs]at hl;refine⟨⟨h6.jf,h6.ji,h6.iy,h6.ew,λi hi NQ=>h6.gg i hi NQ⟩,os.map (O.den eO),xs,hl.1,hl.2,?_,by rw[hx1]⟩;have hsz:(w.putObj g Pv).heap.size=w.heap.size:=RF;exact dx.vT.w5 (λg hg=>by
   rcases hg with hg|hg|hg
   ·exact hg.elim
   ·exact .inl hg
   ·exact .inr (hsz▸hg)) (λg hg=>hsz▸hg) hx2
section
variable {wb:ai} {sh:Nat->List Nat×List Nat} {SB:Nat->List (List Int)->List (List Int)->Prop}
theorem apu {p:lA} {inl:hX} {lsh:Nat->List Nat} {lens:List Nat}
 (ir:∀(L:V->Env->Prop) (r:ai) (ex ro:Nat->Prop),lx (b7 sh SB) L ⟨wb,r,ex,ro,[]⟩ P inl) (hf:qU P p.c.f=true) (hl:lens=(sh p.c.id).1) (hd:sD p.c.res=(sh p.c.id).2)
 (hv:ij sh lsh SB (ev SB p.c.res p.c.id) lens (cg p.c.args) p.c.res (p.tree inl)):p.dZ P wb (b7 sh SB p.c.id):=by
 refine lA.alI ir (enters hf) (rX λzs hz=>?_);have h:=kC (GC hv) hz;simp only[ev,B2]at h;rw[hl,hd]at h;exact h
end
end Go.bg
namespace Go.bH
open Go Go.bg
def BR:List Int:=[4794697086780616226,8158064640168781261,13096744586834688815,16840607885511220156,4131703408338449720,6480981068601479193,10538285296894168987,12329834152419229976,15566598209576043074,1334009975649890238,2608012711638119052,6128411473006802146,8268148722764581231,9286055187155687089,11230858885718282805,13951009754708518548,16472876342353939154,17275323862435702243,1135362057144423861,2597628984639134821,3308224258029322869,5365058923640841347,6679025012923562964,8573033837759648693,10970295158949994411,12119686244451234320,12683024718118986047,13788192230050041572,14330467153632333762,15395433587784984357,489312712824947311,1452737877330783856,2861767655752347644,3322285676063803686,5560940570517711597,5996557281743188959,7280758554555802590,8532644243296465576,9350256976987008742,10552545826968843579,11727347734174303076,12113106623233404929,14000437183269869457,14369950271660146224,15101387698204529176,15463397548674623760,17586052441742319658,1182934255886127544,1847814050463011016,2177327727835720531,2830643537854262169,3796741975233480872,4115178125766777443,5681478168544905931,6601373596472566643,7507060721942968483,8399075790359081724,8693463985226723168,9568029438360202098,10144078919501101548,10430055236837252648,11840083180663258601,13761210420658862357,14299343276471374635,14566680578165727644,15097957966210449927,16922976911328602910,17689382322260857208,500013540394364858,748580250866718886,1242879168328830382,1977374033974150939,2944078676154940804,3659926193048069267,4368137639120453308,4836135668995329356,5532061633213252278,6448918945643986474,6902733635092675308,7801388544844847127]
def GP:List Int:=[7640891576956012808,13503953896175478587,4354685564936845355,11912009170470909681,5840696475078001361,11170449401992604703,2270897969802886507,6620516959819538809]
def cj:dA:=[(0,BR.map λz=>(.u64,z)),(1,GP.map λz=>(.u64,z))]
structure fA where
 k:di
 w:Nat
 s:Nat
 t:Nat
 a:List Nat
 b:List Nat
 c:List Nat
 d:List Nat
 n:Nat
def cq:fA:=⟨.u32,32,3,10,[2,13,22],[6,11,25],[7,18],[17,19],64⟩
def pZ:fA:=⟨.u64,64,7,6,[28,34,39],[14,18,41],[1,8],[19,61],80⟩
def fW (w n:Nat) (x:Int):Int:=x/2^n+(x% 2^n)*2^(w-n)
def JA (p:fA) (l:List Nat) (x:Int):Int:=l.foldl (λy n=>cC .xor p.k y (fW p.w n x)) 0
def IK (a b c:Nat) (s x:Int):Int:=cC .xor .u64 (cC .xor .u64 (cC .xor .u64 0 (fW 64 a x)) (fW 64 b x)) (if s=1 then x/2^c else fW 64 c x)
def ot (n:Nat) (x:Int):Int:=cC .or .u64 (x/2^n) (x*2^(32-n)% 18446744073709551616)% 4294967296
def IM (a b c:Nat) (s x:Int):Int:=cC .xor .u64 (cC .xor .u64 (ot a x) (ot b x)) (if s=1 then x/2^c else ot c x)
def IL (a b c:Nat) (s x:Int):Int:=cC .xor .u32 (cC .xor .u32 (cC .xor .u32 0 (fW 32 a x)) (fW 32 b x)) (if s=1 then x/2^c else fW 32 c x)
def zB (p:fA) (x:Int):Int:=JA p p.a x
def zC (p:fA) (x:Int):Int:=JA p p.b x
def Fo (p:fA) (x:Int):Int:=cC .xor p.k (JA p p.c x) (x/2^p.s)
def Fp (p:fA) (x:Int):Int:=cC .xor p.k (JA p p.d x) (x/2^p.t)
def md (p:fA) (x:Int):Int:=x% 2^p.w
def G6 (p:fA) (e f g:Int):Int:=cC .xor p.k (cC .and p.k e f) (cC .and p.k (2^p.w-1-e) g)
def Po (p:fA) (a b c:Int):Int:=cC .xor p.k (cC .xor p.k (cC .and p.k a b) (cC .and p.k a c)) (cC .and p.k b c)
def Ff (p:fA) (i:Nat):Int:=BR.getD i 0/2^(64-p.w)
def By (p:fA) (m:List Int):Int:=md p (m.getD (m.length-16) 0+Fo p (m.getD (m.length-15) 0)+m.getD (m.length-7) 0+Fp p (m.getD (m.length-2) 0))
def r6 (p:fA):Nat->List Int->List Int
 |0,m=>m
 |j+1,m=>r6 p j (m++[By p m])
def sched (p:fA) (m:List Int):List Int:=r6 p (p.n-16) m
def uB (p:fA) (i:Nat) (x:Int):List Int->List Int
 |[a,b,c,d,e,f,g,h]=>
  let t:=md p (h+zC p e+G6 p e f g+Ff p i+x);let u:=md p (zB p a+Po p a b c)
  [md p (t+u),a,b,c,md p (d+t),e,f,g]
 |l=>l
def wg (p:fA):Nat->List Int->List Int->List Int
 |_,[],v=>v
 |i,x::m,v=>wg p (i+1) m (uB p i x v)
def B6 (p:fA) (h m:List Int):List Int:=o9 (λa b=>md p (a+b)) h (wg p 0 (sched p m) h)
def Cc (p:fA) (b:List Int) (j:Nat):Int:=(da (p.w/8)).foldl (λy q=>y*256+b.getD (j*(p.w/8)+q) 0) 0
def Fy (p:fA) (b:List Int):List Int:=(da 16).map (Cc p b)
def CR (p:fA) (b:List Int):Nat->List Int->List Int
 |0,h=>h
 |i+1,h=>B6 p (CR p b i h) (Fy p ((b.drop (2*p.w*i)).take (2*p.w)))
def vg (p:fA):List Int:=GP.map (·/2^(64-p.w))
def qN (p:fA) (x:Int) (q:Nat):Int:=x/2^(p.w-8-8*q)% 256
def yq (p:fA) (h:List Int):List Int:=h.flatMap λx=>(da (p.w/8)).map (qN p x)
def tn (p:fA) (b:List Int):List Int:=yq p (CR p b (b.length/(2*p.w)) (vg p))
def qq (w n:Nat):Nat:=(n+1+w/4+(2*w-1))/(2*w)*(2*w)
def w8 (n:Nat):List Int:=(da 8).map λq=>((n/2^(56-8*q)% 256:Nat):Int)
def vW (p:fA) (b:List Int):List Int:=b++[128]++e4 (qq p.w b.length-b.length-9) 0++w8 (8*b.length)
def nJ (p:fA) (b:List Int):List Int:=tn p (vW p b)
def cr (z:Int):List Int:=(ab z).map λr=>r.getD 0 0
def sH (n w:Int):Int:=if n<0∨1099511627776<n∨(w≠32/\w≠64)then 0 else qq w.toNat n.toNat
def digit (n:Int):UInt8:=([48,49,50,51,52,53,54,55,56,57,97,98,99,100,101,102]:List UInt8).getD n.toNat 0
def Vy (b:List Int):List UInt8:=b.flatMap λx=>[digit (x/16),digit (x% 16)]
def abJ:Nat->List (List Int)->List (List Int)->Prop
 |440,[[n],[w]],rs=>rs=[[sH n w]]
 |441,[[n],[w]],rs=>rs=[[sH n w]]
 |442,[[z]],[[r]]=>cr r=vW cq (cr z)
 |443,[[z]],[[r]]=>cr r=vW pZ (cr z)
 |444,[[x]],rs=>rs=[[zB cq x]]
 |445,[[x]],rs=>rs=[[zC cq x]]
 |446,[[x]],rs=>rs=[[Fo cq x]]
 |447,[[x]],rs=>rs=[[Fp cq x]]
 |448,[[x]],rs=>rs=[[zB pZ x]]
 |449,[[x]],rs=>rs=[[zC pZ x]]
 |450,[[x]],rs=>rs=[[Fo pZ x]]
 |451,[[x]],rs=>rs=[[Fp pZ x]]
 |452,[[z]],rs=>rs=[nJ cq (cr z)]
 |453,[[z]],rs=>rs=[nJ pZ (cr z)]
 |454,[[z]],[[s]]=>U s=Vy (cr z)
 |455,[[z]],[[s]]=>U s=Vy (cr z)
 |456,[],rs=>rs=[[1]]
 |457,[_,_],[[r]]=>r=1
 |458,[_,_,_],[[r]]=>r=1
 |459,[_,_,_],[[r]]=>r=1
 |460,[[z]],[[r]]=>ab r=ab z
 |461,[[z]],[[r]]=>ab r=ab z
 |462,[[z]],[[r]]=>ab r=ab z
 |463,[[z]],[[r]]=>ab r=ab z
 |468,[[a],[b],[c],[d]],[[r]]=>ab r=ab a++(ab b++(ab c++ab d))
 |469,[[a],[b],[c]],[[r]]=>ab r=ab a++(ab b++ab c)
 |470,[[a],[b],[c],[d]],rs=>rs=[nJ cq (cr a++(cr b++(cr c++cr d)))]
 |471,[[a],[b],[c]],rs=>rs=[nJ pZ (cr a++(cr b++cr c))]
 |476,[[x]],rs=>rs=[[x]]
 |477,[[z]],[[r]]=>cr r=nJ pZ (cr z)
 |478,[[z]],rs=>rs=[nJ pZ (cr z)]
 |479,[[x],_,[s]],rs=>rs=[[IK 28 34 39 s x]]
 |480,[[x],_,[s]],rs=>rs=[[IK 14 18 41 s x]]
 |481,[[x],_,[s]],rs=>rs=[[IK 1 8 7 s x]]
 |482,[[x],_,[s]],rs=>rs=[[IK 19 61 6 s x]]
 |483,[[x]],rs=>rs=[[x% 4294967296]]
 |484,[[x],_,[s]],[[r]]=>(0<=x->x<=4294967295->r=IL 2 13 22 s x)/\r=IM 2 13 22 s x
 |485,[[x],_,[s]],[[r]]=>(0<=x->x<=4294967295->r=IL 6 11 25 s x)/\r=IM 6 11 25 s x
 |486,[[x],_,[s]],[[r]]=>(0<=x->x<=4294967295->r=IL 7 18 3 s x)/\r=IM 7 18 3 s x
 |487,[[x],_,[s]],[[r]]=>(0<=x->x<=4294967295->r=IL 17 19 10 s x)/\r=IM 17 19 10 s x
 |488,[[z]],[[r]]=>cr r=nJ cq (cr z)
 |489,[[z]],rs=>rs=[nJ cq (cr z)]
 |802,[[x],_],[[r]]=>(0<=x->x<=4294967295->r=fW 32 2 x)/\r=ot 2 x
 |803,[[x],_],[[r]]=>(0<=x->x<=4294967295->r=fW 32 3 x)/\r=ot 3 x
 |806,[[x],_],[[r]]=>(0<=x->x<=4294967295->r=fW 32 6 x)/\r=ot 6 x
 |807,[[x],_],[[r]]=>(0<=x->x<=4294967295->r=fW 32 7 x)/\r=ot 7 x
 |810,[[x],_],[[r]]=>(0<=x->x<=4294967295->r=fW 32 10 x)/\r=ot 10 x
 |811,[[x],_],[[r]]=>(0<=x->x<=4294967295->r=fW 32 11 x)/\r=ot 11 x
 |813,[[x],_],[[r]]=>(0<=x->x<=4294967295->r=fW 32 13 x)/\r=ot 13 x
 |817,[[x],_],[[r]]=>(0<=x->x<=4294967295->r=fW 32 17 x)/\r=ot 17 x
 |818,[[x],_],[[r]]=>(0<=x->x<=4294967295->r=fW 32 18 x)/\r=ot 18 x
 |819,[[x],_],[[r]]=>(0<=x->x<=4294967295->r=fW 32 19 x)/\r=ot 19 x
 |822,[[x],_],[[r]]=>(0<=x->x<=4294967295->r=fW 32 22 x)/\r=ot 22 x
 |825,[[x],_],[[r]]=>(0<=x->x<=4294967295->r=fW 32 25 x)/\r=ot 25 x
 |490,[[z]],[[r]]=>ab r=ab z
 |491,[[z]],[[r]]=>r=0->(ab z).length<=5000
 |492,[[z]],[[r]]=>ab r=ab z
 |493,[[z]],rs=>rs=[nJ cq (cr z)]
 |494,[[z]],rs=>rs=[nJ pZ (cr z)]
 |495,[_],[[r]]=>r=1
 |701,[[x],_],rs=>rs=[[fW 64 1 x]]
 |706,[[x],_],rs=>rs=[[fW 64 6 x]]
 |707,[[x],_],rs=>rs=[[fW 64 7 x]]
 |708,[[x],_],rs=>rs=[[fW 64 8 x]]
 |714,[[x],_],rs=>rs=[[fW 64 14 x]]
 |718,[[x],_],rs=>rs=[[fW 64 18 x]]
 |719,[[x],_],rs=>rs=[[fW 64 19 x]]
 |728,[[x],_],rs=>rs=[[fW 64 28 x]]
 |734,[[x],_],rs=>rs=[[fW 64 34 x]]
 |739,[[x],_],rs=>rs=[[fW 64 39 x]]
 |741,[[x],_],rs=>rs=[[fW 64 41 x]]
 |761,[[x],_],rs=>rs=[[fW 64 61 x]]
 |466,[[i]],rs=>rs=[[Ff cq i.toNat]]
 |467,[[i]],rs=>rs=[[Ff pZ i.toNat]]
 |464,[[z]],[[r]]=>cr r=tn cq (cr z)
 |465,[[z]],[[r]]=>cr r=tn pZ (cr z)
 |_,_,_=>False
end Go.bH
namespace Go.bH
open Go Go.bg
def L3 (c b:Int):Nat->Nat->List Int->(List Int->Prop)->Prop
 |0,_,acc,k=>k acc
 |n+1,i,acc,k=>af 21 [c,(b+(i:Int))]/\∀y:Int,0<=y->y<=255->y=aw 21 [c,(b+(i:Int)),0]->L3 c b n (i+1) (acc++[y]) k
def L1 (l:List Int):Nat->Nat->Int->(Int->Prop)->Prop
 |0,_,c,k=>k c
 |n+1,j,c,k=>∀y:Int,0<=y->y<=ch->y=aw 23 [c,((16777216*aB l (4*j) 0)+((65536*aB l (4*j+1) 0)+((256*aB l (4*j+2) 0)+aB l (4*j+3) 0)))]->L1 l n (j+1) y k
def wm (x c l k:Int) (Next:Int->Int->Int->Prop):Prop:=
 ∃(I:List (List Int)->Prop) (j9:List (List Int)->Nat),I [[3],[c],[l],[k]]/\(∀au:Int,(-1)<=au->au<=3->∀aP:Int,0<=aP->aP<=ch->∀bw:Int,0<=bw->bw<=9223372036854775807->∀aE:Int,(-2)<=aE->aE<=9223372036854775807->I [[au],[aP],[bw],[aE]]->
 (((decide (0<=au))=true->
  ∀cA:Int,0<=cA->cA<=4294967295->cA=x/2^((8*au)).toNat->
  ∀z20:Int,0<=z20->z20<=16777215->0<=cA-256*z20->cA-256*z20<256->
  af 31 [aP,bw]/\
  af 23 [aP,1]/\
  ∀z21:Int,0<=z21->z21<=ch->z21=aw 23 [aP,(cA+((-256)*z20))]->
  ∀aF:Int,(-2)<=aF->aF<=9223372036854775807->
  (I [[(au+(-1))],[z21],[(bw+1)],[aF]]/\j9 [[(au+(-1))],[z21],[(bw+1)],[aF]]<j9 [[au],[aP],[bw],[aE]])
 )/\((decide (0<=au))=false->Next aP bw aE)))
end Go.bH
namespace Go.bg
abbrev dk (p:Int->Prop):Prop:=∀z:Int,0<=z->z<=9223372036854775807->p z
abbrev aH (k:Nat) (l:List Int) (p:Int->Prop):Prop:=∀z:Int,0<=z->z<=9223372036854775807->z=aw k l->p z
abbrev c9 (p:Int->Prop):Prop:=∀z:Int,0<=z->z<=ch->p z
abbrev bt (k:Nat) (l:List Int) (p:Int->Prop):Prop:=∀z:Int,0<=z->z<=ch->z=aw k l->p z
abbrev br (p:Int->Prop):Prop:=∀z:Int,0<=z->z<=bx->p z
abbrev bN (k:Nat) (l:List Int) (p:Int->Prop):Prop:=∀z:Int,0<=z->z<=bx->z=aw k l->p z
abbrev uw (p:Int->Prop):Prop:=∀z:Int,0<=z->z<=255->p z
abbrev bF (k:Nat) (l:List Int) (p:Int->Prop):Prop:=∀z:Int,0<=z->z<=255->z=aw k l->p z
abbrev bu (p:Int->Prop):Prop:=∀z:Int,0<=z->z<=1->p z
abbrev b5 (k:Nat) (l:List Int) (p:Int->Prop):Prop:=∀z:Int,0<=z->z<=1->z=aw k l->p z
abbrev Yl (p:Int->Prop):Prop:=∀z:Int,0<=z->z<=18446744073709551615->p z
abbrev sM (p:Int->Prop):Prop:=∀z:Int,0<=z->z<=4294967295->p z
abbrev BI (k:Nat) (l:List Int) (p:Int->Prop):Prop:=∀z:Int,0<=z->z<=4294967295->z=aw k l->p z
abbrev qt (p:Int->Prop):Prop:=∀z:Int,(-1)<=z->z<=9223372036854775807->p z
abbrev Ym (k:Nat) (l:List Int) (p:Int->Prop):Prop:=∀z:Int,0<=z->z<=9223372036854775808->z=aw k l->p z
abbrev cz (p:Int->Prop):Prop:=∀z:Int,0<=z->p z
abbrev bQ (a b:Int) (p:Int->Prop):Prop:=∀z:Int,a<=z->z<=b->p z
abbrev ck (a b:Int) (k:Nat) (l:List Int) (p:Int->Prop):Prop:=∀z:Int,a<=z->z<=b->z=aw k l->p z
abbrev a8 (x m:Int) (p:Int->Prop):Prop:=∀z:Int,0<=z->z<=1->0<=x-m*z->x-m*z<m->p z
abbrev fb (a b x m:Int) (p:Int->Prop):Prop:=∀z:Int,a<=z->z<=b->0<=x-m*z->x-m*z<m->p z
abbrev aj (b:Bool) (p q:Prop):Prop:=(b=true->p)/\(b=false->q)
end Go.bg
namespace Go.bg
abbrev bI:Int:=18446744073709551616
abbrev av:Int:=-18446744073709551616
abbrev aV:Int:=9223372036854775807
abbrev bM:Int:=9223372036854775809
abbrev Xu:Int:=18446744073709551615
end Go.bg
