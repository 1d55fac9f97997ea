/- Contracts: calls answered by what is known of them; the sums and products of words. -/
import Derived.Test.YtiljgcomigmidaaGreatDoorPab
import Derived.Laws.Externs
import Derived.ChangeMaps5
import Derived.ChangeSame
import Derived.OpenShut
import Derived.Handed
import Derived.ProofKit
import Derived.LaidMore
import Derived.Stop.Joined
import Derived.HandedShaped
import Derived.SizedLaws
import Derived.Carry
import Derived.RangeFuncOwn
import Derived.RangeFuncLeaves
import Derived.KernelRfl
import Derived.Test.YtiljgcomigmidaaGreatDoorPaa
open Array renaming replicate->sz,eq_empty_of_size_eq_zero->vS
open Bool renaming and_eq_true->aQ,not_eq_true'->iP,or_eq_true->pD,false_eq_true->pF
open Function renaming comp->Lw
open Go renaming World->ai,Value->ax,TypeId->aR,Program->bk,FuncId->cB,IntKind->cX,Calls->gZ,DataW->mB,Ending->qw,MemPlace->rj,Deferred->vO
open Go.ChangeSpec renaming post_blind->aE0,plain->aE2
open Go.DataW renaming trod->LC,weightsEach->LL,weightsAll->LM,weights->LN,trod_int->ac9,TrodAll->adz,trod_array->ayy,lit->ayz,trod_slice->ay5,trod_string->ay6
open Go.DataW.Whole renaming of_heap->aEZ
open Go.DataW.agg renaming injEq->aDA
open Go.DataW.slice renaming injEq->aET
open Go.Extern.BytealgIndexByte renaming indexByte->SX
open Go.Fence renaming wide->Aa
open Go.Frame renaming enter->ay8
open Go.Input renaming okWide->ay7
open Go.OpenSpec renaming ofChange->SY
open Go.Value renaming int->sA,slice->CT,cells->CX,agg->C0,okWide->LO,bool->ayw
open Go.Value.slice renaming injEq->aES
open Go.World renaming cell?->jx,putObj_heap_other->sC,frozen?->tZ,putObj_heap_same->vT,putObj_size->SZ,alloc_heap_new->azc
open Go.World.Extends renaming refl->m8,drew->Ha
open Int renaming le_refl->bO,lt_or_le->ic,le_trans->oJ,toNat_of_nonneg->adi
open List renaming getD->ar,map_cons->ch,mem_cons_of_mem->cx,range->cD,mem_of_getElem?->cM,length_append->c8,length_cons->dj,map_nil->ec,replicate->eh,append_assoc->eG,length_nil->fe,map_append->fl,nil_append->gv,map_congr_left->gw,getElem?_eq_getElem->gF,map_map->jf,length->jg,take_append_drop->jy,length_map->jW,mem_cons->kg,mem_of_mem_take->kh,take_of_length_le->lu,append_nil->lv,length_take->ly,getElem?_cons_zero->m7,getElem?_set->oL,zipWith->oM,all_eq_true->pC,cons_append->qx,flatMap_cons->rl,length_drop->q9,mem_append->rb,not_mem_nil->tW,drop_left->ua,mem_cons_self->ub,take_succ_cons->vK,map_take->zS,map_drop->zT,mem_of_find?_eq_some->zV,replicate_succ->z6,find?_cons->z8,drop_drop->CV,mem_or_eq_of_mem_set->CY,getD_cons_succ->G6,zipWith_cons_cons->Hb,take_append_of_le_length->Hc,flatten_cons->Hj,drop_of_length_le->Lv,take_length->SF,take_left->SK,getElem?_eq_none->SV,mapM_cons->ac8,getElem?_eq_none_iff->adx
open List.cons renaming injEq->gY
open Nat renaming beq->aA,le_refl->aV,ble->bp,eq_of_beq_eq_true->bo,blt->ck,le_of_ble_eq_true->et,le_trans->gx,add_zero->kG,zero_le->kW,lt_or_ge->m6,succ_mul->qy,zero_add->sB,lt_of_lt_of_le->tX,blt_eq->CJ,beq_refl->CM,le_add_right->CO,mul_one->Hd,mul_le_mul_left->Lz,eq_zero_or_pos->adw
open Option renaming isSome_none->rm,bind_eq_some_iff->ady
open Option.some renaming injEq->aK,inj->fQ
open Prod.mk renaming injEq->cN
open Pure renaming pure->CR
set_option linter.unusedVariables false
set_option linter.unusedSimpArgs false
namespace Go.aW
open M
def av.sym (s:Nat):av->A
 |int k lo hi=> .int k ⟨.var s,lo,hi⟩
 |str=> .str (.var s)
 |bool=> .bool (.eq (.var s) (.const 1))
 |sub _=> .con (.slice none 0 0)
 |nil=> .con (.slice none 0 0)
inductive D where
 |str
 |int (k:cX) (lo hi:Int)
 |bool
 |agg (k:cX) (n:Nat) (lo hi:Int)
 |mix (l:List av)
 |ka (l:List UInt8)
 |nD (k:cX) (c:Int)
def jb (lo hi:Int):Nat->List (Int×Int)
 |0=>[]
 |n+1=>(lo,hi)::jb lo hi n
noncomputable def D.bds:D->List (Int×Int)
 |str=>[(0,b8)]
 |int _ lo hi=>[(lo,hi)]
 |bool=>[(0,1)]
 |agg _ n lo hi=>jb lo hi n
 |mix l=>l.map av.dG
 |ka _=>[]
 |nD .. =>[]
def D.num:D->Nat
 |str=>1
 |int .. =>1
 |bool=>1
 |agg _ n _ _=>n
 |mix l=>l.length
 |ka _=>0
 |nD .. =>0
def D.val:D->List Int->ax
 |str,zs=> .string (az (aa (zs.getD 0 0)))
 |int k _ _,zs=> .int k (zs.getD 0 0)
 |bool,zs=> .bool (decide (zs.getD 0 0=1))
 |agg k n _ _,zs=> .agg ((zs.take n).map (.int k)).toArray
 |mix l,zs=> .agg (oM av.val l zs).toArray
 |ka l,_=> .string (az (qU l))
 |nD k c,_=> .int k c
def Cc (k:cX) (lo hi:Int):Nat->Nat->List A
 |_,0=>[]
 |s,n+1=> .int k ⟨.var s,lo,hi⟩::Cc k lo hi (s+1) n
def BR:Nat->List av->List A
 |_,[]=>[]
 |s,c::r=>c.sym s::BR (s+1) r
def D.sym (s:Nat):D->W
 |str=> .one (.str (.var s))
 |int k lo hi=> .one (.int k ⟨.var s,lo,hi⟩)
 |bool=> .one (.bool (.eq (.var s) (.const 1)))
 |agg k n lo hi=> .agg (Cc k lo hi s n)
 |mix l=> .agg (BR s l)
 |ka l=> .one (.str (.const (cT (qU l))))
 |nD k c=> .one (.int k (br.const c))
noncomputable def cE:List D->List (Int×Int)
 |[]=>[]
 |d::r=>d.bds++cE r
def mz:List D->List Int->List ax
 |[],_=>[]
 |d::r,zs=>d.val zs::mz r (zs.drop d.num)
def tK:Nat->List D->List W
 |_,[]=>[]
 |s,d::r=>d.sym s::tK (s+d.num) r
theorem gp:∀{b:List (Int×Int)} {l:List Int},bd b l->l.length=b.length
 |[],[],_=>rfl
 |_::_,_::_,h=>by simp[gp h.2.2]
 |[],_::_,h=>h.elim
 |_::_,[],h=>h.elim
theorem aaG (lo hi:Int):∀n,(jb lo hi n).length=n
 |0=>rfl
 |n+1=>by simp[jb,aaG lo hi n]
theorem D.Di (d:D):d.bds.length=d.num:=by cases d<;>simp[D.bds,D.num,aaG]
theorem JG:∀{b b':List (Int×Int)} {l:List Int},bd (b++b') l->bd b (l.take b.length)/\bd b' (l.drop b.length)
 |[],_,_,h=>⟨trivial,h⟩
 |_::_,_,_::_,h=>by
  have ih:=JG h.2.2;exact⟨⟨h.1,h.2.1,ih.1⟩,ih.2⟩
 |_::_,_,[],h=>h.elim
def fJ (ρ:Env) (s:Nat) (zs:List Int):Prop:=∀j,j<zs.length->ρ (s+j)=zs.getD j 0
theorem fJ.bh (ρ:Env) (s:Nat) (zs:List Int):fJ (bh ρ s zs) s zs:=λj hj=>Cz zs s ρ j hj
theorem fJ.tail {ρ:Env} {s:Nat} {z:Int} {zs:List Int} (h:fJ ρ s (z::zs)):ρ s=z/\fJ ρ (s+1) zs:=by
 refine⟨by simpa using h 0 (by simp),λj hj=>?_⟩;have:=h (j+1) (by simpa using hj);rw[show s+1+j=s+(j+1) by omega,this];simp
theorem fJ.drop {ρ:Env} {s:Nat} {zs:List Int} (h:fJ ρ s zs) (k:Nat):fJ ρ (s+k) (zs.drop k):=λj hj=>by
 have:=h (k+j) (by simp at hj;omega);rw[show s+k+j=s+(k+j) by omega,this];simp[ar]
theorem aaF {ρ:Env} {m:Nat->Nat} {N nb:Nat} {k:cX} {lo hi:Int}:∀(n s:Nat) (zs:List Int),bd (jb lo hi n) (zs.take n)->fJ ρ s zs->s+n<=N->
 (∀a∈Cc k lo hi s n,A.ok N nb ρ a)/\(Cc k lo hi s n).map (A.den ρ m)=(zs.take n).map (.int k)
 |0,s,zs,_,_,_=>by simp[Cc]
 |n+1,s,[],h,_,_=>by simp[jb,bd]at h
 |n+1,s,z::zs,h,ha,hN=>by
  have ht:=ha.tail;simp only[jb,vK,bd]at h;obtain⟨h1,h2⟩:=aaF (m:=m) (nb:=nb) (k:=k) (N:=N) n (s+1) zs h.2.2 ht.2 (by omega);refine⟨λa hm=>?_,by simp only[Cc,ch,A.den,U.cj,ht.1,h2,vK]⟩;rcases List.mem_cons.1 hm with rfl|hm
  ·exact⟨U.er (by omega),by simp only[U.cj,ht.1];exact h.1,by simp only[U.cj,ht.1];exact h.2.1⟩
  ·exact h1 a hm
theorem av.Gw {ρ:Env} {m:Nat->Nat} {N nb:Nat} (c:av) {s:Nat} {z:Int} (h0:c.dG.1<=z) (h1:z<=c.dG.2) (hz:ρ s=z) (hN:s<N):(c.sym s).ok N nb ρ/\(c.sym s).den ρ m=c.val z:=by
 cases c with
 |int k lo hi=>exact⟨⟨U.er hN,by simp only[U.cj,hz];exact h0,by simp only[U.cj,hz];exact h1⟩,by simp[av.sym,av.val,A.den,U.cj,hz]⟩
 |str=>exact⟨⟨U.er hN,by rw[U.cj,hz];exact h0,by rw[U.cj,hz];exact h1⟩,by simp[av.sym,av.val,A.den,U.cj,hz]⟩
 |bool=>exact⟨⟨U.er hN,U.cr _ _⟩,by simp[av.sym,av.val,A.den,bf.den,U.cj,U.aO,hz]⟩
 |sub k=>exact⟨(rfl:(CT none 0 0).oneCell'=true),rfl⟩
 |nil=>exact⟨(rfl:(CT none 0 0).oneCell'=true),rfl⟩
theorem ZK {ρ:Env} {m:Nat->Nat} {N nb:Nat}:∀(l:List av) (s:Nat) (zs:List Int),bd (l.map av.dG) (zs.take l.length)->fJ ρ s zs->s+l.length<=N->
 (∀a∈BR s l,A.ok N nb ρ a)/\(BR s l).map (A.den ρ m)=oM av.val l zs
 |[],s,zs,_,_,_=>by simp[BR]
 |_::_,s,[],h,_,_=>by simp[bd]at h
 |c::r,s,z::zs,h,ha,hN=>by
  have ht:=ha.tail;simp only[ch,dj,vK,bd]at h;obtain⟨h1,h2⟩:=ZK (m:=m) (nb:=nb) (N:=N) r (s+1) zs h.2.2 ht.2 (by simp at hN;omega);have hc:=c.Gw (m:=m) (nb:=nb) (N:=N) h.1 h.2.1 ht.1 (by simp at hN;omega);refine⟨λa hm=>?_,by simp only[BR,ch,hc.2,h2,Hb]⟩;rcases List.mem_cons.1 hm with rfl|hm
  ·exact hc.1
  ·exact h1 a hm
theorem D.Gw {ρ:Env} {m:Nat->Nat} {N nb:Nat} (d:D) {s:Nat} {zs:List Int} (h:bd d.bds (zs.take d.num)) (ha:fJ ρ s zs) (hN:s+d.num<=N):(d.sym s).ok N nb ρ/\(d.sym s).den ρ m=d.val zs:=by
 cases d with
 |str=>
  cases zs with
  |nil=>simp[D.bds,bd]at h
  |cons z r=>
   have ht:=ha.tail;simp only[D.bds,D.num,vK,bd]at h;simp only[D.num]at hN;exact⟨⟨U.er (by omega),by rw[U.cj,ht.1];exact h.1,by rw[U.cj,ht.1];exact h.2.1⟩,by simp[D.sym,W.den,A.den,D.val,U.cj,ht.1]⟩
 |int k lo hi=>
  cases zs with
  |nil=>simp[D.bds,bd]at h
  |cons z r=>
   have ht:=ha.tail;simp only[D.bds,D.num,vK,bd]at h;simp only[D.num]at hN;exact⟨⟨U.er (by omega),by simp only[U.cj,ht.1];exact h.1,by simp only[U.cj,ht.1];exact h.2.1⟩,by simp[D.sym,W.den,A.den,D.val,U.cj,ht.1]⟩
 |bool=>
  cases zs with
  |nil=>simp[D.bds,bd]at h
  |cons z r=>
   have ht:=ha.tail;simp only[D.num]at hN;exact⟨⟨U.er (by omega),U.cr _ _⟩,by simp[D.sym,W.den,A.den,D.val,bf.den,U.cj,U.aO,ht.1]⟩
 |agg k n lo hi=>
  have:=aaF (m:=m) (nb:=nb) (k:=k) n s zs h ha hN;exact⟨this.1,by simp only[D.sym,W.den,D.val,this.2]⟩
 |mix l=>
  have:=ZK (m:=m) (nb:=nb) l s zs h ha hN;exact⟨this.1,by simp only[D.sym,W.den,D.val,this.2]⟩
 |ka l=>exact⟨⟨U.cr _ _,by rw[U.aO];exact amv l⟩,by simp[D.sym,W.den,A.den,D.val,U.aO,fj]⟩
 |nD k c=>exact⟨br.nj _ _ c,by simp[D.sym,W.den,A.den,D.val,br.const,U.aO]⟩
theorem RX {ρ:Env} {m:Nat->Nat} {N nb:Nat}:∀(ds:List D) {s:Nat} {zs:List Int},bd (cE ds) zs->fJ ρ s zs->s+(cE ds).length<=N->(∀u∈tK s ds,W.ok N nb ρ u)/\(tK s ds).map (W.den ρ m)=mz ds zs
 |[],s,zs,_,_,_=>by simp[tK,mz]
 |d::r,s,zs,h,ha,hN=>by
  have hs:=JG h;rw[D.Di]at hs;simp only[cE,c8,D.Di]at hN;have h1:=d.Gw (m:=m) (nb:=nb) hs.1 ha (N:=N) (by omega);have h2:=RX (m:=m) (nb:=nb) (N:=N) r hs.2 (ha.drop d.num) (by omega);exact⟨λu hu=>by rcases List.mem_cons.1 hu with rfl|hu;exact h1.1;exact h2.1 u hu,by simp[tK,mz,h1.2,h2.2]⟩
def Cg (ds:List D) (s:Nat):V:=match tK s ds with|[u]=> .w u|l=> .e6 l
def fh (ds:List D) (zs:List Int):ax:=match mz ds zs with|[x]=>x|l=> .tuple l.toArray
def nZ (lo hi:Int) (x:br):Bool:=decide (lo<=x.lo)&&decide (x.hi<=hi)
def lf (k:cX) (lo hi:Int):List A->Option (List U)
 |[]=>some []
 | .int k' x::r=>cond (decide (k=k')&&nZ lo hi x) (match lf k lo hi r with|some l=>some (x.l::l)|none=>none) none
 |_::_=>none
def av.fit:av->A->Option U
 |int k lo hi,.int k' x=>cond (decide (k=k')&&nZ lo hi x) (some x.l) none
 |str,.str l=>some l
 |bool,.bool (.lit b)=>some (.const (cond b 1 0))
 |nil,.con (.slice none 0 0)=>some (.const 0)
 |_,_=>none
def o0:List av->List A->Option (List U)
 |[],[]=>some []
 |c::r,a::s=>match c.fit a,o0 r s with|some x,some l=>some (x::l)|_,_=>none
 |_,_=>none
def yn:D->V->Option (List U)
 | .int k lo hi,.w (.one (.int k' x))=>cond (decide (k=k')&&nZ lo hi x) (some [x.l]) none
 | .agg k n lo hi,.w (.agg l)=>cond (aA l.length n) (lf k lo hi l) none
 | .mix l,.w (.agg s)=>o0 l s
 | .str,.w (.one (.str l))=>some [l]
 | .bool,.w (.one (.bool (.lit b)))=>some [.const (cond b 1 0)]
 | .ka l,.w (.one (.str x))=>match x.dq with|some c=>cond (decide (c=cT (qU l))) (some []) none|none=>none
 | .nD k c,.w (.one (.int k' x))=>match x.l.dq with|some d=>cond (decide (k=k')&&decide (d=c)) (some []) none|none=>none
 |_,_=>none
def pV:List D->List V->Option (List U)
 |[],[]=>some []
 |d::r,v::s=>match yn d v,pV r s with|some a,some b=>some (a++b)|_,_=>none
 |_,_=>none
theorem DF {n:Nat} {ρ:Env} {lo hi:Int} {x:br} (h:nZ lo hi x=true) (hx:x.ok n ρ):lo<=x.l.den ρ/\x.l.den ρ<=hi:=by
 simp only[nZ,aQ,decide_eq_true_eq]at h;have:=hx.2;omega
theorem NP {n nb:Nat} {ρ:Env} {m:Nat->Nat} {k:cX} {lo hi:Int}:∀{l:List A} {r:List U},lf k lo hi l=some r->(∀a∈l,A.ok n nb ρ a)->r.length=l.length/\bd (jb lo hi l.length) (r.map (·.den ρ))/\l.map (A.den ρ m)=(r.map (·.den ρ)).map (.int k)
 |[],r,h,_=>by simp[lf]at h;subst h;exact⟨rfl,trivial,rfl⟩
 | .int k' x::s,r,h,bg=>by
  simp only[lf]at h;cases hc:(decide (k=k')&&nZ lo hi x)with
  |false=>simp[hc]at h
  |true=>
   simp only[hc,cond_true]at h;simp only[aQ,decide_eq_true_eq]at hc;cases hr:lf k lo hi s with
   |none=>simp[hr]at h
   |some r'=>
    simp only[hr,aK]at h;subst h;obtain⟨h1,h2,h3⟩:=NP (m:=m) hr λa ha=>bg a (cx _ ha);have hx:x.ok n ρ:=bg (.int k' x) (by simp);have hf:=DF hc.2 hx;exact⟨by simp[h1],⟨hf.1,hf.2,h2⟩,by simp only[ch,h3,A.den,hc.1]⟩
 | .bool _::_,_,h,_=>by simp[lf]at h
 | .ptr .. ::_,_,h,_=>by simp[lf]at h
 | .ow .. ::_,_,h,_=>by simp[lf]at h
 | .gptr .. ::_,_,h,_=>by simp[lf]at h
 | .slc .. ::_,_,h,_=>by simp[lf]at h
 | .con _::_,_,h,_=>by simp[lf]at h
 | .str _::_,_,h,_=>by simp[lf]at h
theorem av.ahf {n nb:Nat} {ρ:Env} {m:Nat->Nat} {c:av} {a:A} {l:U} (h:c.fit a=some l) (bg:a.ok n nb ρ):(c.dG.1<=l.den ρ/\l.den ρ<=c.dG.2)/\a.den ρ m=c.val (l.den ρ):=by
 unfold av.fit at h;split at h
 ·rename_i k lo hi k' x;cases hc:(decide (k=k')&&nZ lo hi x)with
  |false=>simp[hc]at h
  |true=>
   simp only[hc,cond_true,aK]at h;subst h;simp only[aQ,decide_eq_true_eq]at hc;exact⟨DF hc.2 bg,by simp only[A.den,av.val,hc.1]⟩
 ·simp only[aK]at h;subst h;exact⟨bg.2,rfl⟩
 ·rename_i b;simp only[aK]at h;subst h;cases b<;>simp[av.dG,av.val,A.den,bf.den,U.aO]
 ·simp only[aK]at h;subst h;exact⟨⟨by rw[U.aO];exact bO _,by rw[U.aO];exact bO _⟩,rfl⟩
 ·cases h
theorem Wb {n nb:Nat} {ρ:Env} {m:Nat->Nat}:∀{d:List av} {l:List A} {r:List U},o0 d l=some r->(∀a∈l,A.ok n nb ρ a)->r.length=d.length/\bd (d.map av.dG) (r.map (·.den ρ))/\l.map (A.den ρ m)=oM av.val d (r.map (·.den ρ))
 |[],[],r,h,_=>by simp[o0]at h;subst h;exact⟨rfl,trivial,rfl⟩
 |c::d,a::s,r,h,bg=>by
  simp only[o0]at h;cases hx:c.fit a with
  |none=>simp[hx]at h
  |some x=>
   cases hr:o0 d s with
   |none=>simp[hx,hr]at h
   |some r'=>
    simp only[hx,hr,aK]at h;subst h;obtain⟨h1,h2,h3⟩:=Wb (m:=m) hr λa ha=>bg a (cx _ ha);have hf:=av.ahf (m:=m) hx (bg a (by simp));exact⟨by simp[h1],⟨hf.1.1,hf.1.2,h2⟩,by simp only[ch,h3,hf.2,Hb]⟩
 |[],_::_,_,h,_=>by simp[o0]at h
 |_::_,[],_,h,_=>by simp[o0]at h
theorem abH {n:Nat} {ρ:Env} {l:List UInt8} {x:U} {c:Int} (hc:x.dq=some c) (h:c=cT (qU l)):aa (x.den ρ)=qU l:=by rw[U.il hc,h,fj]
theorem V8 {n nb:Nat} {ρ:Env} {m:Nat->Nat} {d:D} {v:V} {r:List U} {x:ax} (h:yn d v=some r) (bg:v.ok n nb ρ) (hx:v.rel ρ m x):r.length=d.num/\bd d.bds (r.map (·.den ρ))/\∀zs,d.val ((r.map (·.den ρ))++zs)=x:=by
 unfold yn at h;split at h
 ·rename_i k lo hi k' y;cases hc:(decide (k=k')&&nZ lo hi y)with
  |false=>simp[hc]at h
  |true=>
   simp only[hc,cond_true,aK]at h;subst h;simp only[aQ,decide_eq_true_eq]at hc;have hf:=DF hc.2 bg;simp only[V.rel,W.den,A.den]at hx;exact⟨rfl,⟨hf.1,hf.2,trivial⟩,λzs=>by simp[D.val,hx,hc.1]⟩
 ·rename_i k n' lo hi l;cases hc:aA l.length n' with
  |false=>simp[hc]at h
  |true=>
   simp only[hc,cond_true]at h;have hl:=bo hc;subst hl;obtain⟨h1,h2,h3⟩:=NP (m:=m) h bg;simp only[V.rel,W.den]at hx;exact⟨h1,h2,λzs=>by rw[hx,h3];simp only[D.val];rw[Hc (by simp[h1]),lu (by simp[h1])]⟩
 ·rename_i l s;obtain⟨h1,h2,h3⟩:=Wb (m:=m) h bg;simp only[V.rel,W.den]at hx;refine⟨h1,h2,λzs=>?_⟩;rw[hx,h3];simp only[D.val]
  congr 2
  have key:∀(a:List av) (b c:List Int),b.length=a.length->oM av.val a (b++c)=oM av.val a b:=by
   intro a;induction a with
   |nil=>intro b c _;simp
   |cons p a ih=>
    intro b c hb;cases b with
    |nil=>simp at hb
    |cons z b=>simp[ih b c (by simpa using hb)]
  exact key _ _ _ (by simp[h1])
 ·rename_i l;simp only[aK]at h;subst h;simp only[V.rel,W.den,A.den]at hx;exact⟨rfl,⟨bg.2.1,bg.2.2,trivial⟩,λzs=>by rw[hx];rfl⟩
 ·rename_i b;simp only[aK]at h;subst h;simp only[V.rel,W.den,A.den,bf.den]at hx;cases b<;>exact⟨rfl,by simp[D.bds,bd,U.aO],λzs=>by rw[hx];simp[D.val,U.aO]⟩
 ·rename_i l y;cases hc:y.dq with
  |none=>simp[hc]at h
  |some c=>
   simp only[hc]at h;cases hd:decide (c=cT (qU l))with
   |false=>simp[hd]at h
   |true=>
    simp only[hd,cond_true,aK]at h;subst h;have hd:c=cT (qU l):=by simpa using hd
    refine⟨rfl,trivial,λzs=>?_⟩;have hx:x= .string (az (aa (y.den ρ))):=hx;rw[hx,abH (n:=n) hc hd];rfl
 ·rename_i k c k' y;cases hc:y.l.dq with
  |none=>simp[hc]at h
  |some d=>
   simp only[hc]at h;cases hd:(decide (k=k')&&decide (d=c))with
   |false=>simp[hd]at h
   |true=>
    simp only[hd,cond_true,aK]at h;subst h;simp only[aQ,decide_eq_true_eq]at hd;refine⟨rfl,trivial,λzs=>?_⟩;have hx:x= .int k' (y.l.den ρ):=hx;rw[hx,U.il hc,<-hd.1,hd.2];rfl
 ·cases h
theorem NT {n nb:Nat} {ρ:Env} {m:Nat->Nat}:∀{ds:List D} {vs:List V} {r:List U} {xs:List ax},pV ds vs=some r->(∀v∈vs,V.ok n nb ρ v)->db ρ m vs xs->bd (cE ds) (r.map (·.den ρ))/\mz ds (r.map (·.den ρ))=xs
 |[],[],r,[],h,_,_=>by simp[pV]at h;subst h;exact⟨trivial,rfl⟩
 |d::ds,v::vs,r,x::xs,h,bg,hr=>by
  simp only[pV]at h;cases h1:yn d v with
  |none=>simp[h1]at h
  |some a=>
   cases h2:pV ds vs with
   |none=>simp[h1,h2]at h
   |some b=>
    simp only[h1,h2,aK]at h;subst h;obtain⟨p1,aJ,bb⟩:=V8 (m:=m) h1 (bg v (by simp)) hr.1;obtain⟨q1,q2⟩:=NT h2 (λu hu=>bg u (cx _ hu)) hr.2;refine⟨by rw[fl];exact r5 aJ q1,?_⟩;rw[fl];simp only[mz,bb];rw[show d.num=(a.map (·.den ρ)).length by simp[p1],ua,q2]
 |[],_::_,_,_,h,_,_=>by simp[pV]at h
 |_::_,[],_,_,h,_,_=>by simp[pV]at h
 |[],[],_,_::_,_,_,hr=>hr.elim
 |_::_,_::_,_,[],_,_,hr=>hr.elim
structure b9 where
 f:cB
 id:Nat
 args:List D
 res:List D
def b9.dW (P:bk) (wb:ai) (c:b9) (spec:List Int->List Int->Prop):Prop:=(∀args w,(callFunc c.f args).run P w= .ok (.enter c.f args) w)/\∀zs,bd (cE c.args) zs->∃rs,bd (cE c.res) rs/\spec zs rs/\∀w,wb.Extends w->gZ P c.f (mz c.args zs).toArray w λe w'=>e= .returned (fh c.res rs)/\w.Extends w'
noncomputable def NR (d:D) (v:V):M (List U):=
 match d,v with
 | .bool,.w (.one (.bool e))=>bind (y7 e) λl=>pure [l]
 | .mix l,.w (.agg s)=>Gl l s
 | .int k lo hi,.w (.one (.int k' x))=>cond (decide (k=k')) (cond (nZ lo hi x) (pure [x.l]) (bind (eP 39 [x.l,.const lo,.const hi]) λ_=>pure [x.l])) fail
 |d,v=>match yn d v with|some r=>pure r|none=>fail
noncomputable def IC:List D->List V->M (List U)
 |[],[]=>pure []
 |d::r,v::s=>bind (NR d v) λa=>bind (IC r s) λb=>pure (a++b)
 |_,_=>fail
noncomputable def b9.M (c:b9):List aj->List V->M V:=λ_ vs n k=>
 match pV c.args vs with
 |some l=> .call c.id l n (cE c.res) (k (Cg c.res n) (n+(cE c.res).length))
 |none=>IC c.args vs n λl n=> .call c.id l n (cE c.res) (k (Cg c.res n) (n+(cE c.res).length))
section
variable {S:Nat->List Int->List Int->Prop} {L:V->Env->Prop}
theorem NO {k:cX} {lo hi:Int} {n nb:Nat} {ρ:Env}:∀{l:List A} {r:List U},lf k lo hi l=some r->(∀a∈l,A.ok n nb ρ a)->∀x∈r,U.aY n x
 |[],r,h,_=>by simp[lf]at h;subst h;intro x hx;simp at hx
 |a::s,r,h,bg=>by
  cases a with
  |int k' x=>
   simp only[lf]at h;cases hc:(decide (k=k')&&nZ lo hi x)with
   |false=>simp[hc]at h
   |true=>
    cases hr:lf k lo hi s with
    |none=>simp[hc,hr]at h
    |some r'=>
     simp only[hc,hr,cond_true,aK]at h;subst h;intro y hy;rcases List.mem_cons.1 hy with hy|hy
     ·rw[hy];have h0:A.ok n nb ρ (.int k' x):=bg _ (ub ..);have h0:x.ok n ρ:=h0;exact h0.1
     ·exact NO hr (λa ha=>bg a (cx _ ha)) y hy
  |_=>simp[lf]at h
theorem Wa {n nb:Nat} {ρ:Env}:∀{d:List av} {l:List A} {r:List U},o0 d l=some r->(∀a∈l,A.ok n nb ρ a)->∀x∈r,U.aY n x
 |[],[],r,h,_=>by simp[o0]at h;subst h;intro x hx;simp at hx
 |c::d,a::s,r,h,bg=>by
  simp only[o0]at h;cases hx:c.fit a with
  |none=>simp[hx]at h
  |some x=>
   cases hr:o0 d s with
   |none=>simp[hx,hr]at h
   |some r'=>
    simp only[hx,hr,aK]at h;subst h;intro y hy;rcases List.mem_cons.1 hy with hy|hy
    ·subst hy;have h0:=bg a (by simp);unfold av.fit at hx;split at hx
     ·rename_i k lo hi k' z;cases hc:(decide (k=k')&&nZ lo hi z)with
      |false=>simp[hc]at hx
      |true=>
       simp only[hc,cond_true,aK]at hx;subst hx;have h0:z.ok n ρ:=h0;exact h0.1
     ·simp only[aK]at hx;subst hx;exact h0.1
     ·simp only[aK]at hx;subst hx;exact U.cr _ _
     ·simp only[aK]at hx;subst hx;exact U.cr _ _
     ·cases hx
    ·exact Wa hr (λa ha=>bg a (cx _ ha)) y hy
 |[],_::_,_,h,_=>by simp[o0]at h
 |_::_,[],_,h,_=>by simp[o0]at h
theorem ahi {n nb:Nat} {ρ:Env} {d:D} {v:V} {r:List U} (h:yn d v=some r) (bg:v.ok n nb ρ):∀x∈r,U.aY n x:=by
 unfold yn at h;split at h
 ·rename_i k lo hi k' y;cases hc:(decide (k=k')&&nZ lo hi y)with
  |false=>simp[hc]at h
  |true=>
   simp only[hc,cond_true,aK]at h;subst h;have h0:y.ok n ρ:=bg;intro x hx;simp at hx;subst hx;exact h0.1
 ·rename_i k n' lo hi l;cases hc:aA l.length n' with
  |false=>simp[hc]at h
  |true=>
   simp only[hc,cond_true]at h;exact NO h bg
 ·exact Wa h bg
 ·simp only[aK]at h;subst h;intro x hx;simp at hx;subst hx;exact bg.1
 ·simp only[aK]at h;subst h;intro x hx;simp at hx;subst hx;exact U.cr _ _
 ·rename_i l y;cases hc:y.dq with
  |none=>simp[hc]at h
  |some c=>
   simp only[hc]at h;cases hd:decide (c=cT (qU l))with
   |false=>simp[hd]at h
   |true=>
    simp only[hd,cond_true,aK]at h;subst h;intro x hx;simp at hx
 ·rename_i k c k' y;cases hc:y.l.dq with
  |none=>simp[hc]at h
  |some d=>
   simp only[hc]at h;cases hd:(decide (k=k')&&decide (d=c))with
   |false=>simp[hd]at h
   |true=>
    simp only[hd,cond_true,aK]at h;subst h;intro x hx;simp at hx
 ·cases h
theorem bD.PI:∀{sh:List av} {zs:List Int},bD sh zs->bd (sh.map av.dG) zs/\oM av.val sh zs=dm sh zs
 |[],[],_=>⟨trivial,rfl⟩
 |c::sh,z::zs,h=>⟨⟨h.1.1,h.1.2,(bD.PI h.2).1⟩,by simp[dm,(bD.PI h.2).2]⟩
 |[],_::_,h=>h.elim
 |_::_,[],h=>h.elim
theorem acR {f:av->Int->ax}:∀(a:List av) (b c:List Int),b.length=a.length->oM f a (b++c)=oM f a b
 |[],b,c,_=>by simp
 |_::a,[],c,h=>by simp at h
 |_::a,z::b,c,h=>by simp[acR a b c (by simpa using h)]
theorem ahg {d:D} {v:V} {X:ax} {n nb:Nat} {ρ:Env} {m:Nat->Nat} (hv:v.ok n nb ρ) (hX:v.rel ρ m X):ao S L (NR d v) n ρ λae n' ls=>(∀x∈ls,U.aY n' x)/\ls.length=d.num/\bd d.bds (ls.map (·.den ae))/\∀zs,d.val ((ls.map (·.den ae))++zs)=X:=by
 unfold NR;split
 ·rename_i e;have hX:X= .bool (e.den ρ):=hX;exact JH.bind λay n1 l hn ha ⟨g1,g2,g3⟩=>ao.pure ⟨λx hx=>by simp at hx;subst hx;exact g1,rfl,⟨g2.1,g2.2,trivial⟩,λzs=>by rw[hX,g3];rfl⟩
 ·rename_i l s;have hX:X= .agg (s.map (A.den ρ m)).toArray:=hX;refine(KO (nb:=nb) (m:=m) hv).mono λay n1 ls hn ha ⟨g1,g2,g3⟩=>?_;have h1:=bD.PI g2;have h2:=g2.len;refine⟨g1,by simpa [D.num]using h2,h1.1,λzs=>?_⟩;rw[hX,<-g3,<-h1.2];simp only[D.val];rw[acR _ _ _ (by simpa using h2)]
 ·rename_i k lo hi k' x;have hX:X= .int k' (x.l.den ρ):=hX;have hv:x.ok n ρ:=hv;refine dR λhk=>?_;have hk:=of_decide_eq_true hk;subst hk;cases hf:nZ lo hi x with
  |true=>
   have:=DF hf hv;exact ao.pure ⟨λy hy=>by simp at hy;subst hy;exact hv.1,rfl,⟨this.1,this.2,trivial⟩,λzs=>by rw[hX];rfl⟩
  |false=>
   refine fX λhc=>ao.pure ?_;simp only[ch,ec,ah,U.aO]at hc;exact⟨λy hy=>by simp at hy;subst hy;exact hv.1,rfl,⟨hc.1,hc.2,trivial⟩,λzs=>by rw[hX];rfl⟩
 ·split
  ·rename_i hf;obtain⟨p1,aJ,bb⟩:=V8 (m:=m) hf hv hX;exact ao.pure ⟨ahi hf hv,p1,aJ,bb⟩
  ·exact ao.fail
theorem db.ext {n nb:Nat} {ρ ae:Env} {m m':Nat->Nat}:∀{vs:List V} {xs:List ax},db ρ m vs xs->(∀v∈vs,V.ok n nb ρ v)->agree n ρ ae->(∀b,b<nb->m' b=m b)->db ae m' vs xs
 |[],[],_,_,_,_=>trivial
 |v::vs,x::xs,h,bg,ha,hm=>⟨V.rel.ext h.1 (bg v (by simp)) ha hm,db.ext h.2 (λu hu=>bg u (cx _ hu)) ha hm⟩
 |[],_::_,h,_,_,_=>h.elim
 |_::_,[],h,_,_,_=>h.elim
theorem V9 {nb:Nat} {m:Nat->Nat}:∀{ds:List D} {vs:List V} {xs:List ax} {n:Nat} {ρ:Env},(∀v∈vs,V.ok n nb ρ v)->db ρ m vs xs->ao S L (IC ds vs) n ρ λae n' ls=>(∀x∈ls,U.aY n' x)/\bd (cE ds) (ls.map (·.den ae))/\mz ds (ls.map (·.den ae))=xs
 |[],[],[],n,ρ,_,_=>ao.pure ⟨λ_ h=>by simp at h,trivial,rfl⟩
 |d::ds,v::vs,x::xs,n,ρ,bg,hr=>by
  unfold IC;refine(ahg (nb:=nb) (bg v (by simp)) hr.1).bind λay n1 a eY dz ⟨p0,p1,aJ,bb⟩=>(V9 (ds:=ds) (vs:=vs) (λu hu=>(bg u (cx _ hu)).ext dz eY (aV _)) (db.ext hr.2 (λu hu=>bg u (cx _ hu)) dz (λ_ _=>rfl))).bind λbn n2 b dY cU ⟨q0,q1,q2⟩=>ao.pure ⟨λy hy=>?_,?_,?_⟩
  ·rcases List.mem_append.1 hy with hy|hy
   ·exact(p0 y hy).mono dY
   ·exact q0 y hy
  ·have e:a.map (·.den bn)=a.map (·.den ay):=gw λy hy=>U.bw cU (p0 y hy);rw[fl,e];exact r5 aJ q1
  ·have e:a.map (·.den bn)=a.map (·.den ay):=gw λy hy=>U.bw cU (p0 y hy);rw[fl,e];simp only[mz,bb];rw[show d.num=(a.map (·.den ay)).length by simp[p1],ua,q2]
 |[],_::_,_,_,_,_,_=>ao.fail
 |_::_,[],_,_,_,_,_=>ao.fail
 |[],[],_::_,_,_,_,hr=>hr.elim
 |_::_,_::_,[],_,_,_,hr=>hr.elim
end
section
variable {S:Nat->List Int->List Int->Prop} {P:bk} {gl:dA} {w0:cI}
theorem M5 {L:V->Env->Prop} {id:Nat} {l:List U} {n:Nat} {bds:List (Int×Int)} {r:T} {G:c9} {ρ:Env} (h:(T.call id l n bds r).holds S L G ρ) {rs:List Int} (hi:bd bds rs) (hs:S id (l.map (·.den ρ)) rs):r.holds S L G (bh ρ n rs):=
 kM h hi hs
theorem Q6 {ρ:Env} {m:Nat->Nat} {N nb:Nat} {ds:List D} {s:Nat} {zs:List Int} (h:bd (cE ds) zs) (ha:fJ ρ s zs) (hN:s+(cE ds).length<=N):(Cg ds s).ok N nb ρ/\(Cg ds s).rel ρ m (fh ds zs):=by
 have hs:=RX (m:=m) (nb:=nb) ds h ha hN;unfold Cg fh;rw[<-hs.2];split
 ·rename_i u heq;rw[heq]at hs;rw[heq];exact⟨hs.1 u (by simp),rfl⟩
 ·rename_i l hne;refine⟨hs.1,?_⟩;split
  ·rename_i x heq;have:∃u,tK s ds=[u]:=by
    cases hl:tK s ds with
    |nil=>rw[hl]at heq;simp at heq
    |cons u r=>
     cases r with
     |nil=>exact⟨u,rfl⟩
     |cons _ _=>rw[hl]at heq;simp at heq
   obtain⟨u,hu⟩:=this;exact absurd hu (hne u)
  ·rfl
def b9.xX (P:bk) (wb:ai) (c:b9) (spec:List Int->List Int->Prop):Prop:=∀zs,bd (cE c.args) zs->∃rs,bd (cE c.res) rs/\spec zs rs/\∀w,wb.Extends w->Af P c.f (mz c.args zs).toArray w (fh c.res rs)
theorem b9.dW.f {wb:ai} {c:b9} {spec:List Int->List Int->Prop} (h:c.dW P wb spec):c.xX P wb spec:=λzs hz=>by
 obtain⟨rs,h1,h2,h3⟩:=h.2 zs hz;exact⟨rs,h1,h2,λw hw=> .inr ⟨h.1 _ _,h3 w hw⟩⟩
theorem b9.snd {c:b9} {spec:List Int->List Int->Prop} (hc:c.xX P w0.b spec) (hS:∀zs rs,spec zs rs->S c.id zs rs) (L:V->Env->Prop) (n:Nat) (ρ:Env) (m:Nat->Nat) (bl:List aj) (vs:List V) (xs:List ax)
 (kt:∀v∈vs,V.ok n bl.length ρ v) (hr:db ρ m vs xs):ao S L (c.M bl vs) n ρ λae n' v=>v.ok n' bl.length ae/\∃val,v.rel ae m val/\∀w,Mem w0 ρ m bl w->Af P c.f xs.toArray w val:=by
 intro G k hk;unfold b9.M at hk;cases hl:pV c.args vs with
 |none=>
  simp only[hl]at hk;obtain⟨ay,n1,l,eY,dz,⟨_,h1,h2⟩,hk⟩:=V9 (S:=S) (L:=L) (nb:=bl.length) kt hr G _ hk;obtain⟨rs,r1,r2,r3⟩:=hc _ h1;have ag:=M5 hk r1 (hS _ _ r2);have hlen:=gp r1;have jG:=Q6 (m:=m) (nb:=bl.length) (N:=n1+(cE c.res).length) r1 (fJ.bh ay n1 rs) (aV _);refine⟨_,_,_,gx eY (CO _ _),dz.trans (agree.bh rs n1 ay) eY,⟨jG.1,_,jG.2,λw hw=>?_⟩,ag⟩;rw[h2]at r3;exact r3 w hw.ext
 |some l=>
  simp only[hl]at hk;obtain⟨h1,h2⟩:=NT hl kt hr;obtain⟨rs,r1,r2,r3⟩:=hc _ h1;have ag:=M5 hk r1 (hS _ _ r2);have hlen:=gp r1;have jG:=Q6 (m:=m) (nb:=bl.length) (N:=n+(cE c.res).length) r1 (fJ.bh ρ n rs) (aV _);refine⟨_,_,_,CO _ _,agree.bh rs n ρ,⟨jG.1,_,jG.2,λw hw=>?_⟩,ag⟩;rw[h2]at r3;exact r3 w hw.ext
def aoI:List aj->List V->M V:=λ_ vs=>
 match vs with
 |[.w (.one (.int .u64 x)),.w (.one (.int .u64 y))]=>
  cond (decide (0<=x.lo)&&decide (x.hi<0x10000000000000000)&&decide (0<=y.lo)&&decide (y.hi<0x10000000000000000)) (bind (mulM x y) λp=>bind (sP p 0x10000000000000000) λq=>
   pure (.e6 [.one (.int .u64 q),.one (.int .u64 ⟨p.l.sub (q.l.smul 0x10000000000000000),0,0xffffffffffffffff⟩)])) fail
 |_=>fail
def aeP:List aj->List V->M V:=λ_ vs=>
 match vs with
 |[.w (.one (.int .u64 x)),.w (.one (.int .u64 y)),.w (.one (.int .u64 c))]=>
  cond (decide (0<=x.lo)&&decide (0<=y.lo)&&decide (0<=c.lo)&&decide (c.hi<=1)) (bind (sP ⟨(x.l.add y.l).add c.l,x.lo+y.lo+c.lo,x.hi+y.hi+c.hi⟩ 0x10000000000000000) λq=>
   pure (.e6 [.one (.int .u64 ⟨((x.l.add y.l).add c.l).sub (q.l.smul 0x10000000000000000),0,0xffffffffffffffff⟩),.one (.int .u64 q)])) fail
 |_=>fail
def aup:List aj->List V->M V:=λ_ vs=>
 match vs with
 |[.w (.one (.int .u64 x)),.w (.one (.int .u64 y)),.w (.one (.int .u64 c))]=>
  cond (decide (0<=x.lo)&&decide (x.hi<0x10000000000000000)&&decide (0<=y.lo)&&decide (y.hi<0x10000000000000000)&&decide (0<=c.lo)&&decide (c.hi<=1)) (bind (sP ⟨(x.l.sub y.l).sub c.l,x.lo-y.hi-c.hi,x.hi-y.lo-c.lo⟩ 0x10000000000000000) λq=>
   pure (.e6 [.one (.int .u64 ⟨((x.l.sub y.l).sub c.l).sub (q.l.smul 0x10000000000000000),0,0xffffffffffffffff⟩),.one (.int .u64 ⟨q.l.smul (-1),0,1⟩)])) fail
 |_=>fail
variable {L:V->Env->Prop} {n:Nat} {ρ:Env} {m:Nat->Nat} {bl:List aj} {vs:List V} {xs:List ax}
end
end Go.aW
namespace Go.aW
open M
theorem sK:∀{b:List (Int×Int)} {P:List Int->Prop},(∀rs,bd b rs->P rs)->oR b P
 |[],_,h=>h [] trivial
 |(l,u)::b,P,h=>λr h1 h2=>sK (b:=b) (P:=λrs=>P (r::rs)) λrs hi=>h (r::rs) ⟨h1,h2,hi⟩
inductive O where
 |l (x:U)
 |b (x:bf)
def O.den (ρ:Env):O->Int
 |l x=>x.den ρ
 |b x=>cond (x.den ρ) 1 0
def iK (k:cX):List A->Option (List O)
 |[]=>some []
 | .int k' x::r=>cond (decide (k=k')) (match iK k r with|some l=>some (.l x.l::l)|none=>none) none
 |_::_=>none
def av.out:av->A->Option O
 | .int k _ _,.int k' x=>cond (decide (k=k')) (some (.l x.l)) none
 | .str,.str l=>some (.l l)
 | .bool,.bool e=>some (.b e)
 | .nil,.con (.slice none 0 0)=>some (.l (.const 0))
 |_,_=>none
def pk:List av->List A->Option (List O)
 |[],[]=>some []
 |c::d,a::r=>match c.out a,pk d r with|some o,some l=>some (o::l)|_,_=>none
 |_,_=>none
def vn:D->W->Option (List O)
 | .int k _ _,.one (.int k' x)=>cond (decide (k=k')) (some [.l x.l]) none
 | .bool,.one (.bool x)=>some [.b x]
 | .agg k n _ _,.agg l=>cond (aA l.length n) (iK k l) none
 | .str,.one (.str l)=>some [.l l]
 | .mix d,.agg l=>pk d l
 |_,_=>none
def xi:List D->List W->Option (List O)
 |[],[]=>some []
 |d::r,w::s=>match vn d w,xi r s with|some a,some b=>some (a++b)|_,_=>none
 |_,_=>none
def outs (ds:List D):V->Option (List O)
 | .w u=>match ds with|[d]=>vn d u|_=>none
 | .e6 l=>match ds with|[_]=>none|_=>xi ds l
 |_=>none
def vX (ds:List D) (K:List Int->Prop) (v:V) (ρ:Env):Prop:=
 match outs ds v with
 |some os=>K (os.map (O.den ρ))
 |none=>False
theorem aaf {ρ:Env} {m:Nat->Nat} {k:cX}:∀{l:List A} {os:List O},iK k l=some os->os.length=l.length/\l.map (A.den ρ m)=(os.map (O.den ρ)).map (.int k)
 |[],os,h=>by simp[iK]at h;subst h;exact⟨rfl,rfl⟩
 | .int k' x::r,os,h=>by
  simp only[iK]at h;by_cases hk:k=k'
  ·simp only[hk,decide_true,cond_true]at h;cases hr:iK k' r with
   |none=>simp[hr]at h
   |some o=>
    simp only[hr,aK]at h;subst h;subst hk;obtain⟨h1,h2⟩:=aaf (ρ:=ρ) (m:=m) hr;exact⟨by simp[h1],by simp only[ch,h2,A.den,O.den]⟩
  ·simp[hk]at h
 | .bool _::_,_,h=>by simp[iK]at h
 | .ptr .. ::_,_,h=>by simp[iK]at h
 | .ow .. ::_,_,h=>by simp[iK]at h
 | .gptr .. ::_,_,h=>by simp[iK]at h
 | .slc .. ::_,_,h=>by simp[iK]at h
 | .con _::_,_,h=>by simp[iK]at h
 | .str _::_,_,h=>by simp[iK]at h
theorem av.aqH {ρ:Env} {m:Nat->Nat} {c:av} {a:A} {o:O} (h:c.out a=some o):a.den ρ m=c.val (o.den ρ):=by
 unfold av.out at h;split at h
 ·rename_i k lo hi k' x;by_cases hk:k=k'
  ·subst hk;simp only[decide_true,cond_true,aK]at h;subst h;rfl
  ·simp[hk]at h
 ·simp only[aK]at h;subst h;rfl
 ·rename_i e;simp only[aK]at h;subst h;have hb:∀b:Bool,ayw b=ayw (decide ((cond b 1 0:Int)=1)):=by intro b;cases b<;>rfl
  exact hb (e.den ρ)
 ·simp only[aK]at h;subst h;rfl
 ·cases h
theorem aai {ρ:Env} {m:Nat->Nat}:∀{d:List av} {l:List A} {os:List O},pk d l=some os->os.length=d.length/\l.map (A.den ρ m)=oM av.val d (os.map (O.den ρ))
 |[],[],os,h=>by simp[pk]at h;subst h;exact⟨rfl,rfl⟩
 |c::d,a::r,os,h=>by
  simp only[pk]at h;cases h1:c.out a with
  |none=>simp[h1]at h
  |some o=>
   cases hr:pk d r with
   |none=>simp[h1,hr]at h
   |some l=>
    simp only[h1,hr,aK]at h;subst h;obtain⟨p1,aJ⟩:=aai (ρ:=ρ) (m:=m) hr;exact⟨by simp[p1],by simp only[ch,aJ,av.aqH h1,Hb]⟩
 |[],_::_,_,h=>by simp[pk]at h
 |_::_,[],_,h=>by simp[pk]at h
theorem QD {ρ:Env} {m:Nat->Nat} {d:D} {u:W} {os:List O} (h:vn d u=some os):os.length=d.num/\∀zs,d.val (os.map (O.den ρ)++zs)=u.den ρ m:=by
 unfold vn at h;split at h
 ·rename_i k _ _ k' x;by_cases hk:k=k'
  ·subst hk;simp only[decide_true,cond_true,aK]at h;subst h;exact⟨rfl,λzs=>by simp[D.val,W.den,A.den,O.den]⟩
  ·simp[hk]at h
 ·rename_i x;simp only[aK]at h;subst h;exact⟨rfl,λzs=>by cases hx:x.den ρ<;>simp[D.val,W.den,A.den,O.den,hx]⟩
 ·rename_i k n' _ _ l;cases hc:aA l.length n' with
  |false=>simp[hc]at h
  |true=>
   simp only[hc,cond_true]at h;have hl:=bo hc;subst hl;obtain⟨h1,h2⟩:=aaf (ρ:=ρ) (m:=m) h;exact⟨h1,λzs=>by simp only[D.val,W.den,h2];rw[Hc (by simp[h1]),lu (by simp[h1])]⟩
 ·simp only[aK]at h;subst h;exact⟨rfl,λzs=>rfl⟩
 ·rename_i d l;obtain⟨h1,h2⟩:=aai (ρ:=ρ) (m:=m) h;refine⟨h1,λzs=>?_⟩;simp only[D.val,W.den,h2]
  congr 2
  have key:∀(a:List av) (b c:List Int),b.length=a.length->oM av.val a (b++c)=oM av.val a b:=by
   intro a;induction a with
   |nil=>intro b c _;simp
   |cons p a ih=>
    intro b c hb;cases b with
    |nil=>simp at hb
    |cons z b=>simp[ih b c (by simpa using hb)]
  exact key _ _ _ (by simp[h1])
 ·cases h
theorem aag {ρ:Env} {m:Nat->Nat}:∀{ds:List D} {l:List W} {os:List O},xi ds l=some os->mz ds (os.map (O.den ρ))=l.map (W.den ρ m)
 |[],[],os,h=>by simp[xi]at h;subst h;rfl
 |d::ds,u::l,os,h=>by
  simp only[xi]at h;cases h1:vn d u with
  |none=>simp[h1]at h
  |some a=>
   cases h2:xi ds l with
   |none=>simp[h1,h2]at h
   |some b=>
    simp only[h1,h2,aK]at h;subst h;obtain⟨p1,aJ⟩:=QD (ρ:=ρ) (m:=m) h1;rw[fl];simp only[mz,aJ,ch];rw[show d.num=(a.map (O.den ρ)).length by simp[p1],ua,aag h2]
 |[],_::_,_,h=>by simp[xi]at h
 |_::_,[],_,h=>by simp[xi]at h
theorem axP (ds:List D):∀zs,(mz ds zs).length=ds.length:=by
 induction ds with
 |nil=>intro zs;rfl
 |cons d r ih=>intro zs;simp[mz,ih]
theorem HB {ds:List D} {K:List Int->Prop} {v:V} {ρ:Env} {m:Nat->Nat} {val:ax} (h:vX ds K v ρ) (hr:v.rel ρ m val):∃rs,K rs/\val=fh ds rs:=by
 unfold vX at h;cases ho:outs ds v with
 |none=>simp[ho]at h
 |some os=>
  simp only[ho]at h;refine⟨_,h,?_⟩;unfold outs at ho;cases v with
  |any=>cases ho
  |pj _ _ _=>cases ho
  |mI _ _=>cases ho
  |w u=>
   simp only at ho;split at ho
   ·rename_i d;obtain⟨p1,aJ⟩:=QD (ρ:=ρ) (m:=m) ho;simp only[V.rel]at hr;have:=aJ [];rw[lv]at this;simp[fh,mz,this,hr]
   ·cases ho
  |e6 l=>
   simp only at ho;split at ho
   ·cases ho
   ·rename_i hne;have:=aag (ρ:=ρ) (m:=m) ho;simp only[V.rel]at hr;unfold fh;split
    ·rename_i x heq;exfalso;have hl:=axP ds (os.map (O.den ρ));rw[heq]at hl
     match ds,hl with
     |[d],_=>exact hne d rfl
    ·rw[hr,this]
noncomputable def aAa (cons:List b9) (aoJ aeQ auq:cB):ed:=λf=>
 cond (aA f aoJ) (some aoI) <| cond (aA f aeQ) (some aeP) <| cond (aA f auq) (some aup) <|
 match cons.find? (λc=>aA f c.f)with
 |some c=>some c.M
 |none=>none
section
variable {S:Nat->List Int->List Int->Prop} {P:bk} {gl:dA} {wb:ai}
noncomputable def H8 (cons:List b9):ed:=λf=>
 match cons.filter (λc=>aA f c.f)with
 |[]=>none
 |l=>some λbl vs n k=>match l.find? (λc=>(pV c.args vs).isSome)with
  |some c=>c.M bl vs n k
  |none=>match l with
   |c::_=>c.M bl vs n k
   |[]=> .stuck
theorem U8 {w0:cI} {cons:List b9} (hc:∀c∈cons,c.xX P w0.b (S c.id)):fp S P gl w0 (H8 cons):=by
 intro f g rT L n ρ m bl vs xs h1 h2 h3 h4;unfold H8 at rT;split at rT
 ·cases rT
 ·rename_i l hl;simp only[aK]at rT;subst rT;intro G k hk;simp only at hk;split at hk
  ·rename_i c OD;have de:=List.mem_filter.1 (zV OD);have Eh:=bo de.2;subst Eh;exact b9.snd (hc c de.1) (λ_ _ h=>h) L n ρ m bl vs xs h3 h4 G k hk
  ·split at hk
   ·rename_i c r hl2;have de:=List.mem_filter.1 (show c∈cons.filter (λc=>aA f c.f) from by rw[hl2];exact ub (a:=c) (l:=r));have Eh:=bo de.2;subst Eh;exact b9.snd (hc c de.1) (λ_ _ h=>h) L n ρ m bl vs xs h3 h4 G k hk
   ·exact hk.elim
theorem Calls.some {f:cB} {args:Array ax} {w:ai} {R:qw->ai->Prop} (h:gZ P f args w R):∃e w',R e w':=by
 obtain⟨e,w',pX,h1,_⟩:=h [];exact⟨e,w',h1⟩
noncomputable def b9.tree (P:bk) (gl:dA) (cal:ed) (li:cB->Nat->Option dc) (rounds d:Nat) (c:b9):T:=H9 P gl cal li rounds d c.f (cE c.args).length ((tK 0 c.args).map V.w) [] λ_ v _=> .leaf v
theorem T9 {ρ:Env} {m:Nat->Nat}:∀(l:List W),db ρ m (l.map V.w) (l.map (W.den ρ m))
 |[]=>trivial
 |_::r=>⟨rfl,T9 r⟩
theorem b9.calls {c:b9} {cal:ed} {li:cB->Nat->Option dc} {rounds d:Nat} {L:V->Env->Prop} (hm:P.follows .mixedOrders=true) (cp:∀r ex ro,fp S P gl ⟨wb,r,ex,ro,[]⟩ cal) (hg:eN gl ⟨wb,wb,λ_=>False,λ_=>False,[]⟩) {zs:List Int} (hz:bd (cE c.args) zs)
 (ht:(c.tree P gl cal li rounds d).holds S L (λ_ _=>False) (bh (λ_=>0) 0 zs)) (w:ai) (hw:wb.Extends w):
 gZ P c.f (mz c.args zs).toArray w λe w'=>∃v ae m val,e= .returned val/\v.rel ae m val/\L v ae/\w.Extends w':=by
 have hs:=RX (m:=λ_=>0) (nb:=0) (N:=(cE c.args).length) c.args hz (fJ.bh (λ_=>0) 0 zs) (by omega);have:=afJ (L:=L) (b:=wb) (w:=w) hm (cp w _ _) hg c.f _ _ _ ((tK 0 c.args).map (W.den (bh (λ_=>0) 0 zs) λ_=>0)) hw (λv hv=>by
  obtain⟨u,hu,rfl⟩:=List.mem_map.1 hv;exact hs.1 u hu) (T9 _) ht
 rw[hs.2]at this;refine this.mono λe w' ⟨v,ae,m,val,nb,h1,h2,_,h3,h4⟩=>⟨v,ae,m,val,h1,h2,h3,h4⟩
end
end Go.aW
namespace Go.aW
open M
structure azq where
 f:cB
 id:Nat
 k:cX
 N:Nat
 lo:Int
 hi:Int
 ty:aR
 off:Nat
 len:Nat
 cap:Nat
 args:List D
 res:List D
section
variable {S:Nat->List Int->List Int->Prop} {P:bk} {gl:dA} {w0:cI}
end
end Go.aW
namespace Go.aW
def rJ (P:bk) (f:cB):Bool:=match P.funcs[f]? with
 |some fn=> !(fn.name== "runtime.NumGoroutine")&&fn.body.isSome
 |none=>false
theorem enters {P:bk} {f:cB} (h:rJ P f=true) (args:Array ax) (w:ai):(callFunc f args).run P w= .ok (.enter f args) w:=by
 unfold rJ at h;cases hf:P.funcs[f]? with
 |none=>simp[hf]at h
 |some fn=>
  simp only[hf,aQ,iP]at h;have h1:fn.name≠ "runtime.NumGoroutine" :=by simpa using h.1
  obtain⟨c,hc⟩:=Option.isSome_iff_exists.1 h.2;simp[callFunc,hf,h1,hc,Sem.run]
section
variable {S:Nat->List Int->List Int->Prop} {P:bk} {gl:dA} {wb:ai}
end
end Go.aW
namespace Go.aW
abbrev gA:=List (Nat×Nat)
abbrev gz:=List (List Int)
def qW:gA->gz->Nat->Int
 |(s,k)::st,l::aH,i=>cond (bp s i&&ck i (s+k)) (l.getD (i-s) 0) (qW st aH i)
 |_,_,_=>0
def P9:gA->gz->Prop
 |(_,k)::st,l::aH=>l.length=k/\P9 st aH
 |[],[]=>True
 |_,_=>False
def mD (ρ:Env) (st:gA) (aH:gz):Prop:=P9 st aH/\∀i,ρ i=qW st aH i
def AF (st:gA) (aH:gz):List (Int×Nat)->Int
 |[]=>0
 |(k,i)::r=>match r with
  |[]=>cond (k==1) (qW st aH i) (k*qW st aH i)
  |_=>cond (k==1) (qW st aH i) (k*qW st aH i)+AF st aH r
def U.en (st:gA) (aH:gz) (l:U):Int:=
 match l.ts with
 |[]=>l.c
 |ts=>cond (l.c==0) (AF st aH ts) (AF st aH ts+l.c)
theorem Vo {ρ:Env} {st:gA} {aH:gz} (h:∀i,ρ i=qW st aH i):∀ts,AF st aH ts=gD ρ ts
 |[]=>rfl
 |(k,i)::[]=>by
  simp only[AF,gD,<-h i];cases hk:(k==1)with
  |true=>have:k=1:=by simpa using hk
         subst this;simp
  |false=>simp
 |(k,i)::t::r=>by
  have ih:=Vo h (t::r);rw[AF,gD,ih,<-h i]
  ·cases hk:(k==1)with
   |true=>have:k=1:=by simpa using hk
          subst this;simp
   |false=>simp
  ·intro hc;cases hc
theorem U.iB {ρ:Env} {st:gA} {aH:gz} (h:∀i,ρ i=qW st aH i) (l:U):l.en st aH=l.den ρ:=by
 unfold U.en U.den;cases hl:l.ts with
 |nil=>simp[gD]
 |cons t r=>
  simp only[Vo h];cases hc:(l.c==0)with
  |true=>have:l.c=0:=by simpa using hc
         rw[this];simp
  |false=>simp
def yl:gA->gz->Nat->Nat->Option (List Int)
 |(s,k)::st,l::aH,i,len=>cond (aA s i&&aA k len) (some l) (cond (bp (i+len) s||bp (s+k) i) (yl st aH i len) none)
 |_,_,_,_=>none
theorem VW:∀{st:gA} {aH:gz} {i len:Nat} {l:List Int},yl st aH i len=some l->P9 st aH->l.length=len/\∀j,j<len->qW st aH (i+j)=l.getD j 0
 |[],_,_,_,_,h,_=>by simp[yl]at h
 |_::_,[],_,_,_,h,_=>by simp[yl]at h
 |(s,k)::st,bJ::aH,i,len,l,h,hl=>by
  unfold yl at h;cases h1:(aA s i&&aA k len)with
  |true=>
   simp only[h1,cond_true,aK]at h;subst h;simp only[aQ]at h1;have e1:=bo h1.1;have e2:=bo h1.2;subst e1;subst e2;refine⟨hl.1,λj hj=>?_⟩;unfold qW;have:(bp s (s+j)&&ck (s+j) (s+k))=true:=by simp[ck];omega
   rw[this,cond_true,Nat.add_sub_cancel_left]
  |false=>
   simp only[h1,cond_false]at h;cases h2:(bp (i+len) s||bp (s+k) i)with
   |false=>simp[h2]at h
   |true=>
    simp only[h2,cond_true]at h;obtain⟨g1,g2⟩:=VW h hl.2;refine⟨g1,λj hj=>?_⟩;rw[<-g2 j hj]
    conv=>lhs;unfold qW
    have:(bp s (i+j)&&ck (i+j) (s+k))=false:=by
     simp only[pD,Nat.ble_eq]at h2;cases h3:(bp s (i+j)&&ck (i+j) (s+k))with
     |false=>rfl
     |true=>simp[ck]at h3;omega
    rw[this,cond_false]
def E7:Nat->List U->Bool
 |_,[]=>true
 |i,l::r=>(l.c==0&&(match l.ts with|[(k,j)]=>k==1&&aA i j|_=>false))&&E7 (i+1) r
def firstVar:List U->Nat
 |[]=>0
 |l::_=>match l.ts with|[(_,j)]=>j|_=>0
theorem YX {ρ:Env}:∀{ls:List U} {i:Nat},E7 i ls=true->∀j,j<ls.length->(ls.map (·.den ρ)).getD j 0=ρ (i+j)
 |[],_,_,j,hj=>by simp at hj
 |l::r,i,h,j,hj=>by
  simp only[E7,aQ]at h;cases j with
  |zero=>
   obtain⟨⟨h1,h2⟩,_⟩:=h;have hc:l.c=0:=by simpa using h1
   cases hl:l.ts with
   |nil=>simp[hl]at h2
   |cons t s=>
    cases s with
    |cons t' j8=>simp[hl]at h2
    |nil=>
     obtain⟨k,q⟩:=t;simp only[hl,aQ]at h2;have e1:k=1:=by simpa using h2.1
     have e2:=bo h2.2;subst e1;subst e2;simp[U.den,hl,gD,hc]
  |succ j=>
   have:=YX (ρ:=ρ) h.2 j (by simpa using hj);simp only[ch,G6];rw[this]
   congr 1;omega
def tJ (st:gA) (aH:gz) (ls:List U):List Int:=
 cond (ck 1 ls.length&&E7 (firstVar ls) ls) (match yl st aH (firstVar ls) ls.length with|some l=>l|none=>ls.map (U.en st aH)) (ls.map (U.en st aH))
theorem Zv {l bJ:List Int} (hl:l.length=bJ.length) (h:∀j,j<l.length->l.getD j 0=bJ.getD j 0):l=bJ:=by
 apply List.ext_getElem hl;intro j h1 h2;have:=h j h1;simpa [List.getD_eq_getElem?_getD,gF h1,gF h2]using this
theorem KY {ρ:Env} {st:gA} {aH:gz} (h:mD ρ st aH) (ls:List U):tJ st aH ls=ls.map (·.den ρ):=by
 have e0:ls.map (U.en st aH)=ls.map (·.den ρ):=gw λl _=>U.iB h.2 l;unfold tJ;cases h1:(ck 1 ls.length&&E7 (firstVar ls) ls)with
 |false=>simpa using e0
 |true=>
  simp only[cond_true];simp only[aQ]at h1;cases h2:yl st aH (firstVar ls) ls.length with
  |none=>exact e0
  |some l=>
   obtain⟨g1,g2⟩:=VW h2 h.1;show l=_;refine Zv (by simp[g1]) λj hj=>?_;rw[YX h1.2 j (by omega),h.2,g2 j (by omega)]
def ma:bf->Option (List U×List U)
 | .eq a b=>some ([a],[b])
 | .and (.eq a b) r=>match ma r with|some (x,y)=>some (a::x,b::y)|none=>none
 |_=>none
def bf.en (st:gA) (aH:gz):bf->Bool
 |lit b=>b
 |eq a b=>decide (a.en st aH=b.en st aH)
 |lt a b=>decide (a.en st aH<b.en st aH)
 |le a b=>decide (a.en st aH<=b.en st aH)
 |not a=> !a.en st aH
 |and a b=>match ma (.and a b)with
  |some (x,y)=>decide (tJ st aH x=tJ st aH y)
  |none=>a.en st aH&&b.en st aH
 |iff a b=>a.en st aH==b.en st aH
theorem VO {ρ:Env}:∀{b:bf} {x y:List U},ma b=some (x,y)->b.den ρ=decide (x.map (·.den ρ)=y.map (·.den ρ))
 | .eq a b,x,y,h=>by
  simp only[ma,aK,cN]at h;obtain⟨rfl,rfl⟩:=h;simp[bf.den]
 | .and (.eq a b) r,x,y,h=>by
  simp only[ma]at h;cases hr:ma r with
  |none=>simp[hr]at h
  |some p=>
   obtain⟨fP,jS⟩:=p;simp only[hr,aK,cN]at h;obtain⟨rfl,rfl⟩:=h;have ih:=VO (ρ:=ρ) hr;simp only[bf.den,ih,ch,gY];simp
 | .lit _,_,_,h=>by simp[ma]at h
 | .lt _ _,_,_,h=>by simp[ma]at h
 | .le _ _,_,_,h=>by simp[ma]at h
 | .not _,_,_,h=>by simp[ma]at h
 | .iff _ _,_,_,h=>by simp[ma]at h
 | .and (.lit _) _,_,_,h=>by simp[ma]at h
 | .and (.lt _ _) _,_,_,h=>by simp[ma]at h
 | .and (.le _ _) _,_,_,h=>by simp[ma]at h
 | .and (.not _) _,_,_,h=>by simp[ma]at h
 | .and (.and _ _) _,_,_,h=>by simp[ma]at h
 | .and (.iff _ _) _,_,_,h=>by simp[ma]at h
theorem bf.iB {ρ:Env} {st:gA} {aH:gz} (h:mD ρ st aH):∀b:bf,b.en st aH=b.den ρ
 |lit _=>rfl
 |eq a b=>by simp only[en,den,U.iB h.2]
 |lt a b=>by simp only[en,den,U.iB h.2]
 |le a b=>by simp only[en,den,U.iB h.2]
 |not a=>by simp only[en,den,bf.iB h a]
 |and a b=>by
  have e1:=bf.iB h a;have e2:=bf.iB h b;unfold en;cases hq:ma (.and a b)with
  |none=>simp only[den,e1,e2]
  |some p=>
   obtain⟨x,y⟩:=p;simp only[VO (ρ:=ρ) hq,KY h]
 |iff a b=>by simp only[en,den,bf.iB h a,bf.iB h b]
def gN {α:Type}:List Nat->List α->List (List α)
 |[],[]=>[]
 |[],x::l=>[x::l]
 |k::ln,l=>l.take k::gN ln (l.drop k)
theorem K6 {α β:Type} (f:α->β):∀(ln:List Nat) (l:List α),gN ln (l.map f)=(gN ln l).map (List.map f)
 |[],[]=>rfl
 |[],_::_=>rfl
 |k::ln,l=>by simp only[gN,ch,<-zS,<-zT,K6 f ln]
def v8:List Nat->Nat->List (Int×Int)->(gA->gz->List (List Int)->Prop)->gA->gz->Prop
 |[],_,[],P,st,aH=>P st aH []
 |[],_,_::_,_,_,_=>False
 |k::ln,n,bds,P,st,aH=>cond (aA k 1)
  (match bds with
  |(lo,hi)::UH=>∀z:Int,lo<=z->z<=hi->v8 ln (n+1) UH (λnK np ls=>P nK np ([z]::ls)) ((n,1)::st) ([z]::aH)
  |[]=>False)
  (cond (bp k bds.length) (∀r:List Int,bd (bds.take k) r->v8 ln (n+k) (bds.drop k) (λnK np ls=>P nK np (r::ls)) ((n,k)::st) (r::aH)) False)
theorem ab4:∀(a b:List Int) (n:Nat) (ρ:Env),bh ρ n (a++b)=bh (bh ρ n a) (n+a.length) b
 |[],b,n,ρ=>rfl
 |z::a,b,n,ρ=>by
  simp only[qx,bh,dj];rw[ab4 a b]
  congr 1;omega
theorem ab5:∀(l:List Int) (n:Nat) (ρ:Env) (i:Nat),bh ρ n l i=cond (bp n i&&ck i (n+l.length)) (l.getD (i-n) 0) (ρ i)
 |[],n,ρ,i=>by
  have:(bp n i&&ck i (n+0))=false:=by
   cases h:(bp n i&&ck i (n+0))with
   |false=>rfl
   |true=>simp[ck]at h;omega
  simp only[bh,fe,this,cond_false]
 |z::l,n,ρ,i=>by
  simp only[bh];rw[ab5 l (n+1)];by_cases h1:i=n
  ·subst h1;have e1:(bp (i+1) i&&ck i (i+1+l.length))=false:=by
    have:bp (i+1) i=false:=by
     cases h:bp (i+1) i with
     |false=>rfl
     |true=>exact absurd (et h) (by omega)
    simp[this]
   have e2:(bp i i&&ck i (i+(z::l).length))=true:=by simp[ck]
   rw[e1,e2];simp[cR]
  ·have hu:cR ρ n z i=ρ i:=Sc ρ z h1;by_cases h2:n<=i/\i<n+1+l.length
   ·have e1:(bp (n+1) i&&ck i (n+1+l.length))=true:=by simp[ck];omega
    have e2:(bp n i&&ck i (n+(z::l).length))=true:=by simp[ck];omega
    rw[e1,e2];simp only[cond_true];rw[show i-n=(i-(n+1))+1 by omega,G6]
   ·have e1:(bp (n+1) i&&ck i (n+1+l.length))=false:=by
     cases h:(bp (n+1) i&&ck i (n+1+l.length))with
     |false=>rfl
     |true=>simp[ck]at h;omega
    have e2:(bp n i&&ck i (n+(z::l).length))=false:=by
     cases h:(bp n i&&ck i (n+(z::l).length))with
     |false=>rfl
     |true=>simp[ck]at h;omega
    rw[e1,e2];simp[hu]
theorem mD.push {ρ:Env} {st:gA} {aH:gz} (h:mD ρ st aH) (n:Nat) (l:List Int):mD (bh ρ n l) ((n,l.length)::st) (l::aH):=
 ⟨⟨rfl,h.1⟩,λi=>by rw[ab5,qW,<-h.2 i]⟩
theorem YM:∀{bds:List (Int×Int)} {zs:List Int} (k:Nat),bd bds zs->bd (bds.take k) (zs.take k)/\bd (bds.drop k) (zs.drop k)
 |[],[],k,_=>by simp[bd]
 |[],_::_,_,h=>h.elim
 |(_,_)::_,[],_,h=>h.elim
 |(l,u)::b,z::zs,0,h=>by simpa [bd]using h
 |(l,u)::b,z::zs,k+1,h=>by
  obtain⟨h1,h2,h3⟩:=h;obtain⟨g1,g2⟩:=YM (bds:=b) (zs:=zs) k h3;exact⟨⟨h1,h2,g1⟩,g2⟩
theorem Al:∀{ln:List Nat} {n:Nat} {bds:List (Int×Int)} {P:gA->gz->List (List Int)->Prop} {st:gA} {aH:gz} {ρ:Env} {zs:List Int},v8 ln n bds P st aH->mD ρ st aH->bd bds zs->∃nK np,mD (bh ρ n zs) nK np/\P nK np (gN ln zs)
 |[],n,[],P,st,aH,ρ,[],h,ht,_=>⟨st,aH,ht,h⟩
 |[],_,[],_,_,_,_,_::_,_,_,hi=>hi.elim
 |[],_,_::_,_,_,_,_,_,h,_,_=>h.elim
 |k::ln,n,bds,P,st,aH,ρ,zs,h,ht,hi=>by
  unfold v8 at h;cases hk:aA k 1 with
  |true=>
   have e:=bo hk;subst e;simp only[hk,cond_true]at h;cases bds with
   |nil=>exact h.elim
   |cons b UH=>
    obtain⟨lo,nv⟩:=b;cases zs with
    |nil=>exact hi.elim
    |cons z zs=>
     obtain⟨h1,h2,h3⟩:=hi;have:=Al (h z h1 h2) (ht.push n [z]) h3;obtain⟨nK,np,g1,g2⟩:=this;refine⟨nK,np,g1,?_⟩;simpa [gN]using g2
  |false=>
   simp only[hk,cond_false]at h;cases hb:bp k bds.length with
   |false=>simp only[hb,cond_false]at h
   |true=>
    simp only[hb,cond_true]at h;have hb':k<=bds.length:=by simpa using hb
    have hlen:=gp hi;obtain⟨i1,i2⟩:=YM k hi;have e:(zs.take k).length=k:=by simp;omega
    have hP:=ht.push n (zs.take k);rw[e]at hP;obtain⟨nK,np,g1,g2⟩:=Al (h _ i1) hP i2;refine⟨nK,np,?_,g2⟩;have e2:=ab4 (zs.take k) (zs.drop k) n ρ;rw[jy,e]at e2;rw[e2];exact g1
abbrev Ac:=Nat->List (List Int)->Prop
def Ac.set (A:Ac) (iZ:Nat) (p:List (List Int)->Prop):Ac:=λi=>cond (aA i iZ) p (A i)
def T.lj (sh:Nat->List Nat×List Nat) (lsh:Nat->List Nat) (S:Nat->List (List Int)->List (List Int)->Prop) (L:V->gA->gz->Prop):T->Ac->gA->gz->Prop
 |stuck,_,_,_=>False
 |leaf v,_,st,aH=>L v st aH
 |div n x d lo hi r,A,st,aH=>∀q:Int,lo<=q->q<=hi->0<=x.en st aH-d*q->x.en st aH-d*q<d->r.lj sh lsh S L A ((n,1)::st) ([q]::aH)
 |mul n x y lo hi r,A,st,aH=>∀p:Int,lo<=p->p<=hi->p=x.en st aH*y.en st aH->r.lj sh lsh S L A ((n,1)::st) ([p]::aH)
 |bit n op k x y r,A,st,aH=>∀z:Int,0<=z->z<=k.max->z=aZ op k (x.en st aH) (y.en st aH)->r.lj sh lsh S L A ((n,1)::st) ([z]::aH)
 |shr n x y lo hi r,A,st,aH=>∀z:Int,lo<=z->z<=hi->z=x.en st aH/2^(y.en st aH).toNat->r.lj sh lsh S L A ((n,1)::st) ([z]::aH)
 |KZ n cs a7 lo hi r,A,st,aH=>∀z:Int,lo<=z->z<=hi->z=(tJ st aH cs).getD (a7.en st aH).toNat 0->r.lj sh lsh S L A ((n,1)::st) ([z]::aH)
 |ux b t e,A,st,aH=>(b.en st aH=true->t.lj sh lsh S L A st aH)/\(b.en st aH=false->e.lj sh lsh S L A st aH)
 |call id args n bds r,A,st,aH=>v8 (sh id).2 n bds (λnK np rs=>S id ((gN (sh id).1 args).map (tJ st aH)) rs->r.lj sh lsh S L A nK np) st aH
 |loop iZ init n bds r,A,st,aH=>∃(I:List (List Int)->Prop) (fo:List (List Int)->Nat),I ((gN (lsh iZ) init).map (tJ st aH))/\
  v8 (lsh iZ) n bds (λnK np zs=>I zs->r.lj sh lsh S L (A.set iZ λvs=>I vs/\fo vs<fo zs) nK np) st aH
 |again iZ vals,A,st,aH=>A iZ ((gN (lsh iZ) vals).map (tJ st aH))
 |both a b,A,st,aH=>a.lj sh lsh S L A st aH/\b.lj sh lsh S L A st aH
 |fn n op args lo hi r,A,st,aH=>∀z:Int,lo<=z->z<=hi->z=aB op (args.map (U.en st aH))->r.lj sh lsh S L A ((n,1)::st) ([z]::aH)
 |ind n b r,A,st,aH=>∀z:Int,0<=z->z<=1->b.en st aH=decide (z=1)->r.lj sh lsh S L A ((n,1)::st) ([z]::aH)
 |tO n lo hi r,A,st,aH=>∀z:Int,lo<=z->z<=hi->r.lj sh lsh S L A ((n,1)::st) ([z]::aH)
 |nat n r,A,st,aH=>∀z:Int,0<=z->r.lj sh lsh S L A ((n,1)::st) ([z]::aH)
 |wg op args r,A,st,aH=>ah op (args.map (U.en st aH))->r.lj sh lsh S L A st aH
 |oU op args r,A,st,aH=>ah op (args.map (U.en st aH))/\r.lj sh lsh S L A st aH
theorem Ry {ρ:Env} {st:gA} {aH:gz} (h:mD ρ st aH) (ln:List Nat) (l:List U):(gN ln l).map (tJ st aH)=gN ln (l.map (·.den ρ)):=by
 rw[K6];exact gw λx _=>KY h x
def b5 (sh:Nat->List Nat×List Nat) (S:Nat->List (List Int)->List (List Int)->Prop):Nat->List Int->List Int->Prop:=λid zs rs=>S id (gN (sh id).1 zs) (gN (sh id).2 rs)
theorem Qn {ρ:Env} {st:gA} {aH:gz} (h:mD ρ st aH) (l:List U):l.map (U.en st aH)=l.map (·.den ρ):=gw λx _=>U.iB h.2 x
theorem lI {sh:Nat->List Nat×List Nat} {lsh:Nat->List Nat} {S:Nat->List (List Int)->List (List Int)->Prop} {T4:V->gA->gz->Prop} {L:V->Env->Prop} (hL:∀v ρ st aH,mD ρ st aH->T4 v st aH->L v ρ):
 ∀(t:T) (fR:Ac) (A:c9) (ρ:Env) (st:gA) (aH:gz),(∀iZ vs,fR iZ (gN (lsh iZ) vs)->A iZ vs)->mD ρ st aH->t.lj sh lsh S T4 fR st aH->t.holds (b5 sh S) L A ρ
 | .stuck,_,_,_,_,_,_,_,h=>h
 | .leaf v,_,_,ρ,st,aH,_,ht,h=>hL v ρ st aH ht h
 | .div n x d lo hi r,fR,A,ρ,st,aH,hA,ht,h=>λq h1 h2 h3 h4=>lI hL r fR A _ _ _ hA (ht.push n [q]) (h q h1 h2 (by rw[U.iB ht.2];exact h3) (by rw[U.iB ht.2];exact h4))
 | .mul n x y lo hi r,fR,A,ρ,st,aH,hA,ht,h=>λq h1 h2 h3=>lI hL r fR A _ _ _ hA (ht.push n [q]) (h q h1 h2 (by rw[U.iB ht.2,U.iB ht.2];exact h3))
 | .bit n op k x y r,fR,A,ρ,st,aH,hA,ht,h=>λq h1 h2 h3=>lI hL r fR A _ _ _ hA (ht.push n [q]) (h q h1 h2 (by rw[U.iB ht.2,U.iB ht.2];exact h3))
 | .shr n x y lo hi r,fR,A,ρ,st,aH,hA,ht,h=>λq h1 h2 h3=>lI hL r fR A _ _ _ hA (ht.push n [q]) (h q h1 h2 (by rw[U.iB ht.2,U.iB ht.2];exact h3))
 | .KZ n cs a7 lo hi r,fR,A,ρ,st,aH,hA,ht,h=>λq h1 h2 h3=>lI hL r fR A _ _ _ hA (ht.push n [q]) (h q h1 h2 (by rw[KY ht,U.iB ht.2];exact h3))
 | .ux b t e,fR,A,ρ,st,aH,hA,ht,h=>⟨λhb=>lI hL t fR A _ _ _ hA ht (h.1 (by rw[bf.iB ht];exact hb)),λhb=>lI hL e fR A _ _ _ hA ht (h.2 (by rw[bf.iB ht];exact hb))⟩
 | .call id args n bds r,fR,A,ρ,st,aH,hA,ht,h=>by
  refine sK λrs hi hs=>?_;obtain⟨nK,np,h1,h2⟩:=Al h ht hi;exact lI hL r fR A _ _ _ hA h1 (h2 (by rw[Ry ht];exact hs))
 | .loop iZ init n bds r,fR,A,ρ,st,aH,hA,ht,h=>by
  obtain⟨I,fo,h1,h2⟩:=h;refine⟨λzs=>I (gN (lsh iZ) zs),λzs=>fo (gN (lsh iZ) zs),?_,?_⟩
  ·rw[Ry ht]at h1;exact h1
  ·refine sK λzs hi hI=>?_;obtain⟨nK,np,g1,g2⟩:=Al h2 ht hi;refine lI hL r _ _ _ _ _ (λanF vs hv=>?_) g1 (g2 hI);unfold Ac.set at hv;unfold c9.set;cases hq:aA anF iZ with
   |true=>
    rw[hq]at hv;have e:=bo hq;subst e;exact hv
   |false=>rw[hq]at hv;exact hA _ _ hv
 | .again iZ vals,fR,A,ρ,st,aH,hA,ht,h=>hA iZ _ (by rw[<-Ry ht];exact h)
 | .both x y,fR,A,ρ,st,aH,hA,ht,h=>⟨lI hL x fR A ρ st aH hA ht h.1,lI hL y fR A ρ st aH hA ht h.2⟩
 | .fn n op args lo hi r,fR,A,ρ,st,aH,hA,ht,h=>λq h1 h2 h3=>lI hL r fR A _ _ _ hA (ht.push n [q]) (h q h1 h2 (by rw[Qn ht];exact h3))
 | .ind n b r,fR,A,ρ,st,aH,hA,ht,h=>λq h1 h2 h3=>lI hL r fR A _ _ _ hA (ht.push n [q]) (h q h1 h2 (by rw[bf.iB ht];exact h3))
 | .tO n lo hi r,fR,A,ρ,st,aH,hA,ht,h=>λq h1 h2=>lI hL r fR A _ _ _ hA (ht.push n [q]) (h q h1 h2)
 | .nat n r,fR,A,ρ,st,aH,hA,ht,h=>λq h1=>lI hL r fR A _ _ _ hA (ht.push n [q]) (h q h1)
 | .wg op args r,fR,A,ρ,st,aH,hA,ht,h=>λh1=>lI hL r fR A ρ st aH hA ht (h (by rw[Qn ht];exact h1))
 | .oU op args r,fR,A,ρ,st,aH,hA,ht,h=>⟨by rw[<-Qn ht];exact h.1,lI hL r fR A _ _ _ hA ht h.2⟩
def w9:List O->Option (List U)
 |[]=>some []
 | .l x::r=>match w9 r with|some l=>some (x::l)|none=>none
 | .b _::_=>none
def O.en (st:gA) (aH:gz):O->Int
 |l x=>x.en st aH
 |b x=>cond (x.en st aH) 1 0
def Cn (st:gA) (aH:gz) (os:List O):List Int:=
 match w9 os with
 |some ls=>tJ st aH ls
 |none=>os.map (O.en st aH)
theorem Zt {ρ:Env}:∀{os:List O} {ls:List U},w9 os=some ls->ls.map (·.den ρ)=os.map (O.den ρ)
 |[],ls,h=>by simp[w9]at h;subst h;rfl
 | .l x::r,ls,h=>by
  simp only[w9]at h;cases hr:w9 r with
  |none=>simp[hr]at h
  |some l=>
   simp only[hr,aK]at h;subst h;simp only[ch,Zt hr,O.den]
 | .b _::_,_,h=>by simp[w9]at h
theorem O.iB {ρ:Env} {st:gA} {aH:gz} (h:mD ρ st aH):∀o:O,o.en st aH=o.den ρ
 | .l x=>U.iB h.2 x
 | .b x=>by simp only[en,den,bf.iB h]
theorem abn {ρ:Env} {st:gA} {aH:gz} (h:mD ρ st aH) (os:List O):Cn st aH os=os.map (O.den ρ):=by
 unfold Cn;cases hl:w9 os with
 |some ls=>exact(KY h ls).trans (Zt hl)
 |none=>exact gw λo _=>O.iB h o
def aoF (k:Nat):List Nat:=match k with
 |12=>[4,4,4]
 |15=>[5,5,5]
 |20=>[5,5,5,5]
 |k=>[k]
def D.Kh:D->List Nat
 | .mix l=>aoF l.length
 | .ka _=>[]
 | .nD .. =>[]
 |d=>[d.num]
def tw (ds:List D):List Nat:=ds.flatMap D.Kh
def MD (ds:List D) (K:List (List Int)->Prop) (v:V) (st:gA) (aH:gz):Prop:=
 match outs ds v with
 |some os=>K ((gN (tw ds) os).map (Cn st aH))
 |none=>False
theorem ad1 {ds:List D} {K:List (List Int)->Prop} (v:V) (ρ:Env) (st:gA) (aH:gz) (ht:mD ρ st aH) (h:MD ds K v st aH):vX ds (λrs=>K (gN (tw ds) rs)) v ρ:=by
 unfold MD at h;unfold vX;cases ho:outs ds v with
 |none=>simp[ho]at h
 |some os=>
  simp only[ho]at h⊢;rw[K6]
  rwa [show(gN (tw ds) os).map (Cn st aH)=(gN (tw ds) os).map (List.map (O.den ρ)) from gw λo _=>abn ht o]at h
def iR (sh:Nat->List Nat×List Nat) (lsh:Nat->List Nat) (S:Nat->List (List Int)->List (List Int)->Prop) (K:List (List Int)->List (List Int)->Prop) (lens:List Nat) (bds:List (Int×Int)) (ds:List D) (t:T):Prop:=v8 lens 0 bds (λst aH zs=>t.lj sh lsh S (MD ds (K zs)) (λ_ _=>False) st aH) [] []
theorem aeJ {sh:Nat->List Nat×List Nat} {lsh:Nat->List Nat} {S:Nat->List (List Int)->List (List Int)->Prop} {K:List (List Int)->List (List Int)->Prop} {lens:List Nat} {bds:List (Int×Int)} {ds:List D} {t:T}
 (h:iR sh lsh S K lens bds ds t):oR bds λzs=>t.holds (b5 sh S) (vX ds λrs=>K (gN lens zs) (gN (tw ds) rs)) (λ_ _=>False) (bh (λ_=>0) 0 zs):=by
 refine sK λzs hi=>?_;obtain⟨st,aH,h1,h2⟩:=Al h (show mD (λ_=>0) [] [] from⟨trivial,λ_=>rfl⟩) hi;exact lI (λv ρ st aH ht hl=>ad1 v ρ st aH ht hl) t _ _ _ st aH (λ_ _ hf=>hf.elim) h1 h2
end Go.aW
namespace Go.aW
open Go.ChangeShapes Go.WideShapes Go.RowKit
variable {H:Type} {enc:aR×ax->H} {P:bk}
theorem ace {k:cX} {z:Int}:(Lit.int k z).wf=true↔k.min<=z/\z<=k.max:=by simp[Lit.wf]
theorem Vc {k:cX}:∀(cs:List ax) (xs:List (mB H×List rj)),cs.length=xs.length->
 (∀i,i<xs.length->∃z,(cs.drop i).take 1=[.int k z]/\xs[i]?=some (.lit (.int k z),[])/\(Lit.int k z).wf=true)->
 ∃zs:List Int,cs=zs.map (.int k)/\xs=zs.map (λz=>(.lit (.int k z),[]))/\∀z∈zs,(Lit.int k z).wf=true
 |[],[],_,_=>⟨[],rfl,rfl,λ_ h=>by cases h⟩
 |[],_::_,h,_=>by simp at h
 |_::_,[],h,_=>by simp at h
 |c::cs,x::xs,hl,h=>by
  obtain⟨z,h1,h2,h3⟩:=h 0 (by simp);simp at h1 h2;obtain⟨zs,e1,e2,e3⟩:=Vc cs xs (by simpa using hl) λi hi=>by
   obtain⟨y,g1,g2,g3⟩:=h (i+1) (by simpa using hi);exact⟨y,by simpa using g1,by simpa using g2,g3⟩
  refine⟨z::zs,by rw[h1,e1];rfl,by rw[h2,e2];rfl,λy hy=>?_⟩;rcases List.mem_cons.1 hy with rfl|hy
  ·exact h3
  ·exact e3 y hy
theorem YJ:∀{b b':List (Int×Int)} {l bJ:List Int},bd b l->bd b' bJ->bd (b++b') (l++bJ)
 |[],_,[],_,_,h=>h
 |_::_,_,_::_,_,h,h'=>⟨h.1,h.2.1,YJ h.2.2 h'⟩
 |[],_,_::_,_,h,_=>h.elim
 |_::_,_,[],_,h,_=>h.elim
theorem D.ab8 (d:D) {zs l:List Int} (h:zs.length=d.num):d.val (zs++l)=d.val zs:=by
 cases d with
 |str=>match zs,h with|[z],_=>rfl
 |int k lo hi=>match zs,h with|[z],_=>rfl
 |bool=>match zs,h with|[z],_=>rfl
 |agg k n lo hi=>simp only[D.num]at h;simp only[D.val,<-h];simp
 |ka p=>rfl
 |nD k c=>rfl
 |mix p=>
  simp only[D.num]at h;simp only[D.val]
  congr 2
  revert zs;induction p with
  |nil=>intro zs h;simp
  |cons a p ih=>
   intro zs h
   match zs,h with
   |z::zs,h=>simp only[qx,Hb,ih (zs:=zs) (by simpa using h)]
theorem amF {w w':ai} (h:w.Extends w') (may:rj->Prop):w.keptBut w' may:=
 Below.frame (W:=w) ⟨h.os,h.tape,h.output,h.size,λi hi=>h.block i hi⟩ may
theorem IL {w:ai} {name:String} {g:Nat} {t e:aR} {k:cX} {n:Nat} {cs:Array ax} {fuel:Nat} {p:List rj} {zs:List Int} {spare:Nat->Bool} {held:Bool} {base:Nat} {enc:aR×ax->Unit}
 (hg:P.globalNamed name=some g) (ht:P.underlying t=some (.array n e)) (he:P.underlying e=some (.int k)) (Xl:P.cellsOf e=1) (ajZ:P.cellsOf t=n)
 (hv:w.var? P name=some cs) (hd:LC enc P w base spare held fuel t cs.toList=some (.agg (zs.map λz=> .lit (.int k z)),p)):
 g<w.heap.size/\∃t' pX,w.heap[g]?=some (Obj.cells (zs.map (sA k)).toArray t' pX):=by
 obtain⟨xs,m,rfl,hx,hlen,hn,A6⟩:=ayy ht hd;obtain⟨fA,e1,e2,e3⟩:=Vc (k:=k) cs.toList xs (by rw[hlen,ajZ,hn]) λi hi=>by
  have:=A6 i (by omega);rw[Xl,Hd]at this;cases Ym:xs[i]? with
  |none=>simp at Ym;omega
  |some y=>
   rw[Ym]at this;obtain⟨z,g1,g2,g3⟩:=ac9 he this;exact⟨z,g1,by rw[g2],g3⟩
 simp only[cN,aDA]at hx;have hy:fA=zs:=by
  have h1:=hx.1;rw[e2,jf]at h1;have yH:∀a b:Int,(ayz (.int k a):mB Unit)= .lit (.int k b)->a=b:=λa b h=>by cases h;rfl
  exact((List.map_inj_right (f:=λz:Int=>(ayz (.int k z):mB Unit)) yH).1 h1).symm
 subst hy;simp only[World.var?,hg,Option.bind_some]at hv;split at hv
 ·rename_i cs' t' pX hb;simp only[aK]at hv;subst hv;refine⟨?_,t',pX,?_⟩
  ·exact(Array.getElem?_eq_some_iff.1 hb).1
  ·rw[hb,<-e1]
 ·cases hv
end Go.aW
namespace Go.aW
open M
inductive bG where
 |d (x:D)
 |rd (sh:List av)
 |jL (sh:List av) (e:aR)
def bG.num:bG->Nat
 |d x=>x.num
 |_=>1
noncomputable def bG.bds:bG->List (Int×Int)
 |d x=>x.bds
 |_=>[(0,bV)]
noncomputable def bR:List bG->List (Int×Int)
 |[]=>[]
 |x::r=>x.bds++bR r
def bG.j4:bG->Bool
 |d _=>true
 |_=>false
def bG.j5:bG->Bool
 |jL _ _=>true
 |_=>false
def bG.js:bG->Bool
 |rd _=>true
 |_=>false
def kN:List bG->Bool
 |[]=>true
 | .d _::r=>kN r
 | .rd _::r=>r.all (λb=> !b.j5)&&kN r
 | .jL sh _::r=>r.all bG.j4&&hZ sh&&kN r
def fK (F:Nat->Prop) (w:ai) (sh:List av) (rows:List (List Int)) (v:ax):Prop:=((∃p,v= .slice p 0 0)/\rows=[])∨∃(g o cap:Nat) (cells:Array ax) (t:aR) (fz:Nat×Nat),v= .slice (some ⟨g,o,none⟩) rows.length cap/\(rows.length<=cap/\(cap:Int)<=0x7fffffffffffffff)/\F g/\w.heap[g]?=some (.cells cells t fz)/\iy F w cells o sh rows
def rv (N:Nat->Prop) (w:ai) (sh:List av) (e:aR) (rows:List (List Int)) (v:ax):Prop:=((∃p,v= .slice p 0 0)/\rows=[])∨∃(g cap:Nat) (cells:Array ax),v= .slice (some ⟨g,0,none⟩) rows.length cap/\(rows.length<=cap/\(cap:Int)<=0x7fffffffffffffff)/\N g/\w.heap[g]?=some (.cells cells e (0,0))/\pL cells 0 sh rows/\cells.size=cap*sh.length
def bG.at (F N:Nat->Prop) (w:ai):bG->List Int->ax->Prop
 |d x,zs,v=>v=x.val zs
 |rd sh,zs,v=>fK F w sh (ab (zs.getD 0 0)) v
 |jL sh e,zs,v=>rv N w sh e (ab (zs.getD 0 0)) v
def fT (F N:Nat->Prop) (w:ai):List bG->List Int->List ax->Prop
 |[],_,[]=>True
 |b::r,zs,v::vs=>b.at F N w zs v/\fT F N w r (zs.drop b.num) vs
 |_,_,_=>False
def lO (us:List ax):ax:=match us with|[x]=>x|l=> .tuple l.toArray
structure cY where
 f:cB
 id:Nat
 args:List bG
 res:List bG
 pre:Nat:=0
def vq:Nat->List Int->Prop
 |0,_=>True
 |p+1,l=>ah (p+1) l
def FO:Nat->List U->T->T
 |0,_,r=>r
 |p+1,ls,r=> .oU (p+1) ls r
def FN:Nat->List U->T->T
 |0,_,r=>r
 |p+1,ls,r=> .wg (p+1) ls r
theorem preM_holds {S:Nat->List Int->List Int->Prop} {L:V->Env->Prop} {A:c9} {ρ:Env} {p:Nat} {ls:List U} {r:T} (h:(FO p ls r).holds S L A ρ):vq p (ls.map (·.den ρ))/\r.holds S L A ρ:=by
 cases p with
 |zero=>exact⟨trivial,h⟩
 |succ p=>exact h
theorem preA_holds {S:Nat->List Int->List Int->Prop} {L:V->Env->Prop} {A:c9} {ρ:Env} {p:Nat} {ls:List U} {r:T} (h:(FN p ls r).holds S L A ρ) (hp:vq p (ls.map (·.den ρ))):r.holds S L A ρ:=by
 cases p with
 |zero=>exact h
 |succ p=>exact h hp
def cY.dW (P:bk) (wb:ai) (c:cY) (spec:List Int->List Int->Prop):Prop:=(∀args w,(callFunc c.f args).run P w= .ok (.enter c.f args) w)/\∀(F:Nat->Prop) (w:ai) (vs:List ax) (zs:List Int),wb.Extends w->bd (bR c.args) zs->vq c.pre zs->fT F (λ_=>False) w c.args zs vs->gZ P c.f vs.toArray w λe w'=>w.Extends w'/\∃rs us,bd (bR c.res) rs/\spec zs rs/\fT (λg=>F g∨w.heap.size<=g) (λg=>w.heap.size<=g) w' c.res rs us/\e= .returned (lO us)
noncomputable def nX:List bG->Nat->Nat->List W->List aj->(Nat->List W->List aj->T)->T
 |[],_,n,us,bl,k=>k n us bl
 | .d x::r,s,n,us,bl,k=>nX r (s+x.num) n (us++[x.sym s]) bl k
 | .rd sh::r,s,n,us,bl,k=> .nat n (.tO (n+1) (-2) 0x7fffffffffffffff (.fn (n+2) 20 [.var s] 0 0x7fffffffffffffff
  (nX r (s+1) (n+3) (us++[.one (.sl bl.length sh.length (.var n) (.const 0) (.var (n+2)) (.var (n+1)))]) (bl++[([.rows sh (.var n) (.var s) (.var (n+1)) 1],(0,false))]) k)))
 | .jL sh e::r,s,n,us,bl,k=> .tO n (-2) 0x7fffffffffffffff (.fn (n+1) 20 [.var s] 0 0x7fffffffffffffff
  (nX r (s+1) (n+2) (us++[.one (.sl bl.length sh.length (.const 0) (.const 0) (.var (n+1)) (.var n))]) (bl++[([.rows sh (.const 0) (.var s) (.var n) 2],(e,false))]) k))
section
variable {S:Nat->List Int->List Int->Prop} {L:V->Env->Prop} {w0:cI} {P:bk} {gl:dA} {cal:ed}
theorem fJ.agree {ρ ae:Env} {s n:Nat} {zs:List Int} (h:fJ ρ s zs) (ha:agree n ρ ae) (hn:s+zs.length<=n):fJ ae s zs:=λj hj=>by rw[ha (s+j) (by omega)];exact h j hj
theorem q6 {ρ:Env} {n i:Nat} {z:Int} (h:i<n):cR ρ n z i=ρ i:=Sc ρ z (by omega)
theorem sL {F N:Nat->Prop} (hF:∀g,F g->w0.ex g∨w0.ro g∨w0.r.heap.size<=g) (hN:∀g,N g->w0.b.heap.size<=g/\w0.r.heap.size<=g):∀{l:List bG} {s n:Nat} {us:List W} {bl:List aj} {k:Nat->List W->List aj->T} {G:c9} {ρ:Env} {m:Nat->Nat} {w:ai} {zs:List Int} {vals:List ax},
 kN l=true->bU n bl.length ρ bl->Mem w0 ρ m bl w->fJ ρ s zs->bd (bR l) zs->s+(bR l).length<=n->fT F N w l zs vals->
 ((l.all λb=> !b.js)=true∨∀(i:Nat) (p:aj),bl[i]?=some p->F (m i)->aS ρ p.1<=1)->((l.all λb=> !b.j5)=true∨∀(i:Nat) (p:aj),bl[i]?=some p->N (m i)->aS ρ p.1=0)->
 ((l.all λb=> !b.j5)=true∨∀g,N g->na w0 ρ m bl w g)->
 (∀u∈us,W.ok n bl.length ρ u)->
 (nX l s n us bl k).holds S L G ρ->∃n' ae m' jR aG,cJ n bl.length ρ m n' (jg aG) ae m'/\bU n' aG.length ae aG/\Mem w0 ae m' aG w/\jR.map (W.den ae m')=us.map (W.den ρ m)++vals/\(∀u∈jR,W.ok n' aG.length ae u)/\(k n' jR aG).holds S L G ae
 |[],s,n,us,bl,k,G,ρ,m,w,zs,vals,_,hb,hm,_,_,_,hat,_,_,_,qc,ag=>by
  match vals,hat with
  |[],_=>exact⟨n,ρ,m,us,bl,cJ.refl _ _ _ _,hb,hm,by simp,qc,ag⟩
 | .d x::r,s,n,us,bl,k,G,ρ,m,w,zs,vals,bg,hb,hm,hA,hz,hn,hat,h1,h2,kn,qc,ag=>by
  match vals,hat with
  |v::vs,hat=>
   obtain⟨hv,hat⟩:=hat;have hv:v=x.val zs:=hv;simp only[bR,bG.bds]at hz hn;simp only[c8]at hn;obtain⟨i1,i2⟩:=JG hz;rw[D.Di]at i1 i2 hn;have hs:=D.Gw (ρ:=ρ) (m:=m) (N:=n) (nb:=bl.length) x i1 hA (by omega);obtain⟨n',ae,m',jR,aG,g1,g2,g3,g4,g5,g6⟩:=sL hF hN (l:=r) (s:=s+x.num) (us:=us++[x.sym s]) (zs:=zs.drop x.num) bg hb hm (hA.drop x.num) i2 (by omega) hat (by
    rcases h1 with h1|h1
    ·left;simpa [bG.js]using h1
    ·exact .inr h1) (by
    rcases h2 with h2|h2
    ·left;simpa [bG.j5]using h2
    ·exact .inr h2) (by
    rcases kn with h2|h2
    ·left;simpa [bG.j5]using h2
    ·exact .inr h2) (λu hu=>by
    rcases List.mem_append.1 hu with hu|hu
    ·exact qc u hu
    ·simp at hu;subst hu;exact hs.1) ag
   exact⟨n',ae,m',jR,aG,g1,g2,g3,by rw[g4,fl,hv];simp[hs.2],g5,g6⟩
 | .rd sh::r,s,n,us,bl,k,G,ρ,m,w,zs,vals,bg,hb,hm,hA,hz,hn,hat,h1,h2,kn,qc,ag=>by
  match vals,hat with
  |v::vs,hat=>
   obtain⟨hv,hat⟩:=hat
   match zs,hz with
   |z::zs,hz=>
    obtain⟨af,z2,hz⟩:=hz;have hv:fK F w sh (ab z) v:=hv;obtain⟨wG,N6⟩:=hA.tail;have h1:∀(i:Nat) (p:aj),bl[i]?=some p->F (m i)->aS ρ p.1<=1:=by
     rcases h1 with h1|h1
     ·simp[bG.js]at h1
     ·exact h1
    simp only[bR,bG.bds,c8,dj,fe]at hn;simp only[kN,aQ]at bg;have hlen:(ab z).length<=0x7fffffffffffffff:=by
     rcases hv with⟨_,h⟩|⟨_,_,cap,_,_,_,_,⟨h3,h4⟩,_⟩
     ·simp[h]
     ·omega
    have mO:zs.length=(bR r).length:=gp hz;obtain⟨g,o,cap,hg1,yG,hg3,hg4,A7⟩:∃(g:Nat) (o:Nat) (cap:Int),(-2<=cap/\cap<=0x7fffffffffffffff)/\(cap<0->ab z=[])/\(0<=cap->((ab z).length:Int)<=cap)/\
     (v=if cap<0 then CT (lS cap g) 0 0 else .slice (some ⟨g,o,none⟩) (ab z).length cap.toNat)/\
     (0<=cap->F g/\∃cells t fz,w.heap[g]?=some (.cells cells t fz)/\iy F w cells o sh (ab z)):=by
     rcases hv with⟨⟨p,h3⟩,h4⟩|⟨g,o,cap,cells,t,fz,h3,⟨h4,h5⟩,h6,h7,h8⟩
     ·obtain⟨c,g,hc,hp⟩:=Sv p;exact⟨g,0,c,by omega,λ_=>h4,λh=>by omega,by rw[if_pos hc.2,hp,h3],λh=>by omega⟩
     ·exact⟨g,o,cap,by omega,λh=>by omega,λ_=>by omega,by rw[if_neg (by omega)];simpa using h3,λ_=>⟨h6,cells,t,fz,h7,h8⟩⟩
    have Eo:=ag (o:Int) (by omega) cap hg1.1 hg1.2 (ab z).length (by omega) (by omega) (by
     simp only[ch,ec,aB,U.cj];rw[q6 (by omega),q6 (by omega),wG])
    generalize mP:cR (cR (cR ρ n (o:Int)) (n+1) cap) (n+2) ((ab z).length:Int)=eM at Eo;have ha:agree n ρ eM:=by
     rw[<-mP];intro i hi;rw[q6 (by omega),q6 (by omega),q6 hi]
    have e0:eM n=o:=by rw[<-mP,q6 (by omega),q6 (by omega),jQ]
    have e1:eM (n+1)=cap:=by rw[<-mP,q6 (by omega),jQ]
    have e2:eM (n+2)=(ab z).length:=by rw[<-mP,jQ]
    have e3:eM s=z:=by rw[ha s (by omega)];exact wG
    have tf:=hm.dQ hb ha;have D4:=hb.ext ha (show n<=n+3 by omega) (aV bl.length);have DX:(A.rows sh (.var n) (.var s) (.var (n+1)) 1).ok (n+3) bl.length eM:=⟨⟨U.er (by omega),U.er (by omega),U.er (by omega)⟩,by rw[U.cj,e3];exact⟨af,z2⟩,by rw[U.cj,e1];exact hg1⟩;have iE:aS eM [A.rows sh (.var n) (.var s) (.var (n+1)) 1]<=1:=by
     simp only[aS];split<;>omega
    have D1:∀g',F g'->bX w0 eM (fc m bl.length g) (bl++[([.rows sh (.var n) (.var s) (.var (n+1)) 1],(0,false))]) g':=λg' ej=>bX.push ⟨hF g' ej,λi p hi hk he=>by
     have bE:=h1 i p hi (by rw[he];exact ej);rw[mn (hb _ (cM hi)) ha]at hk;omega⟩ (.inl iE)
    have hM:=tf.push (x:=([.rows sh (.var n) (.var s) (.var (n+1)) 1],(0,false))) (g:=g) D4 (λy hy=>by simp at hy;subst hy;exact DX) (λho=>by cases ho) (λcF dZ code' dX eZ he=>by
     cases he;intro _;refine⟨λh=>by rw[U.cj,e1]at h;rw[U.cj,e3];exact yG h,λh=>?_⟩;rw[U.cj,e1]at h;obtain⟨yw,cells,t,fz,k1,k2⟩:=A7 h;exact⟨hF g yw,cells,t,fz,k1,⟨by rw[U.cj,e0];omega,by rw[U.cj,U.cj,e0,e3];exact k2.mono (Fr.of w D1)⟩,λh2=>by omega⟩) (λi p hi he=>by
      by_cases hc:0<=cap
      ·refine .inl ⟨?_,?_⟩
       ·rw[mn (hb _ (cM hi)) ha];exact h1 i p hi (by rw[he];exact(A7 hc).1)
       ·rw[iH (by decide) (by rw[U.cj,e1];exact hc)];exact aV 1
      ·refine .inr (.inr ?_);simp only[aS,U.cj,e1];rw[if_pos (by omega)]) (tf.KV iE)
    have O1:cJ n bl.length ρ m (n+3) (bl++[([A.rows sh (.var n) (.var s) (.var (n+1)) 1],((0:aR),false))]).length eM (fc m bl.length g):=⟨by omega,ha,by simp,λb hb=>iO hb⟩;have yC:bU (n+3) (bl++[([A.rows sh (.var n) (.var s) (.var (n+1)) 1],((0:aR),false))]).length eM (bl++[([.rows sh (.var n) (.var s) (.var (n+1)) 1],(0,false))]):=λp hp a fs=>by
     rcases List.mem_append.1 hp with hp|hp
     ·exact(D4 p hp a fs).ext (agree.refl _ _) (aV _) (by simp)
     ·simp at hp;subst hp;simp at fs;subst fs;exact DX.ext (agree.refl _ _) (aV _) (by simp)
    have Ps:W.ok (n+3) (bl++[([A.rows sh (.var n) (.var s) (.var (n+1)) 1],((0:aR),false))]).length eM (.one (.sl bl.length sh.length (.var n) (.const 0) (.var (n+2)) (.var (n+1)))):=by
     refine⟨by simp,⟨U.er (by omega),U.cr _ _,U.er (by omega),U.er (by omega)⟩,?_⟩;simp only[U.cj,U.aO,e0,e1,e2];exact⟨by omega,by omega,λh=>by rw[yG h];rfl,hg3⟩
    obtain⟨n',ae,m',jR,aG,g1,g2,g3,g4,g5,g6⟩:=sL hF hN (l:=r) (s:=s+1) (us:=us++[.one (.sl bl.length sh.length (.var n) (.const 0) (.var (n+2)) (.var (n+1)))]) (zs:=zs) (vals:=vs) bg.2 yC hM (N6.agree ha (by omega)) hz (by omega) hat (.inr λi p hi hf=>by
     rw[List.getElem?_append]at hi;split at hi
     ·rename_i dv;rw[iO dv]at hf;rw[mn (hb _ (cM hi)) ha];exact h1 i p hi hf
     ·have:i=bl.length:=by
       have:=(List.getElem?_eq_some_iff.1 hi).1;simp at this;omega
      subst this;simp at hi;subst hi;simp only[aS];split<;>omega) (.inl bg.1) (.inl bg.1) (λu hu=>by
     rcases List.mem_append.1 hu with hu|hu
     ·exact(qc u hu).ext ha (by omega) (by simp)
     ·simp at hu;subst hu;exact Ps) Eo
    refine⟨n',ae,m',jR,aG,O1.trans g1,g2,g3,?_,g5,g6⟩;rw[g4,fl,eG]
    congr 1
    ·exact gw λu hu=>W.j1 (qc u hu) ha (λb hb=>iO hb)
    ·simp only[ch,ec,qx,gv,W.den,A.den,U.cj,U.aO,e0,e1,e2,kb];rw[hg4];simp
 | .jL sh e::r,s,n,us,bl,k,G,ρ,m,w,zs,vals,bg,hb,hm,hA,hz,hn,hat,h1,h2,kn,qc,ag=>by
  match vals,hat with
  |v::vs,hat=>
   obtain⟨hv,hat⟩:=hat
   match zs,hz with
   |z::zs,hz=>
    obtain⟨af,z2,hz⟩:=hz;have hv:rv N w sh e (ab z) v:=hv;obtain⟨wG,N6⟩:=hA.tail;simp only[bR,bG.bds,c8,dj,fe]at hn;simp only[kN,aQ]at bg;have h2:∀(i:Nat) (p:aj),bl[i]?=some p->N (m i)->aS ρ p.1=0:=by
     rcases h2 with h2|h2
     ·simp[bG.j5]at h2
     ·exact h2
    have kn:∀g,N g->na w0 ρ m bl w g:=by
     rcases kn with h2|h2
     ·simp[bG.j5]at h2
     ·exact h2
    have hlen:(ab z).length<=0x7fffffffffffffff:=by
     rcases hv with⟨_,h⟩|⟨_,cap,_,_,⟨h3,h4⟩,_⟩
     ·simp[h]
     ·omega
    have mO:zs.length=(bR r).length:=gp hz;obtain⟨g,cap,hg1,yG,hg3,hg4,A7⟩:∃(g:Nat) (cap:Int),(-2<=cap/\cap<=0x7fffffffffffffff)/\(cap<0->ab z=[])/\(0<=cap->((ab z).length:Int)<=cap)/\
     (v=if cap<0 then CT (lS cap g) 0 0 else .slice (some ⟨g,0,none⟩) (ab z).length cap.toNat)/\
     (0<=cap->N g/\∃cells,w.heap[g]?=some (.cells cells e (0,0))/\pL cells 0 sh (ab z)/\cells.size=cap.toNat*sh.length):=by
     rcases hv with⟨⟨p,h3⟩,h4⟩|⟨g,cap,cells,h3,⟨h4,h5⟩,h6,h7,h8,bE⟩
     ·obtain⟨c,g,hc,hp⟩:=Sv p;exact⟨g,c,by omega,λ_=>h4,λh=>by omega,by rw[if_pos hc.2,hp,h3],λh=>by omega⟩
     ·exact⟨g,cap,by omega,λh=>by omega,λ_=>by omega,by rw[if_neg (by omega)];simpa using h3,λ_=>⟨h6,cells,h7,h8,by simpa using bE⟩⟩
    have Eo:=ag cap hg1.1 hg1.2 (ab z).length (by omega) (by omega) (by
     simp only[ch,ec,aB,U.cj];rw[q6 (by omega),wG])
    generalize mP:cR (cR ρ n cap) (n+1) ((ab z).length:Int)=eM at Eo;have ha:agree n ρ eM:=by
     rw[<-mP];intro i hi;rw[q6 (by omega),q6 hi]
    have e1:eM n=cap:=by rw[<-mP,q6 (by omega),jQ]
    have e2:eM (n+1)=(ab z).length:=by rw[<-mP,jQ]
    have e3:eM s=z:=by rw[ha s (by omega)];exact wG
    have tf:=hm.dQ hb ha;have D4:=hb.ext ha (show n<=n+2 by omega) (aV bl.length);have DX:(A.rows sh (.const 0) (.var s) (.var n) 2).ok (n+2) bl.length eM:=⟨⟨U.cr _ _,U.er (by omega),U.er (by omega)⟩,by rw[U.cj,e3];exact⟨af,z2⟩,by rw[U.cj,e1];exact hg1⟩;have ajG:∀(i:Nat) (cF:List av) (dZ code' dX:U) (eZ:Nat) (t':aR×Bool),bl[i]?=some ([.rows cF dZ code' dX eZ],t')->gQ w0 eM (bX w0 eM (fc m bl.length g) (bl++[([.rows sh (.const 0) (.var s) (.var n) 2],(e,false))])) (m i) cF dZ code' dX eZ t'.1 w:=λi cF dZ code' dX eZ t' hi=>by
     rcases ic cap 0 with hc|hc
     ·exact tf.KV (by simp only[aS,U.cj,e1];rw[if_pos hc];decide) i cF dZ code' dX eZ t' hi
     ·exact(((kn g (A7 hc).1) i cF dZ code' dX eZ t' hi).dQ (hb _ (cM hi) _ (by simp)) ha).mono λg' h'=>(bX.dQ hb ha h'.1).push (.inr h'.2)
    have hM:=tf.push (x:=([.rows sh (.const 0) (.var s) (.var n) 2],(e,false))) (g:=g) D4 (λy hy=>by simp at hy;subst hy;exact DX) (λho=>by cases ho) (λcF dZ code' dX eZ he=>by
     cases he;intro _;refine⟨λh=>by rw[U.cj,e1]at h;rw[U.cj,e3];exact yG h,λh=>?_⟩;rw[U.cj,e1]at h;obtain⟨aip,cells,k1,k2,k3⟩:=A7 h;have dY:=hN g aip;exact⟨.inr (.inr dY.2),cells,e,(0,0),k1,⟨by rw[U.aO];exact bO _,by rw[U.aO,U.cj,e3];exact(k0 bg.1.2).2 k2⟩,λ_=>⟨rfl,U.aO _ _,.FG,by rw[U.cj,e1];exact k3,dY.1,.inr dY.2⟩⟩) (λi p hi he=>by
      by_cases hc:0<=cap
      ·refine .inr (.inl ?_);rw[mn (hb _ (cM hi)) ha];exact h2 i p hi (by rw[he];exact(A7 hc).1)
      ·refine .inr (.inr ?_);simp only[aS,U.cj,e1];rw[if_pos (by omega)]) ajG
    have O1:cJ n bl.length ρ m (n+2) (bl++[([A.rows sh (.const 0) (.var s) (.var n) 2],(e,false))]).length eM (fc m bl.length g):=⟨by omega,ha,by simp,λb hb=>iO hb⟩;have yC:bU (n+2) (bl++[([A.rows sh (.const 0) (.var s) (.var n) 2],(e,false))]).length eM (bl++[([.rows sh (.const 0) (.var s) (.var n) 2],(e,false))]):=λp hp a fs=>by
     rcases List.mem_append.1 hp with hp|hp
     ·exact(D4 p hp a fs).ext (agree.refl _ _) (aV _) (by simp)
     ·simp at hp;subst hp;simp at fs;subst fs;exact DX.ext (agree.refl _ _) (aV _) (by simp)
    have Ps:W.ok (n+2) (bl++[([A.rows sh (.const 0) (.var s) (.var n) 2],(e,false))]).length eM (.one (.sl bl.length sh.length (.const 0) (.const 0) (.var (n+1)) (.var n))):=by
     refine⟨by simp,⟨U.cr _ _,U.cr _ _,U.er (by omega),U.er (by omega)⟩,?_⟩;simp only[U.cj,U.aO,e1,e2];exact⟨by omega,by omega,λh=>by rw[yG h];rfl,hg3⟩
    obtain⟨n',ae,m',jR,aG,g1,g2,g3,g4,g5,g6⟩:=UB (w0:=w0) (l:=r) (s:=s+1) (us:=us++[.one (.sl bl.length sh.length (.const 0) (.const 0) (.var (n+1)) (.var n))]) (zs:=zs) (vals:=vs) bg.1.1 yC hM (N6.agree ha (by omega)) hz (by omega) hat (λu hu=>by
     rcases List.mem_append.1 hu with hu|hu
     ·exact(qc u hu).ext ha (by omega) (by simp)
     ·simp at hu;subst hu;exact Ps) Eo
    refine⟨n',ae,m',jR,aG,O1.trans g1,g2,g3,?_,g5,g6⟩;rw[g4,fl,eG]
    congr 1
    ·exact gw λu hu=>W.j1 (qc u hu) ha (λb hb=>iO hb)
    ·simp only[ch,ec,qx,gv,W.den,A.den,U.cj,U.aO,e1,e2,kb];rw[hg4];simp
where
 UB {w0:cI} {F N:Nat->Prop}:∀{l:List bG} {s n:Nat} {us:List W} {bl:List aj} {k:Nat->List W->List aj->T} {G:c9} {ρ:Env} {m:Nat->Nat} {w:ai} {zs:List Int} {vals:List ax},
  (l.all bG.j4)=true->bU n bl.length ρ bl->Mem w0 ρ m bl w->fJ ρ s zs->bd (bR l) zs->s+(bR l).length<=n->fT F N w l zs vals->
  (∀u∈us,W.ok n bl.length ρ u)->
  (nX l s n us bl k).holds S L G ρ->∃n' ae m' jR aG,cJ n bl.length ρ m n' (jg aG) ae m'/\bU n' aG.length ae aG/\Mem w0 ae m' aG w/\jR.map (W.den ae m')=us.map (W.den ρ m)++vals/\(∀u∈jR,W.ok n' aG.length ae u)/\(k n' jR aG).holds S L G ae
 |[],s,n,us,bl,k,G,ρ,m,w,zs,vals,_,hb,hm,_,_,_,hat,qc,ag=>by
  match vals,hat with
  |[],_=>exact⟨n,ρ,m,us,bl,cJ.refl _ _ _ _,hb,hm,by simp,qc,ag⟩
 | .d x::r,s,n,us,bl,k,G,ρ,m,w,zs,vals,bg,hb,hm,hA,hz,hn,hat,qc,ag=>by
  match vals,hat with
  |v::vs,hat=>
   obtain⟨hv,hat⟩:=hat;have hv:v=x.val zs:=hv;simp only[bR,bG.bds]at hz hn;simp only[c8]at hn;obtain⟨i1,i2⟩:=JG hz;rw[D.Di]at i1 i2 hn;have hs:=D.Gw (ρ:=ρ) (m:=m) (N:=n) (nb:=bl.length) x i1 hA (by omega);obtain⟨n',ae,m',jR,aG,g1,g2,g3,g4,g5,g6⟩:=UB (l:=r) (s:=s+x.num) (us:=us++[x.sym s]) (zs:=zs.drop x.num) (by simpa [bG.j4]using bg) hb hm (hA.drop x.num) i2 (by omega) hat (λu hu=>by
    rcases List.mem_append.1 hu with hu|hu
    ·exact qc u hu
    ·simp at hu;subst hu;exact hs.1) ag
   exact⟨n',ae,m',jR,aG,g1,g2,g3,by rw[g4,fl,hv];simp[hs.2],g5,g6⟩
 | .rd _::_,_,_,_,_,_,_,_,_,_,_,_,bg,_,_,_,_,_,_,_,_=>by simp[bG.j4]at bg
 | .jL _ _::_,_,_,_,_,_,_,_,_,_,_,_,bg,_,_,_,_,_,_,_,_=>by simp[bG.j4]at bg
end
end Go.aW
namespace Go.aW
open M
def fL:V->List Nat
 | .w (.one (.sl b _ _ _ _ _))=>[b]
 | .w (.one (.slc b _ _ _))=>[b]
 |_=>[]
noncomputable def B9 (kz:Bool) (sh:List av) (bl:List aj) (v:V):M U:=
 match v with
 | .w (.one (.con (.slice none 0 0)))=>pure (.const 0)
 | .w (.one (.sl b aL o ro len cap))=>match bl[b]? with
  |some ([.rows cF off code cO kind],_)=>cond (ck 0 kind&&jc sh cF&&U.beq o off&&aA aL sh.length) (bind (eP 22 [code,ro,ro.add len]) λ_=>bind (Au cap cO) λ_=>ev 22 [code,ro,ro.add len] 0 bV) fail
  |_=>fail
 | .w (.one (.slc b off len cap))=>match o6 bl b off (len*sh.length)with
  |some cs=>cond (kC sh&&bp len 1073741824&&bp len cap&&bp cap 0x7fffffffffffffff&&(hZ sh||kz)) (cond (hZ sh) (x7 sh (k6 sh.length len cs) (.const 0)) (HS bl sh (k6 sh.length len cs) (.const 0))) fail
  |none=>fail
 |_=>fail
noncomputable def QF (sh:List av) (e:aR) (bl:List aj) (v:V):M U:=
 match v with
 | .w (.one (.con (.slice none 0 0)))=>pure (.const 0)
 | .w (.one (.sl b aL o ro len cap))=>match bl[b]? with
  |some ([.rows cF off code cO kind],t)=>cond (aA kind 2&&jc sh cF&&U.beq o (.const 0)&&U.beq off (.const 0)&&U.beq ro (.const 0)&&U.beq cap cO&&aA aL sh.length&&aA t.1 e&&hZ sh) (bind (eP 22 [code,.const 0,len]) λ_=>ev 22 [code,.const 0,len] 0 bV) fail
  |_=>fail
 | .w (.one (.slc b off len cap))=>match bl[b]? with
  |some (C,t)=>match o6 bl b off (len*sh.length)with
   |some cs=>cond (kC sh&&bp len 1073741824&&bp len cap&&bp cap 0x7fffffffffffffff&&aA off 0&&aA C.length (cap*sh.length)&& !t.2&&aA t.1 e&&hZ sh) (x7 sh (k6 sh.length len cs) (.const 0)) fail
   |none=>fail
  |none=>fail
 |_=>fail
def jO:V->List Nat
 | .w (.one (.slc b _ _ _))=>[b]
 |_=>[]
def S7 (w0:cI) (ρ:Env) (m:Nat->Nat) (bl:List aj) (bs os:List Nat) (g:Nat):Prop:=(∃b∈bs,m b=g/\∃p,bl[b]?=some p/\aS ρ p.1≠0/\(bI p.1=true->b∈os))/\(w0.ex g∨w0.ro g∨w0.r.heap.size<=g)
def oO (F:Nat->Prop) (w0:cI) (ρ:Env) (m:Nat->Nat) (bl:List aj) (bs os:List Nat) (g:Nat):Prop:=S7 w0 ρ m bl bs os g∨F g
def xS (F:Nat->Prop) (w0:cI) (ρ:Env) (m:Nat->Nat) (bl:List aj) (w:ai):Prop:=∀(i:Nat) (sh:List av) (off code cap:U) (kind:Nat) (t:aR×Bool),bl[i]?=some ([.rows sh off code cap kind],t)->gQ w0 ρ F (m i) sh off code cap kind t.1 w
def oN (w0:cI) (ρ:Env) (m:Nat->Nat) (bl:List aj) (bs os:List Nat) (g:Nat):Prop:=S7 w0 ρ m bl bs os g∨bX w0 ρ m bl g
section
variable {S:Nat->List Int->List Int->Prop} {L:V->Env->Prop} {n:Nat} {ρ:Env} {m:Nat->Nat} {bl:List aj} {gl:dA} {w0:cI} {P:bk} {w:ai}
theorem fK.mono {F F':Nat->Prop} {sh:List av} {rows:List (List Int)} {v:ax} (h:fK F w sh rows v) (hF:∀g,F g->F' g):fK F' w sh rows v:=by
 rcases h with h|⟨g,o,cap,cells,t,fz,h1,h2,h3,h4⟩
 ·exact .inl h
 ·exact .inr ⟨g,o,cap,cells,t,fz,h1,h2,hF g h3,h4.1,h4.2.mono (Fr.of w hF)⟩
theorem abA {b off len:Nat} {C:List A} {t:aR×Bool} {cs:List A} {sh:List av} {rows:List (List Int)} (hb:bU n bl.length ρ bl) (hw:Mem w0 ρ m bl w) (hbl:bl[b]?=some (C,t)) (hcs:o6 bl b off (len*sh.length)=some cs)
 (hO:∀row∈rows,bD sh row) (im:cG sh rows=cs.map (A.den ρ m)):w0.b.heap.size<=m b/\(w0.ex (m b)∨w0.r.heap.size<=m b)/\∃cells:Array ax,w.heap[m b]?=some (.cells cells t.1 (0,0))/\pL cells off sh rows/\(t.2=false->cells.size=C.length):=by
 unfold o6 at hcs;rw[hbl]at hcs;simp only at hcs;cases hc:(bp (off+len*sh.length) C.length&&bI C)with
 |false=>rw[hc]at hcs;cases hcs
 |true=>
  rw[hc]at hcs;simp only[cond_true,aK]at hcs;simp only[aQ]at hc;have hle:=et hc.1;obtain⟨g1,g2,r,hr,g3⟩:=hw.blk b C t hbl hc.2;refine⟨g1,g2,_,g3,⟨hO,(C.take off).map (A.den ρ m),((C.drop off).drop (len*sh.length)).map (A.den ρ m)++r,?_,by simp;omega⟩,λht=>by rw[hr ht];simp⟩;rw[im,<-hcs];show C.map (A.den ρ m)++r=_;have e:C=C.take off++((C.drop off).take (len*sh.length)++(C.drop off).drop (len*sh.length)):=by rw[jy,jy]
  conv=>lhs;rw[e]
  simp only[fl,eG]
theorem sg:ab ((U.const 0).den ρ)=[]:=by rw[U.aO];exact eV
theorem sG:(0:Int)<=bV:=oJ (eJ []) (nU (l:=[]) (by simp) (by simp))
theorem abz {sh:List av} {len:Nat} {cs:List A} (iq:kC sh=true) (hl:len<=1073741824) (bg:∀a∈cs,A.ok n bl.length ρ a) (iW:cs.length=len*sh.length):
 ao S L (x7 sh (k6 sh.length len cs) (.const 0)) n ρ λae n' l=>l.aY n'/\(0<=l.den ae/\l.den ae<=bV)/\(ab (l.den ae)).length=len/\(∀row∈ab (l.den ae),bD sh row)/\cG sh (ab (l.den ae))=cs.map (A.den ρ m):=by
 have iV:=Az (w:=sh.length) (k:=len) iW;refine(HR (nb:=bl.length) (m:=m) iq (rs:=k6 sh.length len cs) (c:= .const 0) (λrow hr a ha=>bg a (AA row hr a ha)) (U.cr _ _) (by rw[U.aO];exact⟨bO _,sG⟩) (by rw[sg];intro _ h;simp at h) (by rw[sg,iV.1];simpa using hl)).mono λay n1 l hn ha ⟨p1,aJ,dw,bb,b7,dD,eo⟩=>?_;rw[sg,gv]at bb;rw[bb];exact⟨p1,aJ,by rw[b7,iV.1],dD,by rw[eo,iV.2]⟩
theorem afK {cap cO:U} {α:Type} {x:M α} {R:Env->Nat->α->Prop} (h:(0<=cap.den ρ->0<=cO.den ρ)->ao S L x n ρ R):ao S L (bind (Au cap cO) λ_=>x) n ρ R:=by
 unfold Au;cases hc:U.beq cap cO with
 |true=>exact h (by rw[U.beq_eq hc];exact id)
 |false=>exact fX h
theorem at2 {F:Nat->Prop} {b off len:Nat} {C:List A} {t:aR×Bool} {cs:List A} {sh:List av} {rows:List (List Int)} (hw:Mem w0 ρ m bl w) (hbl:bl[b]?=some (C,t)) (hcs:o6 bl b off (len*sh.length)=some cs)
 (hO:∀row∈rows,bD sh row) (im:eF F w sh rows (cs.map (A.den ρ m))):w0.b.heap.size<=m b/\(w0.ex (m b)∨w0.r.heap.size<=m b)/\∃cells:Array ax,w.heap[m b]?=some (.cells cells t.1 (0,0))/\iy F w cells off sh rows:=by
 unfold o6 at hcs;rw[hbl]at hcs;simp only at hcs;cases hc:(bp (off+len*sh.length) C.length&&bI C)with
 |false=>rw[hc]at hcs;cases hcs
 |true=>
  rw[hc]at hcs;simp only[cond_true,aK]at hcs;simp only[aQ]at hc;have hle:=et hc.1;obtain⟨g1,g2,r,hr,g3⟩:=hw.blk b C t hbl hc.2;refine⟨g1,g2,_,g3,hO,(C.take off).map (A.den ρ m),cs.map (A.den ρ m),((C.drop off).drop (len*sh.length)).map (A.den ρ m)++r,?_,by simp;omega,im⟩;rw[<-hcs];show C.map (A.den ρ m)++r=_;have e:C=C.take off++((C.drop off).take (len*sh.length)++(C.drop off).drop (len*sh.length)):=by rw[jy,jy]
  conv=>lhs;rw[e]
  simp only[fl,eG]
theorem Q0 {F:Nat->Prop} {kz:Bool} (hF:xS F w0 ρ m bl w) (hN:kz=true->∀g,bX w0 ρ m bl g->F g) {sh:List av} {v:V} {X:ax} (hb:bU n bl.length ρ bl) (hw:Mem w0 ρ m bl w) (hv:v.ok n bl.length ρ) (hX:v.rel ρ m X):
 ao S L (B9 kz sh bl v) n ρ λae n' l=>l.aY n'/\(0<=l.den ae/\l.den ae<=bV)/\fK (oO F w0 ρ m bl (fL v) (jO v)) w sh (ab (l.den ae)) X:=by
 unfold B9;split
 ·refine ao.pure ⟨U.cr _ _,by rw[U.aO];exact⟨bO _,sG⟩,.inl ⟨⟨_,hX⟩,sg⟩⟩
 ·rename_i b aL o ro len cap;split
  ·rename_i cF off code cO kind t hbl;refine dR λhc=>fX λhk=>?_;simp only[aQ]at hc;obtain⟨⟨⟨c1,c2⟩,c3⟩,c4⟩:=hc;have c1:0<kind:=et c1;have c2:=pt c2;have c3:=U.beq_eq c3;have c4:=bo c4
   subst c2;subst c3;subst c4;simp only[ch,ec,ah,U.den_add]at hk;have y1:(A.sl b sh.length o ro len cap).ok n bl.length ρ:=hv;obtain⟨ptr,e1,e2,e3⟩:=oA (m:=m) y1;have hX:X=(A.sl b sh.length o ro len cap).den ρ m:=hX;obtain⟨x1,⟨x2,x3,bL,gg⟩,⟨je,oH,lq,nN⟩,⟨oF,oG⟩,fH,gW⟩:=y1;have eS:(A.rows sh o code cO kind).ok n bl.length ρ:=hb _ (cM hbl) _ (by simp);have hf:aB 22 ([code,ro,ro.add len].map (·.den ρ))=rc (((ab (code.den ρ)).drop (ro.den ρ).toNat).take (len.den ρ).toNat):=by
    simp only[ch,ec,aB,U.den_add]
    congr 2;omega
   have dL:rc (((ab (code.den ρ)).drop (ro.den ρ).toNat).take (len.den ρ).toNat)<=bV:=by
    have h1:=QZ (ab (code.den ρ)) (ro.den ρ).toNat (len.den ρ).toNat;rw[QY eS.2.1.1]at h1;exact oJ h1 eS.2.1.2
   refine afK λEb=>?_;refine(fY (by rw[hf];exact eJ _) (by rw[hf];exact dL)).mono λay n1 l hn ha ⟨k1,k2⟩=>?_;rw[hf]at k2;refine⟨k1,by rw[k2];exact⟨eJ _,dL⟩,?_⟩;rw[k2,di];have hlen:(((ab (code.den ρ)).drop (ro.den ρ).toNat).take (len.den ρ).toNat).length=(len.den ρ).toNat:=by simp;omega
   rcases ic (cap.den ρ) 0 with cv|cv
   ·left
    have:=fH cv;refine⟨⟨_,by rw[hX,e1,e2 cv,if_pos cv,this];rfl⟩,by rw[this];simp⟩
   ·right
    clear dL;rcases ic (cO.den ρ) 0 with nt|nt
    ·have:=Eb cv;omega
    ·obtain⟨q0,cells,gq,fz,q1,⟨q2,q3⟩,_⟩:=(hF b sh o code cO kind t hbl (by omega)).2 nt;refine⟨m b,(o.den ρ).toNat+(ro.den ρ).toNat*sh.length,(cap.den ρ).toNat,cells,gq,fz,?_,⟨by rw[hlen];have:=gW cv;omega,by omega⟩,(.inl ⟨⟨b,by simp[fL],rfl,_,hbl,by rw[iH (by omega) nt];omega,λh=>by cases h⟩,q0⟩),q1,?_⟩
     ·rw[hX,e1,e3 cv,hlen,if_neg (by omega)]
     ·exact(q3.sub (ro.den ρ).toNat (len.den ρ).toNat (by omega)).mono (Fr.of w λg hg=> .inr hg)
  ·exact ao.fail
 ·rename_i b off len cap;split
  ·rename_i cs hcs;refine dR λhc=>?_;simp only[aQ]at hc;obtain⟨⟨⟨⟨c1,c2⟩,c3⟩,c4⟩,ji⟩:=hc;have c2:=et c2;have c3:=et c3;have c4:=et c4
   obtain⟨d1,d2,d3⟩:=OH hw hb hcs;have hX:X= .slice (some ⟨m b,off,none⟩) len cap:=hX;have jF:∀C t,bl[b]?=some (C,t)->bI C=true:=λC t hbl=>by
    unfold o6 at hcs;rw[hbl]at hcs;simp only at hcs;cases hc:(bp (off+len*sh.length) C.length&&bI C)with
    |false=>rw[hc]at hcs;cases hcs
    |true=>simp only[aQ]at hc;exact hc.2
   cases Vj:hZ sh with
   |false=>
    have akH:kz=true:=by rw[Vj,Bool.false_or]at ji;exact ji
    have iV:=Az (w:=sh.length) (k:=len) d1;refine(MO c1 (rs:=k6 sh.length len cs) (c:= .const 0) hb hw (λrow hr a ha=>d2 a (AA row hr a ha)) (U.cr _ _) (by rw[U.aO];exact⟨bO _,sG⟩) (by rw[sg];intro _ h;simp at h) (by rw[sg,iV.1];simpa using c2)).mono λay n1 l hn ha ⟨p1,aJ,dw,bb,b7,dD,eo⟩=>⟨p1,aJ,.inr ?_⟩;rw[sg,gv]at bb;rw[bb];rw[iV.2]at eo;rw[iV.1]at b7;cases hbl:bl[b]? with
    |none=>unfold o6 at hcs;rw[hbl]at hcs;cases hcs
    |some q=>
     obtain⟨C,t⟩:=q;obtain⟨g1,g2,cells,g3,g4⟩:=at2 hw hbl hcs dD (eo.mono (Fr.of w λg hg=>(.inr (hN akH g hg):oO F w0 ρ m bl (fL (.w (.one (.slc b off len cap)))) (jO (.w (.one (.slc b off len cap)))) g)));exact⟨m b,off,cap,cells,t.1,(0,0),by rw[hX,b7],⟨by omega,by omega⟩,(.inl ⟨⟨b,by simp[fL],rfl,_,hbl,by rw[hT (jF C t hbl)];decide,λ_=>by simp[jO]⟩,g2.elim .inl λh=> .inr (.inr h)⟩),g3,g4⟩
   |true=>
   refine(abz (m:=m) c1 c2 d2 d1).mono λay n1 l hn ha ⟨k1,k2,k3,k4,mm⟩=>⟨k1,k2,.inr ?_⟩;cases hbl:bl[b]? with
   |none=>unfold o6 at hcs;rw[hbl]at hcs;cases hcs
   |some q=>
    obtain⟨C,t⟩:=q;obtain⟨g1,g2,cells,g3,g4,_⟩:=abA hb hw hbl hcs k4 mm;exact⟨m b,off,cap,cells,t.1,(0,0),by rw[hX,k3],⟨by omega,by omega⟩,(.inl ⟨⟨b,by simp[fL],rfl,_,hbl,by rw[hT (jF C t hbl)];decide,λ_=>by simp[jO]⟩,g2.elim .inl λh=> .inr (.inr h)⟩),g3,(k0 Vj).2 g4⟩
  ·exact ao.fail
 ·exact ao.fail
theorem asE {kz:Bool} {sh:List av} {v:V} {X:ax} (hb:bU n bl.length ρ bl) (hw:Mem w0 ρ m bl w) (hv:v.ok n bl.length ρ) (hX:v.rel ρ m X):
 ao S L (B9 kz sh bl v) n ρ λae n' l=>l.aY n'/\(0<=l.den ae/\l.den ae<=bV)/\fK (oN w0 ρ m bl (fL v) (jO v)) w sh (ab (l.den ae)) X:=Q0 (F:=bX w0 ρ m bl) hw.rws (λ_ _ h=>h) hb hw hv hX
theorem aqJ {sh:List av} {e:aR} {v:V} {X:ax} (hex:∀g,¬w0.ex g) (hb:bU n bl.length ρ bl) (hw:Mem w0 ρ m bl w) (hv:v.ok n bl.length ρ) (hX:v.rel ρ m X):
 ao S L (QF sh e bl v) n ρ λae n' l=>l.aY n'/\(0<=l.den ae/\l.den ae<=bV)/\rv (λg=>w0.r.heap.size<=g) w sh e (ab (l.den ae)) X:=by
 unfold QF;split
 ·refine ao.pure ⟨U.cr _ _,by rw[U.aO];exact⟨bO _,sG⟩,.inl ⟨⟨_,hX⟩,sg⟩⟩
 ·rename_i b aL o ro len cap;split
  ·rename_i cF off code cO kind t hbl;refine dR λhc=>fX λhk=>?_;simp only[aQ]at hc;obtain⟨⟨⟨⟨⟨⟨⟨⟨c1,c2⟩,c3⟩,H7⟩,M3⟩,c6⟩,c4⟩,c5⟩,ji⟩:=hc;have c1:=bo c1;have c2:=pt c2;have c3:=U.beq_eq c3;have H7:=U.beq_eq H7;have M3:=U.beq_eq M3;have c6:=U.beq_eq c6;have c4:=bo c4;have c5:=bo c5
   subst c2;subst c3;subst c4;subst H7;subst M3;subst c6;subst c5;subst c1;simp only[ch,ec,ah,U.aO]at hk;have y1:(A.sl b sh.length (.const 0) (.const 0) len cap).ok n bl.length ρ:=hv;obtain⟨ptr,e1,e2,e3⟩:=oA (m:=m) y1;have hX:X=(A.sl b sh.length (.const 0) (.const 0) len cap).den ρ m:=hX;obtain⟨x1,⟨x2,x3,bL,gg⟩,⟨je,oH,lq,nN⟩,⟨oF,oG⟩,fH,gW⟩:=y1;rw[U.aO]at oG;have eS:(A.rows sh (.const 0) code cap 2).ok n bl.length ρ:=hb _ (cM hbl) _ (by simp);have hf:aB 22 ([code,.const 0,len].map (·.den ρ))=rc (((ab (code.den ρ)).drop 0).take (len.den ρ).toNat):=by
    simp only[ch,ec,aB,U.aO]
    congr 2
   have dL:rc (((ab (code.den ρ)).drop 0).take (len.den ρ).toNat)<=bV:=by
    have h1:=QZ (ab (code.den ρ)) 0 (len.den ρ).toNat;rw[QY eS.2.1.1]at h1;exact oJ h1 eS.2.1.2
   refine(fY (by rw[hf];exact eJ _) (by rw[hf];exact dL)).mono λay n1 l hn ha ⟨k1,k2⟩=>?_;rw[hf]at k2;refine⟨k1,by rw[k2];exact⟨eJ _,dL⟩,?_⟩;rw[k2,di];have hlen:(((ab (code.den ρ)).drop 0).take (len.den ρ).toNat).length=(len.den ρ).toNat:=by simp;omega
   rcases ic (cap.den ρ) 0 with cv|cv
   ·left
    have:=fH cv;refine⟨⟨_,by rw[hX,e1,e2 cv,if_pos cv,this];rfl⟩,by rw[this];simp⟩
   ·right
    clear dL;obtain⟨q0,cells,gq,fz,q1,⟨q2,q3⟩,dr⟩:=(hw.rws b sh (.const 0) code cap 2 t hbl (by omega)).2 cv;obtain⟨p0,p1,aJ,bb,b7,dD⟩:=dr (by omega);have aJ:=aJ.two;subst p0;subst aJ;rw[U.aO]at q3;refine⟨m b,(cap.den ρ).toNat,cells,?_,⟨by rw[hlen];have:=gW cv;omega,by omega⟩,dD.elim (λh=>absurd h (hex _)) id,q1,?_,bb⟩
    ·rw[hX,e1,e3 cv,hlen,if_neg (by omega)];simp[U.aO]
    ·have:=((k0 ji).1 q3).sub 0 (len.den ρ).toNat (by omega);simpa using this
  ·exact ao.fail
 ·rename_i b off len cap;split
  ·rename_i C t hbl;split
   ·rename_i cs hcs;refine dR λhc=>?_;simp only[aQ]at hc;obtain⟨⟨⟨⟨⟨⟨⟨⟨c1,c2⟩,c3⟩,c4⟩,c5⟩,c6⟩,kj⟩,mG⟩,ji⟩:=hc;have c2:=et c2;have c3:=et c3;have c4:=et c4
    have c5:=bo c5;have c6:=bo c6;have mG:=bo mG
    subst c5;subst mG;obtain⟨d1,d2,d3⟩:=OH hw hb hcs;refine(abz (m:=m) c1 c2 d2 d1).mono λay n1 l hn ha ⟨k1,k2,k3,k4,mm⟩=>⟨k1,k2,.inr ?_⟩;have hX:X= .slice (some ⟨m b,0,none⟩) len cap:=hX;obtain⟨g1,g2,cells,g3,g4,g5⟩:=abA hb hw hbl hcs k4 mm;exact⟨m b,cap,cells,by rw[hX,k3],⟨by omega,by omega⟩,g2.elim (λh=>absurd h (hex _)) id,g3,g4,by rw[g5 (by simpa using kj),c6]⟩
   ·exact ao.fail
  ·exact ao.fail
 ·exact ao.fail
end
def NS (d:D) (v:V):M (List U):=
 match d,v with
 | .bool,.w (.one (.bool e))=>match e with
  | .lit v=>pure [.const (cond v 1 0)]
  |e=>bind (y7 e) λl=>pure [l]
 | .int k lo hi,.w (.one (.int k' x))=>cond (decide (k=k')) (cond (nZ lo hi x) (pure [x.l]) (bind (eP 39 [x.l,.const lo,.const hi]) λ_=>pure [x.l])) fail
 | .mix l,.w (.agg s)=>Gl l s
 | .str,.w (.one (.str l))=>pure [l]
 | .ka l,.w (.one (.str x))=>match x.dq with|some c=>cond (decide (c=cT (qU l))) (pure []) fail|none=>fail
 | .nD k c,.w (.one (.int k' x))=>match x.l.dq with|some d=>cond (decide (k=k')&&decide (d=c)) (pure []) fail|none=>fail
 | .agg k n lo hi,.w (.agg l)=>cond (aA l.length n) (match lf k lo hi l with|some r=>pure r|none=>fail) fail
 |_,_=>fail
def HU:List av:=[.int .u8 0 127]
def Dd:List av:=[.int .u8 0 255]
def YW (bl:List aj):V->Bool
 | .w (.one (.sl b _ _ _ _ _))=>match bl[b]? with
  |some ([.rows cF _ _ _ _],_)=>jc cF Dd
  |_=>false
 |_=>false
noncomputable def Q1 (kz:Bool) (sh:List av) (bl:List aj) (v:V):M U:=cond (jc sh HU&&YW bl v) (bind (B9 kz Dd bl v) λl=>bind (eP 86 [l]) λ_=>pure l) (B9 kz sh bl v)
noncomputable def sW (kz:Bool) (bl:List aj):List bG->List V->M (List U)
 |[],[]=>pure []
 | .d x::r,v::s=>bind (NS x v) λa=>bind (sW kz bl r s) λb=>pure (a++b)
 | .rd sh::r,v::s=>bind (Q1 kz sh bl v) λa=>bind (sW kz bl r s) λb=>pure (a::b)
 |_,_=>fail
section
variable {S:Nat->List Int->List Int->Prop} {L:V->Env->Prop} {w0:cI} {P:bk} {w:ai}
theorem Rd:∀{sh:List av} {zs:List Int},bD sh zs->bd (sh.map av.dG) zs/\oM av.val sh zs=dm sh zs
 |[],[],_=>⟨trivial,rfl⟩
 |c::sh,z::zs,h=>⟨⟨h.1.1,h.1.2,(Rd h.2).1⟩,by simp[dm,(Rd h.2).2]⟩
 |[],_::_,h=>h.elim
 |_::_,[],h=>h.elim
theorem ahh {d:D} {v:V} {X:ax} {n nb:Nat} {ρ:Env} {m:Nat->Nat} (hv:v.ok n nb ρ) (hX:v.rel ρ m X):ao S L (NS d v) n ρ λae n' ls=>(∀x∈ls,U.aY n' x)/\bd d.bds (ls.map (·.den ae))/\X=d.val (ls.map (·.den ae)):=by
 unfold NS;split
 ·rename_i e;have hX:X= .bool (e.den ρ):=hX;have key:ao S L (bind (y7 e) λl=>pure [l]) n ρ λae n' ls=>(∀x∈ls,U.aY n' x)/\bd D.bool.bds (ls.map (·.den ae))/\X=D.bool.val (ls.map (·.den ae)):=
   JH.bind λay n1 l hn ha ⟨g1,g2,g3⟩=>ao.pure ⟨λx hx=>by simp at hx;subst hx;exact g1,⟨g2.1,g2.2,trivial⟩,by rw[hX,g3];rfl⟩
  cases e with
  |lit b=>
   refine ao.pure ⟨λx hx=>by simp at hx;subst hx;exact U.cr _ _,?_,?_⟩
   ·simp only[ch,ec,U.aO,D.bds];cases b<;>exact⟨by decide,by decide,trivial⟩
   ·rw[hX];simp only[ch,ec,U.aO];cases b<;>rfl
  |_=>exact key
 ·rename_i k lo hi k' x;refine dR λhk=>?_;have hk:k=k':=by simpa using hk
  subst hk;have hv:x.ok n ρ:=hv;have hX:X= .int k (x.l.den ρ):=hX;cases hf:nZ lo hi x with
  |true=>
   have:=DF hf hv;exact ao.pure ⟨λy hy=>by simp at hy;subst hy;exact hv.1,⟨this.1,this.2,trivial⟩,hX⟩
  |false=>
   refine fX λhk=>ao.pure ?_;simp only[ch,ec,ah,U.aO]at hk;exact⟨λy hy=>by simp at hy;subst hy;exact hv.1,⟨hk.1,hk.2,trivial⟩,hX⟩
 ·rename_i l s;have hX:X= .agg (s.map (A.den ρ m)).toArray:=hX;refine(KO (nb:=nb) (m:=m) hv).mono λay n1 ls hn ha ⟨g1,g2,g3⟩=>?_;have:=Rd g2;refine⟨g1,this.1,?_⟩;rw[hX,<-g3];simp only[D.val,this.2]
 ·rename_i l;have hX:X= .string (az (aa (l.den ρ))):=hX;have hv:l.aY n/\0<=l.den ρ/\l.den ρ<=b8:=hv;exact ao.pure ⟨λy hy=>by simp at hy;subst hy;exact hv.1,⟨hv.2.1,hv.2.2,trivial⟩,hX⟩
 ·rename_i l x;have hX:X= .string (az (aa (x.den ρ))):=hX;cases hc:x.dq with
  |none=>exact ao.fail
  |some c=>
   refine dR λhd=>ao.pure ⟨λy hy=>by simp at hy,trivial,?_⟩;rw[hX,abH (n:=n) hc (by simpa using hd)];rfl
 ·rename_i k c k' x;have hX:X= .int k' (x.l.den ρ):=hX;cases hc:x.l.dq with
  |none=>exact ao.fail
  |some d=>
   refine dR λhd=>ao.pure ⟨λy hy=>by simp at hy,trivial,?_⟩;simp only[aQ,decide_eq_true_eq]at hd;rw[hX,U.il hc,<-hd.1,hd.2];rfl
 ·rename_i k n' lo hi l;refine dR λhk=>?_;have hk:=bo hk;have hX:X= .agg (l.map (A.den ρ m)).toArray:=hX;cases hf:lf k lo hi l with
  |none=>exact ao.fail
  |some r=>
   obtain⟨g1,g2,g3⟩:=NP (m:=m) hf hv;rw[hk]at g2;refine ao.pure ⟨NO hf hv,g2,?_⟩;rw[hX,g3];simp only[D.val];rw[lu (by simp[g1,hk])]
 ·exact ao.fail
theorem ZC {n:Nat} {ρ ae:Env} {ls:List U} (h:∀x∈ls,U.aY n x) (ha:agree n ρ ae):ls.map (·.den ae)=ls.map (·.den ρ):=gw λx hx=>U.bw ha (h x hx)
theorem oO.later {F:Nat->Prop} {n nb:Nat} {ρ ae:Env} {m:Nat->Nat} {bl:List aj} {bs os:List Nat} {g:Nat} (hb:bU n nb ρ bl) (ha:agree n ρ ae) (h:oO F w0 ae m bl bs os g):oO F w0 ρ m bl bs os g:=by
 rcases h with⟨⟨b,h1,h2,p,h3,h4,h6⟩,h5⟩|h
 ·exact .inl ⟨⟨b,h1,h2,p,h3,by rw[<-mn (hb p (cM h3)) ha];exact h4,h6⟩,h5⟩
 ·exact .inr h
theorem oO.more {F:Nat->Prop} {ρ:Env} {m:Nat->Nat} {bl:List aj} {bs os bs' FJ:List Nat} {g:Nat} (h:oO F w0 ρ m bl bs os g) (h1:∀b∈bs,b∈bs') (h2:∀b∈os,b∈FJ):oO F w0 ρ m bl bs' FJ g:=by
 rcases h with⟨⟨b,k1,k2,p,k3,k4,mR⟩,mm⟩|h
 ·exact .inl ⟨⟨b,h1 b k1,k2,p,k3,k4,λh=>h2 b (mR h)⟩,mm⟩
 ·exact .inr h
theorem xS.dQ {F:Nat->Prop} {n nb:Nat} {ρ ae:Env} {m:Nat->Nat} {bl:List aj} {w:ai} (h:xS F w0 ρ m bl w) (hb:bU n nb ρ bl) (ha:agree n ρ ae):xS F w0 ae m bl w:=λi sh off code cap kind t hi=>
 (h i sh off code cap kind t hi).dQ (hb _ (cM hi) _ (by simp)) ha
theorem UD {F:Nat->Prop} {w:ai}:∀{rows:List (List Int)} {vs:List ax},eF F w Dd rows vs->eF F w HU rows vs
 |[],_,h=>h
 |row::rows,vs,h=>by
  obtain⟨x,y,h1,h2,h3⟩:=h;have yq:ea F w [.int .u8 0 255] row x:=h2;have key:∀(row:List Int) (x:List ax),ea F w [.int .u8 0 255] row x->ea F w [.int .u8 0 127] row x:=λrow x h=>by
   match row,x,h with
   |[z],[v],h=>exact h
   |[],_,h=>exact h.elim
   |_::_,[],h=>exact h.elim
   |_::_::_,_::_,h=>exact h.2.elim
   |[_],_::_::_,h=>exact h.2.elim
  exact⟨x,y,h1,key row x yq,UD h3⟩
theorem fK.ae6 {F:Nat->Prop} {w:ai} {rows:List (List Int)} {v:ax} (h:fK F w Dd rows v) (hb:∀row∈rows,row.getD 0 0<128):fK F w HU rows v:=by
 rcases h with h|⟨g,o,cap,cells,t,fz,h1,h2,h3,h4,r1,pre,vs,post,e1,e2,e3⟩
 ·exact .inl h
 ·refine .inr ⟨g,o,cap,cells,t,fz,h1,h2,h3,h4,λrow hr=>?_,pre,vs,post,e1,e2,UD e3⟩;have h8:bD [.int .u8 0 255] row:=r1 row hr;have h7:=hb row hr
  match row,h8,h7 with
  |[],h8,_=>exact h8.elim
  |_::_::_,h8,_=>exact h8.2.elim
  |[z],h8,h7=>
   have bE:(0:Int)<=z/\z<=255:=h8.1;have h7:z<128:=h7;exact⟨⟨bE.1,by show z<=127;omega⟩,trivial⟩
theorem asF {n:Nat} {ρ:Env} {m:Nat->Nat} {bl:List aj} {F:Nat->Prop} {kz:Bool} (hF:xS F w0 ρ m bl w) (hN:kz=true->∀g,bX w0 ρ m bl g->F g) {sh:List av} {v:V} {X:ax} (hb:bU n bl.length ρ bl) (hw:Mem w0 ρ m bl w) (hv:v.ok n bl.length ρ) (hX:v.rel ρ m X):
 ao S L (Q1 kz sh bl v) n ρ λae n' l=>l.aY n'/\(0<=l.den ae/\l.den ae<=bV)/\fK (oO F w0 ρ m bl (fL v) (jO v)) w sh (ab (l.den ae)) X:=by
 unfold Q1;cases hc:(jc sh HU&&YW bl v)with
 |false=>exact Q0 hF hN hb hw hv hX
 |true=>
  simp only[aQ]at hc;have:=pt hc.1;subst this;refine(Q0 (sh:=Dd) hF hN hb hw hv hX).bind λay n1 l hn ha ⟨g1,g2,g3⟩=>fX λhk=>ao.pure ⟨g1,g2,g3.ae6 hk⟩
theorem DJ {kz:Bool} {F0:Nat->Prop} {bl:List aj} {m:Nat->Nat}:∀{ds:List bG} {vs:List V} {xs:List ax} {n:Nat} {ρ:Env},xS F0 w0 ρ m bl w->(kz=true->∀g,bX w0 ρ m bl g->F0 g)->bU n bl.length ρ bl->Mem w0 ρ m bl w->(∀v∈vs,V.ok n bl.length ρ v)->db ρ m vs xs->
 ao S L (sW kz bl ds vs) n ρ λae n' ls=>(∀x∈ls,U.aY n' x)/\bd (bR ds) (ls.map (·.den ae))/\∀F:Nat->Prop,(∀g,oO F0 w0 ρ m bl (vs.flatMap fL) (vs.flatMap jO) g->F g)->fT F (λ_=>False) w ds (ls.map (·.den ae)) xs
 |[],[],[],n,ρ,_,_,_,_,_,_=>ao.pure ⟨λ_ h=>by simp at h,trivial,λ_ _=>trivial⟩
 | .d x::r,v::s,X::xs,n,ρ,h0,hN,hb,hw,hv,hr=>by
  unfold sW;refine(ahh (hv v (by simp)) hr.1).bind λay n1 a hn ha ⟨g1,g2,g3⟩=>?_;refine(DJ (ds:=r) (vs:=s) (xs:=xs) (h0.dQ hb ha) (λh g hg=>hN h g (bX.KK hb ha hg)) (hb.ext ha hn (aV _)) (hw.dQ hb ha) (λu hu=>(hv u (cx _ hu)).ext ha hn (aV _)) (db.later (λu hu=>hv u (cx _ hu)) ha hr.2)).bind λbn n2 b dY cU ⟨k1,k2,k3⟩=>ao.pure ⟨λy hy=>?_,?_,λF hF=>?_⟩
  ·rcases List.mem_append.1 hy with hy|hy
   ·exact(g1 y hy).mono dY
   ·exact k1 y hy
  ·rw[fl,ZC g1 cU];exact r5 g2 k2
  ·have hl:(a.map (·.den ay)).length=x.num:=by rw[gp g2,D.Di]
   rw[fl,ZC g1 cU];refine⟨?_,?_⟩
   ·show X=x.val _;rw[D.ab8 x hl];exact g3
   ·show fT F _ w r (List.drop x.num _) xs;rw[<-hl,ua];exact k3 F λg hg=>hF g (by
     exact(oO.later hb ha hg).more (λb' h1=>by simp only[rl,rb];exact .inr h1) (λb' h1=>by simp only[rl,rb];exact .inr h1))
 | .rd sh::r,v::s,X::xs,n,ρ,h0,hN,hb,hw,hv,hr=>by
  unfold sW;refine(asF h0 hN hb hw (hv v (by simp)) hr.1).bind λay n1 a hn ha ⟨g1,g2,g3⟩=>?_;refine(DJ (ds:=r) (vs:=s) (xs:=xs) (h0.dQ hb ha) (λh g hg=>hN h g (bX.KK hb ha hg)) (hb.ext ha hn (aV _)) (hw.dQ hb ha) (λu hu=>(hv u (cx _ hu)).ext ha hn (aV _)) (db.later (λu hu=>hv u (cx _ hu)) ha hr.2)).bind λbn n2 b dY cU ⟨k1,k2,k3⟩=>ao.pure ⟨λy hy=>?_,?_,λF hF=>?_⟩
  ·rcases List.mem_cons.1 hy with rfl|hy
   ·exact g1.mono dY
   ·exact k1 y hy
  ·simp only[ch,U.bw cU g1];exact⟨g2.1,g2.2,k2⟩
  ·simp only[ch,U.bw cU g1];refine⟨?_,?_⟩
   ·show fK F w sh (ab _) X;exact g3.mono λg hg=>hF g (by
     exact hg.more (λb' h1=>by simp only[rl,rb];exact .inl h1) (λb' h1=>by simp only[rl,rb];exact .inl h1))
   ·exact k3 F λg hg=>hF g (by
     exact(oO.later hb ha hg).more (λb' h1=>by simp only[rl,rb];exact .inr h1) (λb' h1=>by simp only[rl,rb];exact .inr h1))
 |[],_::_,_,_,_,_,_,_,_,_,_=>ao.fail
 | .d _::_,[],_,_,_,_,_,_,_,_,_=>ao.fail
 | .rd _::_,[],_,_,_,_,_,_,_,_,_=>ao.fail
 | .jL _ _::_,[],_,_,_,_,_,_,_,_,_=>ao.fail
 | .jL _ _::_,_::_,_,_,_,_,_,_,_,_,_=>ao.fail
 |_,[],_::_,_,_,_,_,_,_,_,hr=>hr.elim
 |_,_::_,[],_,_,_,_,_,_,_,hr=>hr.elim
where
 db.later {n nb:Nat} {ρ ae:Env} {m:Nat->Nat}:∀{vs:List V} {xs:List ax},(∀v∈vs,V.ok n nb ρ v)->agree n ρ ae->db ρ m vs xs->db ae m vs xs
 |[],[],_,_,_=>trivial
 |v::vs,x::xs,hv,ha,hr=>⟨V.rel.ext hr.1 (hv v (by simp)) ha (λ_ _=>rfl),db.later (λu hu=>hv u (cx _ hu)) ha hr.2⟩
 |[],_::_,_,_,hr=>hr.elim
 |_::_,[],_,_,hr=>hr.elim
theorem NQ {kz:Bool} {bl:List aj} {m:Nat->Nat} {ds:List bG} {vs:List V} {xs:List ax} {n:Nat} {ρ:Env} (hb:bU n bl.length ρ bl) (hw:Mem w0 ρ m bl w) (hv:∀v∈vs,V.ok n bl.length ρ v) (hr:db ρ m vs xs):
 ao S L (sW kz bl ds vs) n ρ λae n' ls=>(∀x∈ls,U.aY n' x)/\bd (bR ds) (ls.map (·.den ae))/\∀F:Nat->Prop,(∀g,oN w0 ρ m bl (vs.flatMap fL) (vs.flatMap jO) g->F g)->fT F (λ_=>False) w ds (ls.map (·.den ae)) xs:=DJ (F0:=bX w0 ρ m bl) hw.rws (λ_ _ h=>h) hb hw hv hr
end
end Go.aW
namespace Go.aW
open M
def uG:List Nat->List aj->List aj
 |[],bl=>bl
 |b::r,bl=>match bl[b]? with
  |some ([.rows sh off code cap (k+1)],t)=>uG r (cy bl b ([.rows sh off code cap 1],t))
  |_=>uG r bl
def qk (us:List W):V:=match us with|[u]=> .w u|l=> .e6 l
def ov:List V->Bool
 |[]=>true
 | .w (.one (.slc ..))::_=>false
 |_::r=>ov r
noncomputable def cY.rp (c:cY) (n:Nat) (vs:List V) (bl:List aj) (k:RK):T:=sW true bl c.args vs n λls n1=>cond (kN c.res&&(!(c.res.any bG.js)||ov vs)) (FO c.pre ls (.call c.id ls n1 (bR c.res) (nX c.res n1 (n1+(bR c.res).length) [] (cond (c.res.any bG.js) (uG (vs.flatMap fL) bl) bl) λn2 us gC=>k n2 (qk us) gC))) .stuck
noncomputable def tN:List bG->List V->List aj->M (List V×List aj)
 |[],vs,bl=>pure (vs,bl)
 | .d _::_,[],bl=>pure ([],bl)
 | .rd _::_,[],bl=>pure ([],bl)
 | .jL _ _::_,[],bl=>pure ([],bl)
 | .d _::r,v::s,bl=>bind (tN r s bl) λq=>pure (v::q.1,q.2)
 | .jL _ _::r,v::s,bl=>bind (tN r s bl) λq=>pure (v::q.1,q.2)
 | .rd sh::r,v::s,bl=>match v with
  | .w (.one (.slc b 0 len cap))=>match bl[b]? with
   |some (C,t)=>cond (bI C&& !t.2&&aA len cap&&aA C.length (len*sh.length)&&kC sh&&bp len 1000000&&hZ sh&&ck 0 len)
    (bind (x7 sh (k6 sh.length len C) (.const 0)) λcode=>bind (tN r s (cy bl b ([.rows sh (.const 0) code (.const len) 2],t))) λq=>pure (.w (.one (.sl b sh.length (.const 0) (.const 0) (.const len) (.const len)))::q.1,q.2))
    (bind (tN r s bl) λq=>pure (v::q.1,q.2))
   |none=>bind (tN r s bl) λq=>pure (v::q.1,q.2)
  |_=>bind (tN r s bl) λq=>pure (v::q.1,q.2)
noncomputable def cY.E (c:cY) (n:Nat) (vs:List V) (bl:List aj) (k:RK):T:=c.rp n vs bl k
section
variable {S:Nat->List Int->List Int->Prop} {L:V->Env->Prop} {w0:cI} {P:bk}
theorem AP {n nb:Nat} {ρ:Env} {m:Nat->Nat} {w:ai}:∀{bs:List Nat} {bl:List aj},Mem w0 ρ m bl w->bU n nb ρ bl->Mem w0 ρ m (uG bs bl) w/\bU n nb ρ (uG bs bl)/\(uG bs bl).length=bl.length/\
 ∀(i:Nat) (p:aj),(uG bs bl)[i]?=some p->∃p',bl[i]?=some p'/\aS ρ p.1<=aS ρ p'.1/\(i∈bs->bI p'.1=false->aS ρ p.1<=1)
 |[],bl,h,hb=>⟨h,hb,rfl,λi p hi=>⟨p,hi,aV _,λh=>by simp at h⟩⟩
 |b::r,bl,h,hb=>by
  unfold uG;split
  ·rename_i sh off code cap k t hbl;have mL:b<bl.length:=(List.getElem?_eq_some_iff.1 hbl).1;have hb':bU n nb ρ (cy bl b ([.rows sh off code cap 1],t)):=λp hp a ha=>by
    rw[iN]at hp;rcases CY hp with hp|hp
    ·exact hb p hp a ha
    ·subst hp;simp at ha;subst ha;have h0:A.ok n nb ρ (.rows sh off code cap (k+1)):=hb _ (cM hbl) _ (by simp);exact h0
   obtain⟨g1,g2,g3,g4⟩:=AP (bs:=r) (h.low hbl) hb';refine⟨g1,g2,by rw[g3,jN],λi p hp=>?_⟩;obtain⟨p',h1,h2,h3⟩:=g4 i p hp;by_cases gT:i=b
   ·subst gT;rw[iN,List.getElem?_set_self mL]at h1;cases h1;refine⟨_,hbl,gx h2 (by simp only[aS];split<;>omega),λ_ _=>gx h2 (by simp only[aS];split<;>omega)⟩
   ·rw[iN,List.getElem?_set_ne (λe=>gT e.symm)]at h1;exact⟨p',h1,h2,λhi ho=>h3 (by simpa [gT]using hi) ho⟩
  ·rename_i hno;obtain⟨g1,g2,g3,g4⟩:=AP (bs:=r) h hb;refine⟨g1,g2,g3,λi p hp=>?_⟩;obtain⟨p',h1,h2,h3⟩:=g4 i p hp;refine⟨p',h1,h2,λhi ho=>?_⟩;rcases List.mem_cons.1 hi with rfl|hi
   ·obtain⟨C,t⟩:=p';obtain⟨sh,off,code,cap,k,rfl⟩:=Kq ho;cases k with
    |zero=>
     have:aS ρ [A.rows sh off code cap 0]=0:=by simp[aS]
     simp only[this]at h2;omega
    |succ k=>exact absurd h1 (hno _ _ _ _ _ _)
   ·exact h3 hi ho
theorem KJ {n nb:Nat} {ρ:Env} {m:Nat->Nat} {us:List W} {vals:List ax} (h:∀u∈us,W.ok n nb ρ u) (hm:us.map (W.den ρ m)=vals):(qk us).ok n nb ρ/\(qk us).rel ρ m (lO vals):=by
 subst hm;unfold qk lO;split
 ·exact⟨h _ (by simp),rfl⟩
 ·rename_i hne;refine⟨h,?_⟩;split
  ·rename_i x hx
   match us,hne,hx with
   |[u],hne,_=>exact absurd rfl (hne u)
  ·rfl
theorem Qt:∀{vs:List V},ov vs=true->vs.flatMap jO=[]
 |[],_=>rfl
 |v::r,h=>by
  unfold ov at h;split at h
  ·rename_i heq;cases heq
  ·cases h
  ·rename_i hne heq;cases heq;rw[rl,Qt h,lv];unfold jO;split
   ·exact(hne _ _ _ _ rfl).elim
   ·rfl
theorem Qu:∀{vs:List V} {b:Nat},ov vs=true->b∈vs.flatMap fL->∃aL o ro len cap,V.w (.one (.sl b aL o ro len cap))∈vs
 |[],b,_,h=>by simp at h
 |v::r,b,h,hb=>by
  simp only[rl,rb]at hb;rcases hb with hb|hb
  ·unfold fL at hb;split at hb
   ·simp at hb;subst hb;exact⟨_,_,_,_,_,ub ..⟩
   ·simp[ov]at h
   ·simp at hb
  ·have h':ov r=true:=by
    unfold ov at h;split at h
    ·rename_i heq;cases heq
    ·cases h
    ·rename_i heq;cases heq;exact h
   obtain⟨aL,o,ro,len,cap,h1⟩:=Qu h' hb;exact⟨aL,o,ro,len,cap,cx _ h1⟩
theorem cY.Hv {c:cY} {spec:List Int->List Int->Prop} {f:cB} {Dc:Array ax} (hS:∀zs rs,spec zs rs->S c.id zs rs) (n:Nat) (vs:List V) (bl:List aj) (k:RK) (G:c9) (ρ:Env) (m:Nat->Nat) (w:ai) (xs:List ax) (R':qw->ai->Prop)
 (hc:∀zs,bd (bR c.args) zs->vq c.pre zs->fT (oN w0 ρ m bl (vs.flatMap fL) (vs.flatMap jO)) (λ_=>False) w c.args zs xs->
   gZ P f Dc w λe w'=>w.Extends w'/\∃rs us,bd (bR c.res) rs/\spec zs rs/\fT (λg=>oN w0 ρ m bl (vs.flatMap fL) (vs.flatMap jO) g∨w.heap.size<=g) (λg=>w.heap.size<=g) w' c.res rs us/\e= .returned (lO us))
 (hb:bU n bl.length ρ bl) (hw:Mem w0 ρ m bl w) (hv:∀v∈vs,V.ok n bl.length ρ v) (hr:db ρ m vs xs) (ag:(c.rp n vs bl k).holds S L G ρ) (hk:pJ S L w0 k n bl.length ρ m G R'):
 gZ P f Dc w R':=by
 unfold cY.rp at ag;obtain⟨ay,n1,ls,eY,dz,⟨g1,g2,g3⟩,ag⟩:=NQ (S:=S) (L:=L) hb hw hv hr G _ ag;cases hq:(kN c.res&&(!(c.res.any bG.js)||ov vs))with
 |false=>rw[hq]at ag;exact ag.elim
 |true=>
  rw[hq]at ag;simp only[cond_true]at ag;obtain⟨gf,ag⟩:=preM_holds ag;simp only[T.holds]at ag;simp only[aQ,pD,iP]at hq;refine(hc _ g2 gf (g3 _ λ_ h=>h)).mono ?_
  rintro e w' ⟨he,rs,us,r1,r2,r3,rfl⟩
  have ag:=kM ag r1 (hS _ _ r2);have hb1:=hb.ext dz eY (aV bl.length);have Pw:=(hw.grow he).dQ hb dz;have cU:agree n1 ay (bh ay n1 rs):=agree.bh rs n1 ay;have hb2:=hb1.ext cU (CO n1 (bR c.res).length) (aV bl.length);have uX:=Pw.dQ hb1 cU;have hA:fJ (bh ay n1 rs) n1 rs:=fJ.bh ay n1 rs;have EG:rs.length=(bR c.res).length:=gp r1;have lG:=dz.trans cU eY;have yy:cJ n bl.length ρ m (n1+(bR c.res).length) bl.length (bh ay n1 rs) m:=⟨by omega,lG,aV _,λ_ _=>rfl⟩;have ft:∀(i:Nat) (p:aj),bl[i]?=some p->aS (bh ay n1 rs) p.1=aS ρ p.1:=λi p hi=>mn (hb p (cM hi)) lG;have uO:∀(i:Nat) (p:aj),bl[i]?=some p->w.heap.size<=m i->aS ρ p.1=0:=λi p hi e8=>by
   by_cases h0:aS ρ p.1=0
   ·exact h0
   ·have:=hw.lt hi h0;omega
  have fin:∀aG:List aj,bU (n1+(bR c.res).length) aG.length (bh ay n1 rs) aG->Mem w0 (bh ay n1 rs) m aG w'->aG.length=bl.length->
   (∀(i:Nat) (p:aj),aG[i]?=some p->(oN w0 ρ m bl (vs.flatMap fL) (vs.flatMap jO) (m i)∨w.heap.size<=m i)->(c.res.any bG.js)=true->aS (bh ay n1 rs) p.1<=1)->
   (∀(i:Nat) (p:aj),aG[i]?=some p->w.heap.size<=m i->aS (bh ay n1 rs) p.1=0)->(∀g,w.heap.size<=g->na w0 (bh ay n1 rs) m aG w' g)->
   (nX c.res n1 (n1+(bR c.res).length) [] aG λn2 us gC=>k n2 (qk us) gC).holds S L G (bh ay n1 rs)->R' (.returned (lO us)) w':=λaG hb' nC hlen dk Ou kn ag=>by
   have hF:∀g,(oN w0 ρ m bl (vs.flatMap fL) (vs.flatMap jO) g∨w.heap.size<=g)->w0.ex g∨w0.ro g∨w0.r.heap.size<=g:=λg hg=>by
    rcases hg with(hg|hg)|hg
    ·exact hg.2
    ·exact hg.1
    ·exact .inr (.inr (gx hw.ew hg))
   have hN:∀g,w.heap.size<=g->w0.b.heap.size<=g/\w0.r.heap.size<=g:=λg hg=>⟨gx hw.ext.size hg,gx hw.ew hg⟩;have h1:(c.res.all λb=> !b.js)=true∨∀(i:Nat) (p:aj),aG[i]?=some p->(oN w0 ρ m bl (vs.flatMap fL) (vs.flatMap jO) (m i)∨w.heap.size<=m i)->aS (bh ay n1 rs) p.1<=1:=by
    cases lJ:c.res.any bG.js with
    |true=>exact .inr λi p hi hf=>dk i p hi hf lJ
    |false=>
     left
     rw[pC];intro b hb;cases dL:b.js with
     |false=>rfl
     |true=>rw[List.any_eq_true.2 ⟨b,hb,dL⟩]at lJ;cases lJ
   obtain⟨n',ae,m',jR,gC,p1,aJ,bb,b7,dD,eo⟩:=sL (S:=S) (L:=L) hF hN (l:=c.res) (us:=[]) (vals:=us) hq.1 hb' nC hA r1 (aV _) r3 h1 (.inr Ou) (.inr kn) (λu hu=>by simp at hu) ag;have jG:=KJ (m:=m') dD (by simpa using b7);exact hk n' (qk jR) gC G ae m' w' (lO us) (yy.trans (hlen▸p1)) (dI.refl _ _) jG.1 jG.2 aJ bb eo
  cases lJ:c.res.any bG.js with
  |false=>
   rw[lJ]at ag;exact fin bl hb2 uX rfl (λ_ _ _ _ h=>by rw[lJ]at h;cases h) (λi p hi e8=>by rw[ft i p hi];exact uO i p hi e8) (λg hg=>(hw.we he hg).dQ hb lG) ag
  |true=>
   rw[lJ]at ag hq;obtain⟨f1,f2,f3,f4⟩:=AP (bs:=vs.flatMap fL) uX hb2;have lh:ov vs=true:=by
    rcases hq.2 with h|h
    ·cases h
    ·exact h
   refine fin _ (by rw[f3];exact f2) f1 f3 (λi p hi hf _=>?_) (λi p hi e8=>?_) (λg hg=>(AP (bs:=vs.flatMap fL) (hw.dQ hb lG) hb2).1.we he hg) ag
   ·obtain⟨p',h1,h2,h3⟩:=f4 i p hi;rw[ft i p' h1]at h2;rcases hf with(⟨⟨b,D6,uK,q,nA,oc,Pg⟩,_⟩|ob)|e8
    rotate_left
    ·rcases m6 (aS ρ p'.1) 2 with bE|bE
     ·omega
     ·exact absurd rfl (ob.2 i p' h1 bE)
    rotate_left
    ·obtain⟨aL,o,ro,len,cap,jE⟩:=Qu lh D6;rcases hw.inj i b p' q h1 nA (by rw[uK])with h5|h5|h5|h5
     ·subst h5;rw[h1]at nA;cases nA;cases ho:bI p'.1 with
      |false=>exact h3 D6 ho
      |true=>
       have:=Pg ho;rw[Qt lh]at this;simp at this
     ·omega
     ·omega
     ·exact absurd h5 oc
    ·have:=uO i p' h1 e8;omega
   ·obtain⟨p',h1,h2,_⟩:=f4 i p hi;rw[ft i p' h1]at h2;have:=uO i p' h1 e8;omega
theorem cY.Hw {c:cY} {spec:List Int->List Int->Prop} (hc:c.dW P w0.b spec) (hS:∀zs rs,spec zs rs->S c.id zs rs) (n:Nat) (vs:List V) (bl:List aj) (k:RK) (G:c9) (ρ:Env) (m:Nat->Nat) (w:ai) (xs:List ax) (R':qw->ai->Prop)
 (hb:bU n bl.length ρ bl) (hw:Mem w0 ρ m bl w) (hv:∀v∈vs,V.ok n bl.length ρ v) (hr:db ρ m vs xs) (ag:(c.rp n vs bl k).holds S L G ρ) (hk:pJ S L w0 k n bl.length ρ m G R'):
 (callFunc c.f xs.toArray).run P w= .ok (.enter c.f xs.toArray) w/\gZ P c.f xs.toArray w R':=by
 exact⟨hc.1 _ _,cY.Hv hS n vs bl k G ρ m w xs R' (λzs h1 h2 h3=>hc.2 _ w xs zs hw.ext h1 h2 h3) hb hw hv hr ag hk⟩
theorem R0 {m:Nat->Nat} {w:ai}:∀{ds:List bG} {vs:List V} {bl:List aj} {xs:List ax} {n:Nat} {ρ:Env},Mem w0 ρ m bl w->bU n bl.length ρ bl->(∀v∈vs,V.ok n bl.length ρ v)->db ρ m vs xs->
 ao S L (tN ds vs bl) n ρ λae n' q=>Mem w0 ae m q.2 w/\bU n' q.2.length ae q.2/\q.2.length=bl.length/\(∀v∈q.1,V.ok n' bl.length ae v)/\db ae m q.1 xs
 |[],vs,bl,xs,n,ρ,hm,hb,hv,hr=>ao.pure ⟨hm,hb,rfl,hv,hr⟩
 | .d _::_,[],bl,xs,n,ρ,hm,hb,hv,hr=>ao.pure ⟨hm,hb,rfl,hv,hr⟩
 | .rd _::_,[],bl,xs,n,ρ,hm,hb,hv,hr=>ao.pure ⟨hm,hb,rfl,hv,hr⟩
 | .jL _ _::_,[],bl,xs,n,ρ,hm,hb,hv,hr=>ao.pure ⟨hm,hb,rfl,hv,hr⟩
 |d::r,v::s,bl,xs,n,ρ,hm,hb,hv,hr=>by
  match xs,hr with
  |x::xs,hr=>
  have eC:ao S L (bind (tN r s bl) λq=>pure (v::q.1,q.2)) n ρ λae n' q=>Mem w0 ae m q.2 w/\bU n' q.2.length ae q.2/\q.2.length=bl.length/\(∀v∈q.1,V.ok n' bl.length ae v)/\db ae m q.1 (x::xs):=
   (R0 (ds:=r) (vs:=s) hm hb (λu hu=>hv u (cx _ hu)) hr.2).bind λay n1 q hn ha ⟨g1,g2,g3,g4,g5⟩=>ao.pure ⟨g1,g2,g3,λu hu=>by
     rcases List.mem_cons.1 hu with rfl|hu
     ·exact(hv u (by simp)).ext ha hn (aV _)
     ·exact g4 u hu,V.rel.ext hr.1 (hv v (by simp)) ha (λ_ _=>rfl),g5⟩
  cases d with
  |d y=>exact eC
  |jL sh e=>exact eC
  |rd sh=>
   unfold tN;split
   ·rename_i b len cap _;split
    ·rename_i C t hbl;cases hc:(bI C&& !t.2&&aA len cap&&aA C.length (len*sh.length)&&kC sh&&bp len 1000000&&hZ sh&&ck 0 len)with
     |false=>exact eC
     |true=>
      simp only[cond_true];simp only[aQ]at hc;obtain⟨⟨⟨⟨⟨⟨⟨ho,c1⟩,bW⟩,c2⟩,c3⟩,c4⟩,c5⟩,c6⟩:=hc;have c1:t.2=false:=by simpa using c1
      have bW:=bo bW;have c2:=bo c2;have c4:=et c4;subst bW;have bg:∀x∈C,A.ok n bl.length ρ x:=hb _ (cM hbl);have mL:b<bl.length:=(List.getElem?_eq_some_iff.1 hbl).1;have iV:=Az (w:=sh.length) (k:=len) c2;refine(HR (nb:=bl.length) (m:=m) c3 (rs:=k6 sh.length len C) (c:= .const 0) (λrow hr x hx=>bg x (AA row hr x hx)) (U.cr _ _) (by rw[U.aO];exact⟨bO _,sG⟩) (by rw[sg];intro _ h;simp at h) (by rw[sg,iV.1];simp;omega)).bind λay n1 code eY dz ⟨p1,aJ,dw,bb,b7,dD,eo⟩=>?_;rw[sg,gv]at bb;have O4:C.map (A.den ay m)=C.map (A.den ρ m):=qf bg dz (λ_ _=>rfl);have hM:=(hm.dQ hb dz).Ci (n:=n1) (c:=len) (sh:=sh) (code:=code) hbl ho c1 c5 (by rw[bb];exact dD) (by rw[bb,eo,iV.2,O4]) c2;have hb1:bU n1 (cy bl b ([.rows sh (.const 0) code (.const len) 2],t)).length ay (cy bl b ([.rows sh (.const 0) code (.const len) 2],t)):=(hb.ext dz eY (aV _)).set (λy hy=>by
       have hy:y= .rows sh (.const 0) code (.const len) 2:=by simpa using hy
       subst hy;exact⟨⟨U.cr _ _,p1,U.cr _ _⟩,aJ,by rw[U.aO];omega⟩)
      have Jf:=jN bl b ([.rows sh (.const 0) code (.const len) 2],t);refine(R0 (ds:=r) (vs:=s) hM hb1 (λu hu=>by rw[Jf];exact(hv u (cx _ hu)).ext dz eY (aV _)) (DJ.db.later (λu hu=>hv u (cx _ hu)) dz hr.2)).bind λbn n2 q dY cU ⟨g1,g2,g3,g4,g5⟩=>ao.pure ⟨g1,g2,by rw[g3,Jf],λu hu=>?_,?_,g5⟩
      ·rcases List.mem_cons.1 hu with rfl|hu
       ·refine⟨mL,⟨U.cr _ _,U.cr _ _,U.cr _ _,U.cr _ _⟩,?_⟩;simp only[U.aO];exact⟨⟨by omega,by omega,by omega,by omega⟩,⟨by omega,by omega⟩,λh=>by omega,λ_=>by omega⟩
       ·rw[<-Jf];exact g4 u hu
      ·have h0:x= .slice (some ⟨m b,0,none⟩) len len:=hr.1;have mh:¬((len:Int)<0):=by omega
       rw[h0];simp[V.rel,W.den,A.den,U.aO,mh]
    ·exact eC
   ·exact eC
theorem cY.ui {c:cY} {spec:List Int->List Int->Prop} (hc:c.dW P w0.b spec) (hS:∀zs rs,spec zs rs->S c.id zs rs) (n:Nat) (vs:List V) (bl:List aj) (k:RK) (G:c9) (ρ:Env) (m:Nat->Nat) (w:ai) (xs:List ax) (R':qw->ai->Prop)
 (hb:bU n bl.length ρ bl) (hw:Mem w0 ρ m bl w) (hv:∀v∈vs,V.ok n bl.length ρ v) (hr:db ρ m vs xs) (ag:(c.E n vs bl k).holds S L G ρ) (hk:pJ S L w0 k n bl.length ρ m G R'):
 (callFunc c.f xs.toArray).run P w= .ok (.enter c.f xs.toArray) w/\gZ P c.f xs.toArray w R':=by
 exact c.Hw hc hS n _ _ k G ρ m w xs R' hb hw hv hr ag hk
end
end Go.aW
namespace Go.aW
open M
def O.aY (n:Nat):O->Prop
 |l x=>x.aY n
 |b x=>x.aY n
theorem O.bw {n:Nat} {ρ ae:Env} (ha:agree n ρ ae):∀{o:O},o.aY n->o.den ae=o.den ρ
 | .l x,h=>U.bw ha h
 | .b x,h=>by simp only[O.den];rw[bf.bw ha h]
theorem aae {k:cX} {n nb:Nat} {ρ:Env}:∀{l:List A} {os:List O},iK k l=some os->(∀a∈l,A.ok n nb ρ a)->∀o∈os,O.aY n o
 |[],os,h,_=>by simp[iK]at h;subst h;intro x hx;simp at hx
 | .int k' x::s,os,h,bg=>by
  simp only[iK]at h;cases hc:decide (k=k')with
  |false=>simp[hc]at h
  |true=>
   cases hr:iK k s with
   |none=>simp[hc,hr]at h
   |some r'=>
    simp only[hc,hr,cond_true,aK]at h;subst h;intro y hy;rcases List.mem_cons.1 hy with hy|hy
    ·rw[hy];have h0:A.ok n nb ρ (.int k' x):=bg _ (ub ..);have h0:x.ok n ρ:=h0;exact h0.1
    ·exact aae hr (λa ha=>bg a (cx _ ha)) y hy
 | .bool _::_,_,h,_=>by simp[iK]at h
 | .ptr .. ::_,_,h,_=>by simp[iK]at h
 | .ow .. ::_,_,h,_=>by simp[iK]at h
 | .gptr .. ::_,_,h,_=>by simp[iK]at h
 | .slc .. ::_,_,h,_=>by simp[iK]at h
 | .con _::_,_,h,_=>by simp[iK]at h
 | .str _::_,_,h,_=>by simp[iK]at h
 | .rows .. ::_,_,h,_=>by simp[iK]at h
 | .sl .. ::_,_,h,_=>by simp[iK]at h
 | .ep .. ::_,_,h,_=>by simp[iK]at h
theorem av.aqG {c:av} {a:A} {o:O} {n nb:Nat} {ρ:Env} (h:c.out a=some o) (ha:a.ok n nb ρ):o.aY n:=by
 unfold av.out at h;split at h
 ·rename_i k _ _ k' x;cases hk:decide (k=k')with
  |false=>simp[hk]at h
  |true=>
   simp only[hk,cond_true,aK]at h;subst h;have ha:x.ok n ρ:=ha;exact ha.1
 ·simp only[aK]at h;subst h;exact ha.1
 ·simp only[aK]at h;subst h;exact ha
 ·simp only[aK]at h;subst h;exact U.cr _ _
 ·cases h
theorem aah {n nb:Nat} {ρ:Env}:∀{d:List av} {l:List A} {os:List O},pk d l=some os->(∀a∈l,A.ok n nb ρ a)->∀o∈os,O.aY n o
 |[],[],os,h,_=>by simp[pk]at h;subst h;intro x hx;simp at hx
 |c::d,a::s,os,h,bg=>by
  simp only[pk]at h;cases h1:c.out a with
  |none=>simp[h1]at h
  |some o=>
   cases h2:pk d s with
   |none=>simp[h1,h2]at h
   |some FJ=>
    simp only[h1,h2,aK]at h;subst h;intro y hy;rcases List.mem_cons.1 hy with hy|hy
    ·rw[hy];exact av.aqG h1 (bg a (ub ..))
    ·exact aah h2 (λb hb=>bg b (cx _ hb)) y hy
 |[],_::_,_,h,_=>by simp[pk]at h
 |_::_,[],_,h,_=>by simp[pk]at h
theorem aqF {d:D} {u:W} {os:List O} {n nb:Nat} {ρ:Env} (h:vn d u=some os) (hu:u.ok n nb ρ):∀o∈os,O.aY n o:=by
 unfold vn at h;split at h
 ·rename_i k _ _ k' x;cases hk:decide (k=k')with
  |false=>simp[hk]at h
  |true=>
   simp only[hk,cond_true,aK]at h;subst h;have hu:x.ok n ρ:=hu;intro o ho;simp at ho;subst ho;exact hu.1
 ·simp only[aK]at h;subst h;intro o ho;simp at ho;subst ho;exact hu
 ·rename_i k n' _ _ l;cases hk:aA l.length n' with
  |false=>simp[hk]at h
  |true=>
   simp only[hk,cond_true]at h;exact aae h hu
 ·simp only[aK]at h;subst h;intro o ho;simp at ho;subst ho;exact hu.1
 ·exact aah h hu
 ·cases h
noncomputable def Ce (bl:List aj):bG->W->M (List O)
 | .d x,u=>match vn x u with|some os=>pure os|none=>fail
 | .rd sh,u=>bind (B9 true sh bl (.w u)) λl=>pure [.l l]
 | .jL sh e,u=>bind (QF sh e bl (.w u)) λl=>pure [.l l]
noncomputable def Cf (bl:List aj):List bG->List W->M (List O)
 |[],[]=>pure []
 |b::r,u::s=>bind (Ce bl b u) λa=>bind (Cf bl r s) λc=>pure (a++c)
 |_,_=>fail
noncomputable def Gi (bl:List aj) (ds:List bG) (v:V):M (List O):=
 match v with
 | .w u=>match ds with|[d]=>Ce bl d u|_=>fail
 | .e6 l=>match ds with|[_]=>fail|_=>Cf bl ds l
 |_=>fail
def O.toW:O->W
 |l x=> .one (.int .u8 ⟨x,0,0⟩)
 |b x=> .one (.bool x)
def W.toO:W->O
 | .one (.int _ x)=> .l x.l
 | .one (.bool e)=> .b e
 |_=> .l (.const 0)
theorem O.toW_toO (o:O):o.toW.toO=o:=by cases o<;>rfl
def tz (os:List O):V:= .e6 (os.map O.toW)
def pI (K:List Int->Prop) (v:V) (ρ:Env):Prop:=
 match v with
 | .e6 l=>K (l.map λu=>u.toO.den ρ)
 |_=>False
theorem HA {K:List Int->Prop} {os:List O} {ρ:Env}:pI K (tz os) ρ=K (os.map (O.den ρ)):=by
 unfold pI tz;simp only[jf]
 congr 1
 exact gw λo _=>by simp[Lw,O.toW_toO]
section
variable {S:Nat->List Int->List Int->Prop} {L:V->Env->Prop} {w0:cI} {P:bk} {w:ai}
theorem rv.mono {N C4:Nat->Prop} {sh:List av} {e:aR} {rows:List (List Int)} {v:ax} (h:rv N w sh e rows v) (hN:∀g,N g->C4 g):rv C4 w sh e rows v:=by
 rcases h with h|⟨g,cap,cells,h1,h2,h3,h4⟩
 ·exact .inl h
 ·exact .inr ⟨g,cap,cells,h1,h2,hN g h3,h4⟩
def F0 (w0:cI) (g:Nat):Prop:=w0.ex g∨w0.ro g∨w0.r.heap.size<=g
theorem aaK {d:bG} {u:W} {n:Nat} {ρ:Env} {m:Nat->Nat} {bl:List aj} (hex:∀g,¬w0.ex g) (hb:bU n bl.length ρ bl) (hw:Mem w0 ρ m bl w) (hu:u.ok n bl.length ρ):
 ao S L (Ce bl d u) n ρ λae n' os=>(∀o∈os,O.aY n' o)/\os.length=d.num/\(d.j4=false->bd d.bds (os.map (O.den ae)))/\∀zs,d.at (F0 w0) (λg=>w0.r.heap.size<=g) w (os.map (O.den ae)++zs) (u.den ρ m):=by
 cases d with
 |d x=>
  unfold Ce;cases ho:vn x u with
  |none=>simp only[ho];exact ao.fail
  |some os=>
   simp only[ho];have:=QD (ρ:=ρ) (m:=m) ho;exact ao.pure ⟨aqF ho hu,this.1,λh=>(by simp[bG.j4]at h),λzs=>(this.2 zs).symm⟩
 |rd sh=>
  unfold Ce;refine(asE (v:= .w u) hb hw hu rfl).bind λay n1 l hn ha ⟨g1,g2,g3⟩=>ao.pure ⟨λo ho=>by simp at ho;subst ho;exact g1,rfl,λ_=>⟨g2.1,g2.2,trivial⟩,λzs=>?_⟩;exact g3.mono λg hg=>hg.elim (λh=>h.2) λh=>h.1
 |jL sh e=>
  unfold Ce;refine(aqJ (v:= .w u) hex hb hw hu rfl).bind λay n1 l hn ha ⟨g1,g2,g3⟩=>ao.pure ⟨λo ho=>by simp at ho;subst ho;exact g1,rfl,λ_=>⟨g2.1,g2.2,trivial⟩,λzs=>g3⟩
theorem aou {n:Nat} {ρ ae:Env} {os:List O} (h:∀x∈os,O.aY n x) (ha:agree n ρ ae):os.map (O.den ae)=os.map (O.den ρ):=gw λx hx=>O.bw ha (h x hx)
theorem KI {m:Nat->Nat} {bl:List aj} (hex:∀g,¬w0.ex g):∀{ds:List bG} {us:List W} {n:Nat} {ρ:Env},bU n bl.length ρ bl->Mem w0 ρ m bl w->(∀u∈us,W.ok n bl.length ρ u)->
 ao S L (Cf bl ds us) n ρ λae n' os=>(∀o∈os,O.aY n' o)/\fT (F0 w0) (λg=>w0.r.heap.size<=g) w ds (os.map (O.den ae)) (us.map (W.den ρ m))
 |[],[],n,ρ,_,_,_=>ao.pure ⟨λ_ h=>by simp at h,trivial⟩
 |b::r,u::s,n,ρ,hb,hw,hu=>by
  unfold Cf;refine(aaK hex hb hw (hu u (by simp))).bind λay n1 a hn ha ⟨g1,g2,_,g3⟩=>?_;refine(KI (ds:=r) (us:=s) hex (hb.ext ha hn (aV _)) (hw.dQ hb ha) (λx hx=>(hu x (cx _ hx)).ext ha hn (aV _))).bind λbn n2 c dY cU ⟨k1,k2⟩=>ao.pure ⟨λo ho=>?_,?_⟩
  ·rcases List.mem_append.1 ho with ho|ho
   ·have:=g1 o ho;cases o with
    |l x=>exact U.aY.mono this dY
    |b x=>exact bf.aY.mono dY this
   ·exact k1 o ho
  ·rw[fl,aou g1 cU];refine⟨g3 _,?_⟩;rw[<-g2,<-jW (f:=O.den ay) (as:=a),ua];have e:s.map (W.den ρ m)=s.map (W.den ay m):=gw λx hx=>(W.j1 (hu x (cx _ hx)) ha (λ_ _=>rfl)).symm;rw[e];exact k2
 |[],_::_,_,_,_,_,_=>ao.fail
 |_::_,[],_,_,_,_,_=>ao.fail
theorem Q5 {ds:List bG} {v:V} {val:ax} {n:Nat} {ρ:Env} {m:Nat->Nat} {bl:List aj} (hex:∀g,¬w0.ex g) (hb:bU n bl.length ρ bl) (hw:Mem w0 ρ m bl w) (hv:v.ok n bl.length ρ) (hr:v.rel ρ m val):
 ao S L (Gi bl ds v) n ρ λae n' os=>∃us,val=lO us/\fT (F0 w0) (λg=>w0.r.heap.size<=g) w ds (os.map (O.den ae)) us:=by
 unfold Gi;split
 ·rename_i u;split
  ·rename_i d;refine(aaK hex hb hw hv).mono λay n1 os hn ha ⟨g1,g2,_,g3⟩=>⟨[u.den ρ m],hr,?_,trivial⟩;have:=g3 []
   rwa [lv]at this
  ·exact ao.fail
 ·rename_i l;split
  ·exact ao.fail
  ·rename_i hne;refine(KI (ds:=ds) hex hb hw hv).mono λay n1 os hn ha ⟨g1,g2⟩=>⟨l.map (W.den ρ m),?_,g2⟩;have hr:val= .tuple (l.map (W.den ρ m)).toArray:=hr;rw[hr];unfold lO;split
   ·rename_i x hx;exfalso;have hl:l.length=1:=by have:=congrArg jg hx;simpa using this
    match ds,l,hl,g2,hne with
    |[d],[u],_,_,hne=>exact hne d rfl
    |[],[u],_,g2,_=>simp[fT]at g2
    |_::_::_,[u],_,g2,_=>simp[fT]at g2
   ·rfl
 ·exact ao.fail
def zc (i:Nat):U:=⟨0,[(1,i)]⟩
theorem FD (ρ:Env) (zs:List Int):((cD zs.length).map zc).map (·.den (bh ρ 0 zs))=zs:=by
 refine Zv (by simp) λj hj=>?_;have hj:j<zs.length:=by simpa using hj
 have:=fJ.bh ρ 0 zs j hj;rw[sB]at this;simp[zc,U.den,gD,ar,hj]at this⊢;exact this
noncomputable def cY.tree (bc:ig) (P:bk) (gl:dA) (cal:ed) (li:cB->Nat->Option dc) (rounds d:Nat) (c:cY):T:=cond (kN c.args&& !(c.args.any bG.j5)) (FN c.pre ((cD (bR c.args).length).map zc) (nX c.args 0 (bR c.args).length [] [] λn us bl=>yf bc P gl cal li rounds d c.f n (us.map V.w) bl λn' v aG=>Gi aG c.res v n' λos _=> .leaf (tz os))) .stuck
theorem Hy {ρ:Env} {m:Nat->Nat}:∀{us:List W} {xs:List ax},us.map (W.den ρ m)=xs->db ρ m (us.map V.w) xs
 |[],[],_=>trivial
 |u::us,x::xs,h=>by
  simp only[ch,gY]at h;exact⟨h.1.symm,Hy h.2⟩
 |[],_::_,h=>by simp at h
 |_::_,[],h=>by simp at h
noncomputable def gJ:List cY->ig
 |[],_=>none
 |c::r,f=>cond (aA c.f f) (some c.E) (gJ r f)
theorem iT {wb:ai} {r:ai} {ex ro:Nat->Prop}:∀{l:List cY},(∀c∈l,c.dW P wb (S c.id))->l4 S L ⟨wb,r,ex,ro,[]⟩ P (gJ l)
 |[],_=>λf g h=>by cases h
 |c::l,h=>λf g hf=>by
  unfold gJ at hf;cases hb:aA c.f f with
  |true=>
   rw[hb]at hf;simp only[cond_true,aK]at hf;have:=bo hb;subst this;subst hf;intro n vs bl k G ρ m w xs R' h1 h2 h3 h4 h5 h6;exact cY.ui (w0:=⟨wb,r,ex,ro,[]⟩) (h c (by simp)) (λ_ _ h=>h) n vs bl k G ρ m w xs R' h1 h2 h3 h4 h5 h6
  |false=>
   rw[hb]at hf;exact iT (λc hc=>h c (cx _ hc)) f g hf
theorem cY.xg {wb:ai} {gl:dA} {c:cY} {bc:ig} {cal:ed} {li:cB->Nat->Option dc} {rounds d:Nat} {spec:List Int->List Int->Prop} (hm:P.follows .mixedOrders=true) (cp:∀r ex ro,fp S P gl ⟨wb,r,ex,ro,[]⟩ cal) (hg:eN gl ⟨wb,wb,λ_=>False,λ_=>False,[]⟩)
 (gd:∀(L:V->Env->Prop) (r:ai) (ro:Nat->Prop),l4 S L ⟨wb,r,λ_=>False,ro,[]⟩ P bc) (hf:∀args w,(callFunc c.f args).run P w= .ok (.enter c.f args) w)
 (ht:oR (bR c.args) λzs=>(c.tree bc P gl cal li rounds d).holds S (pI λrs=>bd (bR c.res) rs/\spec zs rs) (λ_ _=>False) (bh (λ_=>0) 0 zs)):c.dW P wb spec:=by
 refine⟨hf,λF w vs zs hw hz yT hat=>?_⟩;have ag:=kM ht hz;have mO:=gp hz;unfold cY.tree at ag;cases hq:(kN c.args&& !(c.args.any bG.j5))with
 |false=>rw[hq]at ag;exact ag.elim
 |true=>
  rw[hq]at ag;simp only[cond_true]at ag;have ag:=preA_holds ag (by rw[<-mO,FD];exact yT);simp only[aQ,iP]at hq;have jE:Mem ⟨wb,w,λ_=>False,F,[]⟩ (bh (λ_=>0) 0 zs) (λ_=>0) [] w:=⟨hw,rfl,rfl,rfl,aV _,λ_ _ _=>rfl,λi cs t h=>by simp at h,λi sh off code cap kind t h=>by simp at h,λi j p q h=>by simp at h⟩;have hall:(c.args.all λb=> !b.j5)=true:=by
   rw[pC];intro b hb;cases dL:b.j5 with
   |false=>rfl
   |true=>rw[List.any_eq_true.2 ⟨b,hb,dL⟩]at hq;cases hq.2
  obtain⟨n',ae,m',us,bl,p1,aJ,bb,b7,dD,eo⟩:=sL (S:=S) (L:=_) (w0:=⟨wb,w,λ_=>False,F,[]⟩) (F:=F) (N:=λ_=>False) (λg hg=> .inr (.inl hg)) (λg hg=>hg.elim) (l:=c.args) (s:=0) (us:=[]) (bl:=[]) (m:=λ_=>0) hq.1 (λp hp=>by simp at hp) jE (fJ.bh _ 0 zs) hz (by omega) hat (.inr λi p h=>by simp at h) (.inl hall) (.inl hall) (λu hu=>by simp at hu) ag;have Em:eN gl ⟨wb,w,λ_=>False,F,[]⟩:=hg;refine(Dr (S:=S) (w0:=⟨wb,w,λ_=>False,F,[]⟩) rfl hm (cp w (λ_=>False) F) Em (gd _ _ _) d c.f n' (us.map V.w) bl _ _ ae m' w vs _ aJ bb (λv hv=>by
   obtain⟨u,hu,rfl⟩:=List.mem_map.1 hv;exact dD u hu) (Hy (by simpa using b7)) eo ?_).2
  intro n2 v aG da bn m2 w' val h1 h2 h3 h4 h5 h6 h7;obtain⟨eM,n3,os,rV,p3,⟨xs,hx1,hx2⟩,hl⟩:=Q5 (S:=S) (w0:=⟨wb,w,λ_=>False,F,[]⟩) (λg hg=>hg) h5 h6 h3 h4 da _ h7;have hl:pI _ (tz os) eM:=hl;rw[HA]at hl;refine⟨?_,os.map (O.den eM),xs,hl.1,hl.2,?_,by rw[hx1]⟩
  ·have hblk:∀i:Nat,i<w.heap.size->w'.heap[i]?=w.heap[i]?:=λi hi=>h6.gi i hi λh=>h;exact⟨h6.jo,h6.jr,h6.iF,h6.ew,λa ha=>by simp only[jx,hblk a.block ha],λa ha=>by simp only[tZ,hblk a.block ha],hblk⟩
  ·exact x8 (λg hg=>by
    rcases hg with hg|hg|hg
    ·exact hg.elim
    ·exact .inl hg
    ·exact .inr hg) (λg hg=>hg) hx2
where
 x8 {F F' N C4:Nat->Prop} {w:ai} (hF:∀g,F g->F' g) (hN:∀g,N g->C4 g):∀{ds:List bG} {zs:List Int} {vs:List ax},fT F N w ds zs vs->fT F' C4 w ds zs vs
 |[],_,[],_=>trivial
 | .d x::r,zs,v::vs,h=>⟨h.1,x8 hF hN h.2⟩
 | .rd sh::r,zs,v::vs,h=>⟨fK.mono h.1 hF,x8 hF hN h.2⟩
 | .jL sh e::r,zs,v::vs,h=>⟨rv.mono h.1 hN,x8 hF hN h.2⟩
 |[],_,_::_,h=>h.elim
 |_::_,_,[],h=>by simp[fT]at h
end
def bG.Kh:bG->List Nat
 | .d x=>x.Kh
 |_=>[1]
def tv (ds:List bG):List Nat:=ds.flatMap bG.Kh
def ME (ds:List bG) (K:List (List Int)->Prop) (v:V) (st:gA) (aH:gz):Prop:=
 match v with
 | .e6 l=>K ((gN (tv ds) (l.map W.toO)).map (Cn st aH))
 |_=>False
theorem ad2 {ds:List bG} {K:List (List Int)->Prop} (v:V) (ρ:Env) (st:gA) (aH:gz) (ht:mD ρ st aH) (h:ME ds K v st aH):pI (λrs=>K (gN (tv ds) rs)) v ρ:=by
 unfold ME at h;unfold pI;split at h
 ·rename_i l;have e:l.map (λu=>u.toO.den ρ)=(l.map W.toO).map (O.den ρ):=by simp
  simp only[e];rw[K6]
  rwa [show(gN (tv ds) (l.map W.toO)).map (Cn st aH)=(gN (tv ds) (l.map W.toO)).map (List.map (O.den ρ)) from gw λo _=>abn ht o]at h
 ·exact h.elim
def gB (sh:Nat->List Nat×List Nat) (lsh:Nat->List Nat) (S:Nat->List (List Int)->List (List Int)->Prop) (K:List (List Int)->List (List Int)->Prop) (lens:List Nat) (bds:List (Int×Int)) (ds:List bG) (t:T):Prop:=v8 lens 0 bds (λst aH zs=>t.lj sh lsh S (ME ds (K zs)) (λ_ _=>False) st aH) [] []
theorem HJ {sh:Nat->List Nat×List Nat} {lsh:Nat->List Nat} {S:Nat->List (List Int)->List (List Int)->Prop} {K:List (List Int)->List (List Int)->Prop} {lens:List Nat} {bds:List (Int×Int)} {ds:List bG} {t:T}
 (h:gB sh lsh S K lens bds ds t):oR bds λzs=>t.holds (b5 sh S) (pI λrs=>K (gN lens zs) (gN (tv ds) rs)) (λ_ _=>False) (bh (λ_=>0) 0 zs):=by
 refine sK λzs hi=>?_;obtain⟨st,aH,h1,h2⟩:=Al h (show mD (λ_=>0) [] [] from⟨trivial,λ_=>rfl⟩) hi;exact lI (λv ρ st aH ht hl=>ad2 v ρ st aH ht hl) t _ _ _ st aH (λ_ _ hf=>hf.elim) h1 h2
end Go.aW
namespace Go.aW
open M
structure eO where
 c:b9
 pre:Nat
def eO.dW (P:bk) (wb:ai) (q:eO) (spec:List Int->List Int->Prop):Prop:=∀zs,bd (cE q.c.args) zs->ah q.pre zs->∃rs,bd (cE q.c.res) rs/\spec zs rs/\∀w,wb.Extends w->Af P q.c.f (mz q.c.args zs).toArray w (fh q.c.res rs)
noncomputable def eO.M (q:eO):List aj->List V->M V:=λ_ vs n k=>
 match pV q.c.args vs with
 |some l=> .oU q.pre l (.call q.c.id l n (cE q.c.res) (k (Cg q.c.res n) (n+(cE q.c.res).length)))
 |none=> .stuck
noncomputable def cn (KF:List eO) (cons:List b9):ed:=λf=>
 match KF.filter (λq=>aA f q.c.f)with
 |[]=>H8 cons f
 |l=>some λbl vs n k=>match l.find? (λq=>(pV q.c.args vs).isSome)with
  |some q=>q.M bl vs n k
  |none=>match H8 cons f with
   |some g=>g bl vs n k
   |none=> .stuck
section
variable {S:Nat->List Int->List Int->Prop} {P:bk} {gl:dA} {w0:cI}
theorem eO.snd {q:eO} {spec:List Int->List Int->Prop} (hc:q.dW P w0.b spec) (hS:∀zs rs,spec zs rs->S q.c.id zs rs) (L:V->Env->Prop) (n:Nat) (ρ:Env) (m:Nat->Nat) (bl:List aj) (vs:List V) (xs:List ax)
 (kt:∀v∈vs,V.ok n bl.length ρ v) (hr:db ρ m vs xs):ao S L (q.M bl vs) n ρ λae n' v=>v.ok n' bl.length ae/\∃val,v.rel ae m val/\∀w,Mem w0 ρ m bl w->Af P q.c.f xs.toArray w val:=by
 intro G k hk;unfold eO.M at hk;cases hl:pV q.c.args vs with
 |none=>simp[hl,T.holds]at hk
 |some l=>
  simp only[hl]at hk;obtain⟨fE,hk⟩:=hk;obtain⟨h1,h2⟩:=NT hl kt hr;obtain⟨rs,r1,r2,r3⟩:=hc _ h1 fE;have ag:=M5 hk r1 (hS _ _ r2);have hlen:=gp r1;have jG:=Q6 (m:=m) (nb:=bl.length) (N:=n+(cE q.c.res).length) r1 (fJ.bh ρ n rs) (aV _);refine⟨_,_,_,CO _ _,agree.bh rs n ρ,⟨jG.1,_,jG.2,λw hw=>?_⟩,ag⟩;rw[h2]at r3;exact r3 w hw.ext
theorem cu {KF:List eO} {cons:List b9} (hq:∀q∈KF,q.dW P w0.b (S q.c.id)) (hc:∀c∈cons,c.xX P w0.b (S c.id)):fp S P gl w0 (cn KF cons):=by
 intro f g rT L n ρ m bl vs xs h1 h2 h3 h4;unfold cn at rT;split at rT
 ·exact U8 (gl:=gl) hc f g rT L n ρ m bl vs xs h1 h2 h3 h4
 ·rename_i l hl;simp only[aK]at rT;subst rT;intro G k hk;simp only at hk;split at hk
  ·rename_i q OD;have de:=List.mem_filter.1 (zV OD);have Eh:=bo de.2;subst Eh;exact eO.snd (hq q de.1) (λ_ _ h=>h) L n ρ m bl vs xs h3 h4 G k hk
  ·split at hk
   ·rename_i g' ej;exact U8 (gl:=gl) hc f g' ej L n ρ m bl vs xs h1 h2 h3 h4 G k hk
   ·exact hk.elim
def idx (c:Int):List UInt8->Int
 |[]=>-1
 |b::r=>if(b.toNat:Int)=c then 0 else if idx c r<0 then-1 else idx c r+1
theorem E3 (c:Int):∀l:List UInt8,-1<=idx c l/\idx c l<l.length
 |[]=>by simp[idx]
 |b::r=>by
  have:=E3 c r;simp only[idx,dj];split
  ·omega
  ·split<;>omega
theorem find_range (p:Nat->Bool):∀n:Nat,(cD (n+1)).find? p=if p 0=true then some 0 else((cD n).find? λi=>p (i+1)).map (·+1):=λn=>by
 rw[List.range_succ_eq_map,z8];cases h:p 0 with
 |true=>simp
 |false=>
  simp only[pF,if_false];rw[List.find?_map];rfl
theorem YF (c:Int):∀l:List UInt8,(match(cD l.length).find? λi=>decide (((l.getD i 0).toNat:Int)=c)with|some i=>(i:Int)|none=>-1)=idx c l
 |[]=>rfl
 |b::r=>by
  have ih:=YF c r;rw[dj,find_range];simp only[List.getD_cons_zero,G6,decide_eq_true_eq,idx];by_cases h:(b.toNat:Int)=c
  ·simp[h]
  ·simp only[if_neg h];have hr:=E3 c r;cases hf:(cD r.length).find? λi=>decide (((r.getD i 0).toNat:Int)=c)with
   |none=>rw[hf]at ih;simp only[Option.map_none]at ih⊢;rw[<-ih];simp
   |some i=>rw[hf]at ih;simp only[Option.map_some]at ih⊢;rw[<-ih,if_neg (by omega)];rfl
theorem find_congr {α:Type} {p q:α->Bool}:∀{l:List α},(∀x∈l,p x=q x)->l.find? p=l.find? q
 |[],_=>rfl
 |x::r,h=>by
  rw[z8,z8,h x (by simp),find_congr λy hy=>h y (cx _ hy)]
theorem atr (l:List UInt8) (c:Int) (h0:0<=c) (h1:c<=255) (w:ai):(SX #[.string (az l),.int .u8 c]).run P w= .ok (.int .i64 (idx c l)) w:=by
 have hsz:(az l).size=l.length:=l6 l;have p8:∀i,i<l.length->(az l)[i]! =l.getD i 0:=λi hi=>by
  have:i<(az l).size:=by omega
  rw[getElem!_pos (az l) i this];simp only[ar,gF hi,Option.getD_some];rfl
 have e:((cD (az l).size).find? λi=>(az l)[i]! ==c.toNat.toUInt8)=(cD l.length).find? λi=>decide (((l.getD i 0).toNat:Int)=c):=by
  rw[hsz];refine find_congr λi hi=>?_;have hi:=List.mem_range.1 hi;rw[p8 i hi];have hc:c.toNat.toUInt8.toNat=c.toNat:=by simp;omega
  rw[Bool.eq_iff_iff];simp only[beq_iff_eq,decide_eq_true_eq];rw[<-UInt8.toNat_inj,hc];omega
 have hf:=YF c l;have hd:SX #[.string (az l),.int .u8 c]=(match(cD (az l).size).find? (λi=>(az l)[i]! ==c.toNat.toUInt8)with
  |some i=>CR (goInt i)
  |none=>CR (goInt (-1)):Sem ax):=rfl
 rw[hd,e,<-hf];cases(cD l.length).find? λi=>decide (((l.getD i 0).toNat:Int)=c)<;>rfl
theorem alQ {f:cB} {fn:Func} {id:Nat} {wb:ai} (hf:P.funcs[f]?=some fn) (akD:(fn.name== "runtime.NumGoroutine")=false) (hb:fn.body.isNone=true) (hn:Extern.findNext fn=none) (he:Extern.find fn=some SX):
 (⟨f,id,[.str,.int .u8 0 255],[.int .i64 (-1) 0x7fffffffffffffff]⟩:b9).xX P wb λzs rs=>rs=[idx (zs.getD 1 0) (aa (zs.getD 0 0))]:=by
 intro zs hz
 match zs,hz with
 |[s,c],hz=>
  obtain⟨s1,s2,c1,c2,_⟩:=hz;have hr:=E3 c (aa s);have hl:(aa s).length<=0x7fffffffffffffff:=by have:=vV s2;unfold dP at this;omega
  refine⟨[idx c (aa s)],(show bd [((-1:Int),0x7fffffffffffffff)] _ from⟨by omega,by omega,trivial⟩),rfl,λw _=> .inl ?_⟩;rw[run_callFunc_extern hf akD hb hn he];have:=atr (P:=P) (aa s) c c1 c2 w;show((SX #[.string (az (aa s)),.int .u8 c]).run P w).andThen _=_;rw[this];rfl
 |[],h=>exact h.elim
 |[_],h=>exact(h.2.2).elim
 |_::_::_::_,h=>exact(h.2.2.2.2).elim
end
end Go.aW
namespace Go.aW
section
variable {S:Nat->List Int->List Int->Prop} {P:bk} {gl:dA} {wb:ai}
def cZ (args res:List D) (spec:List Int->List Int->Prop):Prop:=∀zs rs iM,bd (cE args) zs->bd (cE res) rs->bd (cE res) iM->spec zs rs->spec zs iM->fh res rs=fh res iM
theorem b9.Qw {c:b9} {cal:ed} {li:cB->Nat->Option dc} {rounds d:Nat} {spec:List Int->List Int->Prop} (hm:P.follows .mixedOrders=true) (cp:∀r ex ro,fp S P gl ⟨wb,r,ex,ro,[]⟩ cal) (hg:eN gl ⟨wb,wb,λ_=>False,λ_=>False,[]⟩)
 (hf:∀args w,(callFunc c.f args).run P w= .ok (.enter c.f args) w) (hu:cZ c.args c.res spec)
 (ht:oR (cE c.args) λzs=>(c.tree P gl cal li rounds d).holds S (vX c.res λrs=>bd (cE c.res) rs/\spec zs rs) (λ_ _=>False) (bh (λ_=>0) 0 zs)):c.dW P wb spec:=by
 refine⟨hf,λzs hz=>?_⟩;have h0:=b9.calls hm cp hg hz (kM ht hz) wb (m8 wb);obtain⟨e,w',v,ae,m,val,h1,h2,h3,h4⟩:=Calls.some h0;obtain⟨rs,⟨hb,hs⟩,hv⟩:=HB h3 h2;refine⟨rs,hb,hs,λw hw=>?_⟩;refine(b9.calls hm cp hg hz (kM ht hz) w hw).mono λe w' ⟨v,ae,m,val,h1,h2,h3,h4⟩=>?_;obtain⟨iM,⟨hb',Pl⟩,hv'⟩:=HB h3 h2;rw[hu zs iM rs hz hb' hb Pl hs]at hv';exact⟨by rw[h1,hv'],h4⟩
noncomputable def eO.tree (P:bk) (gl:dA) (cal:ed) (li:cB->Nat->Option dc) (rounds d:Nat) (q:eO):T:=.wg q.pre ((cD (cE q.c.args).length).map zc) (q.c.tree P gl cal li rounds d)
theorem eO.Qw {q:eO} {cal:ed} {li:cB->Nat->Option dc} {rounds d:Nat} {spec:List Int->List Int->Prop} (hm:P.follows .mixedOrders=true) (cp:∀r ex ro,fp S P gl ⟨wb,r,ex,ro,[]⟩ cal) (hg:eN gl ⟨wb,wb,λ_=>False,λ_=>False,[]⟩)
 (hf:∀args w,(callFunc q.c.f args).run P w= .ok (.enter q.c.f args) w) (hu:cZ q.c.args q.c.res spec)
 (ht:oR (cE q.c.args) λzs=>(q.tree P gl cal li rounds d).holds S (vX q.c.res λrs=>bd (cE q.c.res) rs/\spec zs rs) (λ_ _=>False) (bh (λ_=>0) 0 zs)):q.dW P wb spec:=by
 intro zs hz hp;have hP:=kM ht hz;have hl:=gp hz;unfold eO.tree at hP;rw[<-hl]at hP;have hP:=hP (by rw[FD];exact hp);have h0:=b9.calls hm cp hg hz hP wb (m8 wb);obtain⟨e,w',v,ae,m,val,h1,h2,h3,h4⟩:=Calls.some h0;obtain⟨rs,⟨hb,hs⟩,hv⟩:=HB h3 h2;refine⟨rs,hb,hs,λw hw=> .inr ⟨hf _ _,?_⟩⟩;refine(b9.calls hm cp hg hz hP w hw).mono λe w' ⟨v,ae,m,val,h1,h2,h3,h4⟩=>?_;obtain⟨iM,⟨hb',Pl⟩,hv'⟩:=HB h3 h2;rw[hu zs iM rs hz hb' hb Pl hs]at hv';exact⟨by rw[h1,hv'],h4⟩
end
theorem Ct {α:Type}:∀(ln:List Nat) (l:List α),(gN ln l).flatten=l
 |[],[]=>rfl
 |[],_::_=>by simp[gN]
 |k::ln,l=>by simp only[gN,Hj,Ct ln,jy]
section
variable {P:bk} {gl:dA} {wb:ai} {sh:Nat->List Nat×List Nat} {SB:Nat->List (List Int)->List (List Int)->Prop}
def bS (SB:Nat->List (List Int)->List (List Int)->Prop) (res:List D) (id:Nat):List (List Int)->List (List Int)->Prop:=λzs rs=>bd (cE res) rs.flatten/\SB id zs rs
theorem ab9 {lsh:Nat->List Nat} {id:Nat} {lens:List Nat} {bds:List (Int×Int)} {ds:List D} {t:T} (hl:lens=(sh id).1) (hd:tw ds=(sh id).2) (h:iR sh lsh SB (bS SB ds id) lens bds ds t):
 oR bds λzs=>t.holds (b5 sh SB) (vX ds λrs=>bd (cE ds) rs/\b5 sh SB id zs rs) (λ_ _=>False) (bh (λ_=>0) 0 zs):=by
 refine sK λzs hz=>?_;have h:=kM (aeJ h) hz;simp only[bS,Ct]at h;rw[hl,hd]at h;exact h
theorem aqp {c:b9} {cal:ed} {li:cB->Nat->Option dc} {rounds d:Nat} {lsh:Nat->List Nat} {lens:List Nat} (hm:P.follows .mixedOrders=true) (cp:∀r ex ro,fp (b5 sh SB) P gl ⟨wb,r,ex,ro,[]⟩ cal) (hg:eN gl ⟨wb,wb,λ_=>False,λ_=>False,[]⟩)
 (hf:rJ P c.f=true) (hu:cZ c.args c.res (b5 sh SB c.id)) (hl:lens=(sh c.id).1) (hd:tw c.res=(sh c.id).2)
 (hv:iR sh lsh SB (bS SB c.res c.id) lens (cE c.args) c.res (c.tree P gl cal li rounds d)):c.dW P wb (b5 sh SB c.id):=
 b9.Qw hm cp hg (enters hf) hu (ab9 hl hd hv)
theorem ast {q:eO} {cal:ed} {li:cB->Nat->Option dc} {rounds d:Nat} {lsh:Nat->List Nat} {lens:List Nat} (hm:P.follows .mixedOrders=true) (cp:∀r ex ro,fp (b5 sh SB) P gl ⟨wb,r,ex,ro,[]⟩ cal) (hg:eN gl ⟨wb,wb,λ_=>False,λ_=>False,[]⟩)
 (hf:rJ P q.c.f=true) (hu:cZ q.c.args q.c.res (b5 sh SB q.c.id)) (hl:lens=(sh q.c.id).1) (hd:tw q.c.res=(sh q.c.id).2)
 (hv:iR sh lsh SB (bS SB q.c.res q.c.id) lens (cE q.c.args) q.c.res (q.tree P gl cal li rounds d)):q.dW P wb (b5 sh SB q.c.id):=
 eO.Qw hm cp hg (enters hf) hu (ab9 hl hd hv)
end
end Go.aW
namespace Go.aW
open Go.ChangeShapes Go.WideShapes Go.RowKit
variable {H:Type} {enc:aR×ax->H} {P:bk}
def Co (g:aR->Option (List av)) (cells:aR->Nat):List Field->Nat->Option (List av)
 |[],_=>some []
 |f::r,o=>match g f.type,Co g cells r (o+cells f.type)with
  |some l,some m=>cond (aA f.offset o&&aA (cells f.type) l.length) (some (l++m)) none
  |_,_=>none
def RW (l:List av):Option (List av):=cond (jc l (my 0)) (some [.sub 0]) (cond (jc l (my 1)) (some [.sub 1]) none)
theorem aur {l sh:List av} (h:RW l=some sh):∃k,l=my k/\sh=[.sub k]:=by
 unfold RW at h;cases h0:jc l (my 0)with
 |true=>
  rw[h0]at h;simp only[cond_true,aK]at h;exact⟨0,pt h0,h.symm⟩
 |false=>
  cases h1:jc l (my 1)with
  |true=>
   rw[h0,h1]at h;simp only[cond_true,cond_false,aK]at h;exact⟨1,pt h1,h.symm⟩
  |false=>rw[h0,h1]at h;cases h
def sm (P:bk):Nat->aR->Option (List av)
 |0,_=>none
 |d+1,t=>match P.underlying t with
  |some (.int k)=>some [.int k k.min k.max]
  |some .string=>some [.str]
  |some .bool=>some [.bool]
  |some (.struct dK)=>Co (sm P d) P.cellsOf dK.toList 0
  |some (.array n e)=>match sm P d e with
   |some l=>cond (aA (P.cellsOf e) l.length) (some (eh n l).flatten) none
   |none=>none
  |some (.slice e)=>match sm P d e with
   |some l=>cond (aA (P.cellsOf e) l.length&&ck 0 (P.bytesOf e)) (RW l) none
   |none=>none
  |_=>none
theorem bD.append:∀{a b:List av} {x y:List Int},bD a x->bD b y->bD (a++b) (x++y)/\dm (a++b) (x++y)=dm a x++dm b y
 |[],_,[],_,_,h=>⟨h,rfl⟩
 |_::_,_,_::_,_,h,h'=>by
  have:=bD.append h.2 h';exact⟨⟨h.1,this.1⟩,by simp only[qx,dm,this.2]⟩
 |[],_,_::_,_,h,_=>h.elim
 |_::_,_,[],_,h,_=>h.elim
theorem Re {F:Nat->Prop} {w:ai}:∀{a b:List av} {x y:List Int} {u v:List ax},ea F w a x u->ea F w b y v->ea F w (a++b) (x++y) (u++v)
 |[],_,[],_,[],_,_,h=>h
 |_::_,_,_::_,_,_::_,_,h,h'=>⟨h.1,Re h.2 h'⟩
 |[],_,_::_,_,_,_,h,_=>h.elim
 |[],_,[],_,_::_,_,h,_=>h.elim
 |_::_,_,[],_,_,_,h,_=>h.elim
 |_::_,_,_::_,_,[],_,h,_=>h.elim
def HE (enc:aR×ax->H) (P:bk) (w:ai) (t:aR) (sh:List av):Prop:=∀(n:Nat) (cs:List ax) (x:mB H×List rj),LC enc P w 0 (λ_=>true) true n t cs=some x->cs.length=sh.length->(∀m∈x.1.weights P t,m<=reachBytes)->∃zs,bD sh zs/\ea (λg=>g<w.heap.size) w sh zs cs
theorem aaa {n:Nat} {w:ai} {g:aR->Option (List av)} (hg:∀t sh,g t=some sh->HE enc P w t sh) {cs:List ax}:∀(dK:List Field) (o:Nat) (sh:List av) (xs:List (mB H×List rj)),Co g P.cellsOf dK o=some sh->cs.length=o+sh.length->xs.length=dK.length->
 (∀(j:Nat) (f:Field),dK[j]?=some f->LC enc P w 0 (λ_=>true) true n f.type ((cs.drop f.offset).take (P.cellsOf f.type))=xs[j]?)->
 (∀m∈LL P (dK.map (·.type)) (xs.map (·.1)),m<=reachBytes)->
 ∃zs,bD sh zs/\ea (λg=>g<w.heap.size) w sh zs (cs.drop o)
 |[],o,sh,xs,h,hl,hx,_,_=>by
  simp only[Co,aK]at h;subst h;have:xs=[]:=List.length_eq_zero_iff.1 (by simpa using hx);subst this;exact⟨[],trivial,by rw[Lv (by simp at hl;omega)];trivial⟩
 |f::dK,o,sh,[],_,_,hx,_,_=>by simp at hx
 |f::dK,o,sh,x::xs,h,hl,hx,hf,hw=>by
  unfold Co at h;cases h1:g f.type with
  |none=>simp[h1]at h
  |some l=>
   cases h2:Co g P.cellsOf dK (o+P.cellsOf f.type)with
   |none=>simp[h1,h2]at h
   |some m=>
    simp only[h1,h2]at h;cases hc:(aA f.offset o&&aA (P.cellsOf f.type) l.length)with
    |false=>simp[hc]at h
    |true=>
     simp only[hc,cond_true,aK]at h;subst h;simp only[aQ]at hc;have e1:=bo hc.1;have e2:=bo hc.2;have h0:=hf 0 f rfl;simp only[m7]at h0;simp only[ch,LL,rb]at hw;simp only[c8]at hl;obtain⟨zs,a1,a2⟩:=hg f.type l h1 n ((cs.drop f.offset).take (P.cellsOf f.type)) x h0 (by rw[ly,q9,e1,e2];omega) λm' hm=>hw m' (.inl hm);obtain⟨fA,b1,b2⟩:=aaa (cs:=cs) hg dK (o+P.cellsOf f.type) m xs h2 (by omega) (by simpa using hx) (λj k8 hj=>by simpa using hf (j+1) k8 (by simpa using hj)) λm' hm=>hw m' (.inr hm);have kn:=bD.append a1 b1;refine⟨zs++fA,kn.1,?_⟩;have:=Re a2 b2
     rwa [e1,<-CV,jy]at this
theorem Z9 {n:Nat} {w:ai} {e:aR} {l:List av} (hg:HE enc P w e l) (hc:P.cellsOf e=l.length) {cs:List ax}:∀(k i:Nat) (xs:List (mB H×List rj)),cs.length=(i+k)*l.length->xs.length=k->
 (∀j,j<k->LC enc P w 0 (λ_=>true) true n e ((cs.drop ((i+j)*P.cellsOf e)).take (P.cellsOf e))=xs[j]?)->
 (∀m∈LM P e (xs.map (·.1)),m<=reachBytes)->
 ∃zs,bD (eh k l).flatten zs/\ea (λg=>g<w.heap.size) w (eh k l).flatten zs (cs.drop (i*l.length))
 |0,i,xs,hl,hx,_,_=>by
  have:xs=[]:=List.length_eq_zero_iff.1 hx;subst this;exact⟨[],trivial,by rw[Lv (by rw[hl];exact aV _)];trivial⟩
 |k+1,i,[],_,hx,_,_=>by simp at hx
 |k+1,i,x::xs,hl,hx,hf,hw=>by
  have h0:=hf 0 (Nat.succ_pos k);simp only[m7,kG]at h0;simp only[ch,LM,rb]at hw;have hl2:cs.length=i*l.length+(l.length+k*l.length):=by rw[hl,Nat.add_mul,qy];omega
  obtain⟨zs,a1,a2⟩:=hg n _ x h0 (by rw[ly,q9,hc];omega) λm' hm=>hw m' (.inl hm);obtain⟨fA,b1,b2⟩:=Z9 hg hc k (i+1) xs (by rw[hl];congr 1;omega) (by simpa using hx) (λj hj=>by
   have:=hf (j+1) (by omega);rw[show i+(j+1)=i+1+j by omega]at this;simpa using this) λm' hm=>hw m' (.inr hm)
  have kn:=bD.append a1 b1;refine⟨zs++fA,by rw[z6,Hj];exact kn.1,?_⟩;have:=Re a2 b2;rw[hc,qy,<-CV,jy]at this;rw[z6,Hj];exact this
theorem Vb {base:Nat} {w:ai} {a:Addr} {n:Nat} {cs:List ax} (h:w.cells? base a n=some cs):cs.length=n/\∀j,j<n->w.cell? (a.add j)=cs[j]?:=by
 unfold World.cells? at h;split at h
 ·have hl:=List.Zm h;refine⟨by simpa using hl,λj hj=>?_⟩;have:=List.Wr h j j (by simp[hj]);exact this
 ·cases h
where
 List.Zm {α β:Type} {f:α->Option β}:∀{l:List α} {r:List β},l.mapM f=some r->r.length=l.length
  |[],r,h=>by simp at h;subst h;rfl
  |x::l,r,h=>by
   rw[ac8]at h;cases hx:f x with
   |none=>simp[hx]at h
   |some y=>
    cases hl:l.mapM f with
    |none=>simp[hx,hl]at h
    |some s=>
     simp[hx,hl]at h;subst h;simp[List.Zm hl]
 List.Wr {α β:Type} {f:α->Option β}:∀{l:List α} {r:List β},l.mapM f=some r->∀(j:Nat) (x:α),l[j]?=some x->f x=r[j]?
  |[],r,h,j,x,hx=>by simp at hx
  |y::l,r,h,j,x,hx=>by
   rw[ac8]at h;cases hy:f y with
   |none=>simp[hy]at h
   |some z=>
    cases hl:l.mapM f with
    |none=>simp[hy,hl]at h
    |some s=>
     simp[hy,hl]at h;subst h;cases j with
     |zero=>simp at hx;subst hx;simp[hy]
     |succ j=>simpa using List.Wr hl j x (by simpa using hx)
theorem aa5 {F:Nat->Prop} {w:ai} {cells:Array ax} {sh:List av}:∀(len o:Nat),o<=cells.size->(∀i,i<len->∃zs vs,bD sh zs/\ea F w sh zs vs/\∀j,j<sh.length->cells[o+i*sh.length+j]?=vs[j]?)->(0<len->0<sh.length)->
 ∃rows:List (List Int),rows.length=len/\iy F w cells o sh rows
 |0,o,ho,_,_=>⟨[],rfl,λ_ h=>by simp at h,cells.toList.take o,[],cells.toList.drop o,by simp,by simp;omega,rfl⟩
 |len+1,o,ho,h,hp=>by
  obtain⟨zs,us,a1,a0,a2⟩:=h 0 (Nat.succ_pos _);have hp:=hp (Nat.succ_pos _);have hv:=a0.len;have O0:=a2 (sh.length-1) (by omega);have hsz:o+sh.length<=cells.size:=by
   have:us[sh.length-1]?≠none:=by rw[gF (by omega)];simp
   rw[<-O0]at this;have:=Array.ahv.1 this;omega
  obtain⟨rows,b1,b2,pre,vs,post,b3,b4,fU⟩:=aa5 len (o+sh.length) hsz (λi hi=>by
   obtain⟨fA,vs,c1,bW,c2⟩:=h (i+1) (by omega);refine⟨fA,vs,c1,bW,λj hj=>?_⟩;rw[<-c2 j hj]
   congr 1
   rw[qy];omega) λ_=>hp
  refine⟨zs::rows,by simp[b1],λrow hr=>?_,cells.toList.take o,us++vs,post,?_,by simp;omega,us,vs,rfl,a0,fU⟩
  ·rcases List.mem_cons.1 hr with rfl|hr
   ·exact a1
   ·exact b2 row hr
  ·have e1:pre=cells.toList.take (o+sh.length):=by
    rw[b3,eG,List.take_left' b4]
   have e2:pre=cells.toList.take o++us:=by
    rw[e1,List.take_add]
    congr 1
    refine List.ext_getElem? λj=>?_;by_cases hj:j<sh.length
    ·have:=a2 j hj;rw[List.getElem?_take,if_pos hj,List.getElem?_drop,<-this];simp
    ·rw[SV (by simp;omega),SV (by omega)]
   rw[<-eG,<-e2];exact b3
where
 Array.ahv {α:Type} {a:Array α} {i:Nat}:a[i]?≠none↔i<a.size:=by simp
theorem ZF {e:aR}:∀{l:List (mB H×List rj)} {i:Nat} {y:mB H×List rj} {m:Nat},l[i]?=some y->m∈y.1.weights P e->m∈LM P e (l.map (·.1))
 |x::l,0,y,m,h,hm=>by
  simp only[m7,aK]at h;subst h;simp only[ch,LM,rb];exact .inl hm
 |x::l,i+1,y,m,h,hm=>by
  simp only[ch,LM,rb];exact .inr (ZF (by simpa using h) hm)
 |[],_,_,_,h,_=>by simp at h
theorem aab {w:ai} {t e:aR} {sh:List av} (ho:HE enc P w e sh) (ht:P.underlying t=some (.slice e)) (hc:P.cellsOf e=sh.length) (hp:0<sh.length) {n:Nat} {cs:List ax} {x:mB H×List rj} (h:LC enc P w 0 (λ_=>true) true n t cs=some x) (hw:∀m∈x.1.weights P t,m<=reachBytes):
 ∃(v:ax) (rows:List (List Int)),cs=[v]/\(∀row∈rows,bD sh row)/\(rows.length<=maxLen/\(0<P.bytesOf e->rows.length<=0x7ffffffff000))/\(((∃p,v= .slice p 0 0)/\rows=[])∨∃(g o cap:Nat) (cells:Array ax) (t:aR) (fz:Nat×Nat),v= .slice (some ⟨g,o,none⟩) rows.length cap/\(rows.length<=cap/\(cap:Int)<=0x7fffffffffffffff)/\g<w.heap.size/\w.heap[g]?=some (.cells cells t fz)/\iy (λg=>g<w.heap.size) w cells o sh rows):=by
 rcases ay5 ht h with⟨rfl,_⟩|⟨ad,len,cap,elems,rest,n,rfl,rfl,hx,_,Ev,s5,A6,Xy,hsp,_⟩
 ·exact⟨_,[],rfl,λ_ h=>by simp at h,⟨kW _,λ_=>kW _⟩,.inl ⟨⟨_,rfl⟩,rfl⟩⟩
 ·rcases adw cap with h0|h0
  ·subst h0;have:len=0:=by omega
   subst this;exact⟨_,[],rfl,λ_ h=>by simp at h,⟨kW _,λ_=>kW _⟩,.inl ⟨⟨_,rfl⟩,rfl⟩⟩
  ·have hsp:=(hsp rfl).2;have OM:∃cs,w.cells? 0 (ad.add 0) (P.cellsOf e)=some cs:=by
    rcases adw len with hl|hl
    ·have h1:=(ay5 ht h);have h2:=hsp 0 (by omega);cases hy:rest[0]? with
     |none=>
      exfalso;rcases h1 with⟨h1,_⟩|⟨azP,w8,dX,aAo,aCB,n',_,h3,h4,_,_,_,h5,_,h6,_⟩
      ·simp at h1
      ·simp only[gY,aES,aK,and_true]at h3;rw[hx]at h4;simp only[cN,aET]at h4;have h7:=congrArg jg h4.1.2;simp only[jW]at h7;have h8:=(h6 rfl).1;rw[adx]at hy;omega
     |some y=>
      rw[hy,ady,hl]at h2;obtain⟨cs,g1,_⟩:=h2;exact⟨cs,by simpa using g1⟩
    ·have h2:=Xy 0 hl;cases hy:elems[0]? with
     |none=>rw[adx]at hy;omega
     |some y=>
      rw[hy,ady]at h2;obtain⟨cs,g1,_⟩:=h2;exact⟨cs,by simpa using g1⟩
   obtain⟨Vk,OM⟩:=OM;obtain⟨l1,l2⟩:=Vb OM;have hc0:=l2 0 (by omega);have hc1:Vk[0]?≠none:=by rw[gF (by omega)];simp
   rw[<-hc0]at hc1;have ajC:(ad.add 0).add 0=ad:=by simp[Addr.add]
   rw[ajC]at hc1;obtain⟨g,o,sp⟩:=ad;unfold jx at hc1;split at hc1
   ·rename_i cells tt fz ta;simp only at ta;cases Yb:sp with
    |some k=>rw[Yb]at hc1;exact absurd rfl hc1
    |none=>
    subst Yb;simp only[rm,pF,if_false]at hc1;have gk:o<cells.size:=by
     rcases m6 o cells.size with h|h
     ·exact h
     ·exact absurd (Array.getElem?_eq_none h) hc1
    rw[hx]at hw;simp only[LN,ht,kg,rb]at hw;obtain⟨rows,r1,r2⟩:=aa5 (F:=λg=>g<w.heap.size) (w:=w) (cells:=cells) (sh:=sh) len o (by omega) (λi hi=>by
     have:=Xy i hi;cases hy:elems[i]? with
     |none=>rw[adx]at hy;omega
     |some y=>
      rw[hy,ady]at this;obtain⟨cs,g1,g2⟩:=this;obtain⟨l1,l2⟩:=Vb g1;obtain⟨zs,af,z2⟩:=ho n cs y g2 (by rw[l1,hc]) λm hm=>by
       refine hw m (.inr (.inl ?_));exact ZF hy hm
      refine⟨zs,cs,af,z2,λj hj=>?_⟩;have:=l2 j (by rw[hc];exact hj);rw[iz,iz]at this;simp only[jx,ta,rm,pF,if_false]at this;rw[<-this,hc]) λ_=>hp
    have cv:(cap:Int)<=0x7fffffffffffffff:=by unfold maxLen at s5;omega
    have Bn:(elems.length+rest.length)*P.bytesOf e<=reachBytes:=hw _ (.inl (by simp));refine⟨_,rows,rfl,r2.1,⟨by omega,λhb=>?_⟩,.inr ⟨g,o,cap,cells,tt,fz,by rw[r1],by rw[r1];exact⟨Ev,cv⟩,(Array.getElem?_eq_some_iff.1 ta).1,ta,r2⟩⟩;have h8:(elems.length+rest.length)*1<=(elems.length+rest.length)*P.bytesOf e:=Lz _ hb;unfold reachBytes at Bn;omega
   ·exact absurd rfl hc1
theorem Kn {w:ai}:∀(d:Nat) (t:aR) (sh:List av),sm P d t=some sh->HE enc P w t sh
 |0,t,sh,h=>by simp[sm]at h
 |d+1,t,sh,h=>by
  have ih:=Kn (w:=w) d;intro n cs x hx hl hw;unfold sm at h;split at h
  ·rename_i k hu;simp only[aK]at h;subst h;obtain⟨z,rfl,rfl,Px⟩:=ac9 hu hx;have:=ace.1 Px;exact⟨[z],⟨this,trivial⟩,rfl,trivial⟩
  ·rename_i hu;simp only[aK]at h;subst h;obtain⟨s,rfl,rfl,hs⟩:=ay6 hu hx;have hb:s.data.toList.length<=dP:=hw _ (by simp[LN]);refine⟨[cT s.data.toList],⟨⟨lD _,kY hb⟩,trivial⟩,?_,trivial⟩;show _=av.val .str _;simp[av.val,fj,az]
  ·rename_i hu;simp only[aK]at h;subst h;obtain⟨b,rfl,rfl⟩:=DataW.trod_bool hu hx;refine⟨[cond b 1 0],⟨?_,trivial⟩,?_,trivial⟩
   ·cases b<;>simp[av.dG]
   ·show _=av.val .bool _;cases b<;>simp[av.val]
  ·rename_i dK hu;obtain⟨xs,m,rfl,rfl,hlen,hn,A6⟩:=DataW.trod_struct hu hx;simp only[LN,hu]at hw;obtain⟨zs,a1,a2⟩:=aaa (n:=m) ih dK.toList 0 sh xs h (by omega) (by rw[hn];simp) (λj f hj=>A6 j f (by simpa using hj)) hw;exact⟨zs,a1,by simpa using a2⟩
  ·rename_i k e hu;cases h1:sm P d e with
   |none=>simp[h1]at h
   |some l=>
    simp only[h1]at h;cases hc:aA (P.cellsOf e) l.length with
    |false=>simp[hc]at h
    |true=>
     simp only[hc,cond_true,aK]at h;subst h;have hc:=bo hc;obtain⟨xs,m,rfl,rfl,hlen,hn,A6⟩:=ayy hu hx;simp only[LN,hu]at hw;have im:(eh k l).flatten.length=k*l.length:=by simp
     obtain⟨zs,a1,a2⟩:=Z9 (n:=m) (ih e l h1) hc k 0 xs (by rw[hl,im];simp) hn (λj hj=>by
      have:=A6 j hj;simpa using this) hw
     exact⟨zs,a1,by simpa using a2⟩
  ·rename_i e hu;cases h1:sm P d e with
   |none=>simp[h1]at h
   |some l=>
    simp only[h1]at h;cases hc:(aA (P.cellsOf e) l.length&&ck 0 (P.bytesOf e))with
    |false=>rw[hc]at h;cases h
    |true=>
     rw[hc]at h;simp only[cond_true]at h;simp only[aQ,CJ]at hc;obtain⟨k,rfl,rfl⟩:=aur h;obtain⟨v,rows,rfl,r1,⟨r2,ja⟩,r3⟩:=aab (ih e _ h1) hu (bo hc.1) (by unfold my;split<;>decide) hx hw;have EG:(rows.length:Int)<=0x7fffffffffffffff:=by unfold maxLen at r2;omega
     refine⟨[rc rows],⟨⟨eJ _,Uh EG r1⟩,trivial⟩,?_,trivial⟩;show ry _ _ _ (ab (rc rows)) v;rw[di];rcases r3 with r3|⟨g,o,cap,cells,t,fz,q1,q2,q3,dr,kA⟩
     ·exact .inl r3
     ·exact .inr ⟨g,o,cap,cells,t,fz,q1,⟨q2.1,q2.2,ja hc.2⟩,q3,dr,(k0 (abI k)).1 kA⟩
  ·cases h
def Hr (P:bk) (t:aR):bG->Prop
 | .d (.int k lo hi)=>P.underlying t=some (.int k)/\lo=k.min/\hi=k.max
 | .d .bool=>P.underlying t=some .bool
 | .d .str=>P.underlying t=some .string
 | .d (.agg k n lo hi)=>∃e,P.underlying t=some (.array n e)/\sm P 8 t=some (eh n (.int k lo hi))/\P.cellsOf t=n
 | .d (.mix l)=>((∃dK,P.underlying t=some (.struct dK))∨∃n e,P.underlying t=some (.array n e))/\sm P 8 t=some l/\P.cellsOf t=l.length/\hZ l=true
 | .d (.ka _)=>False
 | .d (.nD ..)=>False
 | .rd sh=>∃e,P.underlying t=some (.slice e)/\sm P 8 e=some sh/\P.cellsOf e=sh.length/\kC sh=true
 | .jL _ _=>False
theorem bD.bd:∀{sh:List av} {zs:List Int},bD sh zs->bd (sh.map av.dG) zs
 |[],[],_=>trivial
 |_::_,_::_,h=>⟨h.1.1,h.1.2,bD.bd h.2⟩
 |[],_::_,h=>h.elim
 |_::_,[],h=>h.elim
theorem aaZ:∀(sh:List av) (zs:List Int),dm sh zs=oM av.val sh zs
 |[],_=>by simp[dm]
 |_::_,[]=>by simp[dm]
 |c::sh,z::zs=>by simp only[dm,Hb,aaZ sh zs]
theorem aaY (k:cX) (lo hi:Int):∀(n:Nat) (zs:List Int),zs.length=n->dm (eh n (.int k lo hi)) zs=zs.map (sA k)
 |0,[],_=>rfl
 |n+1,z::zs,h=>by
  rw[z6];simp only[dm,ch,aaY k lo hi n zs (by simpa using h)];rfl
 |0,_::_,h=>by simp at h
 |n+1,[],h=>by simp at h
theorem ZD (k:cX) (lo hi:Int):∀n:Nat,(eh n (av.int k lo hi)).map av.dG=jb lo hi n
 |0=>rfl
 |n+1=>by rw[z6,ch,ZD k lo hi n];rfl
theorem aqA {b0:Nat} {w:ai} {t:aR} {b:bG} {v:ax} {x:mB H} {ps:List rj} (ht:Hr P t b) (og:LO P w .any b0 t v) (hd:DataW.Trod enc P w 0 (λ_=>true) true t v x ps) (hw:∀m∈x.weights P t,m<=reachBytes):
 ∃zs,bd b.bds zs/\zs.length=b.num/\b.at (λg=>g<w.heap.size) (λ_=>False) w zs v:=by
 obtain⟨fuel,hf⟩:=hd;have agg:((∃dK,P.underlying t=some (.struct dK))∨∃n e,P.underlying t=some (.array n e))->∃cs,v= .agg cs/\cs.size=P.cellsOf t:=λh=>by
  unfold LO at og;rcases h with⟨dK,h⟩|⟨n,e,h⟩
  ·rw[h]at og;obtain⟨cs,a,b,_⟩:=og;exact⟨cs,a,b⟩
  ·rw[h]at og;obtain⟨cs,a,b,_⟩:=og;exact⟨cs,a,b⟩
 cases b with
 |jL _ _=>exact ht.elim
 |d y=>
  cases y with
  |ka l=>exact ht.elim
  |nD k c=>exact ht.elim
  |int k lo hi=>
   obtain⟨h1,rfl,rfl⟩:=ht;obtain⟨n,rfl⟩:=okWide_int h1 og;obtain⟨n',h,hx,Px⟩:=ac9 h1 hf;simp[CX]at h;subst h;have:=ace.1 Px;exact⟨[n],⟨this.1,this.2,trivial⟩,rfl,rfl⟩
  |bool=>
   obtain⟨c,rfl⟩:=okWide_bool ht og;refine⟨[cond c 1 0],?_,rfl,?_⟩
   ·cases c<;>simp[bG.bds,D.bds,bd]
   ·cases c<;>simp[bG.at,D.val]
  |str=>
   obtain⟨s,rfl⟩:=okWide_string ht og;obtain⟨j8,h,hx,hs⟩:=ay6 ht hf;simp[CX]at h;subst h;simp only[cN]at hx;have hb:s.data.toList.length<=dP:=hw _ (by rw[hx.1];simp[LN]);exact⟨[cT s.data.toList],⟨lD _,kY hb,trivial⟩,rfl,by simp[bG.at,D.val,fj,az]⟩
  |agg k n lo hi=>
   obtain⟨e,h1,h2,h3⟩:=ht;obtain⟨cs,rfl,hsz⟩:=agg (.inr ⟨n,e,h1⟩);obtain⟨zs,a1,a2⟩:=Kn 8 t _ h2 fuel _ _ hf (by show cs.toList.length=_;simp[hsz,h3]) hw;have a2:=(Gn (by simp[hZ,av.plain]) a1).1 a2;have hl:zs.length=n:=by have:=a1.len;simpa using this
   have hcs:cs=(dm (eh n (.int k lo hi)) zs).toArray:=by rw[<-a2];simp[CX]
   refine⟨zs,?_,hl,?_⟩
   ·have:=a1.bd;rw[ZD]at this;exact this
   ·show C0 cs=_;rw[hcs,aaY k lo hi n zs hl];simp only[D.val,<-hl,SF]
  |mix l=>
   obtain⟨h1,h2,h3,h4⟩:=ht;obtain⟨cs,rfl,hsz⟩:=agg h1;obtain⟨zs,a1,a2⟩:=Kn 8 t _ h2 fuel _ _ hf (by show cs.toList.length=_;simp[hsz,h3]) hw;have a2:=(Gn h4 a1).1 a2;have hl:zs.length=l.length:=a1.len;have hcs:cs=(dm l zs).toArray:=by rw[<-a2];simp[CX]
   refine⟨zs,a1.bd,hl,?_⟩;show C0 cs=_;rw[hcs,aaZ];rfl
 |rd sh=>
  obtain⟨e,h1,h2,h3,tg⟩:=ht;have h4:0<sh.length:=by
   unfold kC at tg;simp only[aQ,CJ]at tg;exact tg.1.2
  obtain⟨u,rows,hu,r1,⟨r2,_⟩,r3⟩:=aab (Kn 8 e sh h2) h1 h3 h4 hf hw;obtain⟨a,len,cap,rfl⟩:=okWide_slice h1 og;have hu:u= .slice a len cap:=by simpa [CX]using hu.symm
  subst hu;refine⟨[rc rows],⟨eJ _,nU r2 λr hr=>(r1 r hr).row tg,trivial⟩,rfl,?_⟩;show fK _ _ _ (ab (rc rows)) _;rw[di];exact r3
def LQ (P:bk):List aR->List bG->Prop
 |[],[]=>True
 |t::ts,b::bs=>Hr P t b/\LQ P ts bs
 |_,_=>False
theorem bG.ae8 {F N:Nat->Prop} {w:ai} (b:bG) {zs l:List Int} {v:ax} (h:zs.length=b.num) (ha:b.at F N w zs v):b.at F N w (zs++l) v:=by
 cases b with
 |d x=>
  show v=x.val (zs++l);rw[D.ab8 x (l:=l) h];exact ha
 |rd sh=>match zs,h with|[z],_=>exact ha
 |jL sh e=>match zs,h with|[z],_=>exact ha
theorem Z8 {b0:Nat} {w:ai}:∀{ts:List aR} {bs:List bG} {vs:List ax} {xs:List (mB H)} {ps:List rj},LQ P ts bs->(∀(j:Nat) t v,ts[j]?=some t->vs[j]?=some v->LO P w .any b0 t v)->adz enc P w 0 (λ_=>true) true ts vs xs ps->
 (∀m∈LL P ts xs,m<=reachBytes)->∃zs,bd (bR bs) zs/\fT (λg=>g<w.heap.size) (λ_=>False) w bs zs vs/\xs.length=bs.length
 |[],[],[],[],ps,_,_,h,_=>⟨[],trivial,trivial,rfl⟩
 |[],[],_::_,_,_,_,_,h,_=>h.elim
 |[],[],[],_::_,_,_,_,h,_=>h.elim
 |[],_::_,_,_,_,h,_,_,_=>h.elim
 |_::_,[],_,_,_,h,_,_,_=>h.elim
 |_::_,_::_,[],_,_,_,_,h,_=>by cases h
 |_::_,_::_,_::_,[],_,_,_,h,_=>by cases h
 |t::ts,b::bs,v::vs,x::xs,ps,ht,hv,h,hw=>by
  obtain⟨p,q,h1,h2,rfl⟩:=h;simp only[LL,rb]at hw;obtain⟨zs,a1,a2,a3⟩:=aqA ht.1 (hv 0 t v rfl rfl) h1 λm hm=>hw m (.inl hm);obtain⟨fA,b1,b2,b3⟩:=Z8 ht.2 (λj t v h1 h2=>hv (j+1) t v (by simpa using h1) (by simpa using h2)) h2 λm hm=>hw m (.inr hm);refine⟨zs++fA,YJ a1 b1,⟨bG.ae8 b a2 a3,?_⟩,by simp[b3]⟩;rw[<-a2,ua];exact b2
theorem abQ (hl:laidOutB P=true) {W W':ai} (hb:Below W.heap.size W W'):∀{ts:List aR} {vs:List ax} {xs:List (mB H)} {ps:List rj},(∀t∈ts,P.readableRec t=true/\t<P.types.size)->adz enc P W 0 (λ_=>true) true ts vs xs ps->(∀x∈ps,x.block<W.heap.size)->
 adz enc P W' 0 (λb=>decide (b<W.heap.size)) true ts vs xs ps
 |[],[],[],_,_,h,_=>h
 |[],_::_,_,_,_,h,_=>h.elim
 |[],[],_::_,_,_,h,_=>h.elim
 |_::_,[],_,_,_,h,_=>by cases h
 |_::_,_::_,[],_,_,h,_=>by cases h
 |t::ts,v::vs,x::xs,ps,hr,h,hlt=>by
  obtain⟨p,q,h1,h2,rfl⟩:=h;exact⟨p,q,Below.trod hl (hr t (by simp)).1 (hr t (by simp)).2 h1 hb λx hx=>hlt x (List.mem_append.2 (.inl hx)),abQ hl hb (λt ht=>hr t (cx _ ht)) h2 λx hx=>hlt x (List.mem_append.2 (.inr hx)),rfl⟩
theorem af1 {C:Checked} {os:Os} {f:cB} {fn:Func} {s:ChangeSpec} {apart:Bool} {X:ai->Array ax->Prop}
 (hX:∀(w w':ai) (args:Array ax),w.heap=w'.heap->X w args->X w' args)
 (own:ownKnob C.prog.godebug=none) (started:os.Started) (Qs:C.prog.inits.idxOf? f=none) (hfn:C.prog.funcs[f]?=some fn)
 (witness:∃(w:ai) (tape:Tape) (i:Input),w.os=os/\(w.forCall tape i).Shaped C.prog/\i.vars=[]/\ay7 C.prog (w.forCall tape i) .any w.heap.size f i/\
   ((s.pre enc C.prog fn [] apart (w.forCall tape i).memory i.args/\X (w.forCall tape i).memory i.args)/\sizedMet enc C.prog fn (SY s) apart (w.forCall tape i).memory i.args)/\({}:Assume).holds C.prog (lone (ay8 C.prog f i.args .normal) [] (w.forCall tape i)))
 (contract:∀(W:ai) (base:Nat) (args:Array ax) (ds gs:List (mB H)) (before:List rj),
   (∀(j:Nat) t v,fn.params[j]?=some t->args[j]?=some v->LO C.prog W .any base t v)->
   DataW.Whole enc C.prog fn.params.toList s.vars apart W args.toList ds gs before->(LL C.prog (fn.params.toList++s.plain.varTypes C.prog) (ds++gs)).all (·<=reachBytes)=true->X W args->W.ShapedOpen C.prog->
   gZ C.prog f args W λe W'=>∃v,e= .returned v/\s.post enc C.prog fn apart true false false W args v W'):
 ReturnsInHanded {} C os f .any (λw args=>(s.pre enc C.prog fn [] apart w args/\X w args)/\sizedMet enc C.prog fn (SY s) apart w args) (s.post enc C.prog fn apart true false false):=by
 refine returnsInHanded_of_calls own started Qs witness ?_;intro w tape i _ iq _ bg gf aAI;obtain⟨_,_,_,ahn,Ei,_,_,_,_,og⟩:=bg;have e:ahn=fn:=fQ (Ei.symm.trans hfn);subst e;obtain⟨⟨⟨ds,gs,before,hw,hc⟩,hx⟩,hz⟩:=gf;have nC:=aEZ (w':=w.forCall tape i) (by rfl) hw;refine(contract (w.forCall tape i) w.heap.size i.args ds gs before og nC (hz.weights hw) (hX _ _ _ (by rfl) hx) iq).mono λe W' ⟨v,he,hp⟩=>?_;subst he;exact aE0 hp
theorem am7 {C:Checked} {os:Os} {f:cB} {fn:Func} {s:ChangeSpec} {X:ai->Array ax->Prop} {apart:Bool} {ts:List aR} {tb:aR} {bs:List bG}
 (hX:∀(w w':ai) (args:Array ax),w.heap=w'.heap->X w args->X w' args)
 (own:ownKnob C.prog.godebug=none) (started:os.Started) (Qs:C.prog.inits.idxOf? f=none) (hfn:C.prog.funcs[f]?=some fn)
 (witness:∃(w:ai) (tape:Tape) (i:Input),w.os=os/\(w.forCall tape i).Shaped C.prog/\i.vars=[]/\ay7 C.prog (w.forCall tape i) .any w.heap.size f i/\
   ((s.pre enc C.prog fn [] apart (w.forCall tape i).memory i.args/\X (w.forCall tape i).memory i.args)/\sizedMet enc C.prog fn (SY s) apart (w.forCall tape i).memory i.args)/\({}:Assume).holds C.prog (lone (ay8 C.prog f i.args .normal) [] (w.forCall tape i)))
 (hp:fn.params.toList=ts) (hr:fn.resultTypes.toList=[tb]) (eH:fn.resultTypes.size=1) (alh:C.prog.underlying tb=some .bool) (EL:LQ C.prog ts bs) (oa:laidOutB C.prog=true) (lJ:(ts.all λt=>C.prog.readableRec t&&decide (t<C.prog.types.size))=true) (Pv:s.vars=[])
 (hs:∀xs:List (mB H),xs.length=bs.length->s.fn H xs={results:=[.lit (.bool true)],args:=xs,vars:=[]})
 (contract:∀(W:ai) (zs:List Int) (vs:List ax),bd (bR bs) zs->fT (λg=>g<W.heap.size) (λ_=>False) W bs zs vs->X W vs.toArray->W.ShapedOpen C.prog->gZ C.prog f vs.toArray W λe W'=>e= .returned (.bool true)/\W.Extends W'):
 ReturnsInHanded {} C os f .any (λw args=>(s.pre enc C.prog fn [] apart w args/\X w args)/\sizedMet enc C.prog fn (SY s) apart w args) (s.post enc C.prog fn apart true false false):=by
 refine af1 hX own started Qs hfn witness ?_;intro W base args xs gs before als hW hsz hx iq;have aiA:=hW;have hlt:=hW.lt;obtain⟨p,q,hA,Oi,rfl,I7,aAV⟩:=hW;rw[hp]at hA;rw[Pv]at Oi;obtain⟨rfl,rfl⟩:gs=[]/\q=[]:=by
  cases gs with
  |nil=>exact⟨rfl,Oi⟩
  |cons g r=>exact absurd Oi (by intro h;cases h)
 have og:∀(j:Nat) t v,ts[j]?=some t->args.toList[j]?=some v->LO C.prog W .any base t v:=λj t v h1 h2=>als j t v (by rw[<-hp]at h1;simpa using h1) (by simpa using h2);have e:(fn.params.toList++s.plain.varTypes C.prog)=ts:=by rw[hp];simp[DataSpec.varTypes,aE2,Pv]
 rw[e,lv,pC]at hsz;obtain⟨zs,hz,hat,hlen⟩:=Z8 EL og hA λn hn=>by simpa using hsz n hn
 have mf:args=args.toList.toArray:=by simp
 rw[mf]at hx;have AZ:gZ C.prog f args W λe W'=>e= .returned (.bool true)/\W.Extends W':=by
  have:=contract W zs args.toList hz hat hx iq
  rwa [<-mf]at this
 refine AZ.mono λe W' ⟨he,hw⟩=>?_;subst he;have Ei:=hs (xs++[]) (by simp[hlen]);have ajJ:Below W.heap.size W W':=⟨hw.os,hw.tape,hw.output,hw.size,λi hi=>hw.block i hi⟩;refine⟨_,rfl,_,_,_,[],p,[],aiA,?_,?_,?_,amF hw _,λh=>by cases h⟩
 ·rw[Ei,hr,eH];exact trodAll_mk1 (shut_bool alh true)
 ·rw[Ei,hp,lv];exact abQ oa ajJ (λt ht=>by
   have:=List.all_eq_true.1 lJ t ht;simpa using this) hA λx hx=>hlt x (by simp[hx])
 ·rw[Ei,Pv];rfl
section
variable {gl:dA} {wb:ai} {sh:Nat->List Nat×List Nat} {SB:Nat->List (List Int)->List (List Int)->Prop}
def dS (SB:zzS) (res:List bG) (id:Nat):List (List Int)->List (List Int)->Prop:=λzs rs=>bd (bR res) rs.flatten/\SB id zs rs
theorem afu {c:cY} {bc:ig} {cal:ed} {li:cB->Nat->Option dc} {rounds d:Nat} {lsh:Nat->List Nat} {lens:List Nat} (hm:P.follows .mixedOrders=true) (cp:∀r ex ro,fp (b5 sh SB) P gl ⟨wb,r,ex,ro,[]⟩ cal) (hg:eN gl ⟨wb,wb,λ_=>False,λ_=>False,[]⟩)
 (gd:∀(L:V->Env->Prop) (r:ai) (ro:Nat->Prop),l4 (b5 sh SB) L ⟨wb,r,λ_=>False,ro,[]⟩ P bc) (hf:rJ P c.f=true) (hl:lens=(sh c.id).1) (hd:tv c.res=(sh c.id).2)
 (hv:gB sh lsh SB (dS SB c.res c.id) lens (bR c.args) c.res (c.tree bc P gl cal li rounds d)):c.dW P wb (b5 sh SB c.id):=by
 refine cY.xg (li:=li) (rounds:=rounds) (d:=d) hm cp hg gd (enters hf) (sK λzs hz=>?_);have h:=kM (HJ hv) hz;simp only[dS,Ct]at h;rw[hl,hd]at h;exact h
theorem am6 {c:cY} {W:ai} {vs:List ax} {zs:List Int} (hc:c.dW P W (b5 sh SB c.id)) (jG:c.res=[.d .bool]) (gf:c.pre=0) (hz:bd (bR c.args) zs) (hat:fT (λg=>g<W.heap.size) (λ_=>False) W c.args zs vs) (h1:∀a z,SB c.id a [[z]]->z=1) (h2:(sh c.id).2=[1]):
 gZ P c.f vs.toArray W λe W'=>e= .returned (.bool true)/\W.Extends W':=by
 refine(hc.2 _ W vs zs (m8 W) hz (by rw[gf];trivial) hat).mono λe W' ⟨hx,rs,us,hb,hs,hr,he⟩=>⟨?_,hx⟩;rw[jG]at hb hr
 match rs,hb,us,hr,hs,he with
 |[z],hb,[u],hr,hs,he=>
  unfold b5 at hs;rw[h2]at hs;have e1:z=1:=h1 _ z hs;subst e1;have:u= .bool true:=hr.1;subst this;rw[he];rfl
 |[z],hb,[],hr,hs,he=>exact hr.elim
 |[z],hb,_::_::_,hr,hs,he=>exact hr.2.elim
 |[],hb,_,_,_,_=>exact hb.elim
 |_::_::_,hb,_,_,_,_=>exact hb.2.2.elim
end
end Go.aW
namespace Go.aW
open M
def ik (w w':ai) (own:Option Nat):Prop:=w'.os=w.os/\w'.tape=w.tape/\w'.output=w.output/\w.heap.size<=w'.heap.size/\∀k:Nat,k<w.heap.size->own≠some k->w'.heap[k]?=w.heap[k]?
structure jX where
 f:cB
 id:Nat
 sh:List av
 e:aR
 args:List bG
 pre:Nat:=0
def hV:ax->Option Nat
 | .slice (some a) _ (_+1)=>some a.block
 |_=>none
def jX.dW (P:bk) (wb:ai) (c:jX) (spec:List Int->List Int->Prop):Prop:=(∀args w,(callFunc c.f args).run P w= .ok (.enter c.f args) w)/\∀(F:Nat->Prop) (w:ai) (v0:ax) (code:Int) (vs:List ax) (zs:List Int),wb.Extends w->rv (λg=>wb.heap.size<=g) w c.sh c.e (ab code) v0->(0<=code/\code<=bV)->bd (bR c.args) zs->vq c.pre (code::zs)->fT F (λ_=>False) w c.args zs vs->(∀g,F g->hV v0≠some g)->gZ P c.f (v0::vs).toArray w λe w'=>ik w w' (hV v0)/\∃code' v',(0<=code'/\code'<=bV)/\spec (code::zs) [code']/\rv (λg=>hV v0=some g∨w.heap.size<=g) w' c.sh c.e (ab code') v'/\e= .returned v'
noncomputable def jX.R (c:jX) (n:Nat) (code:U) (r:List V) (bl:List aj) (k:RK):T:=cond (hZ c.sh) (sW false bl c.args r n λls n1=>FO c.pre (code::ls) (.call c.id (code::ls) n1 [(0,bV)] (nX [.jL c.sh c.e] n1 (n1+1) [] bl λn2 us gC=>k n2 (qk us) gC))) .stuck
noncomputable def jX.E (c:jX) (n:Nat) (vs:List V) (bl:List aj) (k:RK):T:=
 match vs with
 | .w (.one (.sl b aL o ro len cap))::r=>match bl[b]? with
  |some ([.rows sh off code cO kind],bN)=>cond (jc c.sh sh&&aA kind 2&&U.beq o (.const 0)&&U.beq off (.const 0)&&U.beq ro (.const 0)&&U.beq cap cO&&aA bN.1 c.e)
   (.oU 31 [code,len] (c.R n code r (cy bl b ([.rows sh off code cO 0],bN)) k)) .stuck
  |_=> .stuck
 | .w (.one (.con (.slice none 0 0)))::r=>c.R n (.const 0) r bl k
 | .w (.one (.slc b 0 0 0))::r=>match bl[b]? with
  |some ([],(t,false))=>cond (aA t c.e) (c.R n (.const 0) r bl k) .stuck
  |_=> .stuck
 |_=> .stuck
section
variable {S:Nat->List Int->List Int->Prop} {L:V->Env->Prop} {w0:cI} {P:bk}
theorem Mem.anZ {ρ:Env} {m:Nat->Nat} {bl:List aj} {w w':ai} {b:Nat} {sh:List av} {off code cap:U} {t:aR×Bool} (h:Mem w0 ρ m bl w) (hbl:bl[b]?=some ([.rows sh off code cap 2],t)) {own:Option Nat} (hown:∀g,own=some g->0<=cap.den ρ/\g=m b) (hn:ik w w' own):Mem w0 ρ m (cy bl b ([.rows sh off code cap 0],t)) w':=by
 have h1:=h.kill hbl;obtain⟨n1,n2,n3,qX,pg⟩:=hn;have gU:=h.rws b sh off code cap 2 t hbl (by decide);have hg:∀g,own=some g->w0.b.heap.size<=g/\(w0.ex g∨w0.r.heap.size<=g):=λg hg=>by
  obtain⟨hc,rfl⟩:=hown g hg;obtain⟨_,cells,gq,fz,g1,_,g4⟩:=gU.2 hc;obtain⟨_,_,_,_,g8,g9⟩:=g4 (by decide);exact⟨g8,g9⟩
 have gK:0<=cap.den ρ->aS ρ [.rows sh off code cap 2]=2:=λhc=>iH (by decide) hc;have hblk:∀i:Nat,i<w0.b.heap.size->w'.heap[i]?=w0.b.heap[i]?:=λi hi=>by
  rw[pg i (tX hi h.ext.size) (λe=>by have:=(hg i e).1;omega),h.ext.block i hi]
 have c0:∀(i:Nat) (p:aj),(cy bl b ([.rows sh off code cap 0],t))[i]?=some p->(i=b/\p=([.rows sh off code cap 0],t))∨(i≠b/\bl[i]?=some p):=λi p hi=>by
  have mL:b<bl.length:=(List.getElem?_eq_some_iff.1 hbl).1;rw[iN,oL]at hi;split at hi
  ·rename_i eE;subst eE;simp only[mL,if_true,aK]at hi;exact .inl ⟨rfl,hi.symm⟩
  ·rename_i eE;exact .inr ⟨λe=>eE e.symm,hi⟩
 have Bk:∀(i:Nat) (p:aj),i≠b->bl[i]?=some p->aS ρ p.1≠0->w'.heap[m i]?=w.heap[m i]?:=λi p hne hi hk=>by
  refine pg _ (h.lt hi hk) λe=>?_;obtain⟨hc,e⟩:=hown _ e;exact h.ne hbl hi (by rw[gK hc];exact aV _) hk (λe=>hne e.symm) e.symm
 refine⟨⟨n1.trans h.ext.os,n2.trans h.ext.tape,n3.trans h.ext.output,gx h.ext.size qX,λa ha=>by simp only[jx,hblk a.block ha],λa ha=>by simp only[tZ,hblk a.block ha],hblk⟩,n1.trans h.jo,n2.trans h.jr,n3.trans h.iF,gx h.ew qX,λi hi hx=>?_,λi cs t' hi ho=>?_,λi cF dZ code' dX eZ t' hi=>?_,h1.inj⟩
 ·rw[pg i (tX hi h.ew) (λe=>by rcases(hg i e).2 with h|h;exact hx h;omega)];exact h.gi i hi hx
 ·rcases c0 i _ hi with⟨rfl,cH⟩|⟨hne,hi⟩
  ·cases cH;cases ho
  ·obtain⟨g1,g2,r,hr,g3⟩:=h.blk i cs t' hi ho;exact⟨g1,g2,r,hr,by rw[Bk i _ hne hi (by rw[hT ho];decide)];exact g3⟩
 ·rcases c0 i _ hi with⟨rfl,cH⟩|⟨hne,hi⟩
  ·cases cH;exactλhk=>absurd rfl hk
  ·refine(h.rws i cF dZ code' dX eZ t' hi).grow (λg' ej o ho=>⟨ej.set hbl (by simp[aS]),?_⟩) λhk hc=>Bk i _ hne hi (by simp only[iH hk hc];exact hk);rw[pg g' (Array.getElem?_eq_some_iff.1 ho).1 λe=>?_]
   ·exact ho
   ·obtain⟨hc,e⟩:=hown _ e;exact ej.2 b _ hbl (by rw[gK hc];exact aV _) e.symm
theorem jX.MG {c:jX} {spec:List Int->List Int->Prop} (hc:c.dW P w0.b spec) (hS:∀zs rs,spec zs rs->S c.id zs rs) (n nb:Nat) (code:U) (r:List V) (kO:List aj) (k:RK) (G:c9) (ρ:Env) (m:Nat->Nat) (w:ai) (X:ax) (xs:List ax) (R':qw->ai->Prop)
 (O5:kO.length=nb) (rO:bU n kO.length ρ kO) (yM:Mem w0 ρ m kO w) (hv:∀v∈r,V.ok n kO.length ρ v) (hr:db ρ m r xs) (r2:code.aY n) (fN:0<=code.den ρ/\code.den ρ<=bV)
 (Bd:rv (λg=>w0.b.heap.size<=g) w c.sh c.e (ab (code.den ρ)) X) (akt:∀w',ik w w' (hV X)->Mem w0 ρ m kO w') (Jk:∀g,hV X=some g->w0.b.heap.size<=g/\w0.r.heap.size<=g) (O7:∀(i:Nat) (p:aj),kO[i]?=some p->hV X=some (m i)->aS ρ p.1=0) (kn:∀g,hV X=some g->na w0 ρ m kO w g)
 (ag:(c.R n code r kO k).holds S L G ρ) (hk:pJ S L w0 k n nb ρ m G R'):gZ P c.f (X::xs).toArray w R':=by
 subst O5;unfold jX.R at ag;cases uT:hZ c.sh with
 |false=>rw[uT]at ag;exact ag.elim
 |true=>
 rw[uT]at ag;simp only[cond_true]at ag;have DZ:xS (λg'=>bX w0 ρ m kO g'/\hV X≠some g') w0 ρ m kO w:=λi cF dZ code' dX eZ t' hi=>by
  cases ho:hV X with
  |none=>exact(yM.rws i cF dZ code' dX eZ t' hi).mono λg' h'=>⟨h',λe=>by cases e⟩
  |some g=>exact(kn g ho i cF dZ code' dX eZ t' hi).mono λg' h'=>⟨h'.1,λe=>by cases e;exact h'.2 rfl⟩
 obtain⟨ay,n1,ls,eY,dz,⟨g1,g2,g3⟩,ag⟩:=DJ (S:=S) (L:=L) DZ (λh=>by cases h) rO yM hv hr G _ ag;obtain⟨gf,ag⟩:=preM_holds ag;simp only[T.holds]at ag;have agR:code.den ay=code.den ρ:=U.bw dz r2;have hF:∀g,oO (λg'=>bX w0 ρ m kO g'/\hV X≠some g') w0 ρ m kO (r.flatMap fL) (r.flatMap jO) g->hV X≠some g:=λg hg he=>by
  rcases hg with⟨⟨b',_,uK,p,yS,Bg,_⟩,_⟩|hg
  ·exact Bg (O7 b' p yS (by rw[he,uK]))
  ·exact hg.2 he
 rw[ch,agR]at gf ag;refine(hc.2 (oO (λg'=>bX w0 ρ m kO g'/\hV X≠some g') w0 ρ m kO (r.flatMap fL) (r.flatMap jO)) w X (code.den ρ) xs _ yM.ext Bd fN g2 gf (g3 _ λ_ h=>h) hF).mono ?_
 rintro e w' ⟨jm,code',v',k1,k3,k4,rfl⟩
 have ag:=kM ag (show bd [((0:Int),bV)] [code'] from⟨k1.1,k1.2,trivial⟩) (hS _ _ k3);have hl:=akt w' jm;have hb1:=rO.ext dz eY (aV kO.length);have cU:agree n1 ay (bh ay n1 [code']):=agree.bh [code'] n1 ay;have hb2:=hb1.ext cU (CO n1 1) (aV kO.length);have uX:=(hl.dQ rO dz).dQ hb1 cU;have hA:fJ (bh ay n1 [code']) n1 [code']:=fJ.bh ay n1 [code'];have lG:=dz.trans cU eY;have yy:cJ n kO.length ρ m (n1+1) kO.length (bh ay n1 [code']) m:=⟨by omega,lG,aV _,λ_ _=>rfl⟩;have hN:∀g,(hV X=some g∨w.heap.size<=g)->w0.b.heap.size<=g/\w0.r.heap.size<=g:=λg hg=>by
  rcases hg with hg|hg
  ·exact Jk g hg
  ·exact⟨gx yM.ext.size hg,gx yM.ew hg⟩
 have uO:∀(i:Nat) (p:aj),kO[i]?=some p->(hV X=some (m i)∨w.heap.size<=m i)->aS (bh ay n1 [code']) p.1=0:=λi p hi hg=>by
  rw[mn (rO p (cM hi)) lG];rcases hg with hg|hg
  ·exact O7 i p hi hg
  ·by_cases h0:aS ρ p.1=0
   ·exact h0
   ·have:=yM.lt hi h0;omega
 have ajF:∀g,(hV X=some g∨w.heap.size<=g)->na w0 (bh ay n1 [code']) m kO w' g:=λg hg=>na.dQ (n':=n) (λi cF dZ ff dX eZ t' hi=>(DZ i cF dZ ff dX eZ t' hi).grow (λg' ej o ho=>by
  have hlt:=(Array.getElem?_eq_some_iff.1 ho).1;refine⟨⟨ej.1,λe=>?_⟩,by rw[jm.2.2.2.2 g' hlt ej.2];exact ho⟩;rcases hg with hg|hg
  ·exact ej.2 (by rw[e];exact hg)
  ·omega) λhk hc=>by
  have fE:aS ρ [A.rows cF dZ ff dX eZ]≠0:=by rw[iH hk hc];exact hk
  exact jm.2.2.2.2 _ (yM.lt hi fE) λe=>fE (O7 i _ hi e)) rO lG
 obtain⟨n',ae,m',jR,gC,p1,aJ,bb,b7,dD,eo⟩:=sL (S:=S) (L:=L) (w0:=w0) (F:=λ_=>False) (N:=λg=>hV X=some g∨w.heap.size<=g) (λg hg=>hg.elim) hN (l:=[.jL c.sh c.e]) (us:=[]) (vals:=[v']) (by simp[kN,uT]) hb2 uX hA (show bd [((0:Int),bV)] [code'] from⟨k1.1,k1.2,trivial⟩) (aV _) ⟨k4,trivial⟩ (.inl rfl) (.inr uO) (.inr ajF) (λu hu=>by simp at hu) ag;have jG:=KJ (m:=m') (vals:=[v']) dD (by rw[b7];rfl);exact hk n' (qk jR) gC G ae m' w' v' (yy.trans p1) (dI.refl _ _) jG.1 jG.2 aJ bb eo
theorem ik.ext {w w':ai} (h:ik w w' none):w.Extends w':=by
 obtain⟨n1,n2,n3,qX,pg⟩:=h;have hblk:∀i:Nat,i<w.heap.size->w'.heap[i]?=w.heap[i]?:=λi hi=>pg i hi (λe=>by cases e);exact⟨n1,n2,n3,qX,λa ha=>by simp only[jx,hblk a.block ha],λa ha=>by simp only[tZ,hblk a.block ha],hblk⟩
theorem jX.ui {c:jX} {spec:List Int->List Int->Prop} (hex:∀g,¬w0.ex g) (hc:c.dW P w0.b spec) (hS:∀zs rs,spec zs rs->S c.id zs rs) (n:Nat) (vs:List V) (bl:List aj) (k:RK) (G:c9) (ρ:Env) (m:Nat->Nat) (w:ai) (xs:List ax) (R':qw->ai->Prop)
 (hb:bU n bl.length ρ bl) (hw:Mem w0 ρ m bl w) (hv:∀v∈vs,V.ok n bl.length ρ v) (hr:db ρ m vs xs) (ag:(c.E n vs bl k).holds S L G ρ) (hk:pJ S L w0 k n bl.length ρ m G R'):
 (callFunc c.f xs.toArray).run P w= .ok (.enter c.f xs.toArray) w/\gZ P c.f xs.toArray w R':=by
 refine⟨hc.1 _ _,?_⟩;have z4:0<=(U.const 0).den ρ/\(U.const 0).den ρ<=bV:=by rw[U.aO];exact⟨bO _,by have:=nU (l:=[]) (by simp) (by simp);exact oJ (eJ []) this⟩
 have z0:ab ((U.const 0).den ρ)=[]:=by rw[U.aO];exact eV
 unfold jX.E at ag;split at ag
 ·rename_i b aL o ro len cap r;split at ag
  rotate_left
  ·exact ag.elim
  rename_i sh off code cO kind bN hbl;cases hgd:(jc c.sh sh&&aA kind 2&&U.beq o (.const 0)&&U.beq off (.const 0)&&U.beq ro (.const 0)&&U.beq cap cO&&aA bN.1 c.e)with
  |false=>rw[hgd]at ag;exact ag.elim
  |true=>
  rw[hgd]at ag;simp only[cond_true]at ag;simp only[aQ]at hgd;obtain⟨⟨⟨⟨⟨⟨b0,k2⟩,b1⟩,b2⟩,b3⟩,b4⟩,fU⟩:=hgd;have b0:=pt b0;have fU:=bo fU;have k2:=bo k2;have b1:=U.beq_eq b1;have b2:=U.beq_eq b2;have b3:=U.beq_eq b3;have b4:=U.beq_eq b4;subst k2;subst b1;subst b2;subst b3;subst b4;subst b0
  match xs,hr with
  |X::xs,hr=>
  obtain⟨yK,ag⟩:=ag;have yK:len.den ρ=(ab (code.den ρ)).length:=yK;have tg:(A.sl b aL (.const 0) (.const 0) len cap).ok n bl.length ρ:=hv (.w (.one (.sl b aL (.const 0) (.const 0) len cap))) (by simp);obtain⟨ptr,e1,e2,e3⟩:=oA (m:=m) tg;have qQ:X=(A.sl b aL (.const 0) (.const 0) len cap).den ρ m:=hr.1;rw[e1]at qQ;obtain⟨x1,⟨x2,x3,bL,gg⟩,⟨je,oH,lq,nN⟩,⟨oF,oG⟩,fH,gW⟩:=tg;rw[U.aO]at oG;have gU:=hw.rws b c.sh (.const 0) code cap 2 bN hbl (by decide);have eS:(A.rows c.sh (.const 0) code cap 2).ok n bl.length ρ:=hb _ (cM hbl) _ (by simp);obtain⟨⟨r1,r2,r3⟩,fN,cw⟩:=eS;have mL:b<bl.length:=(List.getElem?_eq_some_iff.1 hbl).1;have yP:(len.den ρ).toNat=(ab (code.den ρ)).length:=by omega
  have uT:hZ c.sh=true:=by
   cases uT:hZ c.sh with
   |true=>rfl
   |false=>unfold jX.R at ag;rw[uT]at ag;exact ag.elim
  have hown:(∀g,hV X=some g->0<=cap.den ρ/\g=m b)/\rv (λg=>w0.b.heap.size<=g) w c.sh c.e (ab (code.den ρ)) X/\(∀g,hV X=some g->w0.b.heap.size<=g/\w0.r.heap.size<=g):=by
   by_cases hc0:cap.den ρ<0
   ·have hl0:=fH hc0;have hX:X= .slice (lS (cap.den ρ) (m b)) 0 0:=by rw[qQ,e2 hc0,if_pos hc0,hl0];rfl
    have EA:∀g,hV X=some g->False:=λg h=>by
     rw[hX]at h;cases hz:lS (cap.den ρ) (m b)with
     |none=>rw[hz]at h;cases h
     |some a=>rw[hz]at h;cases h
    exact⟨λg h=>(EA g h).elim,Or.inl ⟨⟨_,hX⟩,gU.1 hc0⟩,λg h=>(EA g h).elim⟩
   ·obtain⟨_,cells,gq,fz,g1,⟨g2,g3⟩,g4⟩:=gU.2 (by omega);obtain⟨g0,g5,g6,g7,g8,g9⟩:=g4 (by decide);have g6:=g6.two;subst g0 g6;rw[U.aO]at g3;have hX:X= .slice (some ⟨m b,0,none⟩) (ab (code.den ρ)).length (cap.den ρ).toNat:=by
     rw[qQ,e3 (by omega),if_neg hc0,yP,U.aO];simp
    have iW:=gW (by omega);have EA:∀g,hV X=some g->g=m b:=λg h=>by
     rw[hX]at h;unfold hV at h;split at h
     ·rename_i heq;injection heq with h1 h2 h3
      injection h1 with h1
      rw[<-h1]at h;cases h;rfl
     ·cases h
    refine⟨(λg h=>⟨by omega,EA g h⟩),Or.inr ⟨m b,(cap.den ρ).toNat,cells,hX,⟨by omega,by omega⟩,g8,by rw[<-fU];exact g1,(k0 uT).1 g3,g7⟩,(λg h=>by
     rw[EA g h];rcases g9 with h|h
     ·exact absurd h (hex _)
     ·exact⟨g8,h⟩)⟩
  obtain⟨ny,Bd,Jk⟩:=hown;have Xf:=jN bl b ([.rows c.sh (.const 0) code cap 0],bN);refine jX.MG (S:=S) (L:=L) (w0:=w0) hc hS n bl.length code r (cy bl b ([.rows c.sh (.const 0) code cap 0],bN)) k G ρ m w X xs R' Xf ?_ (hw.kill hbl) (λv hv'=>by rw[Xf];exact hv v (cx _ hv')) hr.2 r2 fN Bd (λw' hn=>hw.anZ hbl ny hn) Jk (λi p hi hg=>?_) (λg hg=>by obtain⟨hc,rfl⟩:=ny g hg;exact hw.UA hbl (aV 2) hc) ag hk
  ·refine hb.set ?_;intro y hy;have hy:y= .rows c.sh (.const 0) code cap 0:=by simpa using hy
   subst hy;exact hb _ (cM hbl) (.rows c.sh (.const 0) code cap 2) (by simp)
  ·by_cases h0:aS ρ p.1=0
   ·exact h0
   ·exfalso;obtain⟨hc,akB⟩:=ny _ hg;have c0:i≠b/\bl[i]?=some p:=by
     rw[iN,oL]at hi;split at hi
     ·rename_i eE;subst eE;simp only[mL,if_true,aK]at hi;subst hi;exact absurd (by simp[aS]) h0
     ·rename_i eE;exact⟨λe=>eE e.symm,hi⟩
    exact hw.ne hbl c0.2 (by rw[iH (by decide) hc];exact aV _) h0 (λe=>c0.1 e.symm) akB.symm
 ·rename_i r
  match xs,hr with
  |X::xs,hr=>
  have hX:X= .slice none 0 0:=hr.1;subst hX;exact jX.MG (S:=S) (L:=L) (w0:=w0) hc hS n bl.length (.const 0) r bl k G ρ m w _ xs R' rfl hb hw (λv hv'=>hv v (cx _ hv')) hr.2 (U.cr _ _) z4 (Or.inl ⟨⟨_,rfl⟩,z0⟩) (λw' hn=>hw.grow hn.ext) (λg h=>by cases h) (λi p hi h=>by cases h) (λg h=>by cases h) ag hk
 ·rename_i b r;split at ag
  rotate_left
  ·exact ag.elim
  rename_i t hbl;cases EK:aA t c.e with
  |false=>rw[EK]at ag;exact ag.elim
  |true=>
   rw[EK]at ag;simp only[cond_true]at ag;have EK:=bo EK;subst EK
   match xs,hr with
   |X::xs,hr=>
   have hX:X= .slice (some ⟨m b,0,none⟩) 0 0:=hr.1;subst hX;obtain⟨g1,g2,zx,g3,g4⟩:=hw.blk b [] (c.e,false) hbl rfl;have g3:=g3 rfl;subst g3;refine jX.MG (S:=S) (L:=L) (w0:=w0) hc hS n bl.length (.const 0) r bl k G ρ m w _ xs R' rfl hb hw (λv hv'=>hv v (cx _ hv')) hr.2 (U.cr _ _) z4 (Or.inr ⟨m b,0,#[],?_,⟨?_,by decide⟩,g1,by simpa using g4,?_,by simp⟩) (λw' hn=>hw.grow hn.ext) (λg h=>by cases h) (λi p hi h=>by cases h) (λg h=>by cases h) ag hk
   ·rw[z0];rfl
   ·rw[z0];exact aV _
   ·rw[z0];exact⟨λ_ h=>by simp at h,[],[],by simp[cG],rfl⟩
 ·exact ag.elim
noncomputable def JD:List jX->ig->ig
 |[],g,f=>g f
 |c::r,g,f=>cond (aA c.f f) (some c.E) (JD r g f)
theorem YD {wb r:ai} {ro:Nat->Prop} {bc:ig} (gd:l4 S L ⟨wb,r,λ_=>False,ro,[]⟩ P bc):∀{l:List jX},(∀c∈l,c.dW P wb (S c.id))->l4 S L ⟨wb,r,λ_=>False,ro,[]⟩ P (JD l bc)
 |[],_=>gd
 |c::l,h=>λf g hf=>by
  unfold JD at hf;cases hb:aA c.f f with
  |true=>
   rw[hb]at hf;simp only[cond_true,aK]at hf;have:=bo hb;subst this;subst hf;intro n vs bl k G ρ m w xs R' h1 h2 h3 h4 h5 h6;exact jX.ui (w0:=⟨wb,r,λ_=>False,ro,[]⟩) (λ_ h=>h) (h c (by simp)) (λ_ _ h=>h) n vs bl k G ρ m w xs R' h1 h2 h3 h4 h5 h6
  |false=>
   rw[hb]at hf;exact YD gd (λc hc=>h c (cx _ hc)) f g hf
end
end Go.aW
namespace Go.aW
open M
def lF:List Nat->List ax->List ax
 |[],l=>l
 |0::r,v::l=>v::lF r l
 |0::_,[]=>[]
 |(k+1)::r,l=> .agg (l.take (k+1)).toArray::lF r (l.drop (k+1))
def BY:List W->Option (List A)
 |[]=>some []
 | .one a::r=>match BY r with|some l=>some (a::l)|none=>none
 | .agg _::_=>none
def sY:List Nat->List W->Option (List W)
 |[],l=>some l
 |0::r,u::l=>match sY r l with|some x=>some (u::x)|none=>none
 |0::_,[]=>some []
 |(k+1)::r,l=>match BY (l.take (k+1)),sY r (l.drop (k+1))with|some s,some x=>some (.agg s::x)|_,_=>none
theorem Z7 {n nb:Nat} {ρ:Env} {m:Nat->Nat}:∀{l:List W} {s:List A},BY l=some s->(∀u∈l,W.ok n nb ρ u)->(∀a∈s,A.ok n nb ρ a)/\s.map (A.den ρ m)=l.map (W.den ρ m)
 |[],s,h,_=>by cases h;exact⟨λ_ h=>by simp at h,rfl⟩
 | .one a::r,s,h,hu=>by
  unfold BY at h;cases h1:BY r with
  |none=>rw[h1]at h;cases h
  |some l=>
   rw[h1]at h;cases h;obtain⟨g1,g2⟩:=Z7 (m:=m) h1 λu od=>hu u (cx _ od);refine⟨λb hb=>?_,by rw[ch,ch,g2];rfl⟩;rcases List.mem_cons.1 hb with rfl|hb
   ·exact hu _ (ub ..)
   ·exact g1 b hb
 | .agg _::_,s,h,_=>by cases h
theorem IM {n nb:Nat} {ρ:Env} {m:Nat->Nat}:∀{g:List Nat} {l x:List W},(∀u∈l,W.ok n nb ρ u)->sY g l=some x->(∀u∈x,W.ok n nb ρ u)/\x.map (W.den ρ m)=lF g (l.map (W.den ρ m))
 |[],l,x,hu,h=>by cases h;exact⟨hu,rfl⟩
 |0::r,u::l,x,hu,h=>by
  unfold sY at h;cases h1:sY r l with
  |none=>rw[h1]at h;cases h
  |some y=>
   rw[h1]at h;cases h;obtain⟨g1,g2⟩:=IM (m:=m) (λu od=>hu u (cx _ od)) h1;refine⟨λb hb=>?_,by rw[ch,ch,g2];rfl⟩;rcases List.mem_cons.1 hb with rfl|hb
   ·exact hu _ (ub ..)
   ·exact g1 b hb
 |0::_,[],x,hu,h=>by cases h;exact⟨λ_ h=>by simp at h,rfl⟩
 |(k+1)::r,l,x,hu,h=>by
  unfold sY at h;cases h1:BY (l.take (k+1))with
  |none=>rw[h1]at h;cases h
  |some s=>
   cases h2:sY r (l.drop (k+1))with
   |none=>rw[h1,h2]at h;cases h
   |some y=>
    rw[h1,h2]at h;cases h;obtain⟨g1,g2⟩:=Z7 (m:=m) h1 λu od=>hu u (kh od);obtain⟨k1,k2⟩:=IM (m:=m) (λu od=>hu u (List.mem_of_mem_drop od)) h2;refine⟨λb hb=>?_,?_⟩
    ·rcases List.mem_cons.1 hb with rfl|hb
     ·exact g1
     ·exact k1 b hb
    ·show C0 (s.map (A.den ρ m)).toArray::y.map (W.den ρ m)= .agg ((l.map (W.den ρ m)).take (k+1)).toArray::lF r ((l.map (W.den ρ m)).drop (k+1));rw[g2,k2,zS,zT]
noncomputable def DN (g:List Nat) (us:List W) (k:List W->T):T:=match sY g us with|some x=>k x|none=> .stuck
theorem gK_holds {S:Nat->List Int->List Int->Prop} {L:V->Env->Prop} {G:c9} {ρ:Env} {g:List Nat} {us:List W} {k:List W->T} (h:(DN g us k).holds S L G ρ):∃x,sY g us=some x/\(k x).holds S L G ρ:=by
 unfold DN at h;cases h1:sY g us with
 |none=>rw[h1]at h;exact h.elim
 |some x=>rw[h1]at h;exact⟨x,rfl,h⟩
def q5:List Nat->List W->Option (List W)
 |[],l=>some l
 |0::r,u::l=>match q5 r l with|some x=>some (u::x)|none=>none
 |(k+1)::r,.agg s::l=>cond (aA s.length (k+1)) (match q5 r l with|some x=>some (s.map W.one++x)|none=>none) none
 |_,_=>none
theorem Lf {n nb:Nat} {ρ:Env} {m:Nat->Nat}:∀{g:List Nat} {l x:List W},(∀u∈l,W.ok n nb ρ u)->q5 g l=some x->(∀u∈x,W.ok n nb ρ u)/\lF g (x.map (W.den ρ m))=l.map (W.den ρ m)
 |[],l,x,hu,h=>by cases h;exact⟨hu,rfl⟩
 |0::r,u::l,x,hu,h=>by
  unfold q5 at h;cases h1:q5 r l with
  |none=>rw[h1]at h;cases h
  |some y=>
   rw[h1]at h;cases h;obtain⟨g1,g2⟩:=Lf (m:=m) (λu od=>hu u (cx _ od)) h1;refine⟨λb hb=>?_,by rw[ch,ch,<-g2];rfl⟩;rcases List.mem_cons.1 hb with rfl|hb
   ·exact hu _ (ub ..)
   ·exact g1 b hb
 |0::_,[],x,_,h=>by simp[q5]at h
 |(k+1)::r,.agg s::l,x,hu,h=>by
  unfold q5 at h;cases hc:aA s.length (k+1)with
  |false=>rw[hc]at h;cases h
  |true=>
   rw[hc]at h;simp only[cond_true]at h;have hc:=bo hc;cases h1:q5 r l with
   |none=>rw[h1]at h;cases h
   |some y=>
    rw[h1]at h;cases h;obtain⟨g1,g2⟩:=Lf (m:=m) (λu od=>hu u (cx _ od)) h1;have hs:∀a∈s,A.ok n nb ρ a:=hu _ (ub ..);refine⟨λb hb=>?_,?_⟩
    ·rcases List.mem_append.1 hb with hb|hb
     ·obtain⟨a,ha,rfl⟩:=List.mem_map.1 hb;exact hs a ha
     ·exact g1 b hb
    ·have e:(s.map W.one++y).map (W.den ρ m)=s.map (A.den ρ m)++y.map (W.den ρ m):=by rw[fl,jf];rfl
     rw[e];show C0 ((s.map (A.den ρ m)++y.map (W.den ρ m)).take (k+1)).toArray::lF r ((s.map (A.den ρ m)++y.map (W.den ρ m)).drop (k+1))=C0 (s.map (A.den ρ m)).toArray::l.map (W.den ρ m);rw[<-hc,<-jW (as:=s) (f:=A.den ρ m),SK,ua,g2]
 |(k+1)::_,.one _::_,x,_,h=>by simp[q5]at h
 |(k+1)::_,[],x,_,h=>by simp[q5]at h
def m1:List Nat->List V->Option (List V)
 |[],l=>some l
 |0::r,u::l=>match m1 r l with|some x=>some (u::x)|none=>none
 |(k+1)::r,.w (.agg s)::l=>cond (aA s.length (k+1)) (match m1 r l with|some x=>some (s.map (λa=> .w (.one a))++x)|none=>none) none
 |_,_=>none
theorem T6 {ρ:Env} {m:Nat->Nat}:∀{a b:List V} {x y:List ax},db ρ m a x->db ρ m b y->db ρ m (a++b) (x++y)
 |[],_,[],_,_,h=>h
 |v::a,b,x::xs,y,h1,h2=>⟨h1.1,T6 h1.2 h2⟩
 |[],_,_::_,_,h,_=>h.elim
 |_::_,_,[],_,h,_=>h.elim
theorem T8 {ρ:Env} {m:Nat->Nat}:∀s:List A,db ρ m (s.map λa=>V.w (.one a)) (s.map (A.den ρ m))
 |[]=>trivial
 |a::s=>⟨rfl,T8 s⟩
theorem Sb {n nb:Nat} {ρ:Env} {m:Nat->Nat}:∀{g:List Nat} {l x:List V} {xs:List ax},(∀v∈l,V.ok n nb ρ v)->db ρ m l xs->m1 g l=some x->(∀v∈x,V.ok n nb ρ v)/\∃fA,db ρ m x fA/\lF g fA=xs
 |[],l,x,xs,hu,hr,h=>by cases h;exact⟨hu,xs,hr,rfl⟩
 |0::r,u::l,x,[],hu,hr,h=>hr.elim
 |0::r,u::l,x,v::xs,hu,hr,h=>by
  unfold m1 at h;cases h1:m1 r l with
  |none=>rw[h1]at h;cases h
  |some y=>
   rw[h1]at h;cases h;obtain⟨g1,fA,g2,g3⟩:=Sb (λu od=>hu u (cx _ od)) hr.2 h1;refine⟨λb hb=>?_,v::fA,⟨hr.1,g2⟩,by rw[<-g3];rfl⟩;rcases List.mem_cons.1 hb with rfl|hb
   ·exact hu _ (ub ..)
   ·exact g1 b hb
 |0::_,[],x,_,_,_,h=>by simp[m1]at h
 |(k+1)::r,.w (.agg s)::l,x,[],hu,hr,h=>hr.elim
 |(k+1)::r,.w (.agg s)::l,x,v::xs,hu,hr,h=>by
  unfold m1 at h;cases hc:aA s.length (k+1)with
  |false=>rw[hc]at h;cases h
  |true=>
   rw[hc]at h;simp only[cond_true]at h;have hc:=bo hc;cases h1:m1 r l with
   |none=>rw[h1]at h;cases h
   |some y=>
    rw[h1]at h;cases h;obtain⟨g1,fA,g2,g3⟩:=Sb (λu od=>hu u (cx _ od)) hr.2 h1;have hs:∀a∈s,A.ok n nb ρ a:=hu _ (ub ..);have hv:v=C0 (s.map (A.den ρ m)).toArray:=hr.1;refine⟨λb hb=>?_,s.map (A.den ρ m)++fA,T6 (T8 s) g2,?_⟩
    ·rcases List.mem_append.1 hb with hb|hb
     ·obtain⟨a,ha,rfl⟩:=List.mem_map.1 hb;exact hs a ha
     ·exact g1 b hb
    ·show C0 ((s.map (A.den ρ m)++fA).take (k+1)).toArray::lF r ((s.map (A.den ρ m)++fA).drop (k+1))=v::xs;rw[<-hc,<-jW (as:=s) (f:=A.den ρ m),SK,ua,g3,hv]
 |(k+1)::_,[],x,_,_,_,h=>by simp[m1]at h
 |(k+1)::_,.w (.one _)::_,x,_,_,_,h=>by simp[m1]at h
 |(k+1)::_,.e6 _::_,x,_,_,_,h=>by simp[m1]at h
 |(k+1)::_,.any::_,x,_,_,_,h=>by simp[m1]at h
 |(k+1)::_,.pj .. ::_,x,_,_,_,h=>by simp[m1]at h
 |(k+1)::_,.mI .. ::_,x,_,_,_,h=>by simp[m1]at h
structure eD where
 c:cY
 wy:List Nat
 gr:List Nat
def eD.dW (P:bk) (wb:ai) (c:eD) (spec:List Int->List Int->Prop):Prop:=(∀args w,(callFunc c.c.f args).run P w= .ok (.enter c.c.f args) w)/\∀(F:Nat->Prop) (w:ai) (vs:List ax) (zs:List Int),wb.Extends w->bd (bR c.c.args) zs->vq c.c.pre zs->fT F (λ_=>False) w c.c.args zs vs->gZ P c.c.f (lF c.wy vs).toArray w λe w'=>w.Extends w'/\∃rs us,bd (bR c.c.res) rs/\spec zs rs/\fT (λg=>F g∨w.heap.size<=g) (λg=>w.heap.size<=g) w' c.c.res rs us/\e= .returned (lO (lF c.gr us))
noncomputable def eD.rp (c:eD) (n:Nat) (vs:List V) (bl:List aj) (k:RK):T:=sW true bl c.c.args vs n λls n1=>cond (kN c.c.res&&(!(c.c.res.any bG.js)||ov vs)) (FO c.c.pre ls (.call c.c.id ls n1 (bR c.c.res) (nX c.c.res n1 (n1+(bR c.c.res).length) [] (cond (c.c.res.any bG.js) (uG (vs.flatMap fL) bl) bl) λn2 us gC=>DN c.gr us λx=>k n2 (qk x) gC))) .stuck
noncomputable def eD.Mm (c:eD) (n:Nat) (vs:List V) (bl:List aj) (k:RK):T:=cond (c.c.res.any bG.js&& !ov vs) (tN c.c.args vs bl n λq n1=>c.rp n1 q.1 q.2 k) (c.rp n vs bl k)
noncomputable def eD.TW (c:eD) (n:Nat) (vs:List V) (bl:List aj) (k:RK):T:=c.Mm n vs bl k
noncomputable def eD.E (c:eD) (n:Nat) (vs:List V) (bl:List aj) (k:RK):T:=match m1 c.wy vs with
 |some us=>c.TW n us bl k
 |none=> .stuck
noncomputable def Q4 (bl:List aj) (gr:List Nat) (ds:List bG) (v:V):M (List O):=
 match v with
 | .w u=>match q5 gr [u]with|some ws=>Cf bl ds ws|none=>fail
 | .e6 l=>cond (aA l.length 1) fail (match q5 gr l with|some ws=>Cf bl ds ws|none=>fail)
 |_=>fail
noncomputable def eD.tree (bc:ig) (P:bk) (gl:dA) (cal:ed) (li:cB->Nat->Option dc) (rounds d:Nat) (c:eD):T:=cond (kN c.c.args&& !(c.c.args.any bG.j5)) (FN c.c.pre ((cD (bR c.c.args).length).map zc) (nX c.c.args 0 (bR c.c.args).length [] [] λn us bl=>DN c.wy us λx=>yf bc P gl cal li rounds d c.c.f n (x.map V.w) bl λn' v aG=>Q4 aG c.gr c.c.res v n' λos _=> .leaf (tz os))) .stuck
def NK:List bG->List V->Bool
 | .d (.nD _ c)::r,.w (.one (.int _ x))::s=>match x.l.dq with
  |some d=>decide (d=c)&&NK r s
  |none=>false
 |_::r,_::s=>NK r s
 |_,_=>true
def NL (p:eD) (vs:List V):Bool:=match m1 p.wy vs with
 |some us=>NK p.c.args us
 |none=>false
noncomputable def wz:List eD->ig->ig
 |[],bc=>bc
 |p::r,bc=>λf=>cond (aA p.c.f f) (some λn vs bl k=>cond (NL p vs) (p.E n vs bl k) (match wz r bc f with
  |some g=>g n vs bl k
  |none=> .stuck)) (wz r bc f)
section
variable {S:Nat->List Int->List Int->Prop} {L:V->Env->Prop} {w0:cI} {P:bk}
theorem asO {gr:List Nat} {ds:List bG} {v:V} {val:ax} {n:Nat} {ρ:Env} {m:Nat->Nat} {bl:List aj} {w:ai} (hex:∀g,¬w0.ex g) (hb:bU n bl.length ρ bl) (hw:Mem w0 ρ m bl w) (hv:v.ok n bl.length ρ) (hr:v.rel ρ m val):
 ao S L (Q4 bl gr ds v) n ρ λae n' os=>∃us,val=lO (lF gr us)/\fT (F0 w0) (λg=>w0.r.heap.size<=g) w ds (os.map (O.den ae)) us:=by
 unfold Q4;split
 ·rename_i u;split
  ·rename_i ws h;obtain⟨g1,g2⟩:=Lf (m:=m) (λx hx=>by simp at hx;subst hx;exact hv) h;refine(KI hex hb hw g1).mono λay n1 os hn ha ⟨k1,k2⟩=>⟨_,?_,k2⟩;rw[g2];exact hr
  ·exact ao.fail
 ·rename_i l;cases hc:aA l.length 1 with
  |true=>exact ao.fail
  |false=>
   simp only[cond_false];split
   ·rename_i ws h;obtain⟨g1,g2⟩:=Lf (m:=m) hv h;refine(KI hex hb hw g1).mono λay n1 os hn ha ⟨k1,k2⟩=>⟨_,?_,k2⟩;rw[g2];have hr:val= .tuple (l.map (W.den ρ m)).toArray:=hr;rw[hr];unfold lO;split
    ·rename_i x hx;exfalso;have hl:l.length=1:=by have:=congrArg jg hx;simpa using this
     rw[hl]at hc;cases hc
    ·rfl
   ·exact ao.fail
 ·exact ao.fail
theorem eD.Hv {c:eD} {spec:List Int->List Int->Prop} {f:cB} {Dc:Array ax} (hS:∀zs rs,spec zs rs->S c.c.id zs rs) (n:Nat) (vs:List V) (bl:List aj) (k:RK) (G:c9) (ρ:Env) (m:Nat->Nat) (w:ai) (xs:List ax) (R':qw->ai->Prop)
 (hc:∀zs,bd (bR c.c.args) zs->vq c.c.pre zs->fT (oN w0 ρ m bl (vs.flatMap fL) (vs.flatMap jO)) (λ_=>False) w c.c.args zs xs->
   gZ P f Dc w λe w'=>w.Extends w'/\∃rs us,bd (bR c.c.res) rs/\spec zs rs/\fT (λg=>oN w0 ρ m bl (vs.flatMap fL) (vs.flatMap jO) g∨w.heap.size<=g) (λg=>w.heap.size<=g) w' c.c.res rs us/\e= .returned (lO (lF c.gr us)))
 (hb:bU n bl.length ρ bl) (hw:Mem w0 ρ m bl w) (hv:∀v∈vs,V.ok n bl.length ρ v) (hr:db ρ m vs xs) (ag:(c.rp n vs bl k).holds S L G ρ) (hk:pJ S L w0 k n bl.length ρ m G R'):
 gZ P f Dc w R':=by
 unfold eD.rp at ag;obtain⟨ay,n1,ls,eY,dz,⟨g1,g2,g3⟩,ag⟩:=NQ (S:=S) (L:=L) hb hw hv hr G _ ag;cases hq:(kN c.c.res&&(!(c.c.res.any bG.js)||ov vs))with
 |false=>rw[hq]at ag;exact ag.elim
 |true=>
  rw[hq]at ag;simp only[cond_true]at ag;obtain⟨gf,ag⟩:=preM_holds ag;simp only[T.holds]at ag;simp only[aQ,pD,iP]at hq;refine(hc _ g2 gf (g3 _ λ_ h=>h)).mono ?_
  rintro e w' ⟨he,rs,us,r1,r2,r3,rfl⟩
  have ag:=kM ag r1 (hS _ _ r2);have hb1:=hb.ext dz eY (aV bl.length);have Pw:=(hw.grow he).dQ hb dz;have cU:agree n1 ay (bh ay n1 rs):=agree.bh rs n1 ay;have hb2:=hb1.ext cU (CO n1 (bR c.c.res).length) (aV bl.length);have uX:=Pw.dQ hb1 cU;have hA:fJ (bh ay n1 rs) n1 rs:=fJ.bh ay n1 rs;have EG:rs.length=(bR c.c.res).length:=gp r1;have lG:=dz.trans cU eY;have yy:cJ n bl.length ρ m (n1+(bR c.c.res).length) bl.length (bh ay n1 rs) m:=⟨by omega,lG,aV _,λ_ _=>rfl⟩;have ft:∀(i:Nat) (p:aj),bl[i]?=some p->aS (bh ay n1 rs) p.1=aS ρ p.1:=λi p hi=>mn (hb p (cM hi)) lG;have uO:∀(i:Nat) (p:aj),bl[i]?=some p->w.heap.size<=m i->aS ρ p.1=0:=λi p hi e8=>by
   by_cases h0:aS ρ p.1=0
   ·exact h0
   ·have:=hw.lt hi h0;omega
  have fin:∀aG:List aj,bU (n1+(bR c.c.res).length) aG.length (bh ay n1 rs) aG->Mem w0 (bh ay n1 rs) m aG w'->aG.length=bl.length->
   (∀(i:Nat) (p:aj),aG[i]?=some p->(oN w0 ρ m bl (vs.flatMap fL) (vs.flatMap jO) (m i)∨w.heap.size<=m i)->(c.c.res.any bG.js)=true->aS (bh ay n1 rs) p.1<=1)->
   (∀(i:Nat) (p:aj),aG[i]?=some p->w.heap.size<=m i->aS (bh ay n1 rs) p.1=0)->(∀g,w.heap.size<=g->na w0 (bh ay n1 rs) m aG w' g)->
   (nX c.c.res n1 (n1+(bR c.c.res).length) [] aG λn2 us gC=>DN c.gr us λx=>k n2 (qk x) gC).holds S L G (bh ay n1 rs)->R' (.returned (lO (lF c.gr us))) w':=λaG hb' nC hlen dk Ou kn ag=>by
   have hF:∀g,(oN w0 ρ m bl (vs.flatMap fL) (vs.flatMap jO) g∨w.heap.size<=g)->w0.ex g∨w0.ro g∨w0.r.heap.size<=g:=λg hg=>by
    rcases hg with(hg|hg)|hg
    ·exact hg.2
    ·exact hg.1
    ·exact .inr (.inr (gx hw.ew hg))
   have hN:∀g,w.heap.size<=g->w0.b.heap.size<=g/\w0.r.heap.size<=g:=λg hg=>⟨gx hw.ext.size hg,gx hw.ew hg⟩;have h1:(c.c.res.all λb=> !b.js)=true∨∀(i:Nat) (p:aj),aG[i]?=some p->(oN w0 ρ m bl (vs.flatMap fL) (vs.flatMap jO) (m i)∨w.heap.size<=m i)->aS (bh ay n1 rs) p.1<=1:=by
    cases lJ:c.c.res.any bG.js with
    |true=>exact .inr λi p hi hf=>dk i p hi hf lJ
    |false=>
     left
     rw[pC];intro b hb;cases dL:b.js with
     |false=>rfl
     |true=>rw[List.any_eq_true.2 ⟨b,hb,dL⟩]at lJ;cases lJ
   obtain⟨n',ae,m',jR,gC,p1,aJ,bb,b7,dD,eo⟩:=sL (S:=S) (L:=L) hF hN (l:=c.c.res) (us:=[]) (vals:=us) hq.1 hb' nC hA r1 (aV _) r3 h1 (.inr Ou) (.inr kn) (λu hu=>by simp at hu) ag;obtain⟨x,hx1,hx2⟩:=gK_holds eo;obtain⟨eb,gP⟩:=IM (m:=m') dD hx1;have jG:=KJ (m:=m') eb (vals:=lF c.gr us) (by rw[gP];congr 1);exact hk n' (qk x) gC G ae m' w' (lO (lF c.gr us)) (yy.trans (hlen▸p1)) (dI.refl _ _) jG.1 jG.2 aJ bb hx2
  cases lJ:c.c.res.any bG.js with
  |false=>
   rw[lJ]at ag;exact fin bl hb2 uX rfl (λ_ _ _ _ h=>by rw[lJ]at h;cases h) (λi p hi e8=>by rw[ft i p hi];exact uO i p hi e8) (λg hg=>(hw.we he hg).dQ hb lG) ag
  |true=>
   rw[lJ]at ag hq;obtain⟨f1,f2,f3,f4⟩:=AP (bs:=vs.flatMap fL) uX hb2;have lh:ov vs=true:=by
    rcases hq.2 with h|h
    ·cases h
    ·exact h
   refine fin _ (by rw[f3];exact f2) f1 f3 (λi p hi hf _=>?_) (λi p hi e8=>?_) (λg hg=>(AP (bs:=vs.flatMap fL) (hw.dQ hb lG) hb2).1.we he hg) ag
   ·obtain⟨p',h1,h2,h3⟩:=f4 i p hi;rw[ft i p' h1]at h2;rcases hf with(⟨⟨b,D6,uK,q,nA,oc,Pg⟩,_⟩|ob)|e8
    rotate_left
    ·rcases m6 (aS ρ p'.1) 2 with bE|bE
     ·omega
     ·exact absurd rfl (ob.2 i p' h1 bE)
    rotate_left
    ·obtain⟨aL,o,ro,len,cap,jE⟩:=Qu lh D6;rcases hw.inj i b p' q h1 nA (by rw[uK])with h5|h5|h5|h5
     ·subst h5;rw[h1]at nA;cases nA;cases ho:bI p'.1 with
      |false=>exact h3 D6 ho
      |true=>
       have:=Pg ho;rw[Qt lh]at this;simp at this
     ·omega
     ·omega
     ·exact absurd h5 oc
    ·have:=uO i p' h1 e8;omega
   ·obtain⟨p',h1,h2,_⟩:=f4 i p hi;rw[ft i p' h1]at h2;have:=uO i p' h1 e8;omega
theorem eD.Hw {c:eD} {spec:List Int->List Int->Prop} (hc:c.dW P w0.b spec) (hS:∀zs rs,spec zs rs->S c.c.id zs rs) (n:Nat) (vs:List V) (bl:List aj) (k:RK) (G:c9) (ρ:Env) (m:Nat->Nat) (w:ai) (xs:List ax) (R':qw->ai->Prop)
 (hb:bU n bl.length ρ bl) (hw:Mem w0 ρ m bl w) (hv:∀v∈vs,V.ok n bl.length ρ v) (hr:db ρ m vs xs) (ag:(c.rp n vs bl k).holds S L G ρ) (hk:pJ S L w0 k n bl.length ρ m G R'):
 gZ P c.c.f (lF c.wy xs).toArray w R':=
 eD.Hv hS n vs bl k G ρ m w xs R' (λzs h1 h2 h3=>hc.2 _ w xs zs hw.ext h1 h2 h3) hb hw hv hr ag hk
theorem eD.adU {c:eD} {spec:List Int->List Int->Prop} (hc:c.dW P w0.b spec) (hS:∀zs rs,spec zs rs->S c.c.id zs rs) (n:Nat) (vs:List V) (bl:List aj) (k:RK) (G:c9) (ρ:Env) (m:Nat->Nat) (w:ai) (xs:List ax) (R':qw->ai->Prop)
 (hb:bU n bl.length ρ bl) (hw:Mem w0 ρ m bl w) (hv:∀v∈vs,V.ok n bl.length ρ v) (hr:db ρ m vs xs) (ag:(c.Mm n vs bl k).holds S L G ρ) (hk:pJ S L w0 k n bl.length ρ m G R'):
 gZ P c.c.f (lF c.wy xs).toArray w R':=by
 unfold eD.Mm at ag;cases hq:(c.c.res.any bG.js&& !ov vs)with
 |false=>rw[hq]at ag;exact c.Hw hc hS n _ _ k G ρ m w xs R' hb hw hv hr ag hk
 |true=>
  rw[hq]at ag;simp only[cond_true]at ag;obtain⟨ay,n1,q,hn,ha,⟨g1,g2,g3,g4,g5⟩,ag⟩:=R0 (S:=S) (L:=L) (ds:=c.c.args) hw hb hv hr G _ ag;refine c.Hw hc hS n1 _ _ k G ay m w xs R' g2 g1 (λv hv=>by rw[g3];exact g4 v hv) g5 ag ?_;rw[g3];intro n' v aG da ae m' w' val h1 h2 h3 h4 h5 h6 h7;exact hk n' v aG da ae m' w' val (cJ.trans ⟨hn,ha,aV _,λ_ _=>rfl⟩ h1) (λl hl=>h2 l (tX hl hn)) h3 h4 h5 h6 h7
theorem eD.ui {c:eD} {spec:List Int->List Int->Prop} (hc:c.dW P w0.b spec) (hS:∀zs rs,spec zs rs->S c.c.id zs rs) (n:Nat) (vs:List V) (bl:List aj) (k:RK) (G:c9) (ρ:Env) (m:Nat->Nat) (w:ai) (xs:List ax) (R':qw->ai->Prop)
 (hb:bU n bl.length ρ bl) (hw:Mem w0 ρ m bl w) (hv:∀v∈vs,V.ok n bl.length ρ v) (hr:db ρ m vs xs) (ag:(c.E n vs bl k).holds S L G ρ) (hk:pJ S L w0 k n bl.length ρ m G R'):
 (callFunc c.c.f xs.toArray).run P w= .ok (.enter c.c.f xs.toArray) w/\gZ P c.c.f xs.toArray w R':=by
 refine⟨hc.1 _ _,?_⟩;unfold eD.E at ag;cases hq:m1 c.wy vs with
 |none=>rw[hq]at ag;exact ag.elim
 |some us=>
  rw[hq]at ag;obtain⟨eb,fA,gP,kc⟩:=Sb hv hr hq;have ag:(c.TW n us bl k).holds S L G ρ:=ag;rw[<-kc];exact c.adU hc hS n _ _ k G ρ m w fA R' hb hw eb gP ag hk
theorem IJ {bc:ig} (gd:l4 S L w0 P bc):∀{l:List eD},(∀p∈l,p.dW P w0.b (S p.c.id))->l4 S L w0 P (wz l bc)
 |[],_=>gd
 |p::l,h=>λf g hf=>by
  unfold wz at hf;cases hb:aA p.c.f f with
  |true=>
   rw[hb]at hf;simp only[cond_true,aK]at hf;have:=bo hb;subst this;subst hf;intro n vs bl k G ρ m w xs R' h1 h2 h3 h4 h5 h6;have h5:(cond (NL p vs) (p.E n vs bl k) (match wz l bc p.c.f with
    |some g=>g n vs bl k
    |none=> .stuck)).holds S L G ρ:=h5
   cases hq:NL p vs with
   |true=>
    rw[hq]at h5;exact eD.ui (h p (by simp)) (λ_ _ h=>h) n vs bl k G ρ m w xs R' h1 h2 h3 h4 h5 h6
   |false=>
    rw[hq]at h5;simp only[cond_false]at h5;cases hr:wz l bc p.c.f with
    |none=>rw[hr]at h5;exact h5.elim
    |some g'=>
     rw[hr]at h5;exact IJ gd (λp hp=>h p (cx _ hp)) p.c.f g' hr n vs bl k G ρ m w xs R' h1 h2 h3 h4 h5 h6
  |false=>
   rw[hb]at hf;exact IJ gd (λp hp=>h p (cx _ hp)) f g hf
theorem eD.xg {wb:ai} {gl:dA} {c:eD} {bc:ig} {cal:ed} {li:cB->Nat->Option dc} {rounds d:Nat} {spec:List Int->List Int->Prop} (hm:P.follows .mixedOrders=true) (cp:∀r ex ro,fp S P gl ⟨wb,r,ex,ro,[]⟩ cal) (hg:eN gl ⟨wb,wb,λ_=>False,λ_=>False,[]⟩)
 (gd:∀(L:V->Env->Prop) (r:ai) (ro:Nat->Prop),l4 S L ⟨wb,r,λ_=>False,ro,[]⟩ P bc) (hf:∀args w,(callFunc c.c.f args).run P w= .ok (.enter c.c.f args) w)
 (ht:oR (bR c.c.args) λzs=>(c.tree bc P gl cal li rounds d).holds S (pI λrs=>bd (bR c.c.res) rs/\spec zs rs) (λ_ _=>False) (bh (λ_=>0) 0 zs)):c.dW P wb spec:=by
 refine⟨hf,λF w vs zs hw hz yT hat=>?_⟩;have ag:=kM ht hz;have mO:=gp hz;unfold eD.tree at ag;cases hq:(kN c.c.args&& !(c.c.args.any bG.j5))with
 |false=>rw[hq]at ag;exact ag.elim
 |true=>
  rw[hq]at ag;simp only[cond_true]at ag;have ag:=preA_holds ag (by rw[<-mO,FD];exact yT);simp only[aQ,iP]at hq;have jE:Mem ⟨wb,w,λ_=>False,F,[]⟩ (bh (λ_=>0) 0 zs) (λ_=>0) [] w:=⟨hw,rfl,rfl,rfl,aV _,λ_ _ _=>rfl,λi cs t h=>by simp at h,λi sh off code cap kind t h=>by simp at h,λi j p q h=>by simp at h⟩;have hall:(c.c.args.all λb=> !b.j5)=true:=by
   rw[pC];intro b hb;cases dL:b.j5 with
   |false=>rfl
   |true=>rw[List.any_eq_true.2 ⟨b,hb,dL⟩]at hq;cases hq.2
  obtain⟨n',ae,m',us,bl,p1,aJ,bb,b7,dD,eo⟩:=sL (S:=S) (L:=_) (w0:=⟨wb,w,λ_=>False,F,[]⟩) (F:=F) (N:=λ_=>False) (λg hg=> .inr (.inl hg)) (λg hg=>hg.elim) (l:=c.c.args) (s:=0) (us:=[]) (bl:=[]) (m:=λ_=>0) hq.1 (λp hp=>by simp at hp) jE (fJ.bh _ 0 zs) hz (by omega) hat (.inr λi p h=>by simp at h) (.inl hall) (.inl hall) (λu hu=>by simp at hu) ag;have Em:eN gl ⟨wb,w,λ_=>False,F,[]⟩:=hg;obtain⟨x,hx1,hx2⟩:=gK_holds eo;obtain⟨eb,gP⟩:=IM (m:=m') dD hx1;refine(Dr (S:=S) (w0:=⟨wb,w,λ_=>False,F,[]⟩) rfl hm (cp w (λ_=>False) F) Em (gd _ _ _) d c.c.f n' (x.map V.w) bl _ _ ae m' w (lF c.wy vs) _ aJ bb (λv hv=>by
   obtain⟨u,hu,rfl⟩:=List.mem_map.1 hv;exact eb u hu) (Hy (by rw[gP];congr 1)) hx2 ?_).2
  intro n2 v aG da bn m2 w' val h1 h2 h3 h4 h5 h6 h7;obtain⟨eM,n3,os,rV,p3,⟨xs,hx1,hx2⟩,hl⟩:=asO (S:=S) (w0:=⟨wb,w,λ_=>False,F,[]⟩) (λg hg=>hg) h5 h6 h3 h4 da _ h7;have hl:pI _ (tz os) eM:=hl;rw[HA]at hl;refine⟨?_,os.map (O.den eM),xs,hl.1,hl.2,?_,by rw[hx1]⟩
  ·have hblk:∀i:Nat,i<w.heap.size->w'.heap[i]?=w.heap[i]?:=λi hi=>h6.gi i hi λh=>h;exact⟨h6.jo,h6.jr,h6.iF,h6.ew,λa ha=>by simp only[jx,hblk a.block ha],λa ha=>by simp only[tZ,hblk a.block ha],hblk⟩
  ·exact cY.xg.x8 (λg hg=>by
    rcases hg with hg|hg|hg
    ·exact hg.elim
    ·exact .inl hg
    ·exact .inr hg) (λg hg=>hg) hx2
end
end Go.aW
namespace Go.aW
open M Go.RowKit
variable {S:Nat->List Int->List Int->Prop} {L:V->Env->Prop} {P:bk} {gl:dA} {cal:ed}
def Ml (P:bk) (f:cB):Prop:=(∀args w,(callFunc f args).run P w= .ok (.enter f args) w)/\∀(l bs oS:Nat) (sv:ax) (g off len cap c:Nat) (J:Nat->ai->Prop) (W:ai),0<c->len<=0x7fffffffffffffff->c∣len->len<=cap->c<=0x7fffffffffffffff->(sv= .slice (some ⟨g,off,none⟩) len cap∨((∃p,sv= .slice p 0 0)/\len=0))->(∀i W,J i W->W.cell? ⟨bs,0,none⟩=some sv/\W.cell? ⟨oS,0,none⟩=some (.int .i64 c))->(∀i W,J i W->J i W.drew)->(∀i W,J i W->c*i<len->YieldAt Aa 0 P l #[.slice (some ⟨g,off+c*i,none⟩) c c] W λe W'=>e= .returned (.bool true)/\J (i+1) W')->J 0 W->CallsIn Aa 0 P f #[.func (.yield l) #[] #[],.pointer (some ⟨bs,0,none⟩),.pointer (some ⟨oS,0,none⟩)] W λe W'=>(∃v,e= .returned v)/\J (len/c) W'
def C1 (F:Nat->Prop) (w:ai) (F':Nat->Prop) (w':ai):Prop:=∀g,F g->∀cs t fz,w.heap[g]?=some (.cells cs t fz)->F' g/\w'.heap[g]?=some (.cells cs t fz)
theorem ry.qg {F F':Nat->Prop} {w w':ai} {sh:List av} {rows:List (List Int)} {v:ax} (h:ry F w sh rows v) (hf:C1 F w F' w'):ry F' w' sh rows v:=by
 rcases h with h|⟨g,o,cap,cells,t,fz,h1,h2,h3,h4,h5⟩
 ·exact .inl h
 ·obtain⟨k1,k2⟩:=hf g h3 _ _ _ h4;exact .inr ⟨g,o,cap,cells,t,fz,h1,h2,k1,k2,h5⟩
theorem qI.qg {F F':Nat->Prop} {w w':ai} {c:av} {z:Int} {v:ax} (h:qI F w c z v) (hf:C1 F w F' w'):qI F' w' c z v:=by
 cases c with
 |sub k=>exact ry.qg (F:=F) (w:=w) h hf
 |_=>exact h
theorem ea.qg {F F':Nat->Prop} {w w':ai} (hf:C1 F w F' w'):∀{sh:List av} {row:List Int} {vs:List ax},ea F w sh row vs->ea F' w' sh row vs
 |[],[],[],_=>trivial
 |c::sh,z::r,v::vs,h=>⟨h.1.qg hf,ea.qg hf h.2⟩
 |[],_::_,_,h=>h.elim
 |[],[],_::_,h=>h.elim
 |_::_,[],_,h=>h.elim
 |_::_,_::_,[],h=>h.elim
theorem eF.qg {F F':Nat->Prop} {w w':ai} (hf:C1 F w F' w') {sh:List av}:∀{rows:List (List Int)} {vs:List ax},eF F w sh rows vs->eF F' w' sh rows vs
 |[],_,h=>h
 |row::rows,vs,h=>by
  obtain⟨a,b,h1,h2,h3⟩:=h;exact⟨a,b,h1,h2.qg hf,eF.qg hf h3⟩
theorem iy.qg {F F':Nat->Prop} {w w':ai} {cells:Array ax} {off:Nat} {sh:List av} {rows:List (List Int)} (h:iy F w cells off sh rows) (hf:C1 F w F' w'):iy F' w' cells off sh rows:=by
 obtain⟨h1,pre,vs,post,h2,h3,h4⟩:=h;exact⟨h1,pre,vs,post,h2,h3,h4.qg hf⟩
theorem VU {b w w':ai} (h:b.Extends w) (h1:w'.os=w.os) (h2:w'.tape=w.tape) (h3:w'.output=w.output) (h4:w.heap.size<=w'.heap.size) (h5:∀k,k<b.heap.size->w'.heap[k]?=w.heap[k]?):b.Extends w':=
 ⟨h1.trans h.os,h2.trans h.tape,h3.trans h.output,gx h.size h4,λa ha=>(World.cell?_of_block (h5 _ ha)).trans (h.cell a ha),λa ha=>(World.frozen?_of_block (h5 _ ha)).trans (h.frozen a ha),λi hi=>(h5 i hi).trans (h.block i hi)⟩
theorem Mem.zD {b r r':ai} {ex ro:Nat->Prop} {ds yj:List vO} {ρ:Env} {m:Nat->Nat} {bl:List aj} {w w':ai} (h:Mem ⟨b,r,ex,ro,ds⟩ ρ m bl w) (l:Nat) (hl:b.heap.size<=l) (hex:¬ex l) (hlt:l<r.heap.size)
 (hr:r'.os=r.os/\r'.tape=r.tape/\r'.output=r.output/\r'.heap.size=r.heap.size) (hw:w'.os=w.os/\w'.tape=w.tape/\w'.output=w.output/\w'.heap.size=w.heap.size)
 (h1:∀k,k≠l->r'.heap[k]?=r.heap[k]?) (h2:∀k,k≠l->w'.heap[k]?=w.heap[k]?) (h3:w'.heap[l]?=r'.heap[l]?) (hc:∀o:Obj,r.heap[l]?=some o->o.isCells=false):Mem ⟨b,r',ex,ro,yj⟩ ρ m bl w':=by
 have alz:w.heap[l]?=r.heap[l]?:=h.gi l hlt hex;have ne:∀{g:Nat} {cs:Array ax} {t:aR} {fz:Nat×Nat},w.heap[g]?=some (.cells cs t fz)->g≠l:=λ{g cs t fz} hg e=>by
  subst e;rw[alz]at hg;have:=hc _ hg;simp[Obj.isCells]at this
 refine⟨VU h.ext hw.1 hw.2.1 hw.2.2.1 (by omega) (λk hk=>h2 k (by simp only at hl hk;omega)),by rw[hw.1,h.jo];exact hr.1.symm,by rw[hw.2.1,h.jr];exact hr.2.1.symm,by rw[hw.2.2.1,h.iF];exact hr.2.2.1.symm,by have:=h.ew;simp only at this⊢;omega,λi hi hx=>?_,λi cs t hi ho=>?_,λi sh off code cap kind t hi=>?_,h.inj⟩
 ·by_cases e:i=l
  ·subst e;exact h3
  ·rw[h2 i e,h1 i e];exact h.gi i (by simp only at hi⊢;omega) hx
 ·obtain⟨g1,g2,zx,mj,g3⟩:=h.blk i cs t hi ho;refine⟨g1,g2.imp id λh=>?_,zx,mj,by rw[h2 _ (ne g3)];exact g3⟩;simp only at h⊢;omega
 ·intro hk;obtain⟨g1,g2⟩:=h.rws i sh off code cap kind t hi hk;refine⟨g1,λcv=>?_⟩;obtain⟨k1,cells,t',fz,k2,k3,k4⟩:=g2 cv;refine⟨k1.imp id (·.imp id λh=>by simp only at h⊢;omega),cells,t',fz,by rw[h2 _ (ne k2)];exact k2,⟨k3.1,k3.2.qg λg hg cs t fz hc=>⟨⟨hg.1.imp id (·.imp id λh=>by simp only at h⊢;omega),hg.2⟩,by rw[h2 _ (ne hc)];exact hc⟩⟩,λDT=>?_⟩;obtain⟨cm,eT,j6,ml,nG,jI⟩:=k4 DT;exact⟨cm,eT,j6,ml,nG,jI.imp id λh=>by simp only at h⊢;omega⟩
structure Sub (w1 w0:cI):Prop where
 b:w1.b=w0.b
 os:w1.r.os=w0.r.os
 tape:w1.r.tape=w0.r.tape
 out:w1.r.output=w0.r.output
 size:w0.r.heap.size<=w1.r.heap.size
 ex:∀g,w1.ex g∨w1.r.heap.size<=g->w0.ex g∨w0.r.heap.size<=g
 ro:∀g,w1.ro g->w0.ro g
 gi:∀i,i<w0.r.heap.size->¬w0.ex i->w1.r.heap[i]?=w0.r.heap[i]?
theorem Mem.less {w1 w0:cI} {ρ:Env} {m:Nat->Nat} {bl:List aj} {w:ai} (h:Mem w1 ρ m bl w) (s:Sub w1 w0):Mem w0 ρ m bl w:=by
 refine⟨s.b▸h.ext,h.jo.trans s.os,h.jr.trans s.tape,h.iF.trans s.out,gx s.size h.ew,λi hi hx=>?_,λi cs t hi ho=>?_,λi sh off code cap kind t hi=>?_,h.inj⟩
 ·have hne:¬w1.ex i:=λe=>by
   rcases s.ex i (.inl e)with e|e
   ·exact hx e
   ·omega
  exact(h.gi i (tX hi s.size) hne).trans (s.gi i hi hx)
 ·obtain⟨g1,g2,g3⟩:=h.blk i cs t hi ho;exact⟨s.b▸g1,s.ex _ g2,g3⟩
 ·intro hk;obtain⟨g1,g2⟩:=h.rws i sh off code cap kind t hi hk;refine⟨g1,λcv=>?_⟩;obtain⟨k1,cells,t',fz,k2,k3,k4⟩:=g2 cv;refine⟨?_,cells,t',fz,k2,⟨k3.1,k3.2.qg λg hg cs t fz hc=>⟨⟨?_,hg.2⟩,hc⟩⟩,λDT=>?_⟩
  rotate_left
  ·rcases hg.1 with k1|k1|k1
   ·exact(s.ex _ (.inl k1)).imp id .inr
   ·exact .inr (.inl (s.ro _ k1))
   ·exact(s.ex _ (.inr k1)).imp id .inr
  rotate_left
  ·rcases k1 with k1|k1|k1
   ·exact(s.ex _ (.inl k1)).imp id .inr
   ·exact .inr (.inl (s.ro _ k1))
   ·exact(s.ex _ (.inr k1)).imp id .inr
  ·obtain⟨cm,eT,j6,ml,nG,jI⟩:=k4 DT;exact⟨cm,eT,j6,ml,s.b▸nG,s.ex _ jI⟩
def narrow (w0:cI) (W:ai) (ds:List vO):cI:=⟨w0.b,W,λg=>(w0.ex g∨w0.r.heap.size<=g)/\∃o:Obj,W.heap[g]?=some o/\o.isCells=true,w0.ro,ds⟩
theorem Mem.narrow {w0:cI} {ρ:Env} {m:Nat->Nat} {bl:List aj} {w:ai} (h:Mem w0 ρ m bl w) (ds:List vO):Mem (narrow w0 w ds) ρ m bl w:=by
 refine⟨h.ext,rfl,rfl,rfl,aV _,λ_ _ _=>rfl,λi cs t hi ho=>?_,λi sh off code cap kind t hi=>?_,h.inj⟩
 ·obtain⟨g1,g2,zx,mj,g3⟩:=h.blk i cs t hi ho;exact⟨g1,.inl ⟨g2,_,g3,rfl⟩,zx,mj,g3⟩
 ·intro hk;obtain⟨g1,g2⟩:=h.rws i sh off code cap kind t hi hk;refine⟨g1,λcv=>?_⟩;obtain⟨k1,cells,t',fz,k2,k3,k4⟩:=g2 cv;refine⟨?_,cells,t',fz,k2,⟨k3.1,k3.2.qg λg hg cs t fz hc=>⟨⟨?_,hg.2⟩,hc⟩⟩,λDT=>?_⟩
  rotate_left
  ·rcases hg.1 with k1|k1|k1
   ·exact .inl ⟨.inl k1,_,hc,rfl⟩
   ·exact .inr (.inl k1)
   ·exact .inl ⟨.inr k1,_,hc,rfl⟩
  rotate_left
  ·rcases k1 with k1|k1|k1
   ·exact .inl ⟨.inl k1,_,k2,rfl⟩
   ·exact .inr (.inl k1)
   ·exact .inl ⟨.inr k1,_,k2,rfl⟩
  ·obtain⟨cm,eT,j6,ml,nG,jI⟩:=k4 DT;exact⟨cm,eT,j6,ml,nG,.inl ⟨jI,_,k2,rfl⟩⟩
theorem Sub.narrow {w0:cI} {ρ:Env} {m:Nat->Nat} {bl:List aj} {w:ai} (h:Mem w0 ρ m bl w) (ds:List vO):Sub (narrow w0 w ds) w0:=
 ⟨rfl,h.jo,h.jr,h.iF,h.ew,λg hg=>by
  rcases hg with hg|hg
  ·exact hg.1
  ·exact .inr (gx h.ew hg),λ_ h=>h,λi hi hx=>h.gi i hi hx⟩
theorem Sub.zD {w0:cI} {b r r':ai} {ex ro:Nat->Prop} {ds yj:List vO} (s:Sub ⟨b,r,ex,ro,ds⟩ w0) (l:Nat) (hl:w0.r.heap.size<=l) (hr:r'.os=r.os/\r'.tape=r.tape/\r'.output=r.output/\r'.heap.size=r.heap.size)
 (h1:∀k,k≠l->r'.heap[k]?=r.heap[k]?):Sub ⟨b,r',ex,ro,yj⟩ w0:=
 ⟨s.b,hr.1.trans s.os,hr.2.1.trans s.tape,hr.2.2.1.trans s.out,by have:=s.size;simp only at this⊢;omega,λg hg=>s.ex g (hg.imp id λh=>by simp only at h⊢;omega),s.ro,λi hi hx=>by
  rw[h1 i (by omega)];exact s.gi i hi hx⟩
theorem Mem.ds {b r:ai} {ex ro:Nat->Prop} {ds yj:List vO} {ρ:Env} {m:Nat->Nat} {bl:List aj} {w:ai} (h:Mem ⟨b,r,ex,ro,ds⟩ ρ m bl w):Mem ⟨b,r,ex,ro,yj⟩ ρ m bl w:=
 ⟨h.ext,h.jo,h.jr,h.iF,h.ew,h.gi,h.blk,h.rws,h.inj⟩
theorem fp.ds {b r:ai} {ex ro:Nat->Prop} {ds yj:List vO} (h:fp S P gl ⟨b,r,ex,ro,ds⟩ cal):fp S P gl ⟨b,r,ex,ro,yj⟩ cal:=λf g hf L n ρ m bl vs xs h1 h2 h3 h4=>by
 obtain⟨w,hw⟩:=h2
 exactλG Ab ag=>by
  obtain⟨ae,n',v,k1,k2,⟨k3,val,k4,mm⟩,mR⟩:=h f g hf L n ρ m bl vs xs h1 ⟨w,hw.ds⟩ h3 h4 G Ab ag;exact⟨ae,n',v,k1,k2,⟨k3,val,k4,λw hw=>mm w hw.ds⟩,mR⟩
noncomputable def QX (P:bk) (gl:dA) (cal:ed) (inl:ij) (li:Nat->Option dc) (rounds:Nat) (cells:List (Nat×Nat×Int×Int)) (sU:cB) (g:Operand) (ps:Array Tmp) (assign body:Code) (n:Nat) (tm:List V) (bl:List aj) (k:fC):T:=
 match bK tm g,ps.toList,hb cells 0 (n+1) bl with
 | .mI f [.ptr bs 0,.ptr oS 0],[p],some (dp,l2,b2)=>match bl[bs]?,bl[oS]?,dp[bs]?,dp[oS]? with
  |some ([.sl b aL o ro len cap],_),some ([.int .i64 N],_),some ([xs],_),some ([GH],_)=>match N.l.dq with
   |some c=>cond (aA f sU&&decide (0<c)&&decide (c<=0x7fffffffffffffff)&&aA aL 1&&kx assign&&kx body&&ld tm tm&&k9 dp dp&&A.beq xs (.sl b aL o ro len cap)&&A.beq GH (.int .i64 N)&&bI [xs]&&bI [GH])
    (.oU 70 [len,.const c] (.loop n (l2++[.const 0]) (n+1) (b2++[(0,0x7fffffffffffffff)])
      (.ux (.lt ((U.var (n+1+l2.length)).smul c) len)
        (k7 P gl cal inl li rounds assign (n+1+l2.length+1) (oz tm p (.w (.one (.sl b 1 o (ro.add ((U.var (n+1+l2.length)).smul c)) (.const c) (.const c))))) dp λx n' bq aG=>match x with
          | .normal=>k7 P gl cal inl li rounds body n' bq aG λx n' bq aG=>match x with
           | .normal=>match hb cells 0 (n+1) (aG.take bl.length)with
            |some (mF,v2,_)=>cond (k9 dp mF) (.again n (v2++[(U.var (n+1+l2.length)).add (.const 1)])) .stuck
            |none=> .stuck
           |_=> .stuck
          |_=> .stuck)
        (k (n+1+l2.length+1) tm dp)))) .stuck
   |none=> .stuck
  |_,_,_,_=> .stuck
 |_,_,_=> .stuck
theorem X6 {eC:List Nat}:∀(tm:List V) (i s:Nat),(∀j,i<=j->j<i+tm.length->eC.any (aA j)=true)->hs eC [] i s tm=some (tm,[],[])
 |[],_,_,_=>rfl
 |v::r,i,s,h=>by
  unfold hs;rw[h i (aV _) (by simp),X6 r (i+1) s λj h1 h2=>h j (by omega) (by simp only[dj];omega)];rfl
theorem Y2 (tm:List V) (s:Nat):hs (cD tm.length) [] 0 s tm=some (tm,[],[]):=
 X6 tm 0 s λj _ h=>List.any_eq_true.2 ⟨j,List.mem_range.2 (by omega),CM j⟩
theorem tB (w:ai) (l:Nat) (o:Obj):(w.putObj l o).os=w.os/\(w.putObj l o).tape=w.tape/\(w.putObj l o).output=w.output/\(w.putObj l o).heap.size=w.heap.size:=⟨rfl,rfl,rfl,SZ⟩
theorem Mem.cell0 {w0:cI} {ρ:Env} {m:Nat->Nat} {bl:List aj} {w:ai} (h:Mem w0 ρ m bl w) {i:Nat} {x:A} {t:aR×Bool} (hi:bl[i]?=some ([x],t)) (ho:bI [x]=true):w.cell? ⟨m i,0,none⟩=some (x.den ρ m):=by
 obtain⟨_,_,r,_,h3⟩:=h.blk i _ t hi ho;simp[jx,h3]
def Mk (I:List Int->Prop) (w0:cI) (W1:ai) (n:Nat) (ρ:Env) (m:Nat->Nat) (tm:List V) (dp:List aj) (b2:List (Int×Int)) (k2:Nat) (tmps:Array ax) (i:Nat) (W:ai):Prop:=∃zs,zs.length=k2/\bd (b2++[(0,0x7fffffffffffffff)]) (zs++[(i:Int)])/\I (zs++[(i:Int)])/\R (narrow w0 W1 []) (n+1+k2+1) (bh ρ (n+1) (zs++[(i:Int)])) m tm dp {tmps:=tmps,defers:=[]} W
theorem asD {w0:cI} {inl:ij} {li:Nat->Option dc} {rounds:Nat} {cells:List (Nat×Nat×Int×Int)} {sU:cB} {g:Operand} {ps:Array Tmp} {assign body:Code} (iV:Ml P sU) (hm:P.follows .mixedOrders=true)
 (cp:∀r ex ro,fp S P gl ⟨w0.b,r,ex,ro,[]⟩ cal) (hg:eN gl w0) (iD:∀r ex ro,lA S L ⟨w0.b,r,ex,ro,[]⟩ P inl)
 {n:Nat} {ρ:Env} {m:Nat->Nat} {tm:List V} {bl:List aj} {a:Act} {w:ai} {G:c9} {k:fC} {Q:Exit->Act->ai->Prop} (h:R w0 n ρ m tm bl a w) (mM:w0.ds=[])
 (ag:(QX P gl cal inl li rounds cells sU g ps assign body n tm bl k).holds S L G ρ)
 (hk:∀n' ae bq aG da w1 D a' w',cJ n bl.length ρ m n' (jg aG) ae m->dI n G da->Sub w1 w0->¬w1.ex D->w1.r.heap[D]?=some (.deferred (some []))->w0.r.heap.size<=D->w0.b.heap.size<=D->w1.ds=[{target:= .collected D,args:=#[]}]->
   R w1 n' ae m bq aG a' w'->(k n' bq aG).holds S L da ae->Q .normal a' w'):(Code.rangeFunc g ps assign body).wpIn Aa 0 P Q a w:=by
 unfold QX at ag;split at ag
 rotate_left
 ·exact ag.elim
 rename_i f bs oS p dp l2 b2 e1 e2 e3;split at ag
 rotate_left
 ·exact ag.elim
 rename_i b aL o ro len cap ts N aCP xs mZ GH aCW q1 q2 q3 dr;split at ag
 rotate_left
 ·exact ag.elim
 rename_i c hc;generalize gS:(aA f sU&&decide (0<c)&&decide (c<=0x7fffffffffffffff)&&aA aL 1&&kx assign&&kx body&&ld tm tm&&k9 dp dp&&A.beq xs (.sl b aL o ro len cap)&&A.beq GH (.int .i64 N)&&bI [xs]&&bI [GH])=mH at ag;cases mH with
 |false=>exact ag.elim
 |true=>
 simp only[aQ,decide_eq_true_eq]at gS;obtain⟨⟨⟨⟨⟨⟨⟨⟨⟨⟨⟨c1,c2⟩,c3⟩,c4⟩,c5⟩,c6⟩,kj⟩,mG⟩,qH⟩,ye⟩,afA⟩,afB⟩:=gS;have c1:=bo c1;have c4:=bo c4;subst c1;subst c4;have qH:=A.beq_eq qH;have ye:=A.beq_eq ye;subst qH;subst ye;simp only[cond_true,T.holds]at ag;obtain⟨A2,I,fo,N9,hB⟩:=ag;have A2:c∣len.den ρ:=by simpa [ah,uz,U.aO]using A2
 have O9:A.ok n bl.length ρ (.sl b 1 o ro len cap):=h.b _ (cM q1) _ (by simp);obtain⟨OA,⟨rW,ny,Bd,Jk⟩,o8⟩:=O9;obtain⟨⟨s1,s2,ez,Ck⟩,⟨Rs,Cl⟩,Rt,abd⟩:=o8;have akh:a.eval g= .func (.func f) #[] #[.pointer (some ⟨m bs,0,none⟩),.pointer (some ⟨m oS,0,none⟩)]:=by
  have:=(cc h.t g).2;rw[e1]at this;exact this
 have akW:ps=#[p]:=by rw[<-Array.toArray_toList (xs:=ps),e2]
 subst akW;refine wpIn_rangeFunc ?_;intro fn hfn;obtain⟨rec,yV⟩:∃rec:LoopState->Option Code->Loop,rec=λst ar5=>{state:=st,pending:=ar5,fn,tmps:=a.tmps,params:=#[p],assign,body,defers:=w.heap.size}:=⟨_,rfl⟩;obtain⟨W1,IY⟩:∃W1,(w.alloc (.deferred (some []))).alloc (.loop (rec .ready none))=W1:=⟨_,rfl⟩;have o1:W1.heap[w.heap.size+1]?=some (.loop (rec .ready none)):=by
  rw[<-IY];have:=azc (w.alloc (.deferred (some []))) (.loop (rec .ready none));rwa [World.size_alloc]at this
 have Oa:W1.heap[w.heap.size]?=some (.deferred (some [])):=by
  rw[<-IY];exact(Below.heap_alloc _ _ _ (by simp)).trans (azc w _)
 have uR:w.heap.size+1<W1.heap.size:=(Array.getElem?_eq_some_iff.1 o1).1;have WL:Mem w0 ρ m bl W1:=by rw[<-IY];exact h.a6.grow (((m8 w).alloc _).alloc _)
 have hbl:w0.b.heap.size<=w.heap.size:=h.a6.ext.size;have EG:w0.r.heap.size<=w.heap.size:=h.a6.ew;generalize hl:w.heap.size+1=l at*;generalize me:w.heap.size=D at*;have yF:∀(k:Nat) (o:Obj),W1.heap[k]?=some o->o.isCells=false->¬(narrow w0 W1 []).ex k:=λk o hk ho ⟨_,cg,h1,h2⟩=>by
  rw[hk]at h1;cases h1;rw[ho]at h2;cases h2
 have ael:R (narrow w0 W1 []) n ρ m tm bl {tmps:=a.tmps,defers:=[]} W1:=⟨h.t,rfl,h.b,WL.narrow []⟩;have Js:∀v∈tm,V.ok n bl.length ρ v:=λv hv=>by
  obtain⟨i,hi⟩:=List.getElem?_of_mem hv;exact(h.t.2 i v hi).1
 have Nt:hb cells 0 (n+1+([]:List U).length) bl=some (dp,l2,b2):=e3;obtain⟨Ex,aAR⟩:=D5 e3;have head:∀{n':Nat} {ae:Env} {m':Nat->Nat} {aG mF:List aj} {v2:List U} {rD:List (Int×Int)} {W:ai} {x:U},bl.length<=aG.length->agree n ρ ae->(∀b,b<bl.length->m' b=m b)->
  R (narrow w0 W1 []) n' ae m' tm aG {tmps:=a.tmps,defers:=[]} W->hb cells 0 (n+1) (aG.take bl.length)=some (mF,v2,rD)->k9 dp mF=true->
  v2.length=l2.length/\bd b2 (v2.map (·.den ae))/\R (narrow w0 W1 []) (n+1+l2.length+1) (bh ρ (n+1) (v2.map (·.den ae)++[x.den ae])) m tm dp {tmps:=a.tmps,defers:=[]} W:=λ{n' ae m' aG mF v2 rD W x} k1 k2 k3 k4 mm mR=>by
  obtain⟨cm,eT,j6,_⟩:=Xt (li:={eC:=cD tm.length,ints:=[],cells:=cells}) (ext:=[x]) k1 k2 k3 Js h.b k4 (Y2 tm (n+1)) Nt (Y2 tm (n+1)) (v2:=v2) mm kj mR (λ_ h=>h) k4.a6.rws;simp only[fe,sB,kG,gv,dj,fl,ch,ec]at cm eT j6;exact⟨cm,eT,j6⟩
 obtain⟨i0,i1,i2⟩:=head (x:= .const 0) (aV _) (agree.refl n ρ) (λ_ _=>rfl) ael (by rw[SF];exact e3) mG;have aik:Mk I w0 W1 n ρ m tm dp b2 l2.length a.tmps 0 W1:=by
  refine⟨l2.map (·.den ρ),by simp,r5 i1 ⟨by simp,by simp,trivial⟩,?_,by simpa [U.aO]using i2⟩;simpa [U.aO]using N9
 have still:∀{i:Nat} {W:ai} {k:Nat} {o:Obj},Mk I w0 W1 n ρ m tm dp b2 l2.length a.tmps i W->W1.heap[k]?=some o->o.isCells=false->W.heap[k]?=some o:=λ{i W k o} hJ hk ho=>by
  obtain⟨zs,af,z2,z3,z4⟩:=hJ;exact(z4.a6.gi k (Array.getElem?_eq_some_iff.1 hk).1 (yF k o hk ho)).trans hk
 obtain⟨C,hC⟩:∃C:Nat,(C:Int)=c:=⟨c.toNat,adi (by omega)⟩;obtain⟨mC,Od⟩:∃mC:Nat,(mC:Int)=len.den ρ:=⟨(len.den ρ).toNat,adi (by omega)⟩;have OG:C∣mC:=by rw[<-hC,<-Od]at A2;exact Int.natCast_dvd_natCast.1 A2
 have ajQ:mC<=(cap.den ρ).toNat:=by
  by_cases h0:cap.den ρ<0
  ·have:=Rt h0;omega
  ·have:=abd (by omega);omega
 have JC:∀{i:Nat} {zs:List Int},zs.length=l2.length->bh ρ (n+1) (zs++[(i:Int)]) (n+1+l2.length)=i:=λ{i zs} hz=>by
  rw[Cz _ _ _ _ (by simp[hz]),<-hz];simp
 have jk:∀{i:Nat} {zs:List Int},agree n ρ (bh ρ (n+1) (zs++[(i:Int)])):=λ{i zs}=>(agree.bh _ (n+1) ρ).mono (by omega);have main:=iV.2 l (m bs) (m oS) ((A.sl b 1 o ro len cap).den ρ m) (m b) ((o.den ρ).toNat+(ro.den ρ).toNat) mC (cap.den ρ).toNat C (Mk I w0 W1 n ρ m tm dp b2 l2.length a.tmps) W1 (by omega) (by omega) OG ajQ (by omega)
  (by
    simp only[A.den];by_cases h0:cap.den ρ<0
    ·rw[if_pos h0];have:=Rt h0;exact .inr ⟨⟨_,rfl⟩,by omega⟩
    ·rw[if_neg h0];refine .inl ?_;rw[show(len.den ρ).toNat=mC by omega,Hd])
  (λi W hJ=>by
    obtain⟨zs,af,z2,z3,z4⟩:=hJ;have eb:=z4.a6.cell0 q3 afA;have gP:=z4.a6.cell0 dr afB;have O9:A.ok n bl.length ρ (.sl b 1 o ro len cap):=h.b _ (cM q1) _ (by simp);have akM:A.ok n bl.length ρ (.int .i64 N):=h.b _ (cM q2) _ (by simp);rw[A.j1 O9 jk (λ_ _=>rfl)]at eb;rw[A.j1 akM jk (λ_ _=>rfl)]at gP;refine⟨eb,gP.trans ?_⟩;simp only[A.den,U.il hc,hC])
  (λi W hJ=>by
    obtain⟨zs,af,z2,z3,z4⟩:=hJ;exact⟨zs,af,z2,z3,z4.t,z4.d,z4.b,z4.a6.grow (Ha (m8 W))⟩)
  ?_ aik
 ·refine⟨l,[{target:= .collected D,args:=#[]}],W1,{target:= .fn (.func f) #[.pointer (some ⟨m bs,0,none⟩),.pointer (some ⟨m oS,0,none⟩)],args:=#[.func (.yield l) #[] #[]]},W1,f,
   #[.func (.yield l) #[] #[],.pointer (some ⟨m bs,0,none⟩),.pointer (some ⟨m oS,0,none⟩)],W1,?_,?_,λk8 XA=>trivial,?_,λhs=>by simp[Aa]at hs,?_⟩
  ·rw[<-IY,yV,<-hl,<-me];exact run_enterLoop_outer _ _ _ _ _
  ·simp only[resolve,akh];simp[go_sem]
  ·simp[invoke,go_sem,iV.1]
  ·refine main.mono ?_
   rintro e W2 ⟨⟨v,rfl⟩,hJ⟩
   have Jd:=still hJ o1 rfl;have aAM:=still hJ Oa rfl;obtain⟨zs,af,z2,z3,z4⟩:=hJ;have s4:=(kM hB z2 z3).2;have wP:len.den (bh ρ (n+1) (zs++[((mC/C:Nat):Int)]))=mC:=by rw[U.bw jk Bd,Od]
   have hq:C*(mC/C)=mC:=Nat.mul_div_cancel' OG;have rP:bf.den (bh ρ (n+1) (zs++[((mC/C:Nat):Int)])) (.lt ((U.var (n+1+l2.length)).smul c) len)=false:=by
    simp only[bf.den,U.kk,U.cj,JC af,wP,decide_eq_false_iff_not];rw[<-hC];have:(C:Int)*((mC/C:Nat):Int)=(mC:Int):=by exact_mod_cast hq
    omega
   have s4:=s4 rP;refine⟨none,_,by have:=run_endLoop (P:=P) Jd (by rw[yV];simp);rw[yV]at this;exact this,?_⟩;simp only;obtain⟨Mo,aih⟩:∃o,o=Obj.loop {({state:= .ready,pending:=none,fn,tmps:=a.tmps,params:=#[p],assign,body,defers:=D}:Loop)with state:= .exhausted}:=⟨_,rfl⟩;rw[<-aih];have ad4:Mem ⟨w0.b,W1.putObj l Mo,(narrow w0 W1 []).ex,w0.ro,[{target:= .collected D,args:=#[]}]⟩ (bh ρ (n+1) (zs++[((mC/C:Nat):Int)])) m dp (W2.putObj l Mo):=
    Mem.zD z4.a6 l (by omega) (yF l _ o1 rfl) uR (tB _ _ _) (tB _ _ _) (λk hk=>sC hk) (λk hk=>sC hk) (by rw[vT (Array.getElem?_eq_some_iff.1 Jd).1,vT uR]) (λo ho=>by rw[o1]at ho;cases ho;rfl)
   refine hk _ _ _ _ _ ⟨w0.b,W1.putObj l Mo,(narrow w0 W1 []).ex,w0.ro,[{target:= .collected D,args:=#[]}]⟩ D _ _ ⟨by omega,jk,by omega,λ_ _=>rfl⟩ (λbJ te=>?_) (Sub.zD (Sub.narrow WL []) l (by omega) (tB _ _ _) (λk hk=>sC hk)) (yF D _ Oa rfl) ((sC (by omega)).trans Oa) EG hbl rfl ⟨z4.t,?_,z4.b,ad4⟩ s4
   ·unfold c9.set;cases hb:aA bJ n with
    |true=>have:=bo hb;omega
    |false=>rfl
   ·show _++a.defers=_;rw[h.d,mM];rfl
 ·
  intro i W hJ hlt;have Jd:=still hJ o1 rfl;obtain⟨zs,af,z2,z3,z4⟩:=hJ;have s4:=(kM hB z2 z3).1;have wP:len.den (bh ρ (n+1) (zs++[(i:Int)]))=mC:=by rw[U.bw jk Bd,Od]
  have rP:bf.den (bh ρ (n+1) (zs++[(i:Int)])) (.lt ((U.var (n+1+l2.length)).smul c) len)=true:=by
   simp only[bf.den,U.kk,U.cj,JC af,wP,decide_eq_true_eq];rw[<-hC];exact_mod_cast hlt
  have s4:=s4 rP;have iW:C*i+C<=mC:=by
   obtain⟨q,rfl⟩:=OG;have:i<q:=Nat.lt_of_mul_lt_mul_left hlt;have:C*(i+1)<=C*q:=Lz C this;rw[Nat.mul_succ]at this;omega
  have ajP:¬cap.den ρ<0:=λh0=>by have:=Rt h0;omega
  have Ea:=abd (by omega);have hid:(ro.add ((U.var (n+1+l2.length)).smul c)).den (bh ρ (n+1) (zs++[(i:Int)]))=ro.den ρ+(C*i:Nat):=by
   rw[U.den_add,U.kk,U.cj,JC af,U.bw jk ny,<-hC];simp
  have XX:o.den (bh ρ (n+1) (zs++[(i:Int)]))=o.den ρ:=U.bw jk rW;have EM:(V.w (.one (.sl b 1 o (ro.add ((U.var (n+1+l2.length)).smul c)) (.const c) (.const c)))).ok (n+1+l2.length+1) dp.length (bh ρ (n+1) (zs++[(i:Int)])):=by
   refine⟨by omega,⟨rW.mono (by omega),U.sj (ny.mono (by omega)) (U.tI (U.er (by omega))),U.cr _ _,U.cr _ _⟩,?_⟩;rw[hid,XX,U.aO];exact⟨⟨s1,by omega,by omega,by omega⟩,⟨by omega,by omega⟩,λh=>by omega,λ_=>bO _⟩
  have alw:(V.w (.one (.sl b 1 o (ro.add ((U.var (n+1+l2.length)).smul c)) (.const c) (.const c)))).rel (bh ρ (n+1) (zs++[(i:Int)])) m (.slice (some ⟨m b,(o.den ρ).toNat+(ro.den ρ).toNat+C*i,none⟩) C C):=by
   simp only[V.rel,aW.W.den,A.den,hid,XX,U.aO,Hd];rw[if_neg (by omega),show c.toNat=C by omega,show(ro.den ρ+(C*i:Nat)).toNat=(ro.den ρ).toNat+C*i by omega,Nat.add_assoc]
  have WR:R (narrow w0 W1 []) (n+1+l2.length+1) (bh ρ (n+1) (zs++[(i:Int)])) m (oz tm p (.w (.one (.sl b 1 o (ro.add ((U.var (n+1+l2.length)).smul c)) (.const c) (.const c))))) dp
   (({tmps:=a.tmps,defers:=[]}:Act).put (some p) (.slice (some ⟨m b,(o.den ρ).toNat+(ro.den ρ).toNat+C*i,none⟩) C C)) W:=
   ⟨dn.put z4.t (some p) EM alw,z4.d,z4.b,z4.a6⟩
  have hy:=run_yield (P:=P) (args:=#[.slice (some ⟨m b,(o.den ρ).toNat+(ro.den ρ).toNat+C*i,none⟩) C C]) Jd (by rw[yV];rfl);rw[yV]at hy;have ag3:(({tmps:=a.tmps,defers:=[]}:Act).put (some p) (.slice (some ⟨m b,(o.den ρ).toNat+(ro.den ρ).toNat+C*i,none⟩) C C))={tmps:=((#[p]:Array Tmp).zip #[CT (some ⟨m b,(o.den ρ).toNat+(ro.den ρ).toNat+C*i,none⟩) C C]).foldl (λtmps (t,a)=>tmps.setIfInBounds t a) a.tmps,defers:=[]}:=by
   simp[Act.put]
  rw[ag3]at WR;refine⟨fn,_,assign,body,hy,roundIn_of_wpIn trivial ?_⟩;refine AB (rd:=some l) hm (cp _ _ _) (λg cs h=>hg g cs h) (iD _ _ _) assign (.inr c5) _ _ _ _ _ _ _ _ W _ WR s4 λx n1 ay dE Lc Dk G1 a1 w1 g1 g2 g3 g4=>?_;cases x with
  |exit id=>exact g4.elim
  |ret=>exact g4.elim
  |normal=>
   simp only at g4;have XM:w1.heap[l]?=some (.loop (rec .ready none)):=(g3.a6.gi l uR (yF l _ o1 rfl)).trans o1;obtain⟨xO,N7⟩:∃o,o=Obj.loop {rec .ready none with state:= .busy}:=⟨_,rfl⟩;have ah9:xO.isCells=false:=by rw[N7];rfl
   have M2:Mem ⟨w0.b,W1.putObj l xO,(narrow w0 W1 []).ex,w0.ro,[]⟩ ay dE Dk (w1.putObj l xO):=
    Mem.zD g3.a6 l (by omega) (yF l _ o1 rfl) uR (tB _ _ _) (tB _ _ _) (λk hk=>sC hk) (λk hk=>sC hk) (by rw[vT (Array.getElem?_eq_some_iff.1 XM).1,vT uR]) (λo ho=>by rw[o1]at ho;cases ho;rfl)
   refine⟨w1.putObj l xO,by rw[N7];exact run_beginRound XM (by rw[yV]),?_⟩;refine AB (rd:=some l) hm (cp _ _ _) (λg cs h=>hg g cs h) (iD _ _ _) body (.inr c6) n1 Lc Dk _ G1 ay dE a1 _ _ (⟨g3.t,g3.d,g3.b,M2⟩:R ⟨w0.b,W1.putObj l xO,(narrow w0 W1 []).ex,w0.ro,[]⟩ n1 ay dE Lc Dk a1 (w1.putObj l xO)) g4 λx n2 bn m2 auL gC T0 a2 w2 k1 k2 k3 k4=>?_;cases x with
   |exit id=>exact k4.elim
   |ret=>exact k4.elim
   |normal=>
    simp only at k4;split at k4
    rotate_left
    ·exact k4.elim
    rename_i mF v2 rD e4;cases hf:k9 dp mF with
    |false=>rw[hf]at k4;exact k4.elim
    |true=>
    rw[hf]at k4;simp only[cond_true,T.holds]at k4;have Jb:w2.heap[l]?=some xO:=(k3.a6.gi l (by rw[SZ];exact uR) (yF l _ o1 rfl)).trans (vT uR);have akv:=(Array.getElem?_eq_some_iff.1 Jb).1;rw[N7]at Jb;refine⟨_,_,run_endRound none Jb,rfl,?_⟩;have ak5:({{rec .ready none with state:= .busy}with state:=if(none:Option Code).isNone then .ready else .done,pending:=none}:Loop)=rec .ready none:=by rw[yV];rfl
    rw[ak5];have ad3:Mem (narrow w0 W1 []) bn m2 gC (w2.putObj l (.loop (rec .ready none))):=
     Mem.zD k3.a6 l (by omega) (yF l _ o1 rfl) (by rw[SZ];exact uR) ⟨rfl,rfl,rfl,World.putObj_size.symm⟩ (tB _ _ _) (λk hk=>(sC hk).symm) (λk hk=>sC hk) (by rw[vT akv,o1]) (λo ho=>by rw[vT uR]at ho;cases ho;exact ah9)
    have Ob:cJ n bl.length ρ m (n+1+l2.length+1) dp.length (bh ρ (n+1) (zs++[(i:Int)])) m:=⟨by omega,jk,by omega,λ_ _=>rfl⟩;have yx:=(Ob.trans g1).trans k1;have aeo:R (narrow w0 W1 []) n2 bn m2 tm gC {tmps:=a.tmps,defers:=[]} (w2.putObj l (.loop (rec .ready none))):=⟨h.t.ext yx.ha yx.hn yx.hb yx.hm,rfl,k3.b,ad3⟩;obtain⟨fO,lP,oD⟩:=head (x:=(U.var (n+1+l2.length)).add (.const 1)) yx.hb yx.ha yx.hm aeo e4 hf;have YC:bn (n+1+l2.length)=i:=by rw[(g1.trans k1).ha _ (by omega),JC af]
    have hx:((U.var (n+1+l2.length)).add (.const 1)).den bn=((i+1:Nat):Int):=by rw[U.den_add,U.cj,U.aO,YC];simp
    rw[hx]at oD;have N8:T0 n=λvs=>I vs/\fo vs<fo (zs++[(i:Int)]):=by
     rw[k2 n (by have:=g1.hn;omega),g2 n (by omega)];unfold c9.set;rw[show aA n n=true from CM n];rfl
    rw[N8,fl,ch,ec,hx]at k4;have:i+1<=mC:=by
     have:=Nat.mul_le_mul_right i (show 1<=C by omega);omega
    exact⟨v2.map (·.den bn),by simp[fO],r5 lP ⟨by omega,by omega,trivial⟩,k4.1,oD⟩
noncomputable def H3 (P:bk) (gl:dA) (cal:ed) (inl:ij) (li:cB->Nat->Option dc) (rounds:Nat) (cells:List (Nat×Nat×Int×Int)) (sU:cB):ij:=
 λf n vs bl k=>match P.funcs[f]? with
  |none=> .stuck
  |some fn=>match fn.body with
   |some (.seq bW (.seq (.seq c1 (.block _ (.rangeFunc g ps assign body))) c3))=>cond (!(fn.name== "runtime.NumGoroutine")&&bp vs.length fn.ntmps)
    (k7 P gl cal inl (li f) rounds bW n (vs++Cd (fn.ntmps-vs.length)) bl λx n tm bl=>match x with
      | .normal=>k7 P gl cal inl (li f) rounds c1 n tm bl λx n tm bl=>match x with
       | .normal=>QX P gl cal inl (li f) rounds cells sU g ps assign body n tm bl λn tm bl=>
        k7 P gl cal (λ_ _ _ _ _=> .stuck) (li f) rounds c3 n tm bl λx n tm bl=>match x with
         | .exit _=> .stuck
         |_=>Gh P gl fn n tm bl k
       |_=> .stuck
      |_=> .stuck) .stuck
   |_=> .stuck
theorem al4 {w0:cI}:lA S L w0 P (λ_ _ _ _ _=> .stuck):=λf n vs bl k G ρ m w xs R' _ _ _ _ ag _=>ag.elim
theorem aft {w0:cI} {inl:ij} {li:cB->Nat->Option dc} {rounds:Nat} {cells:List (Nat×Nat×Int×Int)} {sU:cB} (iV:Ml P sU) (hm:P.follows .mixedOrders=true)
 (cp:∀r ex ro,fp S P gl ⟨w0.b,r,ex,ro,[]⟩ cal) (hg:eN gl w0) (iD:∀r ex ro,lA S L ⟨w0.b,r,ex,ro,[]⟩ P inl) (mM:w0.ds=[]):lA S L w0 P (H3 P gl cal inl li rounds cells sU):=by
 have Yj:w0=⟨w0.b,w0.r,w0.ex,w0.ro,[]⟩:=by cases w0;simp at mM;subst mM;rfl
 have Xk:fp S P gl w0 cal:=by rw[Yj];exact cp _ _ _
 have XE:lA S L w0 P inl:=by rw[Yj];exact iD _ _ _
 intro f n vs bl k G ρ m w xs R' hb jE kt hrel ag hk;unfold H3 at ag;cases hf:P.funcs[f]? with
 |none=>simp[hf,T.holds]at ag
 |some fn=>
  simp only[hf]at ag;split at ag
  rotate_left
  ·exact ag.elim
  rename_i bW c1 id g ps assign body c3 uM;cases hc:(!(fn.name== "runtime.NumGoroutine")&&bp vs.length fn.ntmps)with
  |false=>simp[hc,T.holds]at ag
  |true=>
   simp only[hc,cond_true]at ag;simp only[aQ,iP]at hc;have hlen:=MA hrel;refine⟨?_,?_⟩
   ·have h1:¬fn.name= "runtime.NumGoroutine" :=by have:=hc.1;simpa using this
    simp[callFunc,hf,uM,h1]
   ·refine(callsIn_wide (n:=0)).1 (callsIn_of_wp_marks hf uM trivial ?_ rfl);have hR:R w0 n ρ m (vs++Cd (fn.ntmps-vs.length)) bl {tmps:=xs.toArray++sz (fn.ntmps-xs.toArray.size) undef,defers:=[]} w:=by
     refine⟨?_,mM.symm,hb,jE⟩;have:=HH (Mz (fn.ntmps-vs.length) kt hrel);have e:(xs++eh (fn.ntmps-vs.length) undef).toArray=xs.toArray++sz (fn.ntmps-xs.toArray.size) undef:=by
      simp[hlen]
     rw[e]at this;exact this
    refine wpIn_seq (AB (rd:=none) hm Xk hg XE bW (.inl rfl) n _ bl _ G ρ m _ w _ hR ag λx n1 ay dE Lc Dk G1 a1 w1 h1 h2 h3 h4=>?_);cases x with
    |exit id=>exact h4.elim
    |ret=>exact h4.elim
    |normal=>
    refine wpIn_seq (wpIn_seq (AB (rd:=none) hm Xk hg XE c1 (.inl rfl) n1 Lc Dk _ G1 ay dE a1 w1 _ h3 h4 λx n2 bn m2 auL gC T0 a2 w2 k1 k2 k3 k4=>?_));cases x with
    |exit id=>exact k4.elim
    |ret=>exact k4.elim
    |normal=>
    refine wpIn_block (asD iV hm cp hg iD k3 mM k4 λn3 eM auM afs adW b3 D a3 w3 p1 aJ bb b7 dD eo pn B0 aak aaj=>?_);have ajN:fp S P gl b3 cal:=by
     have e:b3=⟨w0.b,b3.r,b3.ex,b3.ro,b3.ds⟩:=by have:=bb.b;cases b3;simp at this;subst this;rfl
     rw[e];exact(cp _ _ _).ds
    have hg3:eN gl b3:=λg cs h=>by rw[bb.b];exact hg g cs h
    refine AB (rd:=none) hm ajN hg3 al4 c3 (.inl rfl) n3 auM afs _ adW eM m2 a3 w3 _ aak aaj λx qX Hq sb abO Dl T1 a4 w4 q1 q2 q3 dr=>?_;have me:w4.heap[D]?=some (.deferred (some [])):=(q3.a6.gi D (Array.getElem?_eq_some_iff.1 dD).1 b7).trans dD;have akx:=(Array.getElem?_eq_some_iff.1 me).1;have ad5:Mem ⟨b3.b,b3.r.putObj D (.deferred none),b3.ex,b3.ro,[]⟩ Hq sb Dl (w4.putObj D (.deferred none)):=by
     have e:b3=⟨b3.b,b3.r,b3.ex,b3.ro,b3.ds⟩:=rfl;refine Mem.zD (e▸q3.a6) D (by rw[bb.b];exact pn) b7 (Array.getElem?_eq_some_iff.1 dD).1 (tB _ _ _) (tB _ _ _) (λk hk=>sC hk) (λk hk=>sC hk) (by rw[vT akx,vT (Array.getElem?_eq_some_iff.1 dD).1]) (λo ho=>by rw[dD]at ho;cases ho;rfl)
    have aew:Sub ⟨b3.b,b3.r.putObj D (.deferred none),b3.ex,b3.ro,[]⟩ w0:=Sub.zD (ds:=b3.ds) bb D eo (tB _ _ _) (λk hk=>sC hk);have Ua:Mem w0 Hq sb Dl (w4.putObj D (.deferred none)):=ad5.less aew;have aep:R w0 qX Hq sb abO Dl {a4 with defers:=[]} (w4.putObj D (.deferred none)):=⟨q3.t,mM.symm,q3.b,Ua⟩;have fin:(Gh P gl fn qX abO Dl k).holds S L T1 Hq->LeavesInM Aa 0 P fn a4.tmps R' a4.defers .returning w4:=λhr=>by
     obtain⟨v,val,fO,lP,oD,u4⟩:=Q3 hg aep hr;have hL:=(((h1.trans k1).trans p1).trans q1);have hA:=(((h2.trans k2 h1.hn).trans aJ (h1.trans k1).hn).trans q2 ((h1.trans k1).trans p1).hn);rw[q3.d,B0];exact⟨by simp,.inl ⟨D,_,rfl,run_takeDeferred me,val,oD,hk qX v Dl T1 Hq sb _ val hL hA fO lP q3.b Ua u4⟩⟩
    cases x with
    |exit id=>exact dr.elim
    |normal=>exact fin dr
    |ret=>exact fin dr
end Go.aW
namespace Go.aW
open M
variable {S:Nat->List Int->List Int->Prop} {L:V->Env->Prop} {P:bk} {gl:dA} {cal:ed}
structure jZ where
 c:cY
 ty:aR
 nil:Bool
def B1 (p:jZ) (g k:Nat):Array ax:=cond p.nil #[.slice (some ⟨g,0,none⟩) k k,.slice none 0 0] #[.slice (some ⟨g,0,none⟩) k k]
def jZ.dW (P:bk) (wb:ai) (p:jZ) (spec:List Int->List Int->Prop):Prop:=(∀args w,(callFunc p.c.f args).run P w= .ok (.enter p.c.f args) w)/\∀(F:Nat->Prop) (w:ai) (vs:List ax) (zs:List Int) (g:Nat),wb.Extends w->bd (bR p.c.args) zs->vq p.c.pre zs->fT F (λ_=>False) w p.c.args zs vs->wb.heap.size<=g->¬F g->w.heap[g]?=some (.cells vs.toArray p.ty (0,0))->gZ P p.c.f (B1 p g vs.length) w λe w'=>w.Extends w'/\∃rs us,bd (bR p.c.res) rs/\spec zs rs/\fT (λg=>F g∨w.heap.size<=g) (λg=>w.heap.size<=g) w' p.c.res rs us/\e= .returned (lO us)
def Ku (nil:Bool) (vs:List V):Option (Nat×Nat×Nat):=
 match vs with
 |[.w (.one (.slc b 0 len cap))]=>cond nil none (some (b,len,cap))
 |[.w (.one (.slc b 0 len cap)),.w (.one (.con (.slice none 0 0)))]=>cond nil (some (b,len,cap)) none
 |_=>none
def jt (a:A):V:= .w (.one a)
noncomputable def jZ.E (p:jZ) (n:Nat) (vs:List V) (bl:List aj) (k:RK):T:=
 match Ku p.nil vs with
 |some (b,len,cap)=>match bl[b]? with
  |some (cs,(t,false))=>cond (bI cs&&aA len cs.length&&aA cap cs.length&&aA t p.ty&& !(((cs.map jt).flatMap fL).any (aA b))) (p.c.rp n (cs.map jt) bl k) .stuck
  |_=> .stuck
 |none=> .stuck
theorem MB {ρ:Env} {m:Nat->Nat}:∀(cs:List A),db ρ m (cs.map jt) (cs.map (A.den ρ m))
 |[]=>trivial
 |a::r=>⟨rfl,MB r⟩
theorem ar2 {p:jZ} {vs:List V} {b len cap:Nat} {ρ:Env} {m:Nat->Nat} {xs:List ax} (h:Ku p.nil vs=some (b,len,cap)) (hr:db ρ m vs xs) (Ev:cap=len):xs.toArray=B1 p (m b) len:=by
 subst Ev;unfold Ku at h;split at h
 ·cases hn:p.nil with
  |true=>rw[hn]at h;cases h
  |false=>
   rw[hn]at h;cases h
   match xs,hr with
   |[x],hr=>have hx:x=_:=hr.1;rw[hx];simp[B1,hn,W.den,A.den]
 ·cases hn:p.nil with
  |false=>rw[hn]at h;cases h
  |true=>
   rw[hn]at h;cases h
   match xs,hr with
   |[x,y],hr=>have hx:x=_:=hr.1;have hy:y=_:=hr.2.1;rw[hx,hy];simp[B1,hn,W.den,A.den]
 ·cases h
theorem jZ.ui {w0:cI} {p:jZ} {spec:List Int->List Int->Prop} (hc:p.dW P w0.b spec) (hS:∀zs rs,spec zs rs->S p.c.id zs rs) (n:Nat) (vs:List V) (bl:List aj) (k:RK) (G:c9) (ρ:Env) (m:Nat->Nat) (w:ai) (xs:List ax) (R':qw->ai->Prop)
 (hb:bU n bl.length ρ bl) (hw:Mem w0 ρ m bl w) (hv:∀v∈vs,V.ok n bl.length ρ v) (hr:db ρ m vs xs) (ag:(p.E n vs bl k).holds S L G ρ) (hk:pJ S L w0 k n bl.length ρ m G R'):
 (callFunc p.c.f xs.toArray).run P w= .ok (.enter p.c.f xs.toArray) w/\gZ P p.c.f xs.toArray w R':=by
 refine⟨hc.1 _ _,?_⟩;unfold jZ.E at ag;split at ag
 rotate_left
 ·exact ag.elim
 rename_i b len cap hp;split at ag
 rotate_left
 ·exact ag.elim
 rename_i cs t hbl;cases gS:(bI cs&&aA len cs.length&&aA cap cs.length&&aA t p.ty&& !(((cs.map jt).flatMap fL).any (aA b)))with
 |false=>rw[gS]at ag;exact ag.elim
 |true=>
 rw[gS]at ag;simp only[aQ,iP]at gS;obtain⟨⟨⟨⟨c1,c2⟩,c3⟩,c4⟩,c5⟩:=gS;have c2:=bo c2;have c3:=bo c3;have c4:=bo c4;subst c4;rw[ar2 hp hr (by omega),c2];obtain⟨b1,b2,r,jq,b3⟩:=hw.blk b cs _ hbl c1;have jq:=jq rfl;subst jq;rw[lv]at b3;refine cY.Hv (f:=p.c.f) hS n (cs.map jt) bl k G ρ m w (cs.map (A.den ρ m)) R' (λzs h1 h2 h3=>?_) hb hw (λv hv=>?_) (MB cs) ag hk
 ·have:=hc.2 _ w _ zs (m b) hw.ext h1 h2 h3 b1 (λhF=>?_) b3
  ·rwa [jW]at this
  ·rcases hF with⟨⟨b',k1,k2,q,k3,k4,_⟩,_⟩|ob
   rotate_left
   ·exact ob.2 b _ hbl (by rw[hT c1];decide) rfl
   have hne:b≠b':=λe=>by
    subst e;rw[List.any_eq_true.2 ⟨b,k1,CM b⟩]at c5;cases c5
   rcases hw.inj b b' _ q hbl k3 k2.symm with h|h|h|h
   ·exact hne h
   ·have:=hT (ρ:=ρ) c1;simp only at h;omega
   ·have:=hT (ρ:=ρ) c1;simp only at h;omega
   ·exact k4 h
 ·obtain⟨a,ha,rfl⟩:=List.mem_map.1 hv;exact hb _ (cM hbl) a ha
def NM (p:jZ) (vs:List V):Bool:=match Ku p.nil vs with
 |some (_,len,_)=>aA len p.c.args.length
 |none=>false
noncomputable def vo:List jZ->ig->ig
 |[],bc=>bc
 |p::r,bc=>λf=>cond (aA p.c.f f) (some λn vs bl k=>cond (NM p vs) (p.E n vs bl k) (match vo r bc f with
  |some g=>g n vs bl k
  |none=> .stuck)) (vo r bc f)
theorem Kv {w0:cI} {bc:ig} (gd:l4 S L w0 P bc):∀{l:List jZ},(∀p∈l,p.dW P w0.b (S p.c.id))->l4 S L w0 P (vo l bc)
 |[],_=>gd
 |p::l,h=>λf g hf=>by
  unfold vo at hf;cases hb:aA p.c.f f with
  |true=>
   rw[hb]at hf;simp only[cond_true,aK]at hf;have:=bo hb;subst this;subst hf;intro n vs bl k G ρ m w xs R' h1 h2 h3 h4 h5 h6;have h5:(cond (NM p vs) (p.E n vs bl k) (match vo l bc p.c.f with
    |some g=>g n vs bl k
    |none=> .stuck)).holds S L G ρ:=h5
   cases hq:NM p vs with
   |true=>
    rw[hq]at h5;exact jZ.ui (h p (by simp)) (λ_ _ h=>h) n vs bl k G ρ m w xs R' h1 h2 h3 h4 h5 h6
   |false=>
    rw[hq]at h5;simp only[cond_false]at h5;cases hr:vo l bc p.c.f with
    |none=>rw[hr]at h5;exact h5.elim
    |some g'=>
     rw[hr]at h5;exact Kv gd (λp hp=>h p (cx _ hp)) p.c.f g' hr n vs bl k G ρ m w xs R' h1 h2 h3 h4 h5 h6
  |false=>
   rw[hb]at hf;exact Kv gd (λp hp=>h p (cx _ hp)) f g hf
def mS:W->A
 | .one a=>a
 |_=> .con undef
noncomputable def jZ.tree (bc:ig) (P:bk) (gl:dA) (cal:ed) (li:cB->Nat->Option dc) (rounds d:Nat) (p:jZ):T:=
 cond (kN p.c.args&& !(p.c.args.any bG.j5)) (FN p.c.pre ((cD (bR p.c.args).length).map zc) (nX p.c.args 0 (bR p.c.args).length [] [] λn us bl=>
  cond (us.all (λu=>match u with| .one _=>true|_=>false)&&bI (us.map mS)) (yf bc P gl cal li rounds d p.c.f n (cond p.nil [jt (.slc bl.length 0 us.length us.length),jt (.con (.slice none 0 0))] [jt (.slc bl.length 0 us.length us.length)]) (bl++[(us.map mS,(p.ty,false))]) λn' v aG=>match aG[bl.length]? with
   |some (cs,(t,false))=>cond (nh cs (us.map mS)&&aA t p.ty) (Gi (cy aG bl.length dM) p.c.res v n' λos _=> .leaf (tz os)) .stuck
   |_=> .stuck) .stuck)) .stuck
theorem Mem.more {b r:ai} {ex ex' ro:Nat->Prop} {ds:List vO} {ρ:Env} {m:Nat->Nat} {bl:List aj} {w:ai} (h:Mem ⟨b,r,ex,ro,ds⟩ ρ m bl w) (he:∀g,ex g->ex' g):Mem ⟨b,r,ex',ro,ds⟩ ρ m bl w:=
 ⟨h.ext,h.jo,h.jr,h.iF,h.ew,λi hi hx=>h.gi i hi λjH=>hx (he i jH),λi cs t hi ho=>by
  obtain⟨h1,h2,h3⟩:=h.blk i cs t hi ho;exact⟨h1,h2.imp (he _) id,h3⟩,λi sh off code cap kind t hi hk=>by
  obtain⟨g1,g2⟩:=h.rws i sh off code cap kind t hi hk;refine⟨g1,λhc=>?_⟩;obtain⟨k1,cells,t',fz,k2,k3,k4⟩:=g2 hc;refine⟨k1.imp (he _) id,cells,t',fz,k2,⟨k3.1,k3.2.mono (Fr.of w λg hg=>⟨hg.1.imp (he _) id,hg.2⟩)⟩,λh2=>?_⟩;obtain⟨cm,eT,j6,ml,nG,jI⟩:=k4 h2;exact⟨cm,eT,j6,ml,nG,jI.imp (he _) id⟩,h.inj⟩
theorem gQ.more {b r:ai} {ex ex' ro F:Nat->Prop} {ds:List vO} {ρ:Env} {g kind:Nat} {sh:List av} {off code cap:U} {t:aR} {w:ai} (h:gQ ⟨b,r,ex,ro,ds⟩ ρ F g sh off code cap kind t w) (he:∀g,ex g->ex' g):gQ ⟨b,r,ex',ro,ds⟩ ρ F g sh off code cap kind t w:=by
 intro hk;obtain⟨g1,g2⟩:=h hk;refine⟨g1,λhc=>?_⟩;obtain⟨k1,cells,t',fz,k2,k3,k4⟩:=g2 hc;refine⟨k1.imp (he _) id,cells,t',fz,k2,k3,λh2=>?_⟩;obtain⟨cm,eT,j6,ml,nG,jI⟩:=k4 h2;exact⟨cm,eT,j6,ml,nG,jI.imp (he _) id⟩
theorem Mem.drop {b r:ai} {ro:Nat->Prop} {ρ:Env} {m:Nat->Nat} {bl:List aj} {w:ai} {g i0:Nat} {cs:List A} {t:aR} (h:Mem ⟨b,r,λi=>i=g,ro,[]⟩ ρ m bl w) (hi:bl[i0]?=some (cs,(t,false))) (ho:bI cs=true) (hg:m i0=g) (hr:r.heap[g]?=some (.cells (cs.map (A.den ρ m)).toArray t (0,0))):
 Mem ⟨b,r,λ_=>False,ro,[]⟩ ρ m (cy bl i0 dM) w:=by
 have hlen:i0<bl.length:=(List.getElem?_eq_some_iff.1 hi).1;have c0:∀(i:Nat) (q:aj),(cy bl i0 dM)[i]?=some q->(i=i0/\q=dM)∨(i≠i0/\bl[i]?=some q):=λi q hq=>by
  rw[iN,oL]at hq;split at hq
  ·rename_i eE;subst eE;simp only[hlen,if_true,aK]at hq;exact .inl ⟨rfl,hq.symm⟩
  ·rename_i eE;exact .inr ⟨λe=>eE e.symm,hq⟩
 have ft:aS ρ dM.1=0:=by simp[dM,aS,U.aO]
 have fE:aS ρ cs=2:=hT ho;have hne:∀(i:Nat) (q:aj),i≠i0->bl[i]?=some q->aS ρ q.1≠0->m i≠g:=λi q kp hq hk e=>by
  rcases h.inj i i0 q _ hq hi (by rw[e,hg])with h1|h1|h1|h1
  ·exact kp h1
  ·simp only at h1;omega
  ·exact hk h1
  ·simp only at h1;omega
 refine⟨h.ext,h.jo,h.jr,h.iF,h.ew,λi dv _=>?_,λi cs' t' hq gk=>?_,λi sh off code cap kind t' hq=>?_,λi j p q hp hq he=>?_⟩
 ·by_cases e:i=g
  ·subst e;obtain⟨_,_,zx,gU,h3⟩:=h.blk i0 cs _ hi ho;have gU:=gU rfl;subst gU;rw[lv,hg]at h3;rw[h3];exact hr.symm
  ·exact h.gi i dv e
 ·rcases c0 i _ hq with⟨_,e⟩|⟨kp,hq⟩
  ·simp only[dM,cN]at e;rw[e.1]at gk;simp[bI]at gk
  ·obtain⟨h1,h2,h3⟩:=h.blk i cs' t' hq gk;refine⟨h1,?_,h3⟩;rcases h2 with h2|h2
   ·exact absurd h2 (hne i _ kp hq (by rw[hT gk];decide))
   ·exact .inr h2
 ·rcases c0 i _ hq with⟨_,e⟩|⟨kp,hq⟩
  ·simp only[dM,cN,gY,A.rows.injEq,and_true]at e;intro hk;exact absurd e.1.2.2.2.2 hk
  ·intro hk;obtain⟨g1,g2⟩:=h.rws i sh off code cap kind t' hq hk;refine⟨g1,λhc=>?_⟩;have yQ:m i≠g:=hne i _ kp hq (by simp only[aS];rw[if_neg (by omega)];exact hk);obtain⟨k1,cells,Gx,fz,k2,k3,k4⟩:=g2 hc;refine⟨?_,cells,Gx,fz,k2,⟨k3.1,k3.2.mono (Fr.of w λg' ej=>⟨?_,λj q hj hk=>?_⟩)⟩,λh2=>?_⟩
   rotate_left
   ·rcases ej.1 with e|e
    ·have e:g'=g:=e;subst e;exact absurd hg (ej.2 i0 _ hi (by rw[fE];decide))
    ·exact .inr e
   ·rcases c0 j _ hj with⟨_,e⟩|⟨_,hj⟩
    ·subst e;omega
    ·exact ej.2 j q hj hk
   rotate_left
   ·rcases k1 with k1|k1
    ·exact absurd k1 yQ
    ·exact .inr k1
   ·obtain⟨cm,eT,j6,ml,nG,jI⟩:=k4 h2;refine⟨cm,eT,j6,ml,nG,?_⟩;rcases jI with jI|jI
    ·exact absurd jI yQ
    ·exact .inr jI
 ·rcases c0 i _ hp with⟨_,e⟩|⟨kp,hp⟩
  ·subst e;exact .inr (.inr (.inl ft))
  ·rcases c0 j _ hq with⟨_,e⟩|⟨XH,hq⟩
   ·subst e;exact .inr (.inr (.inr ft))
   ·exact h.inj i j p q hp hq he
theorem jZ.xg {wb:ai} {gl:dA} {p:jZ} {bc:ig} {cal:ed} {li:cB->Nat->Option dc} {rounds d:Nat} {spec:List Int->List Int->Prop} (hm:P.follows .mixedOrders=true) (cp:∀r ex ro,fp S P gl ⟨wb,r,ex,ro,[]⟩ cal) (hg:eN gl ⟨wb,wb,λ_=>False,λ_=>False,[]⟩)
 (gd:∀(L:V->Env->Prop) (r:ai) (ex ro:Nat->Prop),l4 S L ⟨wb,r,ex,ro,[]⟩ P bc) (hf:∀args w,(callFunc p.c.f args).run P w= .ok (.enter p.c.f args) w)
 (ht:oR (bR p.c.args) λzs=>(p.tree bc P gl cal li rounds d).holds S (pI λrs=>bd (bR p.c.res) rs/\spec zs rs) (λ_ _=>False) (bh (λ_=>0) 0 zs)):p.dW P wb spec:=by
 refine⟨hf,λF w vs zs g hw hz yT hat Ox yw hcell=>?_⟩;have ag:=kM ht hz;have mO:=gp hz;unfold jZ.tree at ag;cases hq:(kN p.c.args&& !(p.c.args.any bG.j5))with
 |false=>rw[hq]at ag;exact ag.elim
 |true=>
  rw[hq]at ag;simp only[cond_true]at ag;have ag:=preA_holds ag (by rw[<-mO,FD];exact yT);simp only[aQ,iP]at hq;have jE:Mem ⟨wb,w,λ_=>False,F,[]⟩ (bh (λ_=>0) 0 zs) (λ_=>0) [] w:=⟨hw,rfl,rfl,rfl,aV _,λ_ _ _=>rfl,λi cs t h=>by simp at h,λi sh off code cap kind t h=>by simp at h,λi j p q h=>by simp at h⟩;have hall:(p.c.args.all λb=> !b.j5)=true:=by
   rw[pC];intro b hb;cases dL:b.j5 with
   |false=>rfl
   |true=>rw[List.any_eq_true.2 ⟨b,hb,dL⟩]at hq;cases hq.2
  obtain⟨n',ae,m',us,bl,p1,aJ,bb,b7,dD,eo⟩:=sL (S:=S) (L:=_) (w0:=⟨wb,w,λ_=>False,F,[]⟩) (F:=F) (N:=λ_=>False) (λg hg=> .inr (.inl hg)) (λg hg=>hg.elim) (l:=p.c.args) (s:=0) (us:=[]) (bl:=[]) (m:=λ_=>0) hq.1 (λp hp=>by simp at hp) jE (fJ.bh _ 0 zs) hz (by omega) hat (.inr λi p h=>by simp at h) (.inl hall) (.inl hall) (λu hu=>by simp at hu) ag;cases qO:(us.all (λu=>match u with| .one _=>true|_=>false)&&bI (us.map mS))with
  |false=>rw[qO]at eo;exact eo.elim
  |true=>
  rw[qO]at eo;simp only[cond_true]at eo;simp only[aQ]at qO;have Yd:∀u∈us,u= .one (mS u):=λu hu=>by
   have:=List.all_eq_true.1 qO.1 u hu;cases u with
   |one a=>rfl
   |_=>simp at this
  have kt:(us.map mS).map (A.den ae m')=vs:=by
   have e:us.map (W.den ae m')=vs:=by simpa using b7
   rw[<-e,jf];refine gw λu hu=>?_;rw[Yd u hu];rfl
  have Pt:∀a∈us.map mS,A.ok n' bl.length ae a:=λa ha=>by
   obtain⟨u,hu,rfl⟩:=List.mem_map.1 ha;have h1:=dD u hu;rw[Yd u hu]at h1;exact h1
  have wO:g<w.heap.size:=(Array.getElem?_eq_some_iff.1 hcell).1;have hM:=(bb.more (ex':=λi=>i=g) λ_ h=>h.elim).push (x:=(us.map mS,(p.ty,false))) (g:=g) aJ Pt (λ_=>⟨Ox,.inl rfl,[],λ_=>rfl,by rw[lv,kt];exact hcell⟩) (λsh off code cap kind he=>by
   simp only at he;rw[he]at qO;simp[bI]at qO) (λi q hi he=>by
    refine .inr (.inl ?_);by_cases h0:aS ae q.1=0
    ·exact h0
    ·exfalso;obtain⟨cs,t⟩:=q;cases ho:bI cs with
     |true=>
      obtain⟨_,h2,_⟩:=bb.blk i cs t hi ho;rcases h2 with h2|h2
      ·exact h2
      ·simp only at h2;omega
     |false=>
      obtain⟨sh,off,code,cap,k,e⟩:=Kq ho;subst e;simp only[aS]at h0;split at h0
      ·exact h0 rfl
      ·rename_i hc;obtain⟨h1,_⟩:=(bb.rws i sh off code cap k t hi h0).2 (by omega);rcases h1 with h1|h1|h1
       ·exact h1
       ·rw[he]at h1;exact yw h1
       ·simp only at h1;omega) (λi sh off code cap kind t hi=>((bb.abc (x:=(us.map mS,(p.ty,false))) (g:=g) (λg' ej e=>by
    subst e;rcases ej.1 with h1|h1|h1
    ·exact h1
    ·exact yw h1
    ·simp only at h1;omega) i sh off code cap kind t hi).more (ex':=λi=>i=g) λ_ h=>h.elim).mono λg' ej=>⟨ej.1.imp (λh=>h.elim) id,ej.2⟩)
  have yC:bU n' (bl++[(us.map mS,(p.ty,false))]).length ae (bl++[(us.map mS,(p.ty,false))]):=λq hq a fs=>by
   rcases List.mem_append.1 hq with hq|hq
   ·exact(aJ q hq a fs).ext (agree.refl _ _) (aV _) (by simp)
   ·simp at hq;subst hq;exact(Pt a fs).ext (agree.refl _ _) (aV _) (by simp)
  have alp:us.length=vs.length:=by rw[<-kt];simp
  have Em:eN gl ⟨wb,w,λi=>i=g,F,[]⟩:=hg;have X9:V.ok n' (bl++[(us.map mS,(p.ty,false))]).length ae (jt (.slc bl.length 0 us.length us.length)):=by
   show bl.length<_;simp
  have o8:(jt (.slc bl.length 0 us.length us.length)).rel ae (fc m' bl.length g) (.slice (some ⟨g,0,none⟩) vs.length vs.length):=by
   simp[V.rel,jt,W.den,A.den,kb,alp]
  have mf:∀v∈(cond p.nil [jt (.slc bl.length 0 us.length us.length),jt (.con (.slice none 0 0))] [jt (.slc bl.length 0 us.length us.length)]),V.ok n' (bl++[(us.map mS,(p.ty,false))]).length ae v:=λv hv=>by
   have ajX:V.ok n' (bl++[(us.map mS,(p.ty,false))]).length ae (jt (.con (.slice none 0 0))):=rfl;cases hn:p.nil with
   |true=>
    rw[hn]at hv;simp only[cond_true,kg,tW,or_false]at hv;rcases hv with rfl|rfl
    ·exact X9
    ·exact ajX
   |false=>
    rw[hn]at hv;simp only[cond_false,kg,tW,or_false]at hv;subst hv;exact X9
  have hrel:db ae (fc m' bl.length g) (cond p.nil [jt (.slc bl.length 0 us.length us.length),jt (.con (.slice none 0 0))] [jt (.slc bl.length 0 us.length us.length)]) (B1 p g vs.length).toList:=by
   unfold B1;cases hn:p.nil with
   |true=>simp only[cond_true];exact⟨o8,rfl,trivial⟩
   |false=>simp only[cond_false];exact⟨o8,trivial⟩
  have ajO:=(Dr (S:=S) (w0:=⟨wb,w,λi=>i=g,F,[]⟩) (R':=λe w'=>w.Extends w'/\∃rs us,bd (bR p.c.res) rs/\spec zs rs/\fT (λg=>F g∨w.heap.size<=g) (λg=>w.heap.size<=g) w' p.c.res rs us/\e= .returned (lO us)) rfl hm (cp w _ F) Em (gd _ _ _ _) d p.c.f n' _ _ _ _ ae (fc m' bl.length g) w _ yC hM mf hrel eo ?_).2
  ·simpa using ajO
  intro n2 v aG da bn m2 w' val h1 h2 h3 h4 h5 h6 h7;simp only at h7;split at h7
  rotate_left
  ·exact h7.elim
  rename_i cs t hb2;cases gS:(nh cs (us.map mS)&&aA t p.ty)with
  |false=>rw[gS]at h7;exact h7.elim
  |true=>
  rw[gS]at h7;simp only[cond_true]at h7;simp only[aQ]at gS;have agS:=Ap gS.1;have pS:=bo gS.2;subst agS;subst pS;have Oz:bl.length<(bl++[(us.map mS,(p.ty,false))]).length:=by simp
  have rU:m2 bl.length=g:=by rw[h1.hm _ Oz,kb]
  have rP:(us.map mS).map (A.den bn m2)=vs:=by
   rw[<-kt];refine gw λa ha=>?_;rw[A.j1 (Pt a ha) h1.ha (λb hb=>?_)];rw[h1.hm b (by simp;omega),iO hb]
  have me:=h6.drop hb2 qO.2 rU (by rw[rP];exact hcell);have dL:bU n2 (cy aG bl.length dM).length bn (cy aG bl.length dM):=by
   rw[jN];intro q hq a ha;rw[iN]at hq;rcases CY hq with hq|hq
   ·exact h5 q hq a ha
   ·subst hq;simp only[dM,kg,tW,or_false]at ha;subst ha;exact⟨⟨U.cr _ _,U.cr _ _,U.cr _ _⟩,by rw[U.aO];exact⟨bO _,sG⟩,by rw[U.aO];omega⟩
  obtain⟨eM,n3,os,rV,p3,⟨xs,hx1,hx2⟩,hl⟩:=Q5 (S:=S) (w0:=⟨wb,w,λ_=>False,F,[]⟩) (λg hg=>hg) dL me (by rw[jN];exact h3) h4 da _ h7;have hl:pI _ (tz os) eM:=hl;rw[HA]at hl;refine⟨?_,os.map (O.den eM),xs,hl.1,hl.2,?_,by rw[hx1]⟩
  ·have hblk:∀i:Nat,i<w.heap.size->w'.heap[i]?=w.heap[i]?:=λi hi=>me.gi i hi λh=>h;exact⟨me.jo,me.jr,me.iF,me.ew,λa ha=>by simp only[jx,hblk a.block ha],λa ha=>by simp only[tZ,hblk a.block ha],hblk⟩
  ·exact cY.xg.x8 (λg hg=>by
    rcases hg with hg|hg|hg
    ·exact hg.elim
    ·exact .inl hg
    ·exact .inr hg) (λg hg=>hg) hx2
section
variable {wb:ai} {sh:Nat->List Nat×List Nat} {SB:Nat->List (List Int)->List (List Int)->Prop}
theorem aaw {p:jZ} {bc:ig} {cal:ed} {li:cB->Nat->Option dc} {rounds d:Nat} {lsh:Nat->List Nat} {lens:List Nat} (hm:P.follows .mixedOrders=true) (cp:∀r ex ro,fp (b5 sh SB) P gl ⟨wb,r,ex,ro,[]⟩ cal) (hg:eN gl ⟨wb,wb,λ_=>False,λ_=>False,[]⟩)
 (gd:∀(L:V->Env->Prop) (r:ai) (ex ro:Nat->Prop),l4 (b5 sh SB) L ⟨wb,r,ex,ro,[]⟩ P bc) (hf:rJ P p.c.f=true) (hl:lens=(sh p.c.id).1) (hd:tv p.c.res=(sh p.c.id).2)
 (hv:gB sh lsh SB (dS SB p.c.res p.c.id) lens (bR p.c.args) p.c.res (p.tree bc P gl cal li rounds d)):p.dW P wb (b5 sh SB p.c.id):=by
 refine jZ.xg (li:=li) (rounds:=rounds) (d:=d) hm cp hg gd (enters hf) (sK λzs hz=>?_);have h:=kM (HJ hv) hz;simp only[dS,Ct]at h;rw[hl,hd]at h;exact h
end
end Go.aW
namespace Go.aW
open M
variable {S:Nat->List Int->List Int->Prop} {L:V->Env->Prop} {P:bk} {gl:dA} {cal:ed}
inductive eX where
 |int (k:cX) (c:Int)
 |fn (f:cB)
def eX.val:eX->ax
 |int k c=> .int k c
 |fn f=> .func (.func f) #[] #[]
def eX.A:eX->A
 |int k c=> .int k (br.const c)
 |fn f=> .con (.func (.func f) #[] #[])
def IB:eX->A->Bool
 | .int k c,.int k' x=>decide (k=k')&&(match x.l.dq with|some d=>decide (d=c)|none=>false)
 | .fn f,.con v=>match v with
  | .func (.func k8) a b=>aA f k8&&aA a.size 0&&aA b.size 0
  |_=>false
 |_,_=>false
def DI:List eX->List A->Bool
 |[],[]=>true
 |r::l,a::s=>IB r a&&DI l s
 |_,_=>false
def DH:List eX->List V->Bool
 |[],[]=>true
 |r::l,.w (.one a)::s=>IB r a&&DH l s
 |_,_=>false
theorem V3 {r:eX} {a:A} {ρ:Env} {m:Nat->Nat} (h:IB r a=true):a.den ρ m=r.val:=by
 unfold IB at h;split at h
 ·rename_i k c k' x;simp only[aQ,decide_eq_true_eq]at h;obtain⟨h1,h2⟩:=h;cases hc:x.l.dq with
  |none=>rw[hc]at h2;cases h2
  |some d=>
   rw[hc]at h2;have h2:=of_decide_eq_true h2;subst h1;subst h2;simp[A.den,eX.val,U.il hc]
 ·rename_i f v;split at h
  ·rename_i k8 x y;simp only[aQ]at h;obtain⟨⟨h1,h2⟩,h3⟩:=h;have h1:=bo h1;have h2:=bo h2;have h3:=bo h3;rw[vS h2,vS h3,h1];rfl
  ·cases h
 ·cases h
theorem V4 {ρ:Env} {m:Nat->Nat}:∀{l:List eX} {cs:List A},DI l cs=true->cs.map (A.den ρ m)=l.map eX.val
 |[],[],_=>rfl
 |r::l,a::s,h=>by
  simp only[DI,aQ]at h;simp[V3 h.1,V4 h.2]
 |[],_::_,h=>by cases h
 |_::_,[],h=>by cases h
theorem V2 {ρ:Env} {m:Nat->Nat}:∀{l:List eX} {vs:List V} {xs:List ax},DH l vs=true->db ρ m vs xs->xs=l.map eX.val
 |[],[],[],_,_=>rfl
 |r::l,.w (.one a)::s,x::xs,h,hr=>by
  simp only[DH,aQ]at h;have hx:x=a.den ρ m:=hr.1;rw[hx,V3 h.1,V2 h.2 hr.2];rfl
 |[],[],_::_,_,h=>h.elim
 |_::_,[],_,h,_=>by cases h
structure lB where
 c:cY
 cells:List eX
 ty:aR
 tail:List eX
structure Mq (g:Nat) (w w':ai):Prop where
 os:w'.os=w.os
 tape:w'.tape=w.tape
 out:w'.output=w.output
 size:w.heap.size<=w'.heap.size
 blk:∀i,i<w.heap.size->i≠g->w'.heap[i]?=w.heap[i]?
def lB.dW (P:bk) (wb:ai) (p:lB) (spec:List Int->List Int->Prop):Prop:=(∀args w,(callFunc p.c.f args).run P w= .ok (.enter p.c.f args) w)/\∀(F:Nat->Prop) (w:ai) (vs:List ax) (zs:List Int) (g:Nat),wb.Extends w->bd (bR p.c.args) zs->vq p.c.pre zs->fT F (λ_=>False) w p.c.args zs vs->wb.heap.size<=g->¬F g->w.heap[g]?=some (.cells (p.cells.map eX.val).toArray p.ty (0,0))->gZ P p.c.f (.pointer (some ⟨g,0,none⟩)::(vs++p.tail.map eX.val)).toArray w λe w'=>Mq g w w'/\∃rs us,bd (bR p.c.res) rs/\spec zs rs/\fT (λg=>F g∨w.heap.size<=g) (λg=>w.heap.size<=g) w' p.c.res rs us/\e= .returned (lO us)
noncomputable def lB.E (p:lB) (n:Nat) (vs:List V) (bl:List aj) (k:RK):T:=
 match vs with
 | .w (.one (.ptr b 0))::us=>match bl[b]? with
  |some (cs,(t,false))=>cond (bI cs&&DI p.cells cs&&aA t p.ty&&DH p.tail (us.drop p.c.args.length)&&bp p.c.args.length us.length&& !(((us.take p.c.args.length).flatMap fL).any (aA b))&&kN p.c.res&& !(p.c.res.any bG.js))
   (sW false bl p.c.args (us.take p.c.args.length) n λls n1=>FO p.c.pre ls (.call p.c.id ls n1 (bR p.c.res) (nX p.c.res n1 (n1+(bR p.c.res).length) [] (cy bl b dM) λn2 us gC=>k n2 (qk us) gC))) .stuck
  |_=> .stuck
 |_=> .stuck
theorem Mem.but {w0:cI} {ρ:Env} {m:Nat->Nat} {bl:List aj} {w w':ai} {b:Nat} {cs:List A} {t:aR×Bool} (h:Mem w0 ρ m bl w) (hi:bl[b]?=some (cs,t)) (ho:bI cs=true) (hx:Mq (m b) w w'):Mem w0 ρ m (cy bl b dM) w':=by
 have hlen:b<bl.length:=(List.getElem?_eq_some_iff.1 hi).1;have c0:∀(i:Nat) (q:aj),(cy bl b dM)[i]?=some q->(i=b/\q=dM)∨(i≠b/\bl[i]?=some q):=λi q hq=>by
  rw[iN,oL]at hq;split at hq
  ·rename_i eE;subst eE;simp only[hlen,if_true,aK]at hq;exact .inl ⟨rfl,hq.symm⟩
  ·rename_i eE;exact .inr ⟨λe=>eE e.symm,hq⟩
 have ft:aS ρ dM.1=0:=by simp[dM,aS,U.aO]
 have fE:aS ρ cs=2:=hT ho;have hne:∀(i:Nat) (q:aj),i≠b->bl[i]?=some q->aS ρ q.1≠0->m i≠m b:=λi q kp hq hk e=>by
  rcases h.inj i b q _ hq hi e with h1|h1|h1|h1
  ·exact kp h1
  ·simp only at h1;omega
  ·exact hk h1
  ·simp only at h1;omega
 obtain⟨hb1,hb2,_⟩:=h.blk b cs t hi ho;refine⟨VU h.ext hx.os hx.tape hx.out hx.size (λk hk=>hx.blk k (tX hk h.ext.size) (by omega)),hx.os.trans h.jo,hx.tape.trans h.jr,hx.out.trans h.iF,gx h.ew hx.size,λi dv hex=>?_,λi cs' t' hq gk=>?_,λi sh off code cap kind t' hq=>?_,λi j p q hp hq he=>?_⟩
 ·have OQ:i≠m b:=λe=>by
   subst e;rcases hb2 with h2|h2
   ·exact hex h2
   ·omega
  rw[hx.blk i (tX dv h.ew) OQ];exact h.gi i dv hex
 ·rcases c0 i _ hq with⟨_,e⟩|⟨kp,hq⟩
  ·simp only[dM,cN]at e;rw[e.1]at gk;simp[bI]at gk
  ·obtain⟨h1,h2,r,h3,h4⟩:=h.blk i cs' t' hq gk;exact⟨h1,h2,r,h3,by rw[hx.blk _ (Array.getElem?_eq_some_iff.1 h4).1 (hne i _ kp hq (by rw[hT gk];decide))];exact h4⟩
 ·rcases c0 i _ hq with⟨_,e⟩|⟨kp,hq⟩
  ·simp only[dM,cN,gY,A.rows.injEq,and_true]at e;intro hk;exact absurd e.1.2.2.2.2 hk
  ·intro hk;obtain⟨g1,g2⟩:=h.rws i sh off code cap kind t' hq hk;refine⟨g1,λhc=>?_⟩;have yQ:=hne i _ kp hq (by simp only[aS];rw[if_neg (by omega)];exact hk);obtain⟨k1,cells,Gx,fz,k2,k3,k4⟩:=g2 hc;exact⟨k1,cells,Gx,fz,by rw[hx.blk _ (Array.getElem?_eq_some_iff.1 k2).1 yQ];exact k2,⟨k3.1,k3.2.mono λg' h' o gk=>⟨h'.set hi (λag=>by rw[ft]at ag;omega),by rw[hx.blk g' (Array.getElem?_eq_some_iff.1 gk).1 (λe=>h'.2 b _ hi (by rw[hT ho];decide) e.symm)];exact gk⟩⟩,k4⟩
 ·rcases c0 i _ hp with⟨_,e⟩|⟨kp,hp⟩
  ·subst e;exact .inr (.inr (.inl ft))
  ·rcases c0 j _ hq with⟨_,e⟩|⟨XH,hq⟩
   ·subst e;exact .inr (.inr (.inr ft))
   ·exact h.inj i j p q hp hq he
theorem Mem.afy {w0:cI} {ρ:Env} {m:Nat->Nat} {bl:List aj} {w w':ai} {b g:Nat} {cs:List A} {t:aR×Bool} (h:Mem w0 ρ m bl w) (hi:bl[b]?=some (cs,t)) (ho:bI cs=true) (hx:Mq (m b) w w') (hg:w.heap.size<=g):na w0 ρ m (cy bl b dM) w' g:=λi sh off code cap kind t' hq=>by
 have ft:aS ρ dM.1=0:=by simp[dM,aS,U.aO]
 have fE:aS ρ cs=2:=hT ho;rcases RB hq with⟨_,e,_⟩|⟨kp,h1⟩
 ·simp only[dM,cN,gY,A.rows.injEq,and_true]at e;intro hk;exact absurd e.1.2.2.2.2 hk
 ·refine(h.rws i sh off code cap kind t' h1).grow (λg' h' o gk=>⟨⟨h'.set hi (λag=>by rw[ft]at ag;omega),by have:=(Array.getElem?_eq_some_iff.1 gk).1;omega⟩,by rw[hx.blk g' (Array.getElem?_eq_some_iff.1 gk).1 (λe=>h'.2 b _ hi (by rw[hT ho];decide) e.symm)];exact gk⟩) λhk hc=>?_;have kq:aS ρ [A.rows sh off code cap kind]≠0:=by simp only[iH hk hc];exact hk
  refine hx.blk _ (h.lt h1 kq) λe=>?_;rcases h.inj i b _ _ h1 hi e with h3|h3|h3|h3
  ·exact kp h3
  ·simp only at h3;omega
  ·exact kq h3
  ·simp only at h3;omega
theorem bU.dead {n nb:Nat} {ρ:Env} {bl:List aj} (h:bU n nb ρ bl) (b:Nat):bU n nb ρ (cy bl b dM):=by
 intro q hq a ha;rw[iN]at hq;rcases CY hq with hq|hq
 ·exact h q hq a ha
 ·subst hq;simp only[dM,kg,tW,or_false]at ha;subst ha;exact⟨⟨U.cr _ _,U.cr _ _,U.cr _ _⟩,by rw[U.aO];exact⟨bO _,sG⟩,by rw[U.aO];omega⟩
theorem MC {ρ:Env} {m:Nat->Nat}:∀(k:Nat) {vs:List V} {xs:List ax},db ρ m vs xs->db ρ m (vs.take k) (xs.take k)/\db ρ m (vs.drop k) (xs.drop k)
 |0,vs,xs,h=>⟨by simp;trivial,by simpa using h⟩
 |k+1,[],[],_=>⟨trivial,trivial⟩
 |k+1,v::vs,x::xs,h=>⟨⟨h.1,(MC k h.2).1⟩,(MC k h.2).2⟩
 |_+1,[],_::_,h=>h.elim
 |_+1,_::_,[],h=>h.elim
theorem lB.ui {w0:cI} {p:lB} {spec:List Int->List Int->Prop} (hc:p.dW P w0.b spec) (hS:∀zs rs,spec zs rs->S p.c.id zs rs) (n:Nat) (vs:List V) (bl:List aj) (k:RK) (G:c9) (ρ:Env) (m:Nat->Nat) (w:ai) (xs:List ax) (R':qw->ai->Prop)
 (hb:bU n bl.length ρ bl) (hw:Mem w0 ρ m bl w) (hv:∀v∈vs,V.ok n bl.length ρ v) (hr:db ρ m vs xs) (ag:(p.E n vs bl k).holds S L G ρ) (hk:pJ S L w0 k n bl.length ρ m G R'):
 (callFunc p.c.f xs.toArray).run P w= .ok (.enter p.c.f xs.toArray) w/\gZ P p.c.f xs.toArray w R':=by
 refine⟨hc.1 _ _,?_⟩;unfold lB.E at ag;split at ag
 rotate_left
 ·exact ag.elim
 rename_i b us;split at ag
 rotate_left
 ·exact ag.elim
 rename_i cs t hbl
 match xs,hr with
 |x::xs,hr=>
 cases gS:(bI cs&&DI p.cells cs&&aA t p.ty&&DH p.tail (us.drop p.c.args.length)&&bp p.c.args.length us.length&& !(((us.take p.c.args.length).flatMap fL).any (aA b))&&kN p.c.res&& !(p.c.res.any bG.js))with
 |false=>rw[gS]at ag;exact ag.elim
 |true=>
 rw[gS]at ag;simp only[cond_true]at ag;simp only[aQ,iP]at gS;obtain⟨⟨⟨⟨⟨⟨⟨c1,c2⟩,c3⟩,c4⟩,c5⟩,c6⟩,kj⟩,mG⟩:=gS;have c3:=bo c3;subst c3;obtain⟨hx,hr⟩:=hr;have hx:x= .pointer (some ⟨m b,0,none⟩):=hx;subst hx;obtain⟨r1,r2⟩:=MC p.c.args.length hr;have Pr:=V2 c4 r2;have gm:xs=xs.take p.c.args.length++p.tail.map eX.val:=by rw[<-Pr,jy]
 obtain⟨b1,b2,r,jq,b3⟩:=hw.blk b cs _ hbl c1;have jq:=jq rfl;subst jq;rw[lv,V4 c2]at b3;obtain⟨ay,n1,ls,eY,dz,⟨g1,g2,g3⟩,ag⟩:=NQ (S:=S) (L:=L) hb hw (λv hv'=>hv v (cx _ (kh hv'))) r1 G _ ag;obtain⟨gf,ag⟩:=preM_holds ag;simp only[T.holds]at ag;rw[gm];refine(hc.2 (oN w0 ρ m bl ((us.take p.c.args.length).flatMap fL) ((us.take p.c.args.length).flatMap jO)) w _ _ (m b) hw.ext g2 gf (g3 _ λ_ h=>h) b1 (λhF=>?_) b3).mono ?_
 ·rcases hF with⟨⟨b',k1,k2,q,k3,k4,_⟩,_⟩|ob
  rotate_left
  ·exact ob.2 b _ hbl (by rw[hT c1];decide) rfl
  have hne:b≠b':=λe=>by
   subst e;rw[List.any_eq_true.2 ⟨b,k1,CM b⟩]at c6;cases c6
  rcases hw.inj b b' _ q hbl k3 k2.symm with h|h|h|h
  ·exact hne h
  ·have:=hT (ρ:=ρ) c1;simp only at h;omega
  ·have:=hT (ρ:=ρ) c1;simp only at h;omega
  ·exact k4 h
 rintro e w' ⟨he,rs,jR,r1,r2,r3,rfl⟩
 have ag:=kM ag r1 (hS _ _ r2);have hM:=hw.but hbl c1 he;have dL:=hb.dead b;have hl:(cy bl b dM).length=bl.length:=jN _ _ _;have cU:agree n1 ay (bh ay n1 rs):=agree.bh rs n1 ay;have lG:=dz.trans cU eY;have hb2:bU (n1+(bR p.c.res).length) (cy bl b dM).length (bh ay n1 rs) (cy bl b dM):=by rw[hl];exact dL.ext lG (by omega) (aV _)
 have ain:Mem w0 (bh ay n1 rs) m (cy bl b dM) w':=hM.dQ (by rw[hl];exact dL) lG;have hA:fJ (bh ay n1 rs) n1 rs:=fJ.bh ay n1 rs;have yy:cJ n bl.length ρ m (n1+(bR p.c.res).length) (cy bl b dM).length (bh ay n1 rs) m:=⟨by omega,lG,by rw[hl];exact aV _,λ_ _=>rfl⟩;have hF:∀g,(oN w0 ρ m bl ((us.take p.c.args.length).flatMap fL) ((us.take p.c.args.length).flatMap jO) g∨w.heap.size<=g)->w0.ex g∨w0.ro g∨w0.r.heap.size<=g:=λg hg=>by
  rcases hg with(hg|hg)|hg
  ·exact hg.2
  ·exact hg.1
  ·exact .inr (.inr (gx hw.ew hg))
 have hN:∀g,w.heap.size<=g->w0.b.heap.size<=g/\w0.r.heap.size<=g:=λg hg=>⟨gx hw.ext.size hg,gx hw.ew hg⟩;have lJ:(p.c.res.all λb=> !b.js)=true:=by
  rw[pC];intro b hb;cases dL:b.js with
  |false=>rfl
  |true=>rw[List.any_eq_true.2 ⟨b,hb,dL⟩]at mG;cases mG
 obtain⟨n',ae,m',awH,gC,p1,aJ,bb,b7,dD,eo⟩:=sL (S:=S) (L:=L) hF hN (l:=p.c.res) (us:=[]) (vals:=jR) kj hb2 ain hA r1 (aV _) r3 (.inl lJ) (.inr λi q hi e8=>by
  by_cases h0:aS (bh ay n1 rs) q.1=0
  ·exact h0
  ·exfalso;rw[iN,oL]at hi;split at hi
   ·rename_i e;subst e;split at hi
    ·cases hi;exact h0 (by simp[dM,aS,U.aO])
    ·cases hi
   ·rw[mn (hb q (cM hi)) lG]at h0;have:=hw.lt hi h0;omega) (.inr λg hg=>(hw.afy hbl c1 he hg).dQ (by rw[hl];exact dL) lG) (λu hu=>by simp at hu) ag
 have jG:=KJ (m:=m') dD (by simpa using b7);exact hk n' (qk awH) gC G ae m' w' (lO jR) (yy.trans p1) (dI.refl _ _) jG.1 jG.2 aJ bb eo
noncomputable def Gd:List lB->ig->ig
 |[],bc=>bc
 |p::r,bc=>λf=>cond (aA p.c.f f) (some p.E) (Gd r bc f)
theorem aaC {w0:cI} {bc:ig} (gd:l4 S L w0 P bc):∀{l:List lB},(∀p∈l,p.dW P w0.b (S p.c.id))->l4 S L w0 P (Gd l bc)
 |[],_=>gd
 |p::l,h=>λf g hf=>by
  unfold Gd at hf;cases hb:aA p.c.f f with
  |true=>
   rw[hb]at hf;simp only[cond_true,aK]at hf;have:=bo hb;subst this;subst hf;intro n vs bl k G ρ m w xs R' h1 h2 h3 h4 h5 h6;exact lB.ui (h p (by simp)) (λ_ _ h=>h) n vs bl k G ρ m w xs R' h1 h2 h3 h4 h5 h6
  |false=>
   rw[hb]at hf;exact aaC gd (λp hp=>h p (cx _ hp)) f g hf
noncomputable def lB.tree (f:ij) (p:lB):T:=
 cond (kN p.c.args&& !(p.c.args.any bG.j5)) (FN p.c.pre ((cD (bR p.c.args).length).map zc) (nX p.c.args 0 (bR p.c.args).length [] [] λn us bl=>
  cond (bI (p.cells.map eX.A)) (f p.c.f n (jt (.ptr bl.length 0)::(us.map V.w++p.tail.map λr=>jt r.A)) (bl++[(p.cells.map eX.A,(p.ty,false))]) λn' v aG=>match aG[bl.length]? with
   |some (cs,_)=>cond (bI cs) (Gi (cy aG bl.length dM) p.c.res v n' λos _=> .leaf (tz os)) .stuck
   |none=> .stuck) .stuck)) .stuck
theorem eX.S4 (r:eX) (ρ:Env) (m:Nat->Nat):r.A.den ρ m=r.val:=by cases r<;>simp[eX.A,eX.val,A.den,br.const,U.aO]
theorem eX.S5 (r:eX) (n nb:Nat) (ρ:Env):r.A.ok n nb ρ:=by
 cases r with
 |int k c=>exact br.nj _ _ _
 |fn f=>rfl
theorem T7 {ρ:Env} {m:Nat->Nat}:∀{vs us:List V} {xs fA:List ax},db ρ m vs xs->db ρ m us fA->db ρ m (vs++us) (xs++fA)
 |[],_,[],_,_,h=>h
 |_::_,_,_::_,_,h,h'=>⟨h.1,T7 h.2 h'⟩
 |[],_,_::_,_,h,_=>h.elim
 |_::_,_,[],_,h,_=>h.elim
theorem Mem.agC {b r r':ai} {ro:Nat->Prop} {ρ:Env} {m:Nat->Nat} {bl:List aj} {w:ai} {g i0:Nat} {cs:List A} {t:aR×Bool} (h:Mem ⟨b,r,λi=>i=g,ro,[]⟩ ρ m bl w) (hi:bl[i0]?=some (cs,t)) (ho:bI cs=true) (hg:m i0=g)
 (hr:r'.os=r.os/\r'.tape=r.tape/\r'.output=r.output/\r'.heap.size=r.heap.size) (h1:∀k,k≠g->r'.heap[k]?=r.heap[k]?) (h2:r'.heap[g]?=w.heap[g]?):
 Mem ⟨b,r',λ_=>False,ro,[]⟩ ρ m (cy bl i0 dM) w:=by
 have hlen:i0<bl.length:=(List.getElem?_eq_some_iff.1 hi).1;have c0:∀(i:Nat) (q:aj),(cy bl i0 dM)[i]?=some q->(i=i0/\q=dM)∨(i≠i0/\bl[i]?=some q):=λi q hq=>by
  rw[iN,oL]at hq;split at hq
  ·rename_i eE;subst eE;simp only[hlen,if_true,aK]at hq;exact .inl ⟨rfl,hq.symm⟩
  ·rename_i eE;exact .inr ⟨λe=>eE e.symm,hq⟩
 have ft:aS ρ dM.1=0:=by simp[dM,aS,U.aO]
 have fE:aS ρ cs=2:=hT ho;have hne:∀(i:Nat) (q:aj),i≠i0->bl[i]?=some q->aS ρ q.1≠0->m i≠g:=λi q kp hq hk e=>by
  rcases h.inj i i0 q _ hq hi (by rw[e,hg])with h1|h1|h1|h1
  ·exact kp h1
  ·simp only at h1;omega
  ·exact hk h1
  ·simp only at h1;omega
 refine⟨h.ext,h.jo.trans hr.1.symm,h.jr.trans hr.2.1.symm,h.iF.trans hr.2.2.1.symm,by have:=h.ew;simp only at this⊢;omega,λi dv _=>?_,λi cs' t' hq gk=>?_,λi sh off code cap kind t' hq=>?_,λi j p q hp hq he=>?_⟩
 ·by_cases e:i=g
  ·subst e;exact h2.symm
  ·show w.heap[i]?=r'.heap[i]?;rw[h1 i e];exact h.gi i (by simp only at dv⊢;omega) e
 ·rcases c0 i _ hq with⟨_,e⟩|⟨kp,hq⟩
  ·simp only[dM,cN]at e;rw[e.1]at gk;simp[bI]at gk
  ·obtain⟨k1,k2,k3⟩:=h.blk i cs' t' hq gk;refine⟨k1,?_,k3⟩;rcases k2 with k2|k2
   ·exact absurd k2 (hne i _ kp hq (by rw[hT gk];decide))
   ·exact .inr (by simp only at k2⊢;omega)
 ·rcases c0 i _ hq with⟨_,e⟩|⟨kp,hq⟩
  ·simp only[dM,cN,gY,A.rows.injEq,and_true]at e;intro hk;exact absurd e.1.2.2.2.2 hk
  ·intro hk;obtain⟨g1,g2⟩:=h.rws i sh off code cap kind t' hq hk;refine⟨g1,λhc=>?_⟩;have yQ:m i≠g:=hne i _ kp hq (by simp only[aS];rw[if_neg (by omega)];exact hk);obtain⟨k1,cells,Gx,fz,k2,k3,k4⟩:=g2 hc;refine⟨?_,cells,Gx,fz,k2,⟨k3.1,k3.2.mono (Fr.of w λg' ej=>⟨?_,λj q hj hk=>?_⟩)⟩,λh2=>?_⟩
   rotate_left
   ·rcases ej.1 with e|e|e
    ·have e:g'=g:=e;subst e;exact absurd hg (ej.2 i0 _ hi (by rw[fE];decide))
    ·exact .inr (.inl e)
    ·exact .inr (.inr (by simp only at e⊢;omega))
   ·rcases c0 j _ hj with⟨_,e⟩|⟨_,hj⟩
    ·subst e;omega
    ·exact ej.2 j q hj hk
   rotate_left
   ·rcases k1 with k1|k1|k1
    ·exact absurd k1 yQ
    ·exact .inr (.inl k1)
    ·exact .inr (.inr (by simp only at k1⊢;omega))
   ·obtain⟨cm,eT,j6,ml,nG,jI⟩:=k4 h2;refine⟨cm,eT,j6,ml,nG,?_⟩;rcases jI with jI|jI
    ·exact absurd jI yQ
    ·exact .inr (by simp only at jI⊢;omega)
 ·rcases c0 i _ hp with⟨_,e⟩|⟨kp,hp⟩
  ·subst e;exact .inr (.inr (.inl ft))
  ·rcases c0 j _ hq with⟨_,e⟩|⟨XH,hq⟩
   ·subst e;exact .inr (.inr (.inr ft))
   ·exact h.inj i j p q hp hq he
theorem lB.ao0 {wb:ai} {p:lB} {inl:ij} {spec:List Int->List Int->Prop}
 (iD:∀(L:V->Env->Prop) (r:ai) (ex ro:Nat->Prop),lA S L ⟨wb,r,ex,ro,[]⟩ P inl) (hf:∀args w,(callFunc p.c.f args).run P w= .ok (.enter p.c.f args) w)
 (ht:oR (bR p.c.args) λzs=>(p.tree inl).holds S (pI λrs=>bd (bR p.c.res) rs/\spec zs rs) (λ_ _=>False) (bh (λ_=>0) 0 zs)):p.dW P wb spec:=by
 refine⟨hf,λF w vs zs g hw hz yT hat Ox yw hcell=>?_⟩;have ag:=kM ht hz;have mO:=gp hz;unfold lB.tree at ag;cases hq:(kN p.c.args&& !(p.c.args.any bG.j5))with
 |false=>rw[hq]at ag;exact ag.elim
 |true=>
  rw[hq]at ag;simp only[cond_true]at ag;have ag:=preA_holds ag (by rw[<-mO,FD];exact yT);simp only[aQ,iP]at hq;have jE:Mem ⟨wb,w,λ_=>False,F,[]⟩ (bh (λ_=>0) 0 zs) (λ_=>0) [] w:=⟨hw,rfl,rfl,rfl,aV _,λ_ _ _=>rfl,λi cs t h=>by simp at h,λi sh off code cap kind t h=>by simp at h,λi j p q h=>by simp at h⟩;have hall:(p.c.args.all λb=> !b.j5)=true:=by
   rw[pC];intro b hb;cases dL:b.j5 with
   |false=>rfl
   |true=>rw[List.any_eq_true.2 ⟨b,hb,dL⟩]at hq;cases hq.2
  obtain⟨n',ae,m',us,bl,p1,aJ,bb,b7,dD,eo⟩:=sL (S:=S) (L:=_) (w0:=⟨wb,w,λ_=>False,F,[]⟩) (F:=F) (N:=λ_=>False) (λg hg=> .inr (.inl hg)) (λg hg=>hg.elim) (l:=p.c.args) (s:=0) (us:=[]) (bl:=[]) (m:=λ_=>0) hq.1 (λp hp=>by simp at hp) jE (fJ.bh _ 0 zs) hz (by omega) hat (.inr λi p h=>by simp at h) (.inl hall) (.inl hall) (λu hu=>by simp at hu) ag;cases qO:bI (p.cells.map eX.A)with
  |false=>rw[qO]at eo;exact eo.elim
  |true=>
  rw[qO]at eo;simp only[cond_true]at eo;have wO:g<w.heap.size:=(Array.getElem?_eq_some_iff.1 hcell).1;have rP:∀ρ m,(p.cells.map eX.A).map (A.den ρ m)=p.cells.map eX.val:=λρ m=>by
   rw[jf];exact gw λr _=>r.S4 ρ m
  have Xn:∀n nb ρ,∀a∈p.cells.map eX.A,A.ok n nb ρ a:=λn nb ρ a ha=>by
   obtain⟨r,_,rfl⟩:=List.mem_map.1 ha;exact r.S5 n nb ρ
  have hM:=(bb.more (ex':=λi=>i=g) λ_ h=>h.elim).push (x:=(p.cells.map eX.A,(p.ty,false))) (g:=g) aJ (Xn _ _ _) (λ_=>⟨Ox,.inl rfl,[],λ_=>rfl,by rw[lv,rP];exact hcell⟩) (λsh off code cap kind he=>by
   simp only at he;rw[he]at qO;simp[bI]at qO) (λi q hi he=>by
    refine .inr (.inl ?_);by_cases h0:aS ae q.1=0
    ·exact h0
    ·exfalso;obtain⟨cs,t⟩:=q;cases ho:bI cs with
     |true=>
      obtain⟨_,h2,_⟩:=bb.blk i cs t hi ho;rcases h2 with h2|h2
      ·exact h2
      ·simp only at h2;omega
     |false=>
      obtain⟨sh,off,code,cap,k,e⟩:=Kq ho;subst e;simp only[aS]at h0;split at h0
      ·exact h0 rfl
      ·rename_i hc;obtain⟨h1,_⟩:=(bb.rws i sh off code cap k t hi h0).2 (by omega);rcases h1 with h1|h1|h1
       ·exact h1
       ·rw[he]at h1;exact yw h1
       ·simp only at h1;omega) (λi sh off code cap kind t hi=>((bb.abc (x:=(p.cells.map eX.A,(p.ty,false))) (g:=g) (λg' ej e=>by
    subst e;rcases ej.1 with h1|h1|h1
    ·exact h1
    ·exact yw h1
    ·simp only at h1;omega) i sh off code cap kind t hi).more (ex':=λi=>i=g) λ_ h=>h.elim).mono λg' ej=>⟨ej.1.imp (λh=>h.elim) id,ej.2⟩)
  have yC:bU n' (bl++[(p.cells.map eX.A,(p.ty,false))]).length ae (bl++[(p.cells.map eX.A,(p.ty,false))]):=λq hq a fs=>by
   rcases List.mem_append.1 hq with hq|hq
   ·exact(aJ q hq a fs).ext (agree.refl _ _) (aV _) (by simp)
   ·simp at hq;subst hq;exact Xn _ _ _ a fs
  have mf:∀v∈(jt (.ptr bl.length 0)::(us.map V.w++p.tail.map λr=>jt r.A)),V.ok n' (bl++[(p.cells.map eX.A,(p.ty,false))]).length ae v:=λv hv=>by
   rcases List.mem_cons.1 hv with rfl|hv
   ·show bl.length<_;simp
   ·rcases List.mem_append.1 hv with hv|hv
    ·obtain⟨u,hu,rfl⟩:=List.mem_map.1 hv;exact W.ok.ext (dD u hu) (agree.refl _ _) (aV _) (by simp)
    ·obtain⟨r,_,rfl⟩:=List.mem_map.1 hv;exact r.S5 _ _ _
  have Pu:∀u∈us,W.den ae (fc m' bl.length g) u=W.den ae m' u:=λu hu=>W.j1 (dD u hu) (agree.refl _ _) (λb hb=>iO hb);have hrel:db ae (fc m' bl.length g) (jt (.ptr bl.length 0)::(us.map V.w++p.tail.map λr=>jt r.A)) (.pointer (some ⟨g,0,none⟩)::(vs++p.tail.map eX.val)):=by
   refine⟨by simp[jt,V.rel,W.den,A.den,kb],T7 (Hy ?_) ?_⟩
   ·rw[gw Pu];simpa using b7
   ·have:=MB (ρ:=ae) (m:=fc m' bl.length g) (p.tail.map eX.A);rw[jf,jf]at this;have e:(A.den ae (fc m' bl.length g)∘eX.A)=eX.val:=funext λr=>r.S4 _ _;rw[e]at this;exact this
  refine((iD _ _ _ _ p.c.f n' _ _ _ _ ae (fc m' bl.length g) w _ _ yC hM mf hrel eo ?_).2);intro n2 v aG da bn m2 w' val h1 h2 h3 h4 h5 h6 h7;simp only at h7;split at h7
  rotate_left
  ·exact h7.elim
  rename_i cs t hb2;cases gS:bI cs with
  |false=>rw[gS]at h7;exact h7.elim
  |true=>
  rw[gS]at h7;simp only[cond_true]at h7;have Oz:bl.length<(bl++[(p.cells.map eX.A,(p.ty,false))]).length:=by simp
  have rU:m2 bl.length=g:=by rw[h1.hm _ Oz,kb]
  obtain⟨Qx,akK⟩:∃o,w'.heap[g]?=some o:=by
   obtain⟨_,_,r,_,h8⟩:=h6.blk bl.length cs t hb2 gS;rw[rU]at h8;exact⟨_,h8⟩
  have me:=h6.agC (r':=w.putObj g Qx) hb2 gS rU (tB _ _ _) (λk hk=>sC hk) (by rw[vT wO,akK]);have dL:bU n2 (cy aG bl.length dM).length bn (cy aG bl.length dM):=by
   rw[jN];exact h5.dead _
  obtain⟨eM,n3,os,rV,p3,⟨xs,hx1,hx2⟩,hl⟩:=Q5 (S:=S) (w0:=⟨wb,w.putObj g Qx,λ_=>False,F,[]⟩) (λg hg=>hg) dL me (by rw[jN];exact h3) h4 da _ h7;have hl:pI _ (tz os) eM:=hl;rw[HA]at hl;refine⟨⟨h6.jo,h6.jr,h6.iF,h6.ew,λi hi OQ=>h6.gi i hi OQ⟩,os.map (O.den eM),xs,hl.1,hl.2,?_,by rw[hx1]⟩;have hsz:(w.putObj g Qx).heap.size=w.heap.size:=SZ;exact cY.xg.x8 (λg hg=>by
   rcases hg with hg|hg|hg
   ·exact hg.elim
   ·exact .inl hg
   ·exact .inr (hsz▸hg)) (λg hg=>hsz▸hg) hx2
section
variable {wb:ai} {sh:Nat->List Nat×List Nat} {SB:Nat->List (List Int)->List (List Int)->Prop}
theorem asZ {p:lB} {inl:ij} {lsh:Nat->List Nat} {lens:List Nat}
 (iD:∀(L:V->Env->Prop) (r:ai) (ex ro:Nat->Prop),lA (b5 sh SB) L ⟨wb,r,ex,ro,[]⟩ P inl) (hf:rJ P p.c.f=true) (hl:lens=(sh p.c.id).1) (hd:tv p.c.res=(sh p.c.id).2)
 (hv:gB sh lsh SB (dS SB p.c.res p.c.id) lens (bR p.c.args) p.c.res (p.tree inl)):p.dW P wb (b5 sh SB p.c.id):=by
 refine lB.ao0 iD (enters hf) (sK λzs hz=>?_);have h:=kM (HJ hv) hz;simp only[dS,Ct]at h;rw[hl,hd]at h;exact h
end
end Go.aW
namespace Go.aX
open Go Go.aW
def si:List Int:=[0x428a2f98d728ae22,0x7137449123ef65cd,0xb5c0fbcfec4d3b2f,0xe9b5dba58189dbbc,0x3956c25bf348b538,0x59f111f1b605d019,0x923f82a4af194f9b,0xab1c5ed5da6d8118,0xd807aa98a3030242,0x12835b0145706fbe,0x243185be4ee4b28c,0x550c7dc3d5ffb4e2,0x72be5d74f27b896f,0x80deb1fe3b1696b1,0x9bdc06a725c71235,0xc19bf174cf692694,0xe49b69c19ef14ad2,0xefbe4786384f25e3,0xfc19dc68b8cd5b5,0x240ca1cc77ac9c65,0x2de92c6f592b0275,0x4a7484aa6ea6e483,0x5cb0a9dcbd41fbd4,0x76f988da831153b5,0x983e5152ee66dfab,0xa831c66d2db43210,0xb00327c898fb213f,0xbf597fc7beef0ee4,0xc6e00bf33da88fc2,0xd5a79147930aa725,0x6ca6351e003826f,0x142929670a0e6e70,0x27b70a8546d22ffc,0x2e1b21385c26c926,0x4d2c6dfc5ac42aed,0x53380d139d95b3df,0x650a73548baf63de,0x766a0abb3c77b2a8,0x81c2c92e47edaee6,0x92722c851482353b,0xa2bfe8a14cf10364,0xa81a664bbc423001,0xc24b8b70d0f89791,0xc76c51a30654be30,0xd192e819d6ef5218,0xd69906245565a910,0xf40e35855771202a,0x106aa07032bbd1b8,0x19a4c116b8d2d0c8,0x1e376c085141ab53,0x2748774cdf8eeb99,0x34b0bcb5e19b48a8,0x391c0cb3c5c95a63,0x4ed8aa4ae3418acb,0x5b9cca4f7763e373,0x682e6ff3d6b2b8a3,0x748f82ee5defb2fc,0x78a5636f43172f60,0x84c87814a1f0ab72,0x8cc702081a6439ec,0x90befffa23631e28,0xa4506cebde82bde9,0xbef9a3f7b2c67915,0xc67178f2e372532b,0xca273eceea26619c,0xd186b8c721c0c207,0xeada7dd6cde0eb1e,0xf57d4f7fee6ed178,0x6f067aa72176fba,0xa637dc5a2c898a6,0x113f9804bef90dae,0x1b710b35131c471b,0x28db77f523047d84,0x32caab7b40c72493,0x3c9ebe0a15c9bebc,0x431d67c49c100d4c,0x4cc5d4becb3e42b6,0x597f299cfc657e2a,0x5fcb6fab3ad6faec,0x6c44198c4a475817]
def yc:List Int:=[0x6a09e667f3bcc908,0xbb67ae8584caa73b,0x3c6ef372fe94f82b,0xa54ff53a5f1d36f1,0x510e527fade682d1,0x9b05688c2b3e6c1f,0x1f83d9abfb41bd6b,0x5be0cd19137e2179]
def b6:dA:=[(0,si.map λz=>(.u64,z)),(1,yc.map λz=>(.u64,z)),(2,yc.map λz=>(.u64,z)),(3,si.map λz=>(.u64,z))]
structure fD where
 k:cX
 w:Nat
 s:Nat
 t:Nat
 a:List Nat
 b:List Nat
 c:List Nat
 d:List Nat
 n:Nat
def aT:fD:=⟨.u32,32,3,10,[2,13,22],[6,11,25],[7,18],[17,19],64⟩
def qC:fD:=⟨.u64,64,7,6,[28,34,39],[14,18,41],[1,8],[19,61],80⟩
def dU (w n:Nat) (x:Int):Int:=x/2^n+(x% 2^n)*2^(w-n)
def K1 (p:fD) (l:List Nat) (x:Int):Int:=l.foldl (λy n=>aZ .xor p.k y (dU p.w n x)) 0
def J9 (a b c:Nat) (s x:Int):Int:=aZ .xor .u64 (aZ .xor .u64 (aZ .xor .u64 0 (dU 64 a x)) (dU 64 b x)) (if s=1 then x/2^c else dU 64 c x)
def jv (n:Nat) (x:Int):Int:=aZ .or .u64 (x/2^n) (x*2^(32-n)% 0x10000000000000000)% 4294967296
def vj (a b c:Nat) (s x:Int):Int:=aZ .xor .u64 (aZ .xor .u64 (jv a x) (jv b x)) (if s=1 then x/2^c else jv c x)
def FF (a b c:Nat) (s x:Int):Int:=aZ .xor .u32 (aZ .xor .u32 (aZ .xor .u32 0 (dU 32 a x)) (dU 32 b x)) (if s=1 then x/2^c else dU 32 c x)
def wi (p:fD) (x:Int):Int:=K1 p p.a x
def wj (p:fD) (x:Int):Int:=K1 p p.b x
def Cu (p:fD) (x:Int):Int:=aZ .xor p.k (K1 p p.c x) (x/2^p.s)
def Cv (p:fD) (x:Int):Int:=aZ .xor p.k (K1 p p.d x) (x/2^p.t)
def md (p:fD) (x:Int):Int:=x% 2^p.w
def yg (p:fD) (e f g:Int):Int:=aZ .xor p.k (aZ .and p.k e f) (aZ .and p.k (2^p.w-1-e) g)
def BS (p:fD) (a b c:Int):Int:=aZ .xor p.k (aZ .xor p.k (aZ .and p.k a b) (aZ .and p.k a c)) (aZ .and p.k b c)
def zw (p:fD) (i:Nat):Int:=si.getD i 0/2^(64-p.w)
def qY (p:fD) (m:List Int):Int:=md p (m.getD (m.length-16) 0+Cu p (m.getD (m.length-15) 0)+m.getD (m.length-7) 0+Cv p (m.getD (m.length-2) 0))
def mb (p:fD):Nat->List Int->List Int
 |0,m=>m
 |j+1,m=>mb p j (m++[qY p m])
def sched (p:fD) (m:List Int):List Int:=mb p (p.n-16) m
def vw (p:fD) (i:Nat) (x:Int):List Int->List Int
 |[a,b,c,d,e,f,g,h]=>
  let t:=md p (h+wj p e+yg p e f g+zw p i+x);let u:=md p (wi p a+BS p a b c)
  [md p (t+u),a,b,c,md p (d+t),e,f,g]
 |l=>l
def pq (p:fD):Nat->List Int->List Int->List Int
 |_,[],v=>v
 |i,x::m,v=>pq p (i+1) m (vw p i x v)
def tM (p:fD) (h m:List Int):List Int:=oM (λa b=>md p (a+b)) h (pq p 0 (sched p m) h)
def vC (p:fD) (b:List Int) (j:Nat):Int:=(cD (p.w/8)).foldl (λy q=>y*256+b.getD (j*(p.w/8)+q) 0) 0
def ss (p:fD) (b:List Int):List Int:=(cD 16).map (vC p b)
def qE (p:fD) (b:List Int):Nat->List Int->List Int
 |0,h=>h
 |i+1,h=>tM p (qE p b i h) (ss p ((b.drop (2*p.w*i)).take (2*p.w)))
def mE (p:fD):List Int:=yc.map (·/2^(64-p.w))
def qG (p:fD) (x:Int) (q:Nat):Int:=x/2^(p.w-8-8*q)% 256
def qh (p:fD) (h:List Int):List Int:=h.flatMap λx=>(cD (p.w/8)).map (qG p x)
def rB (p:fD) (b:List Int):List Int:=qh p (qE p b (b.length/(2*p.w)) (mE p))
def mT (w n:Nat):Nat:=(n+1+w/4+(2*w-1))/(2*w)*(2*w)
def wh (n:Nat):List Int:=(cD 8).map λq=>((n/2^(56-8*q)% 256:Nat):Int)
def sd (p:fD) (b:List Int):List Int:=b++[128]++eh (mT p.w b.length-b.length-9) 0++wh (8*b.length)
def j9 (p:fD) (b:List Int):List Int:=rB p (sd p b)
def ba (z:Int):List Int:=(ab z).map λr=>r.getD 0 0
def mr (n w:Int):Int:=if n<0∨1099511627776<n∨(w≠32/\w≠64)then 0 else mT w.toNat n.toNat
def digit (n:Int):UInt8:=([48,49,50,51,52,53,54,55,56,57,97,98,99,100,101,102]:List UInt8).getD n.toNat 0
def Xz (b:List Int):List UInt8:=b.flatMap λx=>[digit (x/16),digit (x% 16)]
def aez:Nat->List (List Int)->List (List Int)->Prop
 |440,[[n],[w]],rs=>rs=[[mr n w]]
 |441,[[n],[w]],rs=>rs=[[mr n w]]
 |442,[[z]],[[r]]=>ba r=sd aT (ba z)
 |443,[[z]],[[r]]=>ba r=sd qC (ba z)
 |444,[[x]],rs=>rs=[[wi aT x]]
 |445,[[x]],rs=>rs=[[wj aT x]]
 |446,[[x]],rs=>rs=[[Cu aT x]]
 |447,[[x]],rs=>rs=[[Cv aT x]]
 |448,[[x]],rs=>rs=[[wi qC x]]
 |449,[[x]],rs=>rs=[[wj qC x]]
 |450,[[x]],rs=>rs=[[Cu qC x]]
 |451,[[x]],rs=>rs=[[Cv qC x]]
 |452,[[z]],rs=>rs=[j9 aT (ba z)]
 |453,[[z]],rs=>rs=[j9 qC (ba z)]
 |454,[[z]],[[s]]=>aa s=Xz (ba z)
 |455,[[z]],[[s]]=>aa s=Xz (ba z)
 |456,[],rs=>rs=[[1]]
 |457,[_,_],[[r]]=>r=1
 |458,[_,_,_],[[r]]=>r=1
 |459,[_,_,_],[[r]]=>r=1
 |460,[[z]],[[r]]=>ab r=ab z
 |461,[[z]],[[r]]=>ab r=ab z
 |462,[[z]],[[r]]=>ab r=ab z
 |463,[[z]],[[r]]=>ab r=ab z
 |468,[[a],[b],[c],[d]],[[r]]=>ab r=ab a++(ab b++(ab c++ab d))
 |469,[[a],[b],[c]],[[r]]=>ab r=ab a++(ab b++ab c)
 |470,[[a],[b],[c],[d]],rs=>rs=[j9 aT (ba a++(ba b++(ba c++ba d)))]
 |471,[[a],[b],[c]],rs=>rs=[j9 qC (ba a++(ba b++ba c))]
 |476,[[x]],rs=>rs=[[x]]
 |477,[[z]],[[r]]=>ba r=j9 qC (ba z)
 |478,[[z]],rs=>rs=[j9 qC (ba z)]
 |479,[[x],_,[s]],rs=>rs=[[J9 28 34 39 s x]]
 |480,[[x],_,[s]],rs=>rs=[[J9 14 18 41 s x]]
 |481,[[x],_,[s]],rs=>rs=[[J9 1 8 7 s x]]
 |482,[[x],_,[s]],rs=>rs=[[J9 19 61 6 s x]]
 |483,[[x]],rs=>rs=[[x% 4294967296]]
 |484,[[x],_,[s]],[[r]]=>(0<=x->x<=4294967295->r=FF 2 13 22 s x)/\r=vj 2 13 22 s x
 |485,[[x],_,[s]],[[r]]=>(0<=x->x<=4294967295->r=FF 6 11 25 s x)/\r=vj 6 11 25 s x
 |486,[[x],_,[s]],[[r]]=>(0<=x->x<=4294967295->r=FF 7 18 3 s x)/\r=vj 7 18 3 s x
 |487,[[x],_,[s]],[[r]]=>(0<=x->x<=4294967295->r=FF 17 19 10 s x)/\r=vj 17 19 10 s x
 |488,[[z]],[[r]]=>ba r=j9 aT (ba z)
 |489,[[z]],rs=>rs=[j9 aT (ba z)]
 |802,[[x],_],[[r]]=>(0<=x->x<=4294967295->r=dU 32 2 x)/\r=jv 2 x
 |803,[[x],_],[[r]]=>(0<=x->x<=4294967295->r=dU 32 3 x)/\r=jv 3 x
 |806,[[x],_],[[r]]=>(0<=x->x<=4294967295->r=dU 32 6 x)/\r=jv 6 x
 |807,[[x],_],[[r]]=>(0<=x->x<=4294967295->r=dU 32 7 x)/\r=jv 7 x
 |810,[[x],_],[[r]]=>(0<=x->x<=4294967295->r=dU 32 10 x)/\r=jv 10 x
 |811,[[x],_],[[r]]=>(0<=x->x<=4294967295->r=dU 32 11 x)/\r=jv 11 x
 |813,[[x],_],[[r]]=>(0<=x->x<=4294967295->r=dU 32 13 x)/\r=jv 13 x
 |817,[[x],_],[[r]]=>(0<=x->x<=4294967295->r=dU 32 17 x)/\r=jv 17 x
 |818,[[x],_],[[r]]=>(0<=x->x<=4294967295->r=dU 32 18 x)/\r=jv 18 x
 |819,[[x],_],[[r]]=>(0<=x->x<=4294967295->r=dU 32 19 x)/\r=jv 19 x
 |822,[[x],_],[[r]]=>(0<=x->x<=4294967295->r=dU 32 22 x)/\r=jv 22 x
 |825,[[x],_],[[r]]=>(0<=x->x<=4294967295->r=dU 32 25 x)/\r=jv 25 x
 |490,[[z]],[[r]]=>ab r=ab z
 |491,[[z]],[[r]]=>r=0->(ab z).length<=5000
 |492,[[z]],[[r]]=>ab r=ab z
 |493,[[z]],rs=>rs=[j9 aT (ba z)]
 |494,[[z]],rs=>rs=[j9 qC (ba z)]
 |495,[_],[[r]]=>r=1
 |701,[[x],_],rs=>rs=[[dU 64 1 x]]
 |706,[[x],_],rs=>rs=[[dU 64 6 x]]
 |707,[[x],_],rs=>rs=[[dU 64 7 x]]
 |708,[[x],_],rs=>rs=[[dU 64 8 x]]
 |714,[[x],_],rs=>rs=[[dU 64 14 x]]
 |718,[[x],_],rs=>rs=[[dU 64 18 x]]
 |719,[[x],_],rs=>rs=[[dU 64 19 x]]
 |728,[[x],_],rs=>rs=[[dU 64 28 x]]
 |734,[[x],_],rs=>rs=[[dU 64 34 x]]
 |739,[[x],_],rs=>rs=[[dU 64 39 x]]
 |741,[[x],_],rs=>rs=[[dU 64 41 x]]
 |761,[[x],_],rs=>rs=[[dU 64 61 x]]
 |466,[[i]],rs=>rs=[[zw aT i.toNat]]
 |467,[[i]],rs=>rs=[[zw qC i.toNat]]
 |464,[[z]],[[r]]=>ba r=rB aT (ba z)
 |465,[[z]],[[r]]=>ba r=rB qC (ba z)
 |_,_,_=>False
end Go.aX
namespace Go.aX
open Go Go.aW
def Nf (c b:Int):Nat->Nat->List Int->(List Int->Prop)->Prop
 |0,_,acc,k=>k acc
 |n+1,i,acc,k=>ah 21 [c,(b+(i:Int))]/\∀y:Int,0<=y->y<=255->y=aB 21 [c,(b+(i:Int)),0]->Nf c b n (i+1) (acc++[y]) k
def Nd (l:List Int):Nat->Nat->Int->(Int->Prop)->Prop
 |0,_,c,k=>k c
 |n+1,j,c,k=>∀y:Int,0<=y->y<=bV->y=aB 23 [c,((16777216*ar l (4*j) 0)+((65536*ar l (4*j+1) 0)+((256*ar l (4*j+2) 0)+ar l (4*j+3) 0)))]->Nd l n (j+1) y k
def xv (x c l k:Int) (Next:Int->Int->Int->Prop):Prop:=∃(I:List (List Int)->Prop) (fo:List (List Int)->Nat),I [[3],[c],[l],[k]]/\(∀aw:Int,(-1)<=aw->aw<=3->∀bF:Int,0<=bF->bF<=bV->∀bY:Int,0<=bY->bY<=0x7fffffffffffffff->∀aF:Int,(-2)<=aF->aF<=0x7fffffffffffffff->I [[aw],[bF],[bY],[aF]]->(((decide (0<=aw))=true->∀dH:Int,0<=dH->dH<=4294967295->dH=x/2^((8*aw)).toNat->∀z20:Int,0<=z20->z20<=16777215->0<=dH-256*z20->dH-256*z20<256->ah 31 [bF,bY]/\ah 23 [bF,1]/\∀z21:Int,0<=z21->z21<=bV->z21=aB 23 [bF,(dH+((-256)*z20))]->∀aI:Int,(-2)<=aI->aI<=0x7fffffffffffffff->(I [[(aw+(-1))],[z21],[(bY+1)],[aI]]/\fo [[(aw+(-1))],[z21],[(bY+1)],[aI]]<fo [[aw],[bF],[bY],[aF]]))/\((decide (0<=aw))=false->Next bF bY aF)))
end Go.aX
namespace Go.aW
abbrev fa (p:Int->Prop):Prop:=∀z:Int,0<=z->z<=0x7fffffffffffffff->p z
abbrev bj (k:Nat) (l:List Int) (p:Int->Prop):Prop:=∀z:Int,0<=z->z<=0x7fffffffffffffff->z=aB k l->p z
abbrev cQ (p:Int->Prop):Prop:=∀z:Int,0<=z->z<=bV->p z
abbrev a8 (k:Nat) (l:List Int) (p:Int->Prop):Prop:=∀z:Int,0<=z->z<=bV->z=aB k l->p z
abbrev cl (p:Int->Prop):Prop:=∀z:Int,0<=z->z<=b8->p z
abbrev cP (k:Nat) (l:List Int) (p:Int->Prop):Prop:=∀z:Int,0<=z->z<=b8->z=aB k l->p z
abbrev KC (p:Int->Prop):Prop:=∀z:Int,0<=z->z<=255->p z
abbrev df (k:Nat) (l:List Int) (p:Int->Prop):Prop:=∀z:Int,0<=z->z<=255->z=aB k l->p z
abbrev dT (p:Int->Prop):Prop:=∀z:Int,0<=z->z<=1->p z
abbrev dh (k:Nat) (l:List Int) (p:Int->Prop):Prop:=∀z:Int,0<=z->z<=1->z=aB k l->p z
abbrev dg (p:Int->Prop):Prop:=∀z:Int,0<=z->z<=0xffffffffffffffff->p z
abbrev zp (k:Nat) (l:List Int) (p:Int->Prop):Prop:=∀z:Int,0<=z->z<=0xffffffffffffffff->z=aB k l->p z
abbrev tF (p:Int->Prop):Prop:=∀z:Int,0<=z->z<=4294967295->p z
abbrev B7 (k:Nat) (l:List Int) (p:Int->Prop):Prop:=∀z:Int,0<=z->z<=4294967295->z=aB k l->p z
abbrev tE (p:Int->Prop):Prop:=∀z:Int,(-1)<=z->z<=0x7fffffffffffffff->p z
abbrev aaB (k:Nat) (l:List Int) (p:Int->Prop):Prop:=∀z:Int,0<=z->z<=0x8000000000000000->z=aB k l->p z
abbrev bC (p:Int->Prop):Prop:=∀z:Int,0<=z->p z
abbrev bm (a b:Int) (p:Int->Prop):Prop:=∀z:Int,a<=z->z<=b->p z
abbrev fw (a b:Int) (k:Nat) (l:List Int) (p:Int->Prop):Prop:=∀z:Int,a<=z->z<=b->z=aB k l->p z
abbrev cz (x m:Int) (p:Int->Prop):Prop:=∀z:Int,0<=z->z<=1->0<=x-m*z->x-m*z<m->p z
abbrev bQ (a b x m:Int) (p:Int->Prop):Prop:=∀z:Int,a<=z->z<=b->0<=x-m*z->x-m*z<m->p z
abbrev aE (b:Bool) (p q:Prop):Prop:=(b=true->p)/\(b=false->q)
end Go.aW
namespace Go.aW
abbrev dF:Int:=0x10000000000000000
abbrev aM:Int:=-0x10000000000000000
abbrev bT:Int:=0x7fffffffffffffff
abbrev eI:Int:=0x8000000000000001
abbrev ZB:Int:=0xffffffffffffffff
end Go.aW
