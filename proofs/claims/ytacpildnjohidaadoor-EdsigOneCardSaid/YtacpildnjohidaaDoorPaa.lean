/- Texts as numbers. -/
import GoSem.ClaimData
import GoSem.Op.String
import Derived.WalkKit
import Derived.Laws.StructEq
import Derived.ChangeKeysEq
import Derived.Laws.Tables
import Derived.Laws.Strings2
import Derived.Laws.Concat
import Derived.Laws.Cover1
import Derived.Laws.Cover3
import Derived.Laws.BytesArg
import Derived.StillTail
import Derived.OrdersHeld
import Derived.Laws.CopyRow
import Derived.Deep.LoopGhost
open Array renaming toArray_toList->kc,toList_map->xV,replicate->zx,eq_empty_of_size_eq_zero->Bq,getElem?_toList->MG,getElem?_eq_none->SF,getElem?_setIfInBounds_ne->aEq,ext_getElem?->aEC
open BitVec renaming ofInt->sK,toNat_ofInt->Sz
open Bool renaming and_eq_true->bo,not_eq_true'->fF,not_true->ix,not_eq_false'->jE,false_eq_true->uv,or_eq_true->Bm,false_or->FF,true_and->aEi
open ByteArray renaming size->aLX
open Classical renaming byContradiction->abu,choose_spec->alT,choose->aD5
open Function renaming comp->Mv
open Go renaming World->aE,Value->aP,TypeId->bh,Program->bQ,FuncId->dn,IntKind->du,run_underlying->eU,Operand->oM,getD_both->FH,run_loadCells_list->My
open Go.Act renaming put->IX
open Go.Builtin renaming len_->IZ,min_->abK,max_->abL
open Go.ByteArray renaming toList_mk->aLW,mk_append_mk->aLY,getElem?_lt'->aLZ,extract_mk->aL0
open Go.Deferred renaming ofValue->al8
open Go.Instr renaming sureAddr->mO,sliceBounds->mP,loadAt->nr,sliceAt->rH,indexAt->uB,sliceBound->MF,index->abC,slice->abD,extract->alY,fieldAt->alZ,fill->al7,arrayAt->al9
open Go.IntKind renaming max->mN,signed->MC,bits->al4,wrap->aEh
open Go.Next renaming value->kr
open Go.Next.value renaming injEq->aEE
open Go.Op renaming eqFields->I0,intBits->SC,equalIn->SE
open Go.Oper renaming wp->mQ
open Go.Program renaming fieldsOf->aEx
open Go.Region renaming ready->wh,wanted->zz,waitsFor->Bp,waitsFor_spec->FG,noSelect->Ss,binds->abF,Mode->ama,chainB->aEz,seqB->aEA,free->aEG
open Go.Result renaming andThen_ok->iz,andThen->aEF
open Go.Result.ok renaming injEq->aED
open Go.Sem renaming run_bind->ic,run_pure->js
open Go.Utf8 renaming encode->SD
open Go.Value.pointer renaming injEq->aLI
open Go.World renaming cell?->lH
open Go.World.Extends renaming refl->qc
open Int renaming le_refl->cL,mul_comm->j3,lt_or_le->kI,emod_eq_of_lt->nm,toNat_natCast->nY,eq_ofNat_of_zero_le->ps,le_of_lt->pv,emod_nonneg->rG,emod_lt_of_pos->xL,mul_assoc->Bh,mul_le_mul_of_nonneg_left->De,dvd_of_emod_eq_zero->Fy,natCast_nonneg->IN,mul_add->IQ,ediv_nonneg->abz,mul_le_mul->abB,mul_nonneg->al1,mul_ediv_add_emod->al3,ofNat_sub->al5,mul_emod_right->al6,ediv_le_ediv->aEg,ediv_le_self->aEm,fdiv_eq_ediv_of_nonneg->aEn,tdiv_eq_ediv_of_nonneg->aEo,tmod_eq_emod_of_nonneg->aEp,ofNat_toNat->aEK
open List renaming getD->U,map_cons->cQ,mem_cons_of_mem->dU,mem_of_getElem?->eD,replicate->eH,map_nil->e3,length_append->fc,range->fk,length_cons->jd,map_congr_left->jQ,mem_of_mem_take->lf,length_map->l6,mem_cons->mL,map_map->nk,getElem?_eq_getElem->nq,length_nil->n0,mem_of_mem_drop->oN,getElem?_map->pw,length_take->px,getElem?_take->qY,flatMap_cons->sL,getElem?_cons_zero->uz,getElem?_append_left->xQ,eq_nil_of_length_eq_zero->xX,drop_drop->zv,getElem?_drop->Bo,mem_of_find?_eq_some->FC,getElem_mem->FD,getElem?_append_right->IS,map_take->IU,map_drop->IV,head?->IY,map_id->Mu,getElem?_toArray->MD,tail->ME,find?_some->St,mem_map_of_mem->aEr,take_drop->aEw,countP_cons->aEB
open Nat renaming beq->aK,le_refl->bL,eq_of_beq_eq_true->bO,ble->cx,blt->dv,le_of_ble_eq_true->e8,le_trans->lg,add_zero->mM,log2->oL,le_succ->qZ,zero_add->uC,pow_succ->wg,mul_comm->xN,lt_succ_self->xT,succ_mul->xU,add_mul->xW,mul_one->zw,pow_add->Bj,add_assoc->Db,min_eq_left->Dc,two_pow_pos->Fz,lt_of_lt_of_le->FA,zero_le->IP,lt_or_ge->IW,min->I1,div_add_mod->Mp,div_div_eq_div_mul->Mr,pow_le_pow_right->Mt,mul_assoc->Sr,mul_div_cancel_left->alU,one_le_two_pow->alV,testBit_mul_two_pow->aEj,lt_log2_self->aEk,or_lt_two_pow->aEl
open Option renaming isSome_none->uD,map_some->xP,getD_some->Bk,getD_none->abE,map_none->aEy
open Option.some renaming injEq->a7,inj->hV
open Prod.mk renaming injEq->ek
open Pure renaming pure->Sv
open UInt8 renaming ofNat->xO
set_option linter.unusedVariables false
set_option linter.unusedSimpArgs false
namespace Go.b6
def n8:List UInt8->Nat
 |[]=>0
 |b::r=>(b.toNat+1)+257*n8 r
def C5:Nat->Nat->List UInt8
 |0,_=>[]
 |f+1,n=>match n with
  |0=>[]
  |k+1=>xO (k% 257)::C5 f ((k+1)/257)
theorem U1 (b:UInt8) (r:List UInt8):n8 (b::r)=(b.toNat+1)+257*n8 r:=rfl
theorem aon (b:UInt8) (r:List UInt8):n8 (b::r)=(b.toNat+257*n8 r)+1:=by rw[U1];omega
theorem akg:∀(l:List UInt8) (f:Nat),l.length<=f->C5 f (n8 l)=l
 |[],0,_=>rfl
 |[],f+1,_=>rfl
 |b::r,0,h=>by simp at h
 |b::r,f+1,h=>by
  have hb:=b.toNat_lt
  rw[aon]
  show xO ((b.toNat+257*n8 r)% 257)::C5 f ((b.toNat+257*n8 r+1)/257)=b::r
  have aw:(b.toNat+257*n8 r)% 257=b.toNat:=by omega
  have aF:(b.toNat+257*n8 r+1)/257=n8 r:=by omega
  rw[aw,aF,akg r f (by simpa using h)]
  simp
theorem akh:∀(f n k:Nat),n<257^k->(C5 f n).length<=k
 |0,_,_,_=>by simp[C5]
 |f+1,0,k,_=>by simp[C5]
 |f+1,n+1,0,h=>by simp at h
 |f+1,n+1,k+1,h=>by
  have:(n+1)/257<257^k:=by rw[Nat.div_lt_iff_lt_mul (by decide)];rw[wg]at h;exact h
  have ih:=akh f ((n+1)/257) k this
  simp only[C5,jd]
  omega
theorem aeT:∀(l:List UInt8),n8 l<257^l.length
 |[]=>by simp[n8]
 |b::r=>by
  have ih:=aeT r
  have hb:=b.toNat_lt
  unfold n8
  rw[jd,wg]
  omega
theorem aeS:∀(l:List UInt8),l.length<=n8 l
 |[]=>by simp
 |b::r=>by
  have ih:=aeS r
  unfold n8
  rw[jd]
  omega
theorem aeU:∀(l:List UInt8),0<l.length->2^(l.length-1)<=n8 l
 |[b],_=>by rw[U1];show 1<=_;omega
 |b::c::r,_=>by
  have ih:=aeU (c::r) (by simp)
  rw[U1 b]
  simp only[jd,Nat.add_sub_cancel]at ih⊢
  rw[wg]
  omega
def bp (z:Int):List UInt8:=C5 (oL z.toNat+1) z.toNat
def jv (l:List UInt8):Int:=n8 l
theorem y4 (l:List UInt8):bp (jv l)=l:=by
 unfold bp jv
 rw[nY]
 apply akg
 by_cases h:l.length=0
 ·omega
 ·have h1:=aeU l (by omega)
  have h2:n8 l≠0:=by have:=aeS l;omega
  have h3:=(Nat.le_log2 h2).2 h1
  omega
theorem wD (l:List UInt8):0<=jv l:=IN _
theorem am4 (k:Nat):∃H:Int,(∀l:List UInt8,l.length<=k->jv l<=H)/\∀z:Int,z<=H->(bp z).length<=k:=by
 refine⟨(257^k:Nat)-1,λl h=>?_,λz h=>?_⟩
 ·have h1:=aeT l
  have h2:257^l.length<=257^k:=Mt (by decide) h
  unfold jv
  omega
 ·unfold bp
  apply akh
  have:=Nat.pow_pos (n:=k) (show 0<257 by decide)
  omega
def kW:Nat:=140737488351232
theorem Tw:∃H:Int,(∀l:List UInt8,l.length<=kW->jv l<=H)/\∀z:Int,z<=H->(bp z).length<=kW:=am4 kW
noncomputable def n4:Int:=aD5 Tw
theorem uI {l:List UInt8} (h:l.length<=kW):jv l<=n4:=(alT Tw).1 l h
theorem I8 {z:Int} (h:z<=n4):(bp z).length<=kW:=(alT Tw).2 z h
theorem Tx:0<=n4:=by have:=uI (l:=[]) (by simp);exact this
def vl (l:List UInt8):List UInt8:=cond (cx l.length 1000000) l []
theorem au9 (l:List UInt8):0<=jv (vl l)/\jv (vl l)<=n4:=by
 refine⟨wD _,uI ?_⟩
 unfold vl
 cases h:cx l.length 1000000 with
 |true=>have:=e8 h;simp only[cond_true];unfold kW;omega
 |false=>simp
def dI (l:List UInt8):ByteArray:=⟨l.toArray⟩
def zB (z:Int):Nat:=if 0<=z then 2*z.toNat else 2*(-z).toNat-1
def C9 (n:Nat):Int:=if n% 2=0 then((n/2:Nat):Int)else-(((n+1)/2:Nat):Int)
theorem aCY (z:Int):C9 (zB z)=z:=by
 unfold zB C9
 split
 ·rw[if_pos (by omega)];omega
 ·rw[if_neg (by omega)];omega
def lc:List Nat->Nat
 |[]=>0
 |x::r=>2^x*(2*lc r+1)
def qV:Nat->Nat->Nat
 |0,_=>0
 |f+1,n=>if n% 2=0 then qV f (n/2)+1 else 0
theorem akX (k:Nat):∀(x f:Nat),x<f->qV f (2^x*(2*k+1))=x
 |0,f+1,_=>by
  unfold qV
  rw[if_neg (by rw[Nat.pow_zero,Nat.one_mul];omega)]
 |x+1,f+1,h=>by
  unfold qV
  have e:2^(x+1)*(2*k+1)=2*(2^x*(2*k+1)):=by rw[wg,xN (2^x) 2,Sr]
  rw[e,if_pos (by omega),alU _ (by decide),akX k x f (by omega)]
def bK:Nat->Nat->List Nat
 |0,_=>[]
 |f+1,n=>if n=0 then []else qV n n::bK f (n/2^qV n n/2)
theorem avO (x:Nat):x<2^x:=Nat.lt_two_pow_self
theorem Yy:∀l:List Nat,l.length<=lc l
 |[]=>bL _
 |x::r=>by
  have ih:=Yy r
  unfold lc
  have h1:1<=2^x:=alV
  have h2:2*lc r+1<=2^x*(2*lc r+1):=Nat.le_mul_of_pos_left _ h1
  rw[jd]
  omega
theorem YA:∀(l:List Nat) (f:Nat),l.length<=f->bK f (lc l)=l
 |[],0,_=>rfl
 |[],f+1,_=>by simp[bK,lc]
 |x::r,0,h=>by simp at h
 |x::r,f+1,h=>by
  have h1:1<=2^x:=alV
  have h2:2^x<=2^x*(2*lc r+1):=Nat.le_mul_of_pos_right _ (by omega)
  have h3:=avO x
  have hz:lc (x::r)≠0:=by
   have hl:lc (x::r)=2^x*(2*lc r+1):=rfl
   omega
  have aA:qV (lc (x::r)) (lc (x::r))=x:=by
   show qV (2^x*(2*lc r+1)) (2^x*(2*lc r+1))=x
   exact akX _ _ _ (by omega)
  unfold bK
  rw[if_neg hz,aA]
  have e:lc (x::r)/2^x/2=lc r:=by
   have hl:lc (x::r)=2^x*(2*lc r+1):=rfl
   rw[hl,alU _ (by omega)]
   omega
  rw[e,YA r f (by simpa using h)]
theorem Yx (X:Nat):∀k:Nat,∃B,∀l:List Nat,l.length<=k->(∀x∈l,x<=X)->lc l<=B
 |0=>⟨0,λl h _=>by
  have:l=[]:=List.length_eq_zero_iff.1 (by omega)
  subst this;exact bL _⟩
 |k+1=>by
  obtain⟨B,cY⟩:=Yx X k
  refine⟨2^X*(2*B+1),λl h hx=>?_⟩
  cases l with
  |nil=>exact IP _
  |cons x r=>
   unfold lc
   have h1:=cY r (by simpa using h) λy hy=>hx y (dU _ hy)
   exact Nat.mul_le_mul (Mt (by decide) (hx x (by simp))) (by omega)
def rc (l:List (List Int)):Int:=(lc (l.map λrow=>lc (row.map zB)):Nat)
def ah (z:Int):List (List Int):=(bK z.toNat z.toNat).map λn=>(bK n n).map C9
theorem avU (l:List Int):(l.map zB).map C9=l:=by
 rw[nk]
 conv=>rhs;rw[<-Mu l]
 exact jQ λz _=>aCY z
theorem jm (l:List (List Int)):ah (rc l)=l:=by
 unfold ah rc
 rw[nY,YA _ _ (Yy _),nk]
 conv=>rhs;rw[<-Mu l]
 refine jQ λrow _=>?_
 simp only[Mv,id]
 rw[YA _ _ (Yy _),avU]
theorem ja (l:List (List Int)):0<=rc l:=IN _
def ZO (row:List Int):Prop:=row.length<=100/\∀z∈row,-18446744073709551616-n4<=z/\z<=18446744073709551616+n4
theorem acA:∃H:Int,∀l:List (List Int),l.length<=maxLen->(∀row∈l,ZO row)->rc l<=H:=by
 obtain⟨B,cY⟩:=Yx (2*(18446744073709551616+n4).toNat) 100
 obtain⟨C,hK⟩:=Yx B maxLen
 refine⟨(C:Nat),λl h hr=>?_⟩
 unfold rc
 have:=hK (l.map λrow=>lc (row.map zB)) (by simpa using h) λx hx=>by
  obtain⟨row,jz,rfl⟩:=List.mem_map.1 hx
  refine cY _ (by simpa using(hr row jz).1) λy hy=>?_
  obtain⟨z,hz,rfl⟩:=List.mem_map.1 hy
  have h1:=(hr row jz).2 z hz
  have h2:=Tx
  unfold zB
  split<;>omega
 omega
noncomputable def bN:Int:=aD5 acA
theorem rK {l:List (List Int)} (h:l.length<=maxLen) (hr:∀row∈l,ZO row):rc l<=bN:=alT acA l h hr
inductive aL where
 |int (k:du) (lo hi:Int)
 |str
 |bool
def aL.beq:aL->aL->Bool
 |int k lo hi,int bA Qs oi=>decide (k=bA)&&decide (lo=Qs)&&decide (hi=oi)
 |str,str=>true
 |bool,bool=>true
 |_,_=>false
theorem aL.beq_eq:∀{a b:aL},aL.beq a b=true->a=b
 |int k lo hi,int bA Qs oi,h=>by
  simp only[aL.beq,bo,decide_eq_true_eq]at h
  rw[h.1.1,h.1.2,h.2]
 |str,str,_=>rfl
 |bool,bool,_=>rfl
 |int ..,str,h=>by cases h
 |int ..,bool,h=>by cases h
 |str,int ..,h=>by cases h
 |str,bool,h=>by cases h
 |bool,int ..,h=>by cases h
 |bool,str,h=>by cases h
def qS:List aL->List aL->Bool
 |[],[]=>true
 |a::r,b::s=>aL.beq a b&&qS r s
 |_,_=>false
theorem C6:∀{a b:List aL},qS a b=true->a=b
 |[],[],_=>rfl
 |a::r,b::s,h=>by
  simp only[qS,bo]at h
  rw[aL.beq_eq h.1,C6 h.2]
 |[],_::_,h=>by cases h
 |_::_,[],h=>by cases h
noncomputable def aL.fq:aL->Int×Int
 |int _ lo hi=>(lo,hi)
 |str=>(0,n4)
 |bool=>(0,1)
def aL.val:aL->Int->aP
 |int k _ _,z=> .int k z
 |str,z=> .string (dI (bp z))
 |bool,z=> .bool (decide (z=1))
def bt:Nat->List Int->Int
 |0,[s]=>(bp s).length
 |1,[s,i]=>((bp s).getD i.toNat 0).toNat
 |2,[s,a,b]=>jv (((bp s).drop a.toNat).take (b.toNat-a.toNat))
 |3,[s,t]=>jv (bp s++bp t)
 |4,[s,t]=>if bp s=bp t then 1 else 0
 |5,[s,t]=>if Op.bytesLess (bp s) (bp t)=true then 1 else 0
 |20,[c]=>(ah c).length
 |21,[c,i,j]=>((ah c).getD i.toNat []).getD j.toNat 0
 |22,[c,a,b]=>rc (((ah c).drop a.toNat).take (b.toNat-a.toNat))
 |23,c::row=>rc (ah c++[row])
 |24,[c,e]=>rc (ah c++ah e)
 |25,c::i::row=>rc ((ah c).set i.toNat row)
 |26,n::row=>rc (eH n.toNat row)
 |27,[s]=>rc ((bp s).map λb=>[(b.toNat:Int)])
 |34,[c,a,b]=>jv ((((ah c).drop a.toNat).take (b.toNat-a.toNat)).map λrow=>xO (row.getD 0 0).toNat)
 |37,[x,y]=>x*2^y.toNat
 |38,[x,y]=>x% y
 |76,[x,y]=>x/y
 |33,[r,a,c]=>if a=c then r else r+a
 |29,[c,i,j,v]=>rc ((ah c).set i.toNat (((ah c).getD i.toNat []).set j.toNat v))
 |42,c::i::j::vs=>rc ((ah c).set i.toNat (((ah c).getD i.toNat []).take j.toNat++vs++((ah c).getD i.toNat []).drop (j.toNat+vs.length)))
 |43,[s,i]=>if xO i.toNat∈bp s then 1 else 0
 |61,c::a::k::row=>rc ((ah c).take a.toNat++eH k.toNat row++(ah c).drop (a.toNat+k.toNat))
 |62,[a,b]=>min a b
 |63,[c,a,s]=>rc ((ah c).take a.toNat++ah s++(ah c).drop (a.toNat+(ah s).length))
 |28,[c]=>jv ((ah c).map λrow=>xO (row.getD 0 0).toNat)
 |_,_=>0
noncomputable def Jw:Nat->List Int->Prop
 |70,[l,c]=>c∣l
 |71,z::_=>(ah z).length<=1000000000
 |72,z::_=>64∣(ah z).length/\(ah z).length<=1000001000
 |73,z::_=>128∣(ah z).length/\(ah z).length<=1000001000
 |74,[i,l]=>0<=i/\i<l
 |78,[x,y,z,c]=>0<=x/\x<=y/\y<=z/\z<=c
 |79,[l,c]=>l<=c
 |75,l=>∀z∈l,(ah z).length<=100000000
 |77,[x]=>0<=x
 |80,[c,a,k]=>0<=a/\0<=k/\a+k<=(ah c).length
 |81,l=>(bp (l.getD 5 0)).length<=1000000000
 |_,_=>False
def au:Nat->List Int->Prop
 |1,[s,i]=>0<=i/\i<(bp s).length
 |2,[s,a,b]=>0<=a/\a<=b/\b<=(bp s).length
 |3,[s,t]=>(bp s).length+(bp t).length<=kW
 |21,[c,i]=>0<=i/\i<(ah c).length
 |30,[i,n]=>0<=i/\i<n
 |31,[c,n]=>n=(ah c).length
 |32,[a,b,n]=>0<=a/\a<=b/\b<=n
 |22,[c,a,b]=>0<=a/\a<=b/\b<=(ah c).length
 |35,[c,a,b]=>(0<=a/\a<=b/\b<=(ah c).length)/\b-a<=140737488351232
 |36,[y]=>0<y
 |39,[x,l,h]=>l<=x/\x<=h
 |40,[a,b]=>0<=a->0<=b
 |41,[s]=>(bp s).length<=4294967280
 |44,[w,s]=>bp w=[]∨(bp s).length<=4294967280
 |23,[c,k]=>(ah c).length+k<=1073741824
 |26,[n]=>0<=n/\n<=1073741824
 |48,r::_=>(ah r).length<=1099511627776
 |50,s::_=>(bp s).length<=1073741824
 |49,[l,c]=>0<=l/\l<=c/\c<=1073741824
 |64,[p,q,r,l]=>0<=p/\p<=q/\q<=r/\r<=l/\0<l
 |65,[c,a,k]=>0<=a/\0<k/\a+k<=(ah c).length
 |66,r::_=>(ah r).length<=1000000
 |68,[l,c]=>l<=c∨l=0
 |67,[c,i,k]=>((ah c).getD i.toNat []).length=k.toNat
 |53,[c,l]=>c<0->l=0
 |52,[c,a,b]=>0<=a/\a<b/\b<=(ah c).length/\(ah c).length<=1073741824
 |51,[c,i,r]=>(0<=i/\i<=(ah c).length)/\(ah r).length=1/\(ah c).length+1<=1073741824
 |op,l=>Jw op l
end Go.b6
namespace Go.b6
abbrev Env:=Nat->Int
def de (ρ:Env) (n:Nat) (z:Int):Env:=λi=>cond (aK i n) z (ρ i)
def bI (ρ:Env):Nat->List Int->Env
 |_,[]=>ρ
 |n,z::zs=>bI (de ρ n z) (n+1) zs
def agree (n:Nat) (ρ aa:Env):Prop:=∀i,i<n->aa i=ρ i
theorem agree.refl (n:Nat) (ρ:Env):agree n ρ ρ:=λ_ _=>rfl
theorem agree.trans {n n':Nat} {ρ aa wj:Env} (h:agree n ρ aa) (a8:agree n' aa wj) (hn:n<=n'):agree n ρ wj:=
 λi hi=>(a8 i (by omega)).trans (h i hi)
theorem agree.mono {n n':Nat} {ρ aa:Env} (h:agree n' ρ aa) (hn:n<=n'):agree n ρ aa:=λi hi=>h i (by omega)
theorem kF (ρ:Env) (n:Nat) (z:Int):de ρ n z n=z:=by simp[de]
theorem aaS (ρ:Env) {n i:Nat} (z:Int) (h:i≠n):de ρ n z i=ρ i:=by
 unfold de
 cases hb:aK i n with
 |false=>rfl
 |true=>exact absurd (bO hb) h
theorem agree.de (n:Nat) (ρ:Env) (z:Int):agree n ρ (de ρ n z):=λi hi=>aaS ρ z (by omega)
theorem agree.bI:∀(zs:List Int) (n:Nat) (ρ:Env),agree n ρ (bI ρ n zs)
 |[],n,ρ=>agree.refl n ρ
 |z::zs,n,ρ=>(agree.de n ρ z).trans (agree.bI zs (n+1) _) (by omega)
structure I where
 c:Int
 ts:List (Int×Nat)
def ji (ρ:Env):List (Int×Nat)->Int
 |[]=>0
 |(k,i)::r=>k*ρ i+ji ρ r
def I.den (ρ:Env) (l:I):Int:=ji ρ l.ts+l.c
def EI (k:Int) (i:Nat):List (Int×Nat)->List (Int×Nat)
 |[]=>[(k,i)]
 |(bA,j)::r=>cond (dv i j) ((k,i)::(bA,j)::r) (cond (aK i j) (cond (k+bA==0) r ((k+bA,i)::r)) ((bA,j)::EI k i r))
def FU:List (Int×Nat)->List (Int×Nat)->List (Int×Nat)
 |[],l=>l
 |(k,i)::r,l=>EI k i (FU r l)
def C7 (m:Int):List (Int×Nat)->List (Int×Nat)
 |[]=>[]
 |(k,i)::r=>(m*k,i)::C7 m r
theorem ae9 (ρ:Env) (k:Int) (i:Nat):∀l,ji ρ (EI k i l)=k*ρ i+ji ρ l
 |[]=>rfl
 |(bA,j)::r=>by
  unfold EI
  cases h1:dv i j with
  |true=>rfl
  |false=>
   cases h2:aK i j with
   |true=>
    have e:i=j:=bO h2
    subst e
    cases h3:(k+bA==0)with
    |true=>
     have h3:k+bA=0:=by simpa using h3
     simp only[cond_true,cond_false,ji]
     rw[<-Int.add_assoc,<-Int.add_mul,h3];simp
    |false=>simp only[cond_true,cond_false,ji];rw[Int.add_mul];omega
   |false=>simp only[cond_false,ji,ae9 ρ k i r];omega
theorem ae7 (ρ:Env):∀l l',ji ρ (FU l l')=ji ρ l+ji ρ l'
 |[],l'=>by simp[FU,ji]
 |(k,i)::r,l'=>by simp only[FU,ae9,ji,ae7 ρ r l'];omega
theorem afa (ρ:Env) (m:Int):∀l,ji ρ (C7 m l)=m*ji ρ l
 |[]=>by simp[C7,ji]
 |(k,i)::r=>by simp only[C7,ji,afa ρ m r];rw[IQ,Bh]
def ss (n:Nat) (l:List (Int×Nat)):Prop:=∀t∈l,t.2<n
theorem ss.mono {n n':Nat} {l} (h:ss n l) (hn:n<=n'):ss n' l:=λt aA=>FA (h t aA) hn
theorem akt {n:Nat} {k:Int} {i:Nat} (hi:i<n):∀{l},ss n l->ss n (EI k i l)
 |[],_=>by intro t aA;simp[EI]at aA;subst aA;exact hi
 |(bA,j)::r,h=>by
  have hr:ss n r:=λt aA=>h t (dU _ aA)
  have aI:j<n:=h (bA,j) (by simp)
  have ih:=akt (k:=k) hi hr
  unfold EI
  intro t aA
  cases h1:dv i j<;>cases h2:aK i j<;>cases h3:(k+bA==0)<;>simp only[h1,h2,h3,cond_true,cond_false,mL]at aA<;>
   first
   |(rcases aA with rfl|aA<;>first|exact hi|exact aI|(exact hr t aA)|(exact ih t aA)|(rcases aA with rfl|aA<;>first|exact aI|exact hr t aA))
   |exact hr t aA
theorem aks {n:Nat}:∀{l l'},ss n l->ss n l'->ss n (FU l l')
 |[],_,_,a8=>a8
 |(k,i)::r,_,h,a8=>akt (k:=k) (i:=i) (h (k,i) (by simp)) (aks (l:=r) (λt aA=>h t (dU _ aA)) a8)
theorem aku {n:Nat} {m:Int}:∀{l},ss n l->ss n (C7 m l)
 |[],_=>λt aA=>by simp[C7]at aA
 |(k,i)::r,h=>by
  intro t aA
  simp only[C7,mL]at aA
  rcases aA with rfl|aA
  ·exact h (k,i) (by simp)
  ·exact aku (λt aA=>h t (dU _ aA)) t aA
theorem ae8 {n:Nat} {ρ aa:Env} (h:agree n ρ aa):∀{l},ss n l->ji aa l=ji ρ l
 |[],_=>rfl
 |(k,i)::r,hs=>by
  simp only[ji,h i (hs (k,i) (by simp)),ae8 h (l:=r) (λt aA=>hs t (dU _ aA))]
namespace I
def const (c:Int):I:=⟨c,[]⟩
def var (n:Nat):I:=⟨0,[(1,n)]⟩
def add (a b:I):I:=⟨a.c+b.c,FU a.ts b.ts⟩
def smul (m:Int) (a:I):I:=cond (m==0) ⟨0,[]⟩ ⟨m*a.c,C7 m a.ts⟩
def sub (a b:I):I:=a.add (b.smul (-1))
def ed (a:I):Option Int:=match a.ts with|[]=>some a.c|_=>none
def bD (n:Nat) (a:I):Prop:=ss n a.ts
def F0:List (Int×Nat)->List (Int×Nat)->Bool
 |[],[]=>true
 |(k,i)::r,(bA,CB)::r'=>k==bA&&aK i CB&&F0 r r'
 |_,_=>false
def beq (a b:I):Bool:=a.c==b.c&&F0 a.ts b.ts
theorem aeb:∀{a b},F0 a b=true->a=b
 |[],[],_=>rfl
 |(k,i)::r,(bA,CB)::r',h=>by
  simp only[F0,bo,beq_iff_eq]at h
  obtain⟨⟨h1,h2⟩,h3⟩:=h
  rw[h1,bO h2,aeb h3]
 |[],_::_,h=>by simp[F0]at h
 |_::_,[],h=>by simp[F0]at h
theorem beq_eq {a b:I} (h:beq a b=true):a=b:=by
 simp only[beq,bo,beq_iff_eq]at h
 cases a;cases b
 simp only at h
 rw[h.1,aeb h.2]
theorem bg (ρ:Env) (c:Int):(const c).den ρ=c:=by simp[const,den,ji]
theorem cE (ρ:Env) (n:Nat):(var n).den ρ=ρ n:=by simp[var,den,ji]
theorem den_add (ρ:Env) (a b:I):(a.add b).den ρ=a.den ρ+b.den ρ:=by simp only[add,den,ae7];omega
theorem kM (ρ:Env) (m:Int) (a:I):(a.smul m).den ρ=m*a.den ρ:=by
 unfold smul
 cases h:(m==0)with
 |true=>have h:m=0:=by simpa using h
        subst h;simp[den,ji]
 |false=>simp only[cond_false,den,afa,IQ]
theorem kf (ρ:Env) (a b:I):(a.sub b).den ρ=a.den ρ-b.den ρ:=by simp only[sub,den_add,kM];omega
theorem jI {ρ:Env} {a:I} {c:Int} (h:a.ed=some c):a.den ρ=c:=by
 unfold ed at h
 cases ha:a.ts with
 |nil=>simp[ha]at h;simp[den,ha,ji,h]
 |cons x r=>simp[ha]at h
theorem c5 (n:Nat) (c:Int):(const c).bD n:=λt aA=>by simp[const]at aA
theorem fg {n i:Nat} (h:i<n):(var i).bD n:=λt aA=>by simp[var]at aA;subst aA;exact h
theorem vG {n:Nat} {a b:I} (ha:a.bD n) (hb:b.bD n):(a.add b).bD n:=aks ha hb
theorem ug {n:Nat} {m:Int} {a:I} (ha:a.bD n):(a.smul m).bD n:=by
 unfold smul
 cases(m==0)with
 |true=>exactλt aA=>by simp at aA
 |false=>exact aku ha
theorem uh {n:Nat} {a b:I} (ha:a.bD n) (hb:b.bD n):(a.sub b).bD n:=vG ha (ug hb)
theorem bD.mono {n n':Nat} {a:I} (h:a.bD n) (hn:n<=n'):a.bD n':=ss.mono h hn
theorem bX {n:Nat} {ρ aa:Env} (h:agree n ρ aa) {a:I} (ha:a.bD n):a.den aa=a.den ρ:=by simp only[den,ae8 h ha]
end I
structure bM where
 l:I
 lo:Int
 hi:Int
def bM.ok (n:Nat) (ρ:Env) (x:bM):Prop:=x.l.bD n/\x.lo<=x.l.den ρ/\x.l.den ρ<=x.hi
theorem bM.ok.agree {n n':Nat} {ρ aa:Env} {x:bM} (h:x.ok n ρ) (ha:agree n ρ aa) (hn:n<=n'):x.ok n' aa:=
 ⟨h.1.mono hn,by rw[I.bX ha h.1];exact h.2.1,by rw[I.bX ha h.1];exact h.2.2⟩
def bM.const (c:Int):bM:=⟨.const c,c,c⟩
theorem bM.n9 (n:Nat) (ρ:Env) (c:Int):(bM.const c).ok n ρ:=⟨I.c5 n c,by simp[bM.const,I.bg],by simp[bM.const,I.bg]⟩
inductive bw where
 |lit (b:Bool)
 |eq (a b:I)
 |lt (a b:I)
 |le (a b:I)
 |not (a:bw)
 |and (a b:bw)
 |iff (a b:bw)
namespace bw
def den (ρ:Env):bw->Bool
 |lit b=>b
 |eq a b=>decide (a.den ρ=b.den ρ)
 |lt a b=>decide (a.den ρ<b.den ρ)
 |le a b=>decide (a.den ρ<=b.den ρ)
 |not a=> !a.den ρ
 |and a b=>a.den ρ&&b.den ρ
 |iff a b=>a.den ρ==b.den ρ
def bD (n:Nat):bw->Prop
 |lit _=>True
 |eq a b|lt a b|le a b=>a.bD n/\b.bD n
 |not a=>a.bD n
 |and a b=>a.bD n/\b.bD n
 |iff a b=>a.bD n/\b.bD n
theorem bD.mono {n n':Nat} (hn:n<=n'):∀{b:bw},b.bD n->b.bD n'
 |lit _,_=>trivial
 |eq _ _,h|lt _ _,h|le _ _,h=>⟨h.1.mono hn,h.2.mono hn⟩
 |not a,h=>bD.mono (b:=a) hn h
 |and a b,h=>⟨bD.mono (b:=a) hn h.1,bD.mono (b:=b) hn h.2⟩
 |iff a b,h=>⟨bD.mono (b:=a) hn h.1,bD.mono (b:=b) hn h.2⟩
theorem bX {n:Nat} {ρ aa:Env} (ha:agree n ρ aa):∀{b:bw},b.bD n->b.den aa=b.den ρ
 |lit _,_=>rfl
 |eq _ _,h|lt _ _,h|le _ _,h=>by simp only[den,I.bX ha h.1,I.bX ha h.2]
 |not a,h=>by simp only[den,bX (b:=a) ha h]
 |and a b,h=>by simp only[den,bX (b:=a) ha h.1,bX (b:=b) ha h.2]
 |iff a b,h=>by simp only[den,bX (b:=a) ha h.1,bX (b:=b) ha h.2]
def beq:bw->bw->Bool
 |lit a,lit b=>a==b
 |eq a b,eq c d|lt a b,lt c d|le a b,le c d=>I.beq a c&&I.beq b d
 |not a,not b=>beq a b
 |and a b,and c d|iff a b,iff c d=>beq a c&&beq b d
 |_,_=>false
theorem beq_eq:∀{a b:bw},beq a b=true->a=b
 |lit a,b,h=>by cases b<;>simp[beq]at h;rw[h]
 |eq a b,c,h=>by cases c<;>simp[beq]at h;rw[I.beq_eq h.1,I.beq_eq h.2]
 |lt a b,c,h=>by cases c<;>simp[beq]at h;rw[I.beq_eq h.1,I.beq_eq h.2]
 |le a b,c,h=>by cases c<;>simp[beq]at h;rw[I.beq_eq h.1,I.beq_eq h.2]
 |not a,c,h=>by cases c<;>simp[beq]at h;rw[beq_eq h]
 |and a b,c,h=>by cases c<;>simp[beq]at h;rw[beq_eq h.1,beq_eq h.2]
 |iff a b,c,h=>by cases c<;>simp[beq]at h;rw[beq_eq h.1,beq_eq h.2]
def mkNot:bw->bw
 |lit b=>lit (!b)
 |not a=>a
 |a=>not a
def mkAnd:bw->bw->bw
 |lit true,b=>b
 |lit false,_=>lit false
 |a,lit true=>a
 |a,lit false=>cond true (lit false) a
 |a,b=>and a b
def mkIff (a b:bw):bw:=
 match a with
 |lit true=>b
 |lit false=>mkNot b
 |_=>match b with
  |lit true=>a
  |lit false=>mkNot a
  |_=>cond (beq a b) (lit true) (iff a b)
theorem yl (ρ:Env) (a:bw):(mkNot a).den ρ= !a.den ρ:=by cases a<;>simp[mkNot,den]
theorem y5 {n:Nat} {a:bw} (h:a.bD n):(mkNot a).bD n:=by cases a<;>exact h
theorem Oi (ρ:Env) (a b:bw):(mkAnd a b).den ρ=(a.den ρ&&b.den ρ):=by
 unfold mkAnd;split<;>simp[den]
theorem Rf {n:Nat} {a b:bw} (ha:a.bD n) (hb:b.bD n):(mkAnd a b).bD n:=by
 unfold mkAnd;split<;>first|exact hb|exact ha|trivial|exact⟨ha,hb⟩
theorem Vj (ρ:Env) (a b:bw):(mkIff a b).den ρ=(a.den ρ==b.den ρ):=by
 unfold mkIff
 split
 ·simp[den]
 ·rw[yl];simp[den]
 ·split
  ·simp[den]
  ·rw[yl];simp[den]
  ·cases h:beq a b with
   |true=>have:=beq_eq h;subst this;simp[den]
   |false=>rfl
theorem Z4 {n:Nat} {a b:bw} (ha:a.bD n) (hb:b.bD n):(mkIff a b).bD n:=by
 unfold mkIff
 split
 ·exact hb
 ·exact y5 hb
 ·split
  ·exact ha
  ·exact y5 ha
  ·cases beq a b with
   |true=>trivial
   |false=>exact⟨ha,hb⟩
def GB (d:I) (f:Int->Bool) (e:bw):bw:=match d.ed with|some c=>lit (f c)|none=>e
def mkLt (a b:bM):bw:=cond (decide (a.hi<b.lo)) (lit true) (cond (decide (b.hi<=a.lo)) (lit false) (GB (a.l.sub b.l) (λc=>decide (c<0)) (lt a.l b.l)))
def mkLe (a b:bM):bw:=cond (decide (a.hi<=b.lo)) (lit true) (cond (decide (b.hi<a.lo)) (lit false) (GB (a.l.sub b.l) (λc=>decide (c<=0)) (le a.l b.l)))
def mkEq (a b:bM):bw:=cond (decide (a.hi<b.lo)) (lit false) (cond (decide (b.hi<a.lo)) (lit false) (cond (a.lo==a.hi&&b.lo==b.hi&&a.lo==b.lo) (lit true) (cond (I.beq a.l b.l) (lit true) (GB (a.l.sub b.l) (λc=>decide (c=0)) (eq a.l b.l)))))
theorem Vi {n:Nat} {ρ:Env} {d:I} {f:Int->Bool} {e:bw} (h:e.den ρ=f (d.den ρ)) (hs:e.bD n):(GB d f e).den ρ=e.den ρ/\(GB d f e).bD n:=by
 unfold GB
 split
 ·rename_i c hc
  exact⟨by rw[h,I.jI hc];rfl,trivial⟩
 ·exact⟨rfl,hs⟩
theorem Oj {n:Nat} {ρ:Env} {a b:bM} (ha:a.ok n ρ) (hb:b.ok n ρ):(mkLt a b).den ρ=decide (a.l.den ρ<b.l.den ρ)/\(mkLt a b).bD n:=by
 have h1:=ha.2;have h2:=hb.2
 unfold mkLt
 by_cases c1:a.hi<b.lo
 ·simp only[decide_eq_true c1,cond_true,den,bD,and_true];symm;simp;omega
 ·by_cases bH:b.hi<=a.lo
  ·simp only[decide_eq_false c1,decide_eq_true bH,cond_true,cond_false,den,bD,and_true];symm;simp;omega
  ·simp only[decide_eq_false c1,decide_eq_false bH,cond_false]
   have:=Vi (n:=n) (ρ:=ρ) (d:=a.l.sub b.l) (f:=λc=>decide (c<0)) (e:=lt a.l b.l) (by simp only[den,I.kf];congr 1;simp;omega) ⟨ha.1,hb.1⟩
   exact⟨this.1,this.2⟩
theorem afb {n:Nat} {ρ:Env} {a b:bM} (ha:a.ok n ρ) (hb:b.ok n ρ):(mkLe a b).den ρ=decide (a.l.den ρ<=b.l.den ρ)/\(mkLe a b).bD n:=by
 have h1:=ha.2;have h2:=hb.2
 unfold mkLe
 by_cases c1:a.hi<=b.lo
 ·simp only[decide_eq_true c1,cond_true,den,bD,and_true];symm;simp;omega
 ·by_cases bH:b.hi<a.lo
  ·simp only[decide_eq_false c1,decide_eq_true bH,cond_true,cond_false,den,bD,and_true];symm;simp;omega
  ·simp only[decide_eq_false c1,decide_eq_false bH,cond_false]
   have:=Vi (n:=n) (ρ:=ρ) (d:=a.l.sub b.l) (f:=λc=>decide (c<=0)) (e:=le a.l b.l) (by simp only[den,I.kf];congr 1;simp;omega) ⟨ha.1,hb.1⟩
   exact⟨this.1,this.2⟩
theorem u3 {n:Nat} {ρ:Env} {a b:bM} (ha:a.ok n ρ) (hb:b.ok n ρ):(mkEq a b).den ρ=decide (a.l.den ρ=b.l.den ρ)/\(mkEq a b).bD n:=by
 have h1:=ha.2;have h2:=hb.2
 unfold mkEq
 by_cases c1:a.hi<b.lo
 ·simp only[decide_eq_true c1,cond_true,den,bD,and_true];symm;simp;omega
 ·by_cases bH:b.hi<a.lo
  ·simp only[decide_eq_false c1,decide_eq_true bH,cond_true,cond_false,den,bD,and_true];symm;simp;omega
  ·cases cp:(a.lo==a.hi&&b.lo==b.hi&&a.lo==b.lo)with
   |true=>
    simp only[bo,beq_iff_eq]at cp
    simp only[decide_eq_false c1,decide_eq_false bH,cond_false,cond_true,den,bD,and_true];symm;simp;omega
   |false=>
    cases cR:I.beq a.l b.l with
    |true=>simp only[decide_eq_false c1,decide_eq_false bH,cond_false,cond_true,den,bD,and_true,I.beq_eq cR];simp
    |false=>
     simp only[decide_eq_false c1,decide_eq_false bH,cond_false]
     have:=Vi (n:=n) (ρ:=ρ) (d:=a.l.sub b.l) (f:=λc=>decide (c=0)) (e:=eq a.l b.l) (by simp only[den,I.kf];congr 1;simp;omega) ⟨ha.1,hb.1⟩
     exact⟨this.1,this.2⟩
end bw
end Go.b6
namespace Go.b6
inductive A where
 |int (k:du) (x:bM)
 |bool (b:bw)
 |ptr (b off:Nat)
 |oD (b off:Nat) (bd:bM)
 |gptr (g off:Nat)
 |GG (g off:Nat) (bd:bM)
 |slc (b off len cap:Nat)
 |con (v:aP)
 |str (l:I)
 |rows (sh:List aL) (off code cap:I) (kind:Nat)
 |sl (b bq:Nat) (o ro len cap:I)
 |ep (b bq:Nat) (o i:I) (j:Nat)
inductive W where
 |one (a:A)
 |agg (l:List A)
inductive V where
 |w (x:W)
 |h9 (l:List W)
 |any
 |p3 (b len lo:Nat)
 |qz (f:Nat) (jS:List A)
def eb (op:BinOp) (k:du) (x y:Int):Int:=
 match op with
 | .and=>k.wrap (sK k.bits x&&&sK k.bits y).toNat
 | .or=>k.wrap (sK k.bits x|||sK k.bits y).toNat
 | .xor=>k.wrap (sK k.bits x^^^sK k.bits y).toNat
 | .andNot=>k.wrap (sK k.bits x&&&~~~(sK k.bits y)).toNat
 |_=>0
inductive T where
 |stuck
 |leaf (v:V)
 |div (n:Nat) (x:I) (d lo hi:Int) (r:T)
 |mul (n:Nat) (x y:I) (lo hi:Int) (r:T)
 |bit (n:Nat) (op:BinOp) (k:du) (x y:I) (r:T)
 |shr (n:Nat) (x y:I) (lo hi:Int) (r:T)
 |y7 (n:Nat) (cs:List I) (bd:I) (lo hi:Int) (r:T)
 |r6 (b:bw) (t e:T)
 |call (id:Nat) (args:List I) (n:Nat) (bds:List (Int×Int)) (r:T)
 |loop (ka:Nat) (init:List I) (n:Nat) (bds:List (Int×Int)) (r:T)
 |again (ka:Nat) (vals:List I)
 |both (a b:T)
 |fn (n:Nat) (op:Nat) (args:List I) (lo hi:Int) (r:T)
 |qy (op:Nat) (args:List I) (r:T)
 |sz (n:Nat) (lo hi:Int) (r:T)
 |nat (n:Nat) (r:T)
 |uT (op:Nat) (args:List I) (r:T)
 |ind (n:Nat) (b:bw) (r:T)
def ju:List (Int×Int)->(List Int->Prop)->Prop
 |[],P=>P []
 |(l,h)::b,P=>∀r:Int,l<=r->r<=h->ju b (λrs=>P (r::rs))
def ag:List (Int×Int)->List Int->Prop
 |[],[]=>True
 |(l,h)::b,r::rs=>l<=r/\r<=h/\ag b rs
 |_,_=>False
theorem lL:∀{b:List (Int×Int)} {P:List Int->Prop} {rs:List Int},ju b P->ag b rs->P rs
 |[],_,[],h,_=>h
 |(l,u)::b,P,r::rs,h,hi=>lL (b:=b) (P:=λrs=>P (r::rs)) (h r hi.1 hi.2.1) hi.2.2
 |[],_,_::_,_,hi=>hi.elim
 |(_,_)::_,_,[],_,hi=>hi.elim
abbrev ev:=Nat->List Int->Prop
def ev.set (A:ev) (ka:Nat) (p:List Int->Prop):ev:=λi=>cond (aK i ka) p (A i)
def T.holds (S:Nat->List Int->List Int->Prop) (L:V->Env->Prop):T->ev->Env->Prop
 |stuck,_,_=>False
 |leaf v,_,ρ=>L v ρ
 |div n x d lo hi r,A,ρ=>∀q:Int,lo<=q->q<=hi->0<=x.den ρ-d*q->x.den ρ-d*q<d->r.holds S L A (de ρ n q)
 |mul n x y lo hi r,A,ρ=>∀p:Int,lo<=p->p<=hi->p=x.den ρ*y.den ρ->r.holds S L A (de ρ n p)
 |bit n op k x y r,A,ρ=>∀z:Int,0<=z->z<=k.max->z=eb op k (x.den ρ) (y.den ρ)->r.holds S L A (de ρ n z)
 |shr n x y lo hi r,A,ρ=>∀z:Int,lo<=z->z<=hi->z=x.den ρ/2^(y.den ρ).toNat->r.holds S L A (de ρ n z)
 |y7 n cs bd lo hi r,A,ρ=>∀z:Int,lo<=z->z<=hi->z=(cs.map (·.den ρ)).getD (bd.den ρ).toNat 0->r.holds S L A (de ρ n z)
 |r6 b t e,A,ρ=>(b.den ρ=true->t.holds S L A ρ)/\(b.den ρ=false->e.holds S L A ρ)
 |call id args n bds r,A,ρ=>ju bds λrs=>S id (args.map (·.den ρ)) rs->r.holds S L A (bI ρ n rs)
 |loop ka init n bds r,A,ρ=>∃(ks:List Int->Prop) (mR:List Int->Nat),ks (init.map (·.den ρ))/\
  ju bds λzs=>ks zs->r.holds S L (A.set ka λvs=>ks vs/\mR vs<mR zs) (bI ρ n zs)
 |again ka vals,A,ρ=>A ka (vals.map (·.den ρ))
 |both a b,A,ρ=>a.holds S L A ρ/\b.holds S L A ρ
 |fn n op args lo hi r,A,ρ=>∀z:Int,lo<=z->z<=hi->z=bt op (args.map (·.den ρ))->r.holds S L A (de ρ n z)
 |qy op args r,A,ρ=>au op (args.map (·.den ρ))/\r.holds S L A ρ
 |sz n lo hi r,A,ρ=>∀z:Int,lo<=z->z<=hi->r.holds S L A (de ρ n z)
 |nat n r,A,ρ=>∀z:Int,0<=z->r.holds S L A (de ρ n z)
 |uT op args r,A,ρ=>au op (args.map (·.den ρ))->r.holds S L A ρ
 |ind n b r,A,ρ=>∀z:Int,0<=z->z<=1->b.den ρ=decide (z=1)->r.holds S L A (de ρ n z)
abbrev M (α:Type):=Nat->(α->Nat->T)->T
namespace M
variable {α β:Type}
def pure (a:α):M α:=λn k=>k a n
def bind (x:M α) (f:α->M β):M β:=λn k=>x n λa n'=>f a n' k
def fail:M α:=λ_ _=> .stuck
def az (S:Nat->List Int->List Int->Prop) (L:V->Env->Prop) (x:M α) (n:Nat) (ρ:Env) (R:Env->Nat->α->Prop):Prop:=
 ∀A k,(x n k).holds S L A ρ->∃aa n' a,n<=n'/\agree n ρ aa/\R aa n' a/\(k a n').holds S L A aa
variable {S:Nat->List Int->List Int->Prop} {L:V->Env->Prop} {n:Nat} {ρ:Env}
theorem az.pure {a:α} {R:Env->Nat->α->Prop} (h:R ρ n a):az S L (M.pure a) n ρ R:=
 λ_ _ ab=>⟨ρ,n,a,bL _,agree.refl _ _,h,ab⟩
theorem az.fail {R:Env->Nat->α->Prop}:az S L (M.fail:M α) n ρ R:=λ_ _ ab=>ab.elim
theorem az.bind {x:M α} {f:α->M β} {R:Env->Nat->α->Prop} {R':Env->Nat->β->Prop} (hx:az S L x n ρ R)
 (hf:∀aa n' a,n<=n'->agree n ρ aa->R aa n' a->az S L (f a) n' aa R'):az S L (M.bind x f) n ρ R':=by
 intro A k ab
 obtain⟨aa,n',a,hn,ha,hR,lp⟩:=hx A _ ab
 obtain⟨wj,Hz,b,yD,ll,tk,asQ⟩:=hf aa n' a hn ha hR A k lp
 exact⟨wj,Hz,b,lg hn yD,ha.trans ll hn,tk,asQ⟩
theorem az.mono {x:M α} {R R':Env->Nat->α->Prop} (hx:az S L x n ρ R) (h:∀aa n' a,n<=n'->agree n ρ aa->R aa n' a->R' aa n' a):az S L x n ρ R':=by
 intro A k ab
 obtain⟨aa,n',a,hn,ha,hR,lp⟩:=hx A k ab
 exact⟨aa,n',a,hn,ha,h _ _ _ hn ha hR,lp⟩
end M
open M
section
variable {S:Nat->List Int->List Int->Prop} {L:V->Env->Prop} {n:Nat} {ρ:Env}
def Dz:List I->Option (List Int)
 |[]=>some []
 |l::r=>match l.ed,Dz r with|some c,some s=>some (c::s)|_,_=>none
theorem Uw {ρ:Env}:∀{l:List I} {cs:List Int},Dz l=some cs->l.map (·.den ρ)=cs
 |[],cs,h=>by simp[Dz]at h;subst h;rfl
 |l::r,cs,h=>by
  simp only[Dz]at h
  cases h1:l.ed with
  |none=>simp[h1]at h
  |some c=>
   cases h2:Dz r with
   |none=>simp[h1,h2]at h
   |some s=>
    simp only[h1,h2,a7]at h
    subst h
    simp only[cQ,I.jI h1,Uw h2]
def fa (op:Nat) (args:List I) (lo hi:Int):M I:=λn k=>match cx op 5,Dz args with
 |true,some cs=>k (.const (bt op cs)) n
 |_,_=> .fn n op args lo hi (k (.var n) (n+1))
def Oe:Nat->List Int->Bool
 |1,[s,i]=>decide (0<=i)&&decide (i<(bp s).length)
 |2,[s,a,b]=>decide (0<=a)&&decide (a<=b)&&decide (b<=(bp s).length)
 |3,[s,t]=>cx ((bp s).length+(bp t).length) 1000000
 |30,[i,n]=>decide (0<=i)&&decide (i<n)
 |32,[a,b,n]=>decide (0<=a)&&decide (a<=b)&&decide (b<=n)
 |39,[x,l,h]=>decide (l<=x)&&decide (x<=h)
 |_,_=>false
theorem aoP {op:Nat} {cs:List Int} (h:Oe op cs=true):au op cs:=by
 unfold Oe at h
 split at h
 ·simp only[bo,decide_eq_true_eq]at h;exact h
 ·simp only[bo,decide_eq_true_eq]at h;exact⟨h.1.1,h.1.2,h.2⟩
 ·have h:=e8 h
  show _<=kW
  unfold kW;omega
 ·simp only[bo,decide_eq_true_eq]at h;exact h
 ·simp only[bo,decide_eq_true_eq]at h;exact⟨h.1.1,h.1.2,h.2⟩
 ·simp only[bo,decide_eq_true_eq]at h;exact h
 ·cases h
def gh (op:Nat) (args:List I):M Unit:=λn k=>match Dz args with
 |some cs=>cond (Oe op cs) (k () n) (.qy op args (k () n))
 |none=> .qy op args (k () n)
theorem hI {op:Nat} {args:List I} {lo hi:Int} (h1:lo<=bt op (args.map (·.den ρ))) (h2:bt op (args.map (·.den ρ))<=hi):
 az S L (fa op args lo hi) n ρ λaa n' l=>l.bD n'/\l.den aa=bt op (args.map (·.den ρ)):=by
 intro A k ab
 unfold fa at ab
 split at ab
 ·rename_i cs _ c0
  exact⟨_,n,_,bL _,agree.refl _ _,⟨I.c5 _ _,by rw[I.bg,Uw c0]⟩,ab⟩
 ·exact⟨_,n+1,_,qZ _,agree.de _ _ _,⟨I.fg (xT n),by simp[I.cE,kF]⟩,ab _ h1 h2 rfl⟩
theorem iM {op:Nat} {args:List I} {α:Type} {x:M α} {R:Env->Nat->α->Prop} (h:au op (args.map (·.den ρ))->az S L x n ρ R):az S L (bind (gh op args) λ_=>x) n ρ R:=by
 intro A k ab
 unfold M.bind gh at ab
 split at ab
 ·rename_i cs c0
  cases hb:Oe op cs with
  |true=>
   rw[hb]at ab
   exact h (by rw[Uw c0];exact aoP hb) A k ab
  |false=>
   rw[hb]at ab
   exact h ab.1 A k ab.2
 ·exact h ab.1 A k ab.2
def yn (x:bM) (d:Int):M bM:=λn k=>
 cond (d==1) (k x n) <| cond (x.lo/d==x.hi/d) (k (.const (x.lo/d)) n) (.div n x.l d (x.lo/d) (x.hi/d) (k ⟨.var n,x.lo/d,x.hi/d⟩ (n+1)))
theorem BX {x:bM} {d:Int} (hd:0<d) (hx:x.ok n ρ):az S L (yn x d) n ρ λaa n' q=>q.ok n' aa/\q.l.den aa=x.l.den ρ/d/\(q.lo=x.lo/d/\q.hi=x.hi/d):=by
 intro A k ab
 have h1:=aEg hd hx.2.1
 have h2:=aEg hd hx.2.2
 unfold yn at ab
 cases V2:(d==1)with
 |true=>
  have e:d=1:=by simpa using V2
  subst e
  simp only[V2,cond_true]at ab
  exact⟨ρ,n,x,bL _,agree.refl _ _,⟨hx,by simp,by simp,by simp⟩,ab⟩
 |false=>
 simp only[V2,cond_false]at ab
 cases hc:(x.lo/d==x.hi/d)with
 |true=>
  simp only[hc,cond_true]at ab
  have hc:x.lo/d=x.hi/d:=by simpa using hc
  exact⟨ρ,n,_,bL _,agree.refl _ _,⟨bM.n9 _ _ _,by simp only[bM.const,I.bg];omega,rfl,hc⟩,ab⟩
 |false=>
  simp only[hc,cond_false,T.holds]at ab
  have hm:=rG (x.l.den ρ) (show d≠0 by omega)
  have Af:=xL (x.l.den ρ) hd
  have he:=al3 (x.l.den ρ) d
  refine⟨_,n+1,_,qZ _,agree.de _ _ _,⟨⟨I.fg (xT n),?_,?_⟩,?_,rfl,rfl⟩,ab (x.l.den ρ/d) h1 h2 (by omega) (by omega)⟩<;>
   simp only[I.cE,kF]<;>omega
def YN (x:bM) (d:Int):M bM:=
 bind (yn x d) λq=>pure ⟨x.l.sub (q.l.smul d),cond (q.lo==q.hi) (x.lo-d*q.lo) 0,cond (q.lo==q.hi) (x.hi-d*q.lo) (d-1)⟩
theorem aiT {x:bM} {d:Int} (hd:0<d) (hx:x.ok n ρ):az S L (YN x d) n ρ λaa n' q=>q.ok n' aa/\q.l.den aa=x.l.den ρ% d:=by
 refine(BX hd hx).bind λaa n' q hn ha ⟨aj,he,wU,aIp⟩=>az.pure ?_
 have mo:=hx.agree ha hn
 have hm:=rG (x.l.den ρ) (show d≠0 by omega)
 have Af:=xL (x.l.den ρ) hd
 have asr:=al3 (x.l.den ρ) d
 have wQ:(x.l.sub (q.l.smul d)).den aa=x.l.den ρ% d:=by
  rw[I.kf,I.kM,I.bX ha hx.1,he];omega
 refine⟨⟨I.uh mo.1 (I.ug aj.1),?_,?_⟩,wQ⟩
 ·cases hc:(q.lo==q.hi)with
  |true=>
   have hc:q.lo=q.hi:=by simpa using hc
   have:q.l.den aa=q.lo:=by have:=aj.2;omega
   simp only[cond_true,I.kf,I.kM,this];have:=mo.2.1;omega
  |false=>simp only[cond_false,wQ];omega
 ·cases hc:(q.lo==q.hi)with
  |true=>
   have hc:q.lo=q.hi:=by simpa using hc
   have:q.l.den aa=q.lo:=by have:=aj.2;omega
   simp only[cond_true,I.kf,I.kM,this];have:=mo.2.2;omega
  |false=>simp only[cond_false,wQ];omega
def two (k:du):Int:=match k with| .i8| .u8=>256| .i16| .u16=>65536| .i32| .u32=>4294967296| .i64| .u64=>18446744073709551616
theorem za (k:du):two k=(2:Int)^k.bits:=by cases k<;>rfl
def half (k:du):Int:=cond k.signed (two k/2) 0
theorem RV (k:du) (x:Int):k.wrap x=(x+half k)% two k-half k:=by
 cases k<;>simp only[aEh,MC,al4,half,two,cond_true,cond_false,aEi,Bool.false_and]<;>
  simp<;>(try split)<;>omega
def zc (k:du) (x:bM):M bM:=
 cond (decide (-half k<=x.lo)&&decide (x.hi<two k-half k)) (pure x)
  (bind (YN ⟨x.l.add (.const (half k)),x.lo+half k,x.hi+half k⟩ (two k)) λr=>pure ⟨r.l.add (.const (-half k)),r.lo-half k,r.hi-half k⟩)
theorem Da {k:du} {x:bM} (hx:x.ok n ρ):az S L (zc k x) n ρ λaa n' q=>q.ok n' aa/\q.l.den aa=k.wrap (x.l.den ρ):=by
 have aA:0<two k:=by cases k<;>decide
 unfold zc
 cases hc:(decide (-half k<=x.lo)&&decide (x.hi<two k-half k))with
 |true=>
  simp only[bo,decide_eq_true_eq]at hc
  refine az.pure ⟨hx,?_⟩
  have h1:=hx.2
  rw[RV,nm (by omega) (by omega)];omega
 |false=>
  refine(aiT (x:=⟨x.l.add (.const (half k)),x.lo+half k,x.hi+half k⟩) aA ⟨I.vG hx.1 (I.c5 _ _),?_,?_⟩).bind λaa n' r hn ha ⟨hr,he⟩=>az.pure ?_
  ·rw[I.den_add,I.bg];have:=hx.2.1;simp only;omega
  ·rw[I.den_add,I.bg];have:=hx.2.2;simp only;omega
  ·have e:(r.l.add (.const (-half k))).den aa=k.wrap (x.l.den ρ):=by
    rw[I.den_add,I.bg,he,I.den_add,I.bg,RV];omega
   refine⟨⟨I.vG hr.1 (I.c5 _ _),?_,?_⟩,e⟩<;>simp only[I.den_add,I.bg]<;>have:=hr.2<;>omega
def mulM (x y:bM):M bM:=λn k=>
 match x.l.ed,y.l.ed with
 |some c,_=>cond (decide (0<=c)) (k ⟨y.l.smul c,c*y.lo,c*y.hi⟩ n) .stuck
 |none,some c=>cond (decide (0<=c)) (k ⟨x.l.smul c,c*x.lo,c*x.hi⟩ n) .stuck
 |none,none=>cond (decide (0<=x.lo)&&decide (0<=y.lo)) (.mul n x.l y.l (x.lo*y.lo) (x.hi*y.hi) (k ⟨.var n,x.lo*y.lo,x.hi*y.hi⟩ (n+1))) .stuck
theorem YQ {x y:bM} (hx:x.ok n ρ) (hy:y.ok n ρ):az S L (mulM x y) n ρ λaa n' q=>q.ok n' aa/\q.l.den aa=x.l.den ρ*y.l.den ρ:=by
 intro A k ab
 unfold mulM at ab
 cases h1:x.l.ed with
 |some c=>
  simp only[h1]at ab
  by_cases hc:0<=c
  ·simp only[decide_eq_true hc,cond_true]at ab
   refine⟨ρ,n,_,bL _,agree.refl _ _,⟨⟨I.ug hy.1,?_,?_⟩,?_⟩,ab⟩
   ·simp only[I.kM];exact De hy.2.1 hc
   ·simp only[I.kM];exact De hy.2.2 hc
   ·simp only[I.kM,I.jI h1]
  ·simp only[decide_eq_false hc,cond_false,T.holds]at ab
 |none=>
  cases h2:y.l.ed with
  |some c=>
   simp only[h1,h2]at ab
   by_cases hc:0<=c
   ·simp only[decide_eq_true hc,cond_true]at ab
    refine⟨ρ,n,_,bL _,agree.refl _ _,⟨⟨I.ug hx.1,?_,?_⟩,?_⟩,ab⟩
    ·simp only[I.kM];exact De hx.2.1 hc
    ·simp only[I.kM];exact De hx.2.2 hc
    ·simp only[I.kM,I.jI h2];exact j3 _ _
   ·simp only[decide_eq_false hc,cond_false,T.holds]at ab
  |none=>
   simp only[h1,h2]at ab
   cases hc:(decide (0<=x.lo)&&decide (0<=y.lo))with
   |false=>simp only[hc,cond_false,T.holds]at ab
   |true=>
    simp only[hc,cond_true,T.holds]at ab
    simp only[bo,decide_eq_true_eq]at hc
    have bZ:x.lo*y.lo<=x.l.den ρ*y.l.den ρ:=abB hx.2.1 hy.2.1 hc.2 (by have:=hx.2.1;omega)
    have a2:x.l.den ρ*y.l.den ρ<=x.hi*y.hi:=abB hx.2.2 hy.2.2 (by have:=hy.2.1;omega) (by have:=hx.2;omega)
    refine⟨_,n+1,_,qZ _,agree.de _ _ _,⟨⟨I.fg (xT n),?_,?_⟩,?_⟩,ab _ bZ a2 rfl⟩<;>simp only[I.cE,kF]<;>assumption
def F1 (op:BinOp) (k:du) (x y:bM):M bM:=λn c=>
 cond k.signed .stuck (.bit n op k x.l y.l (c ⟨.var n,0,k.max⟩ (n+1)))
theorem aDd {k:du} (ab:k.signed=false) (x:Int):0<=k.wrap x/\k.wrap x<=k.max:=by
 cases k<;>simp[MC]at ab<;>simp[aEh,MC,al4,mN]<;>omega
theorem aob {k:du} (ab:k.signed=false) (op:BinOp) (x y:Int):0<=eb op k x y/\eb op k x y<=k.max:=by
 unfold eb
 split
 iterate 4 exact aDd ab _
 cases k<;>simp[MC]at ab<;>simp[mN,MC,al4]
theorem Nl {op:BinOp} {k:du} {x y:bM}:az S L (F1 op k x y) n ρ λaa n' q=>q.ok n' aa/\q.l.den aa=eb op k (x.l.den ρ) (y.l.den ρ):=by
 intro A c ab
 unfold F1 at ab
 cases hs:k.signed with
 |true=>simp only[hs,cond_true,T.holds]at ab
 |false=>
  simp only[hs,cond_false,T.holds]at ab
  have hb:=aob hs op (x.l.den ρ) (y.l.den ρ)
  refine⟨_,n+1,_,qZ _,agree.de _ _ _,⟨⟨I.fg (xT n),?_,?_⟩,?_⟩,ab _ hb.1 hb.2 rfl⟩<;>simp only[I.cE,kF]<;>first|exact hb.1|exact hb.2
def Qt (c:Int):Option (Int×Int):=
 match c with
 | .ofNat 0=>none
 | .ofNat c=>
  let b:=2^(oL c+1)
  let a:=b-c
  cond (aK (2^oL a) a) (some (a,b)) none
 |_=>none
theorem bv_and {w:Nat} (x y:Int):((sK w x&&&sK w y).toNat:Int)=(((x% 2^w).toNat&&&(y% 2^w).toNat:Nat):Int):=by
 rw[BitVec.toNat_and,Sz,Sz]
 congr
theorem aoi {w:Nat} (x y:Int):((sK w x|||sK w y).toNat:Int)=(((x% 2^w).toNat|||(y% 2^w).toNat:Nat):Int):=by
 rw[BitVec.toNat_or,Sz,Sz]
 congr
theorem anJ (x a b:Nat) (ar2:a<=b):x&&&(2^b-2^a)=2^a*(x/2^a)-2^b*(x/2^b):=by
 have aw:2^b-2^a=2^a*(2^(b-a)-1):=by
  rw[Nat.mul_sub,<-Bj,zw];congr 2;omega
 have aF:x&&&(2^b-2^a)=2^a*(x/2^a% 2^(b-a)):=by
  rw[aw]
  apply Nat.eq_of_testBit_eq
  intro i
  rw[Nat.testBit_and,xN (2^a) (2^(b-a)-1),xN (2^a),aEj,aEj,Nat.testBit_two_pow_sub_one,Nat.testBit_mod_two_pow,Nat.testBit_div_two_pow]
  by_cases h:a<=i
  ·simp only[h,decide_true,aEi]
   rw[show i-a+a=i by omega,Bool.and_comm]
  ·simp[h]
 rw[aF]
 have cb:x/2^b=x/2^a/2^(b-a):=by
  rw[Mr,<-Bj];congr 2;omega
 have gX:2^b=2^a*2^(b-a):=by rw[<-Bj];congr 1;omega
 have fD:=Mp (x/2^a) (2^(b-a))
 rw[cb,gX,Sr,<-Nat.mul_sub]
 congr 1
 omega
theorem avV {c a b:Int} (h:Qt c=some (a,b)):∃i j:Nat,i<=j/\a=2^i/\b=2^j/\c=b-a/\0<a/\0<b:=by
 unfold Qt at h
 split at h
 ·cases h
 ·rename_i c hc
  have hc0:c≠0:=λe=>hc (by rw[e])
  cases hb:aK (2^oL (2^(oL c+1)-c)) (2^(oL c+1)-c)with
  |false=>simp[hb]at h
  |true=>
   simp only[hb,cond_true,a7,ek]at h
   obtain⟨rfl,rfl⟩:=h
   have e:=bO hb
   have hlt:c<2^(oL c+1):=aEk
   have hp:0<2^oL (2^(oL c+1)-c):=Fz _
   refine⟨oL (2^(oL c+1)-c),oL c+1,?_,?_,?_,?_,?_,?_⟩
   ·rcases IW (oL c+1) (oL (2^(oL c+1)-c))with ae|ae
    ·have:=Nat.pow_lt_pow_right (a:=2) (by omega) ae
     omega
    ·exact ae
   ·rw[<-e];simp
   ·simp
   ·have:((2^(oL c+1)-c:Nat):Int)=((2^(oL c+1):Nat):Int)-(c:Int):=by omega
    simp only[Int.ofNat_eq_natCast]
    omega
   ·omega
   ·have:0<2^(oL c+1):=Fz _
    omega
 ·cases h
def andM (x:bM) (a b:Int):M bM:=
 bind (yn x a) λp=>bind (yn x b) λq=>
  pure ⟨(p.l.smul a).sub (q.l.smul b),cond (q.lo==q.hi) (a*p.lo-b*q.lo) 0,cond (q.lo==q.hi) (a*p.hi-b*q.lo) (b-a)⟩
theorem anI {x:bM} {i j:Nat} (G0:i<=j) (hx:x.ok n ρ) (h0:0<=x.lo):az S L (andM x (2^i) (2^j)) n ρ λaa n' q=>q.ok n' aa/\q.l.den aa=((x.l.den ρ).toNat&&&(2^j-2^i):Nat):=by
 have hi:(0:Int)<2^i:=by have:=Fz i;exact_mod_cast this
 have aI:(0:Int)<2^j:=by have:=Fz j;exact_mod_cast this
 refine(BX hi hx).bind λaJ aT p gi eK ⟨hp,ep,_,_⟩=>?_
 refine(BX aI (hx.agree eK gi)).bind λbR eF q eL dz ⟨aj,eq,_,_⟩=>az.pure ?_
 rw[I.bX eK hx.1]at eq
 have G7:=hp.agree dz eL
 have VD:p.l.den bR=x.l.den ρ/2^i:=by rw[I.bX dz hp.1,ep]
 obtain⟨X,bT⟩:=ps (show 0<=x.l.den ρ by have:=hx.2.1;omega)
 have e:((p.l.smul (2^i)).sub (q.l.smul (2^j))).den bR=((x.l.den ρ).toNat&&&(2^j-2^i):Nat):=by
  rw[I.kf,I.kM,I.kM,VD,eq,bT,nY,anJ X i j G0]
  have h1:2^j*(X/2^j)<=2^i*(X/2^i):=by
   have cb:X/2^j=X/2^i/2^(j-i):=by rw[Mr,<-Bj];congr 2;omega
   have gX:2^j=2^i*2^(j-i):=by rw[<-Bj];congr 1;omega
   rw[cb]
   conv=>lhs;rw[gX,Sr]
   exact Nat.mul_le_mul_left _ (Nat.mul_div_le _ _)
  rw[al5 h1]
  simp
 refine⟨⟨I.uh (I.ug G7.1) (I.ug aj.1),?_,?_⟩,e⟩
 ·cases hc:(q.lo==q.hi)with
  |true=>
   have hc:q.lo=q.hi:=by simpa using hc
   have h1:q.l.den bR=q.lo:=by have:=aj.2;omega
   simp only[cond_true,I.kf,I.kM,h1]
   have:=De G7.2.1 (pv hi);omega
  |false=>simp only[cond_false,e];omega
 ·cases hc:(q.lo==q.hi)with
  |true=>
   have hc:q.lo=q.hi:=by simpa using hc
   have h1:q.l.den bR=q.lo:=by have:=aj.2;omega
   simp only[cond_true,I.kf,I.kM,h1]
   have:=De G7.2.2 (pv hi);omega
  |false=>
   simp only[cond_false,e]
   have h2:(x.l.den ρ).toNat&&&(2^j-2^i)<=2^j-2^i:=Nat.and_le_right
   have h3:2^i<=2^j:=Mt (by omega) G0
   have h4:((2^j-2^i:Nat):Int)=2^j-2^i:=by rw[al5 h3];simp
   omega
end
end Go.b6
namespace Go.b6
open M
def A.den (ρ:Env) (m:Nat->Nat):A->aP
 | .int k x=> .int k (x.l.den ρ)
 | .bool b=> .bool (b.den ρ)
 | .ptr b off=> .pointer (some ⟨m b,off,none⟩)
 | .oD b off bd=> .pointer (some ⟨m b,off+(bd.l.den ρ).toNat,none⟩)
 | .gptr g off=> .pointer (some ⟨g,off,none⟩)
 | .GG g off bd=> .pointer (some ⟨g,off+(bd.l.den ρ).toNat,none⟩)
 | .slc b off len cap=> .slice (some ⟨m b,off,none⟩) len cap
 | .con v=>v
 | .str l=> .string (dI (bp (l.den ρ)))
 | .rows _ _ code _ _=> .int .u8 (code.den ρ)
 | .sl b bq o ro len cap=>if cap.den ρ<0 then .slice none 0 0 else .slice (some ⟨m b,(o.den ρ).toNat+(ro.den ρ).toNat*bq,none⟩) (len.den ρ).toNat (cap.den ρ).toNat
 | .ep b bq o i j=> .pointer (some ⟨m b,(o.den ρ).toNat+(i.den ρ).toNat*bq+j,none⟩)
def Fs (o ro len cap:Int):Prop:=(0<=o/\0<=ro/\0<=len/\len<=9223372036854775807)/\(-1<=cap/\ro+cap<=9223372036854775807)/\(cap<0->len=0)/\(0<=cap->len<=cap)
def A.ok (n nb:Nat) (ρ:Env):A->Prop
 | .int _ x=>x.ok n ρ
 | .bool b=>b.bD n
 | .ptr b _=>b<nb
 | .oD b _ bd=>b<nb/\bd.ok n ρ/\0<=bd.lo
 | .gptr .. =>True
 | .GG _ _ bd=>bd.ok n ρ/\0<=bd.lo
 | .slc b .. =>b<nb
 | .con v=>v.oneCell'=true
 | .str l=>l.bD n/\0<=l.den ρ/\l.den ρ<=n4
 | .rows _ off code cap _=>(off.bD n/\code.bD n/\cap.bD n)/\(0<=code.den ρ/\code.den ρ<=bN)/\-1<=cap.den ρ/\cap.den ρ<=9223372036854775807
 | .sl b _ o ro len cap=>b<nb/\(o.bD n/\ro.bD n/\len.bD n/\cap.bD n)/\Fs (o.den ρ) (ro.den ρ) (len.den ρ) (cap.den ρ)
 | .ep b _ o i _=>b<nb/\(o.bD n/\i.bD n)/\0<=o.den ρ/\0<=i.den ρ
theorem A.ok.ext {n n' nb lz:Nat} {ρ aa:Env} {a:A} (h:a.ok n nb ρ) (ha:agree n ρ aa) (hn:n<=n') (hb:nb<=lz):a.ok n' lz aa:=by
 cases a<;>simp only[A.ok]at h⊢
 ·exact h.agree ha hn
 ·exact bw.bD.mono hn h
 ·omega
 ·exact⟨by omega,h.2.1.agree ha hn,h.2.2⟩
 ·exact⟨h.1.agree ha hn,h.2⟩
 ·omega
 ·exact h
 ·exact⟨h.1.mono hn,by rw[I.bX ha h.1];exact h.2⟩
 ·obtain⟨⟨h1,h2,h3⟩,h4⟩:=h
  exact⟨⟨h1.mono hn,h2.mono hn,h3.mono hn⟩,by rw[I.bX ha h2,I.bX ha h3];exact h4⟩
 ·obtain⟨h1,⟨h2,h3,h4,h5⟩,h6⟩:=h
  exact⟨by omega,⟨h2.mono hn,h3.mono hn,h4.mono hn,h5.mono hn⟩,by rw[I.bX ha h2,I.bX ha h3,I.bX ha h4,I.bX ha h5];exact h6⟩
 ·obtain⟨h1,⟨h2,h3⟩,h4⟩:=h
  exact⟨by omega,⟨h2.mono hn,h3.mono hn⟩,by rw[I.bX ha h2,I.bX ha h3];exact h4⟩
theorem A.lR {n nb:Nat} {ρ aa:Env} {m m':Nat->Nat} {a:A} (h:a.ok n nb ρ) (ha:agree n ρ aa) (hm:∀b,b<nb->m' b=m b):a.den aa m'=a.den ρ m:=by
 cases a<;>simp only[A.ok]at h<;>simp only[A.den]
 ·rw[I.bX ha h.1]
 ·rw[bw.bX ha h]
 ·rw[hm _ h]
 ·rw[hm _ h.1,I.bX ha h.2.1.1]
 ·rw[I.bX ha h.1.1]
 ·rw[hm _ h]
 ·rw[I.bX ha h.1]
 ·rw[I.bX ha h.1.2.1]
 ·obtain⟨h1,⟨h2,h3,h4,h5⟩,h6⟩:=h
  rw[hm _ h1,I.bX ha h2,I.bX ha h3,I.bX ha h4,I.bX ha h5]
 ·rw[hm _ h.1,I.bX ha h.2.1.1,I.bX ha h.2.1.2]
theorem A.QH {n nb:Nat} {ρ:Env} {m:Nat->Nat} {a:A} (h:a.ok n nb ρ):(a.den ρ m).oneCell'=true:=by
 cases a<;>first|rfl|exact h|(simp only[A.den];split<;>rfl)
def W.den (ρ:Env) (m:Nat->Nat):W->aP
 | .one a=>a.den ρ m
 | .agg l=> .agg (l.map (A.den ρ m)).toArray
def W.ok (n nb:Nat) (ρ:Env):W->Prop
 | .one a=>a.ok n nb ρ
 | .agg l=>∀a∈l,a.ok n nb ρ
theorem W.ok.ext {n n' nb lz:Nat} {ρ aa:Env} {x:W} (h:x.ok n nb ρ) (ha:agree n ρ aa) (hn:n<=n') (hb:nb<=lz):x.ok n' lz aa:=by
 cases x with
 |one a=>exact A.ok.ext h ha hn hb
 |agg l=>exactλa a8=>(h a a8).ext ha hn hb
theorem vp {n nb:Nat} {ρ aa:Env} {m m':Nat->Nat} {l:List A} (h:∀a∈l,a.ok n nb ρ) (ha:agree n ρ aa) (hm:∀b,b<nb->m' b=m b):l.map (A.den aa m')=l.map (A.den ρ m):=
 jQ λa a8=>A.lR (h a a8) ha hm
theorem W.lR {n nb:Nat} {ρ aa:Env} {m m':Nat->Nat} {x:W} (h:x.ok n nb ρ) (ha:agree n ρ aa) (hm:∀b,b<nb->m' b=m b):x.den aa m'=x.den ρ m:=by
 cases x with
 |one a=>exact A.lR h ha hm
 |agg l=>simp only[W.den,vp h ha hm]
def V.rel (ρ:Env) (m:Nat->Nat):V->aP->Prop
 | .w x,v=>v=x.den ρ m
 | .h9 l,v=>v= .tuple (l.map (W.den ρ m)).toArray
 | .any,_=>True
 | .p3 b len lo,v=>∃c:Nat,lo<=c/\v= .slice (some ⟨m b,0,none⟩) len c
 | .qz f jS,v=>v= .func (.func f) #[] (jS.map (A.den ρ m)).toArray
def V.ok (n nb:Nat) (ρ:Env):V->Prop
 | .w x=>x.ok n nb ρ
 | .h9 l=>∀x∈l,x.ok n nb ρ
 | .any=>True
 | .p3 b _ _=>b<nb
 | .qz _ jS=>∀a∈jS,A.ok n nb ρ a
theorem V.ok.ext {n n' nb lz:Nat} {ρ aa:Env} {x:V} (h:x.ok n nb ρ) (ha:agree n ρ aa) (hn:n<=n') (hb:nb<=lz):x.ok n' lz aa:=by
 cases x with
 |w x=>exact W.ok.ext h ha hn hb
 |h9 l=>exactλa a8=>(h a a8).ext ha hn hb
 |any=>trivial
 |p3 b len lo=>exact FA h hb
 |qz f jS=>exactλa a8=>(h a a8).ext ha hn hb
theorem V.rel.ext {n nb:Nat} {ρ aa:Env} {m m':Nat->Nat} {x:V} {v:aP} (hr:x.rel ρ m v) (h:x.ok n nb ρ) (ha:agree n ρ aa) (hm:∀b,b<nb->m' b=m b):x.rel aa m' v:=by
 cases x with
 |w x=>simp only[V.rel]at hr⊢;rw[W.lR h ha hm];exact hr
 |h9 l=>simp only[V.rel]at hr⊢;rw[hr];congr 2;exact(jQ λa a8=>W.lR (h a a8) ha hm).symm
 |any=>trivial
 |p3 b len lo=>obtain⟨c,h1,h2⟩:=hr;exact⟨c,h1,by rw[hm b h];exact h2⟩
 |qz f jS=>simp only[V.rel]at hr⊢;rw[hr];congr 2;exact(jQ λa a8=>A.lR (h a a8) ha hm).symm
section
variable {S:Nat->List Int->List Int->Prop} {L:V->Env->Prop} {n:Nat} {ρ:Env}
def Nc (s:Int):List (Int×Nat)->Bool
 |[]=>true
 |(k,_)::r=>k% s==0&&Nc s r
theorem adh {s:Int} (ρ:Env):∀{l},Nc s l=true->ji ρ l% s=0
 |[],_=>by simp[ji]
 |(k,i)::r,h=>by
  simp only[Nc,bo,beq_iff_eq]at h
  have h1:=adh ρ h.2
  obtain⟨c,hc⟩:=Fy h.1
  obtain⟨d,hd⟩:=Fy h1
  simp only[ji,hc,hd,Bh]
  rw[<-IQ];exact al6 _ _
def I.zJ (s:Int) (l:I):Bool:=l.c% s==0&&Nc s l.ts
theorem I.Uu {s:Int} (ρ:Env) {l:I} (h:l.zJ s=true):l.den ρ% s=0:=by
 simp only[zJ,bo,beq_iff_eq]at h
 have h1:=adh ρ h.2
 obtain⟨c,hc⟩:=Fy h.1
 obtain⟨d,hd⟩:=Fy h1
 simp only[den,hc,hd]
 rw[<-IQ];exact al6 _ _
def BC (h:Int):Nat:=2^(oL h.toNat+1)
theorem ac5 {x h:Int} (hx:x<=h) (h0:0<=x):x<(BC h:Int):=by
 have:h.toNat<2^(oL h.toNat+1):=aEk
 unfold BC;omega
theorem dY {c:Bool} {α:Type} {x:M α} {R:Env->Nat->α->Prop} (h:c=true->az S L x n ρ R):az S L (cond c x fail) n ρ R:=by
 cases c with
 |true=>exact h rfl
 |false=>exact az.fail
def m5 (k:du):Int:=two k-half k
theorem Qr (k:du):m5 k<=two k:=by cases k<;>decide
theorem avB (k:du):∃i:Nat,m5 k=2^i/\i<=k.bits:=by cases k<;>first|exact⟨7,by decide,by decide⟩|exact⟨8,by decide,by decide⟩|exact⟨15,by decide,by decide⟩|exact⟨16,by decide,by decide⟩|exact⟨31,by decide,by decide⟩|exact⟨32,by decide,by decide⟩|exact⟨63,by decide,by decide⟩|exact⟨64,by decide,by decide⟩
def Nb (x:I):List Nat->Nat
 |[]=>1
 |i::r=>cond (x.zJ (2^i)) (2^i) (Nb x r)
def orM (k:du) (x y:bM):M bM:=
 cond (!(decide (0<=x.lo)&&decide (0<=y.lo)&&decide (x.hi<m5 k)&&decide (y.hi<m5 k))) (cond (decide (0<=x.lo)&&decide (x.hi<m5 k)) (
  let s:=Nb x.l [24,18,16,12,8,6,4]
  cond (x.l.zJ s&&decide (y.hi<m5 k)&&decide (x.hi+s<m5 k)) (bind (gh 30 [y.l,.const s]) λ_=>pure ⟨x.l.add y.l,x.lo,x.hi+s⟩) fail) fail) <|
 cond (x.l.zJ (BC y.hi)) (pure ⟨x.l.add y.l,x.lo+y.lo,cond (decide (x.hi+y.hi<two k)) (x.hi+y.hi) (two k-1)⟩) <|
 cond (y.l.zJ (BC x.hi)) (pure ⟨x.l.add y.l,x.lo+y.lo,cond (decide (x.hi+y.hi<two k)) (x.hi+y.hi) (two k-1)⟩) (F1 .or k x y)
theorem Zb {X Y s:Nat} (hs:∃i,s=2^i) (hx:X% s=0) (hy:Y<s):X|||Y=X+Y:=by
 obtain⟨i,rfl⟩:=hs
 have e:=Mp X (2^i)
 rw[hx,mM]at e
 rw[<-e,<-Nat.two_pow_add_eq_or_of_lt hy]
theorem aaV {k:du} {z:Int} (h0:0<=z) (h1:z<m5 k):k.wrap z=z:=by
 rw[RV]
 have ae:0<=half k:=by cases k<;>decide
 unfold m5 at h1
 rw[nm (by omega) (by omega)]
 omega
theorem aeg {k:du} {x y:Int} (hx:0<=x) (hy:0<=y) (yF:x<m5 k) (Xw:y<m5 k):eb .or k x y=((x.toNat|||y.toNat:Nat):Int):=by
 have hl:=Qr k
 have Xs:x<2^k.bits:=by rw[<-za];omega
 have Xx:y<2^k.bits:=by rw[<-za];omega
 obtain⟨i,hi,_⟩:=avB k
 obtain⟨X,rfl⟩:=ps hx
 obtain⟨Y,rfl⟩:=ps hy
 have bT:X<2^i:=by rw[hi]at yF;exact_mod_cast yF
 have hY:Y<2^i:=by rw[hi]at Xw;exact_mod_cast Xw
 have h1:X|||Y<2^i:=aEl bT hY
 unfold eb
 simp only
 rw[aoi,nm hx Xs,nm hy Xx]
 simp only[nY]
 exact aaV (by omega) (by rw[hi];exact_mod_cast h1)
theorem aef {k:du} {x y:Int} (hx:0<=x) (hy:0<=y) (yF:x<m5 k) (Xw:y<two k):eb .and k x y=((x.toNat&&&y.toNat:Nat):Int):=by
 have hl:=Qr k
 have Xs:x<2^k.bits:=by rw[<-za];omega
 have Xx:y<2^k.bits:=by rw[<-za];omega
 obtain⟨X,rfl⟩:=ps hx
 obtain⟨Y,rfl⟩:=ps hy
 have h1:X&&&Y<=X:=Nat.and_le_left
 unfold eb
 simp only
 rw[bv_and,nm hx Xs,nm hy Xx]
 simp only[nY]
 exact aaV (by omega) (by omega)
theorem toNat_mod {x:Int} {s:Nat} (hx:0<=x) (h:x% (s:Int)=0):x.toNat% s=0:=by
 obtain⟨X,rfl⟩:=ps hx
 simp only[nY]
 exact_mod_cast h
theorem axv {k:du} {x y:bM} (hx:x.ok n ρ) (hy:y.ok n ρ):az S L (orM k x y) n ρ λaa n' q=>q.ok n' aa/\q.l.den aa=eb .or k (x.l.den ρ) (y.l.den ρ):=by
 unfold orM
 cases hc:(!(decide (0<=x.lo)&&decide (0<=y.lo)&&decide (x.hi<m5 k)&&decide (y.hi<m5 k)))with
 |true=>
  simp only[cond_true]
  refine dY λh1=>dY λh2=>iM λh3=>az.pure ?_
  simp only[bo,decide_eq_true_eq]at h1 h2
  simp only[cQ,e3,au,I.bg]at h3
  obtain⟨⟨h4,h6⟩,h5⟩:=h2
  have zN:=hx.2;have Jq:=hy.2
  generalize hs:Nb x.l [24,18,16,12,8,6,4]=s at*
  have hm:=I.Uu ρ h4
  have atk:∃i,s=2^i:=by
   rw[<-hs]
   generalize [24,18,16,12,8,6,4]=l
   induction l with
   |nil=>exact⟨0,rfl⟩
   |cons i r ih=>
    unfold Nb
    cases x.l.zJ (2^i)with
    |true=>exact⟨i,rfl⟩
    |false=>exact ih
  have e:x.l.den ρ+y.l.den ρ=eb .or k (x.l.den ρ) (y.l.den ρ):=by
   rw[aeg (by omega) h3.1 (by omega) (by omega),Zb atk (toNat_mod (by omega) hm) (by omega)];omega
  exact⟨⟨I.vG hx.1 hy.1,by simp only[I.den_add];omega,by simp only[I.den_add];omega⟩,by rw[I.den_add];exact e⟩
 |false=>
  simp only[jE,bo,decide_eq_true_eq]at hc
  obtain⟨⟨⟨h1,h2⟩,Cn⟩,aH6⟩:=hc
  have WY:=Qr k
  have h3:x.hi<two k:=by omega
  have h4:y.hi<two k:=by omega
  have zN:=hx.2;have Jq:=hy.2
  have hb:=aeg (k:=k) (x:=x.l.den ρ) (y:=y.l.den ρ) (by omega) (by omega) (by omega) (by omega)
  have hlt:eb .or k (x.l.den ρ) (y.l.den ρ)<two k:=by
   have aw:x.l.den ρ<2^k.bits:=by rw[<-za];omega
   have aF:y.l.den ρ<2^k.bits:=by rw[<-za];omega
   have h1:(x.l.den ρ).toNat|||(y.l.den ρ).toNat<2^k.bits:=aEl (by
    have:(x.l.den ρ).toNat=x.l.den ρ:=by omega
    exact_mod_cast (show((x.l.den ρ).toNat:Int)<2^k.bits by omega)) (by exact_mod_cast (show((y.l.den ρ).toNat:Int)<2^k.bits by omega))
   rw[hb,za]
   exact_mod_cast h1
  have ok:∀q:Int,q=eb .or k (x.l.den ρ) (y.l.den ρ)->x.l.den ρ+y.l.den ρ=q->(bM.mk (x.l.add y.l) (x.lo+y.lo) (cond (decide (x.hi+y.hi<two k)) (x.hi+y.hi) (two k-1))).ok n ρ:=λq wX tq=>⟨I.vG hx.1 hy.1,by simp only[I.den_add];omega,by
   simp only[I.den_add]
   cases hd:decide (x.hi+y.hi<two k)with
   |true=>simp only[cond_true];omega
   |false=>simp only[cond_false];omega⟩
  simp only[cond_false]
  cases h5:x.l.zJ (BC y.hi)with
  |true=>
   have hm:=I.Uu ρ h5
   have hl:=ac5 Jq.2 (by omega)
   have hs:x.l.den ρ+y.l.den ρ=eb .or k (x.l.den ρ) (y.l.den ρ):=by
    rw[hb,Zb (s:=BC y.hi) ⟨_,rfl⟩ (toNat_mod (by omega) hm) (by omega)];omega
   exact az.pure ⟨ok _ rfl hs,by rw[I.den_add];exact hs⟩
  |false=>
   simp only[cond_false]
   cases h6:y.l.zJ (BC x.hi)with
   |true=>
    have hm:=I.Uu ρ h6
    have hl:=ac5 zN.2 (by omega)
    have hs:x.l.den ρ+y.l.den ρ=eb .or k (x.l.den ρ) (y.l.den ρ):=by
     rw[hb,Nat.or_comm,Zb (s:=BC x.hi) ⟨_,rfl⟩ (toNat_mod (by omega) hm) (by omega)];omega
    exact az.pure ⟨ok _ rfl hs,by rw[I.den_add];exact hs⟩
   |false=>exact Nl
def Nh (k:du) (x:bM) (c:Int):M bM:=
 match Qt c with
 |some (a,b)=>cond (!(decide (0<=x.lo)&&decide (x.hi<m5 k)&&decide (c<two k)&&decide (0<=c))) fail (andM x a b)
 |none=>cond (c==0&&decide (0<=x.lo)&&decide (x.hi<m5 k)) (pure (.const 0)) fail
theorem adk {k:du} {x:bM} {c:Int} (hx:x.ok n ρ):az S L (Nh k x c) n ρ λaa n' q=>q.ok n' aa/\q.l.den aa=eb .and k (x.l.den ρ) c:=by
 unfold Nh
 have zN:=hx.2
 cases hm:Qt c with
 |some p=>
  obtain⟨a,b⟩:=p
  simp only
  cases hc:(!(decide (0<=x.lo)&&decide (x.hi<m5 k)&&decide (c<two k)&&decide (0<=c)))with
  |true=>exact az.fail
  |false=>
   simp only[jE,bo,decide_eq_true_eq]at hc
   obtain⟨⟨⟨h1,h2⟩,h3⟩,h4⟩:=hc
   obtain⟨i,j,G0,rfl,rfl,OX,_,_⟩:=avV hm
   refine(anI G0 hx h1).mono λaa n' q _ _ ⟨ax,he⟩=>⟨ax,?_⟩
   rw[he,aef (by omega) h4 (by omega) h3]
   congr 2
   have h3:2^i<=2^j:=Mt (by omega) G0
   have h5:((2^j-2^i:Nat):Int)=2^j-2^i:=by rw[al5 h3];simp
   omega
 |none=>
  simp only
  cases hc:(c==0&&decide (0<=x.lo)&&decide (x.hi<m5 k))with
  |false=>exact az.fail
  |true=>
   simp only[bo,beq_iff_eq,decide_eq_true_eq]at hc
   obtain⟨⟨rfl,h1⟩,h2⟩:=hc
   refine az.pure ⟨bM.n9 _ _ _,?_⟩
   rw[aef (by omega) (cL _) (by omega) (by cases k<;>decide)]
   simp[bM.const,I.bg]
theorem aoa (k:du) (x y:Int):eb .and k x y=eb .and k y x:=by simp only[eb,BitVec.and_comm]
def Uz (k:du) (x y:bM):M bM:=
 match y.l.ed,x.l.ed with
 |some c,_=>Nh k x c
 |none,some c=>Nh k y c
 |none,none=>F1 .and k x y
theorem anH {k:du} {x y:bM} (hx:x.ok n ρ) (hy:y.ok n ρ):az S L (Uz k x y) n ρ λaa n' q=>q.ok n' aa/\q.l.den aa=eb .and k (x.l.den ρ) (y.l.den ρ):=by
 unfold Uz
 cases h1:y.l.ed with
 |some c=>simp only[I.jI h1];exact adk hx
 |none=>
  cases h2:x.l.ed with
  |some c=>simp only[I.jI h2];rw[aoa];exact adk hy
  |none=>exact Nl
def aac (x y:bM):M bM:=λn k=> .shr n x.l y.l 0 x.hi (k ⟨.var n,0,x.hi⟩ (n+1))
theorem aAL {x y:bM} (hx:x.ok n ρ) (h0:0<=x.lo):az S L (aac x y) n ρ λaa n' q=>q.ok n' aa/\q.l.den aa=x.l.den ρ/2^(y.l.den ρ).toNat:=by
 intro A k ab
 simp only[aac,T.holds]at ab
 have hp:(0:Int)<2^(y.l.den ρ).toNat:=by have:=Fz (y.l.den ρ).toNat;exact_mod_cast this
 have e9:0<=x.l.den ρ:=by have:=hx.2;omega
 have bZ:0<=x.l.den ρ/2^(y.l.den ρ).toNat:=abz e9 (pv hp)
 have a2:x.l.den ρ/2^(y.l.den ρ).toNat<=x.hi:=Int.le_trans (aEm _ e9) hx.2.2
 exact⟨_,n+1,_,qZ _,agree.de _ _ _,⟨⟨I.fg (xT n),by simp only[I.cE,kF];exact bZ,by simp only[I.cE,kF];exact a2⟩,by simp only[I.cE,kF]⟩,ab _ bZ a2 rfl⟩
def isInt (k:du) (x:M bM):M A:=bind x λr=>pure (.int k r)
def CW (x:bM):M bM:=cond (decide (0<=x.lo)) (pure x) (bind (gh 77 [x.l]) λ_=>pure ⟨x.l,0,x.hi⟩)
def dg (x y:bM):M bM:=match x.l.ed,y.l.ed with
 |none,none=>bind (CW x) λx=>bind (CW y) λy=>mulM x y
 |_,_=>mulM x y
def UR (op:BinOp) (k:du) (x:bM) (bA:du) (y:bM):M A:=
 match op with
 | .shl=>match y.l.ed with
  |some c=>cond (decide (0<=c)) (let s:Int:=2^min c.toNat k.bits;isInt k (zc k ⟨x.l.smul s,x.lo*s,x.hi*s⟩)) fail
  |none=>cond (decide (0<=x.lo)&&decide (0<=y.lo)&&decide (y.hi<=62)&&decide (x.hi*2^y.hi.toNat<m5 k)) (isInt k (bind (fa 37 [x.l,y.l] 0 (x.hi*2^y.hi.toNat)) λl=>pure ⟨l,0,x.hi*2^y.hi.toNat⟩)) fail
 | .shr=>match y.l.ed with
  |some c=>cond (decide (0<=c)) (isInt k (yn x (2^min c.toNat k.bits))) fail
  |none=>cond (decide (0<=x.lo)&&decide (0<=y.lo)&&decide (y.hi<=(k.bits:Int))) (isInt k (aac x y)) fail
 | .add=>cond (decide (k=bA)) (isInt k (zc k ⟨x.l.add y.l,x.lo+y.lo,x.hi+y.hi⟩)) fail
 | .sub=>cond (decide (k=bA)) (isInt k (zc k ⟨x.l.sub y.l,x.lo-y.hi,x.hi-y.lo⟩)) fail
 | .mul=>cond (decide (k=bA)) (isInt k (bind (dg x y) (zc k))) fail
 | .quo=>match y.l.ed with
  |some c=>cond (decide (k=bA)&&decide (0<c)) (bind (CW x) λx=>isInt k (bind (yn x c) (zc k))) fail
  |none=>cond (decide (k=bA)) (bind (CW x) λx=>bind (gh 36 [y.l]) λ_=>isInt k (bind (bind (fa 76 [x.l,y.l] 0 x.hi) λl=>pure ⟨l,0,x.hi⟩) (zc k))) fail
 | .rem=>match y.l.ed with
  |some c=>cond (decide (k=bA)&&decide (0<c)) (bind (CW x) λx=>isInt k (YN x c)) fail
  |none=>cond (decide (k=bA)) (bind (CW x) λx=>bind (gh 36 [y.l]) λ_=>isInt k (bind (fa 38 [x.l,y.l] 0 (cond (decide (y.hi-1<=x.hi)) (y.hi-1) x.hi)) λl=>pure ⟨l,0,cond (decide (y.hi-1<=x.hi)) (y.hi-1) x.hi⟩)) fail
 | .and=>cond (decide (k=bA)) (isInt k (Uz k x y)) fail
 | .or=>cond (decide (k=bA)) (isInt k (orM k x y)) fail
 | .xor=>cond (decide (k=bA)) (isInt k (F1 .xor k x y)) fail
 | .andNot=>cond (decide (k=bA)) (isInt k (F1 .andNot k x y)) fail
 | .eql=>cond (decide (k=bA)) (pure (.bool (.mkEq x y))) fail
 | .neq=>cond (decide (k=bA)) (pure (.bool (.mkNot (.mkEq x y)))) fail
 | .lss=>cond (decide (k=bA)) (pure (.bool (.mkLt x y))) fail
 | .leq=>cond (decide (k=bA)) (pure (.bool (.mkLe x y))) fail
 | .gtr=>cond (decide (k=bA)) (pure (.bool (.mkLt y x))) fail
 | .geq=>cond (decide (k=bA)) (pure (.bool (.mkLe y x))) fail
theorem rp {k:du} {x:M bM} {R:Env->Nat->A->Prop} {v:Int} (h:az S L x n ρ λaa n' q=>q.ok n' aa/\q.l.den aa=v)
 (hR:∀aa n' (q:bM),n<=n'->agree n ρ aa->q.ok n' aa->q.l.den aa=v->R aa n' (.int k q)):az S L (isInt k x) n ρ R:=
 h.bind λaa n' q hn ha ⟨ax,he⟩=>az.pure (hR aa n' q hn ha ax he)
theorem HI {x:bM} (hx:x.ok n ρ):az S L (CW x) n ρ λaa n' q=>q.ok n' aa/\q.l=x.l/\q.hi=x.hi/\0<=q.lo/\x.l.den aa=x.l.den ρ:=by
 unfold CW
 cases h:decide (0<=x.lo)with
 |true=>exact az.pure ⟨hx,rfl,rfl,of_decide_eq_true h,rfl⟩
 |false=>
  refine iM λab=>az.pure ⟨⟨hx.1,?_,hx.2.2⟩,rfl,rfl,cL _,rfl⟩
  simpa [au,Jw]using ab
theorem av5 {x y:bM} (hx:x.ok n ρ) (hy:y.ok n ρ):az S L (dg x y) n ρ λaa n' q=>q.ok n' aa/\q.l.den aa=x.l.den ρ*y.l.den ρ:=by
 unfold dg
 split
 ·refine(HI hx).bind λaJ aT fx gi eK ⟨mo,ex,_,_,th⟩=>(HI (hy.agree eK gi)).bind λbR eF lE eL dz ⟨Xu,apJ,_,_,apK⟩=>(YQ (mo.agree dz eL) Xu).mono λhj ru q _ _ ⟨h1,h2⟩=>⟨h1,?_⟩
  rw[h2,apJ,apK,I.bX eK hy.1,I.bX dz mo.1,ex,th]
 ·exact YQ hx hy
theorem an9 {nb:Nat} {m:Nat->Nat} (P:bQ) {op:BinOp} {k bA:du} {x y:bM} (t:bh) (hx:x.ok n ρ) (hy:y.ok n ρ):
 az S L (UR op k x bA y) n ρ λaa n' a=>a.ok n' nb aa/\∀w,(binOp op t (.int k (x.l.den ρ)) (.int bA (y.l.den ρ))).run P w= .ok (a.den aa m) w:=by
 have cl:∀s:Nat,(0:Int)<2^s:=λs=>by have:=Fz s;exact_mod_cast this
 cases op<;>simp only[UR]
 case shl=>
  cases hc:y.l.ed with
  |none=>
   refine dY λh0=>?_
   simp only[bo,decide_eq_true_eq]at h0
   obtain⟨⟨⟨h1,h2⟩,h3⟩,h4⟩:=h0
   have ED:=hx.2;have Cz:=hy.2
   have hp:=cl (y.l.den ρ).toNat
   have aw:(0:Int)<=x.l.den ρ*2^(y.l.den ρ).toNat:=al1 (by omega) (pv hp)
   have aF:x.l.den ρ*2^(y.l.den ρ).toNat<=x.hi*2^y.hi.toNat:=abB ED.2 (by
    have:=Mt (n:=2) (by decide) (show(y.l.den ρ).toNat<=y.hi.toNat by omega)
    exact_mod_cast this) (pv hp) (by omega)
   have hf:bt 37 ([x.l,y.l].map (·.den ρ))=x.l.den ρ*2^(y.l.den ρ).toNat:=rfl
   refine rp (v:=x.l.den ρ*2^(y.l.den ρ).toNat) ((hI (by rw[hf];exact aw) (by rw[hf];exact aF)).bind λaJ aT l _ _ ⟨g1,g2⟩=>az.pure ⟨⟨g1,by simp only;rw[g2,hf];exact aw,by simp only;rw[g2,hf];exact aF⟩,by simp only;rw[g2,hf]⟩) λaa n' q _ _ ax he=>⟨ax,λw=>?_⟩
   simp only[A.den,he,binOp,Op.shift]
   have asa:(y.l.den ρ).toNat<=k.bits∨x.l.den ρ=0:=by
    rcases Nat.le_total (y.l.den ρ).toNat k.bits with h|h
    ·exact .inl h
    ·refine .inr ?_
     have h5:x.l.den ρ*2^(y.l.den ρ).toNat<m5 k:=by omega
     have h6:=Qr k
     rw[za]at h6
     have h7:(2:Int)^k.bits<=2^(y.l.den ρ).toNat:=by
      have:=Mt (n:=2) (by decide) h
      exact_mod_cast this
     rcases kI 0 (x.l.den ρ)with ew|ew
     ·have:(1:Int)*2^(y.l.den ρ).toNat<=x.l.den ρ*2^(y.l.den ρ).toNat:=Int.mul_le_mul_of_nonneg_right (by omega) (pv hp)
      omega
     ·omega
   rw[if_neg (by omega)]
   rcases asa with h|h
   ·rw[show min (y.l.den ρ).toNat k.bits=(y.l.den ρ).toNat by omega]
    simp[aaV aw (show x.l.den ρ*2^(y.l.den ρ).toNat<m5 k by omega)]
   ·have hw:k.wrap 0=0:=by cases k<;>decide
    simp[h,hw]
  |some c=>
   refine dY λh0=>?_
   simp only[decide_eq_true_eq]at h0
   have hp:=cl (min c.toNat k.bits)
   refine rp (Da (x:=⟨x.l.smul (2^min c.toNat k.bits),x.lo*2^min c.toNat k.bits,x.hi*2^min c.toNat k.bits⟩) ⟨I.ug hx.1,?_,?_⟩) λaa n' q _ _ ax he=>⟨ax,λw=>?_⟩
   ·simp only[I.kM];rw[j3];exact De hx.2.1 (pv hp)
   ·simp only[I.kM];rw[j3 x.hi];exact De hx.2.2 (pv hp)
   ·simp only[A.den,he,I.kM,I.jI hc,binOp,Op.shift]
    rw[if_neg (by omega)]
    simp[j3]
 case shr=>
  cases hc:y.l.ed with
  |some c=>
   refine dY λh0=>?_
   simp only[decide_eq_true_eq]at h0
   have hp:=cl (min c.toNat k.bits)
   refine rp ((BX hp hx).mono λ_ _ q _ _ h=>⟨h.1,h.2.1⟩) λaa n' q _ _ ax he=>⟨ax,λw=>?_⟩
   simp only[A.den,he,I.jI hc,binOp,Op.shift]
   rw[if_neg (by omega)]
   simp[aEn _ (pv hp)]
  |none=>
   refine dY λh0=>?_
   simp only[bo,decide_eq_true_eq]at h0
   refine rp (aAL hx h0.1.1) λaa n' q _ _ ax he=>⟨ax,λw=>?_⟩
   have Cz:=hy.2
   simp only[A.den,he,binOp,Op.shift]
   rw[if_neg (by omega),show min (y.l.den ρ).toNat k.bits=(y.l.den ρ).toNat by omega]
   simp[aEn _ (pv (cl _))]
 case add=>
  refine dY λh0=>?_
  simp only[decide_eq_true_eq]at h0;subst h0
  have ED:=hx.2;have Cz:=hy.2
  refine rp (Da (x:=⟨x.l.add y.l,x.lo+y.lo,x.hi+y.hi⟩) ⟨I.vG hx.1 hy.1,by simp only[I.den_add];omega,by simp only[I.den_add];omega⟩) λaa n' q _ _ ax he=>⟨ax,λw=>?_⟩
  simp[A.den,he,I.den_add,binOp,Op.intArith]
 case sub=>
  refine dY λh0=>?_
  simp only[decide_eq_true_eq]at h0;subst h0
  have ED:=hx.2;have Cz:=hy.2
  refine rp (Da (x:=⟨x.l.sub y.l,x.lo-y.hi,x.hi-y.lo⟩) ⟨I.uh hx.1 hy.1,by simp only[I.kf];omega,by simp only[I.kf];omega⟩) λaa n' q _ _ ax he=>⟨ax,λw=>?_⟩
  simp[A.den,he,I.kf,binOp,Op.intArith]
 case mul=>
  refine dY λh0=>?_
  simp only[decide_eq_true_eq]at h0;subst h0
  refine rp (v:=k.wrap (x.l.den ρ*y.l.den ρ)) ((av5 hx hy).bind λaJ aT p _ _ ⟨hp,ep⟩=>by rw[<-ep];exact Da hp) λaa n' q _ _ ax he=>⟨ax,λw=>?_⟩
  simp[A.den,he,binOp,Op.intArith]
 case quo=>
  cases hc:y.l.ed with
  |none=>
   refine dY λh0=>(HI hx).bind λck iH fx rh zY ⟨mo,ex,VC,wU,th⟩=>iM λab=>?_
   have h0:=of_decide_eq_true h0
   subst h0
   simp only[cQ,e3,au]at ab
   have KX:=I.bX zY hy.1
   have ED:=mo.2
   have aw:=abz (show 0<=fx.l.den ck by omega) (pv ab)
   have cb:fx.l.den ck/y.l.den ck<=fx.l.den ck:=by
    have h5:=aEm (y.l.den ck) (show 0<=fx.l.den ck by omega)
    exact h5
   have gX:fx.l.den ck/y.l.den ck<=fx.hi:=by omega
   have hf:bt 76 ([fx.l,y.l].map (·.den ck))=fx.l.den ck/y.l.den ck:=rfl
   refine rp (v:=k.wrap (fx.l.den ck/y.l.den ck)) (((hI (by rw[hf];exact aw) (by rw[hf];exact gX)).bind λaJ aT l _ _ ⟨g1,g2⟩=>az.pure (R:=λaa n' (q:bM)=>q.ok n' aa/\q.l.den aa=fx.l.den ck/y.l.den ck) ⟨⟨g1,by simp only;rw[g2,hf];exact aw,by simp only;rw[g2,hf];exact gX⟩,by simp only;rw[g2,hf]⟩).bind λaJ aT p _ _ ⟨hp,ep⟩=>by rw[<-ep];exact Da hp) λaa n' q _ _ ax he=>⟨ax,λw=>?_⟩
   simp only[A.den,he,binOp,Op.intDiv]
   have KW:0<y.l.den ρ:=KX▸ab
   have Al:0<=x.l.den ρ:=by rw[<-th,<-ex];omega
   rw[KX,ex,th,if_neg (by simp),if_neg (by omega),aEo Al]
   simp
  |some c=>
   refine dY λh0=>(HI hx).bind λck iH fx rh zY ⟨mo,ex,VC,wU,th⟩=>?_
   simp only[bo,decide_eq_true_eq]at h0
   obtain⟨h0,h1⟩:=h0
   subst h0
   have ED:=mo.2
   refine rp (v:=k.wrap (fx.l.den ck/c)) ((BX h1 mo).bind λaJ aT p _ _ ⟨hp,ep,_⟩=>by rw[<-ep];exact Da hp) λaa n' q _ _ ax he=>⟨ax,λw=>?_⟩
   have Al:0<=x.l.den ρ:=by rw[<-th,<-ex];omega
   simp only[A.den,he,I.jI hc,binOp,Op.intDiv]
   rw[ex,th,if_neg (by simp),if_neg (by omega),aEo Al]
   simp
 case rem=>
  cases hc:y.l.ed with
  |none=>
   refine dY λh0=>(HI hx).bind λck iH fx rh zY ⟨mo,ex,VC,wU,th⟩=>iM λab=>?_
   have h0:=of_decide_eq_true h0
   subst h0
   simp only[cQ,e3,au]at ab
   have KX:=I.bX zY hy.1
   have ED:=mo.2;have Cz:=(hy.agree zY rh).2
   have aw:=rG (fx.l.den ck) (show y.l.den ck≠0 by omega)
   have aF:=xL (fx.l.den ck) ab
   have cb:fx.l.den ck% y.l.den ck<=fx.l.den ck:=by
    have h5:=al3 (fx.l.den ck) (y.l.den ck)
    have h6:=al1 (pv ab) (abz (show 0<=fx.l.den ck by omega) (pv ab))
    omega
   have hf:bt 38 ([fx.l,y.l].map (·.den ck))=fx.l.den ck% y.l.den ck:=rfl
   have gX:fx.l.den ck% y.l.den ck<=cond (decide (y.hi-1<=fx.hi)) (y.hi-1) fx.hi:=by
    cases decide (y.hi-1<=fx.hi)with
    |true=>simp only[cond_true];omega
    |false=>simp only[cond_false];omega
   refine rp (v:=fx.l.den ck% y.l.den ck) ((hI (by rw[hf];exact aw) (by rw[hf];exact gX)).bind λaJ aT l _ _ ⟨g1,g2⟩=>az.pure ⟨⟨g1,by simp only;rw[g2,hf];exact aw,by simp only;rw[g2,hf];exact gX⟩,by simp only;rw[g2,hf]⟩) λaa n' q _ _ ax he=>⟨ax,λw=>?_⟩
   simp only[A.den,he,binOp,Op.intDiv]
   have KW:0<y.l.den ρ:=KX▸ab
   have Al:0<=x.l.den ρ:=by rw[<-th,<-ex];omega
   rw[KX,ex,th,if_neg (by simp),if_neg (by omega),aEp Al]
   simp
  |some c=>
   refine dY λh0=>(HI hx).bind λck iH fx rh zY ⟨mo,ex,VC,wU,th⟩=>?_
   simp only[bo,decide_eq_true_eq]at h0
   obtain⟨h0,h1⟩:=h0
   subst h0
   have ED:=mo.2
   refine rp (aiT h1 mo) λaa n' q _ _ ax he=>⟨ax,λw=>?_⟩
   have Al:0<=x.l.den ρ:=by rw[<-th,<-ex];omega
   simp only[A.den,he,I.jI hc,binOp,Op.intDiv]
   rw[ex,th,if_neg (by simp),if_neg (by omega),aEp Al]
   simp
 case and=>
  refine dY λh0=>?_
  simp only[decide_eq_true_eq]at h0;subst h0
  refine rp (anH hx hy) λaa n' q _ _ ax he=>⟨ax,λw=>?_⟩
  simp[A.den,he,binOp,SC,eb]
 case or=>
  refine dY λh0=>?_
  simp only[decide_eq_true_eq]at h0;subst h0
  refine rp (axv hx hy) λaa n' q _ _ ax he=>⟨ax,λw=>?_⟩
  simp[A.den,he,binOp,SC,eb]
 case xor=>
  refine dY λh0=>?_
  simp only[decide_eq_true_eq]at h0;subst h0
  refine rp Nl λaa n' q _ _ ax he=>⟨ax,λw=>?_⟩
  simp[A.den,he,binOp,SC,eb]
 case andNot=>
  refine dY λh0=>?_
  simp only[decide_eq_true_eq]at h0;subst h0
  refine rp Nl λaa n' q _ _ ax he=>⟨ax,λw=>?_⟩
  simp[A.den,he,binOp,SC,eb]
 all_goals
  refine dY λh0=>?_
  simp only[decide_eq_true_eq]at h0;subst h0
  have aw:=bw.u3 hx hy
  have aF:=bw.Oj hx hy
  have cb:=bw.afb hx hy
  have gX:=bw.Oj hy hx
  have fD:=bw.afb hy hx
  refine az.pure ⟨?_,λw=>?_⟩
  ·first|exact aw.2|exact bw.y5 aw.2|exact aF.2|exact cb.2|exact gX.2|exact fD.2
  ·simp[A.den,bw.yl,aw.1,aF.1,cb.1,gX.1,fD.1,binOp,Op.intCmp]
   try rfl
end
end Go.b6
namespace Go.b6
open M
abbrev aG:=List A×(bh×Bool)
abbrev eI:=List (Nat×List (du×Int))
structure dX where
 b:aE
 r:aE
 ex:Nat->Prop
 ro:Nat->Prop
 ds:List Deferred
def b7:List A->Bool
 |[.rows _ _ _ _ _]=>false
 |_=>true
noncomputable def bJ (ρ:Env):List A->Nat
 |[.rows _ _ _ cap k]=>if cap.den ρ<0 then 0 else k
 |_=>2
def cw:List aL->List Int->Prop
 |[],[]=>True
 |c::sh,z::r=>(c.fq.1<=z/\z<=c.fq.2)/\cw sh r
 |_,_=>False
def dq:List aL->List Int->List aP
 |c::sh,z::r=>c.val z::dq sh r
 |_,_=>[]
def b2 (sh:List aL) (rows:List (List Int)):List aP:=rows.flatMap (dq sh)
def mU (cells:Array aP) (off:Nat) (sh:List aL) (rows:List (List Int)):Prop:=
 (∀row∈rows,cw sh row)/\∃pre post,cells.toList=pre++b2 sh rows++post/\pre.length=off
theorem cw.len:∀{sh:List aL} {row:List Int},cw sh row->row.length=sh.length
 |[],[],_=>rfl
 |_::_,_::_,h=>by simp[cw.len h.2]
 |[],_::_,h=>h.elim
 |_::_,[],h=>h.elim
theorem cw.get:∀{sh:List aL} {row:List Int} {j:Nat} {c:aL},cw sh row->sh[j]?=some c->∃z,row[j]?=some z/\c.fq.1<=z/\z<=c.fq.2/\(dq sh row)[j]?=some (c.val z)
 |eg::sh,z::r,0,c,h,hc=>by
  simp only[uz,a7]at hc
  subst hc
  exact⟨z,rfl,h.1.1,h.1.2,rfl⟩
 |eg::sh,z::r,j+1,c,h,hc=>cw.get (sh:=sh) (row:=r) (j:=j) h.2 (by simpa using hc)
 |[],_,_,_,_,hc=>by simp at hc
 |_::_,[],_,_,h,_=>h.elim
theorem Fl:∀{sh:List aL} {row:List Int},cw sh row->(dq sh row).length=sh.length
 |[],[],_=>rfl
 |_::_,_::_,h=>by simp[dq,Fl h.2]
 |[],_::_,h=>h.elim
 |_::_,[],h=>h.elim
theorem oc {sh:List aL}:∀{rows:List (List Int)},(∀row∈rows,cw sh row)->(b2 sh rows).length=rows.length*sh.length
 |[],_=>by simp[b2]
 |r::rs,h=>by
  have ih:=oc (rows:=rs) λrow hr=>h row (dU _ hr)
  have h1:=Fl (h r (by simp))
  simp only[b2,sL,fc,jd]at ih⊢
  rw[ih,h1,xU];omega
theorem VN {sh:List aL}:∀{rows:List (List Int)} {i j:Nat} {row:List Int} {v:aP},(∀row∈rows,cw sh row)->rows[i]?=some row->(dq sh row)[j]?=some v->(b2 sh rows)[i*sh.length+j]?=some v
 |r::rs,0,j,row,v,h,hi,aI=>by
  simp only[uz,a7]at hi
  subst hi
  have hlt:=(List.getElem?_eq_some_iff.1 aI).1
  simp only[b2,sL,Nat.zero_mul,uC]
  rw[xQ hlt];exact aI
 |r::rs,i+1,j,row,v,h,hi,aI=>by
  have ih:=VN (rows:=rs) (i:=i) (λrow hr=>h row (dU _ hr)) (by simpa using hi) aI
  have h1:=Fl (h r (by simp))
  simp only[b2,sL]at ih⊢
  rw[IS (by rw[h1,xU];omega),h1,xU]
  rw[show i*sh.length+sh.length+j-sh.length=i*sh.length+j by omega];exact ih
 |[],i,_,_,_,_,hi,_=>by simp at hi
theorem wK (sh:List aL) (a b:List (List Int)):b2 sh (a++b)=b2 sh a++b2 sh b:=by simp[b2]
def zD (kind:Nat) (fz:Nat×Nat) (n:Nat):Prop:=(kind=2/\fz=(0,0))∨(kind≠2/\fz=(n,n+1))
theorem zD.two {fz:Nat×Nat} {n:Nat} (h:zD 2 fz n):fz=(0,0):=by
 rcases h with h|h
 ·exact h.2
 ·exact absurd rfl h.1
theorem zD.Le {n:Nat}:zD 2 (0,0) n:= .inl ⟨rfl,rfl⟩
def sN (w0:dX) (ρ:Env) (g:Nat) (sh:List aL) (off code cap:I) (kind:Nat) (t:bh) (w:aE):Prop:=
 kind≠0->(cap.den ρ<0->ah (code.den ρ)=[])/\(0<=cap.den ρ->(w0.ex g∨w0.ro g∨w0.r.heap.size<=g)/\∃cells t' fz,w.heap[g]?=some (.cells cells t' fz)/\(0<=off.den ρ/\mU cells (off.den ρ).toNat sh (ah (code.den ρ)))/\
  (2<=kind->t'=t/\off.den ρ=0/\zD kind fz cells.size/\cells.size=(cap.den ρ).toNat*sh.length/\w0.b.heap.size<=g/\(w0.ex g∨w0.r.heap.size<=g)))
structure Mem (w0:dX) (ρ:Env) (m:Nat->Nat) (bl:List aG) (w:aE):Prop where
 ext:w0.b.Extends w
 iZ:w.os=w0.r.os
 kA:w.tape=w0.r.tape
 j7:w.output=w0.r.output
 gj:w0.r.heap.size<=w.heap.size
 iO:∀i:Nat,i<w0.r.heap.size->¬w0.ex i->w.heap[i]?=w0.r.heap[i]?
 fe:∀(i:Nat) (cs:List A) (t:bh×Bool),bl[i]?=some (cs,t)->b7 cs=true->w0.b.heap.size<=m i/\(w0.ex (m i)∨w0.r.heap.size<=m i)/\∃r:List aP,(t.2=false->r=[])/\w.heap[m i]?=some (.cells (cs.map (A.den ρ m)++r).toArray t.1 (0,0))
 rws:∀(i:Nat) (sh:List aL) (off code cap:I) (kind:Nat) (t:bh×Bool),bl[i]?=some ([.rows sh off code cap kind],t)->sN w0 ρ (m i) sh off code cap kind t.1 w
 inj:∀(i j:Nat) (p q:aG),bl[i]?=some p->bl[j]?=some q->m i=m j->i=j∨(bJ ρ p.1<=1/\bJ ρ q.1<=1)∨bJ ρ p.1=0∨bJ ρ q.1=0
theorem Mem.lt {w0:dX} {ρ:Env} {m:Nat->Nat} {bl:List aG} {w:aE} (h:Mem w0 ρ m bl w) {i:Nat} {p:aG} (hi:bl[i]?=some p) (ab:bJ ρ p.1≠0):m i<w.heap.size:=by
 obtain⟨cs,t⟩:=p
 by_cases ax:b7 cs=true
 ·obtain⟨_,_,r,_,h2⟩:=h.fe i cs t hi ax
  exact(Array.getElem?_eq_some_iff.1 h2).1
 ·unfold b7 at ax
  split at ax
  ·rename_i sh off code cap k
   simp only[bJ]at ab
   split at ab
   ·exact absurd rfl ab
   ·rename_i cZ
    obtain⟨_,cells,t',fz,h2,_⟩:=(h.rws i _ _ _ _ _ t hi ab).2 (by omega)
    exact(Array.getElem?_eq_some_iff.1 h2).1
  ·exact absurd rfl ax
theorem lv {ρ:Env} {cs:List A} (h:b7 cs=true):bJ ρ cs=2:=by
 unfold b7 at h
 unfold bJ
 split<;>simp_all
def cM (n nb:Nat) (ρ:Env) (bl:List aG):Prop:=∀p∈bl,∀a∈p.1,A.ok n nb ρ a
def eX (gl:eI) (w0:dX):Prop:=∀g cs,(g,cs)∈gl->g<w0.b.heap.size/\∃t Cj,w0.b.heap[g]?=some (.cells (cs.map λp=>Value.int p.1 p.2).toArray t Cj)
theorem cM.ext {n n' nb lz:Nat} {ρ aa:Env} {bl:List aG} (h:cM n nb ρ bl) (ha:agree n ρ aa) (hn:n<=n') (hb:nb<=lz):cM n' lz aa bl:=
 λp hp a a8=>(h p hp a a8).ext ha hn hb
theorem sN.p6 {w0:dX} {n nb:Nat} {ρ aa:Env} {g:Nat} {sh:List aL} {off code cap:I} {kind:Nat} {t:bh} {w:aE} (h:sN w0 ρ g sh off code cap kind t w) (bV:(A.rows sh off code cap kind).ok n nb ρ) (ha:agree n ρ aa):sN w0 aa g sh off code cap kind t w:=by
 unfold sN at*
 rw[I.bX ha bV.1.1,I.bX ha bV.1.2.1,I.bX ha bV.1.2.2]
 exact h
theorem vm {n nb:Nat} {ρ aa:Env} {cs:List A} (bV:∀a∈cs,A.ok n nb ρ a) (ha:agree n ρ aa):bJ aa cs=bJ ρ cs:=by
 unfold bJ
 split
 ·rename_i sh off code cap k
  have h1:A.ok n nb ρ (.rows sh off code cap k):=bV _ (by simp)
  rw[I.bX ha h1.1.2.2]
 ·rfl
theorem agree.sym {n:Nat} {ρ aa:Env} (h:agree n ρ aa):agree n aa ρ:=λi hi=>(h i hi).symm
theorem Mem.p6 {w0:dX} {n:Nat} {ρ aa:Env} {m:Nat->Nat} {bl:List aG} {w:aE} (h:Mem w0 ρ m bl w) (hb:cM n bl.length ρ bl) (ha:agree n ρ aa):Mem w0 aa m bl w:=
 ⟨h.ext,h.iZ,h.kA,h.j7,h.gj,h.iO,λi cs t hi ax=>by
  obtain⟨h1,h2,r,hr,h3⟩:=h.fe i cs t hi ax
  exact⟨h1,h2,r,hr,by rw[vp (hb _ (eD hi)) ha (λ_ _=>rfl)];exact h3⟩,
  λi sh off code cap kind t hi=>(h.rws i sh off code cap kind t hi).p6 (hb _ (eD hi) _ (by simp)) ha,λi j p q hi aI he=>by
   rw[vm (hb _ (eD hi)) ha,vm (hb _ (eD aI)) ha]
   exact h.inj i j p q hi aI he⟩
theorem sN.grow {w0:dX} {ρ:Env} {g:Nat} {sh:List aL} {off code cap:I} {kind:Nat} {t:bh} {w w':aE} (h:sN w0 ρ g sh off code cap kind t w) (he:kind≠0->0<=cap.den ρ->w'.heap[g]?=w.heap[g]?):sN w0 ρ g sh off code cap kind t w':=by
 intro ab
 obtain⟨h1,h2⟩:=h ab
 refine⟨h1,λhc=>?_⟩
 rw[he ab hc]
 exact h2 hc
theorem tA {ρ:Env} {sh:List aL} {off code cap:I} {k:Nat} (ab:k≠0) (hc:0<=cap.den ρ):bJ ρ [.rows sh off code cap k]=k:=by
 simp only[bJ]
 rw[if_neg (by omega)]
theorem Mem.grow {w0:dX} {ρ:Env} {m:Nat->Nat} {bl:List aG} {w w':aE} (h:Mem w0 ρ m bl w) (he:w.Extends w'):Mem w0 ρ m bl w':=
 ⟨h.ext.trans he,he.os.trans h.iZ,he.tape.trans h.kA,he.output.trans h.j7,lg h.gj he.size,λi hi hx=>(he.block i (FA hi h.gj)).trans (h.iO i hi hx),λi cs t hi ax=>by
  obtain⟨h1,h2,r,hr,h3⟩:=h.fe i cs t hi ax
  exact⟨h1,h2,r,hr,by rw[he.block _ (h.lt hi (by rw[lv ax];decide))];exact h3⟩,λi sh off code cap kind t hi=>(h.rws i sh off code cap kind t hi).grow λab hc=>he.block _ (h.lt hi (by simp only[tA ab hc];exact ab)),h.inj⟩
theorem Mem.ne {w0:dX} {ρ:Env} {m:Nat->Nat} {bl:List aG} {w:aE} (h:Mem w0 ρ m bl w) {i j:Nat} {p q:aG} (hi:bl[i]?=some p) (aI:bl[j]?=some q) (hp:2<=bJ ρ p.1) (aj:bJ ρ q.1≠0) (cW:i≠j):m i≠m j:=λe=>by
 rcases h.inj i j p q hi aI e with h|h|h|h
 ·exact cW h
 ·omega
 ·omega
 ·exact aj h
def ef (n nb:Nat) (ρ:Env) (m:Nat->Nat) (tm:List V) (tmps:Array aP):Prop:=
 tm.length=tmps.size/\∀(i:Nat) (v:V),tm[i]?=some v->v.ok n nb ρ/\∃x,tmps[i]?=some x/\v.rel ρ m x
theorem ef.ext {n n' nb lz:Nat} {ρ aa:Env} {m m':Nat->Nat} {tm:List V} {tmps:Array aP} (h:ef n nb ρ m tm tmps) (ha:agree n ρ aa) (hn:n<=n') (hb:nb<=lz) (hm:∀b,b<nb->m' b=m b):ef n' lz aa m' tm tmps:=
 ⟨h.1,λi v hv=>by obtain⟨h1,x,h2,h3⟩:=h.2 i v hv;exact⟨h1.ext ha hn hb,x,h2,h3.ext h1 ha hm⟩⟩
def ui:List V->Nat->V->List V
 |[],_,_=>[]
 |_::r,0,v=>v::r
 |x::r,i+1,v=>x::ui r i v
theorem Z9:∀(l:List V) (i:Nat) (v:V),ui l i v=l.set i v
 |[],_,_=>rfl
 |_::_,0,_=>rfl
 |_::r,i+1,v=>by simp[ui,Z9 r i v]
def fw (tm:List V) (d:Option Tmp) (v:V):List V:=match d with|some d=>ui tm d v|none=>tm
theorem ef.put {n nb:Nat} {ρ:Env} {m:Nat->Nat} {tm:List V} {a:Act} {v:V} {x:aP} (h:ef n nb ρ m tm a.tmps) (d:Option Tmp) (hv:v.ok n nb ρ) (hx:v.rel ρ m x):ef n nb ρ m (fw tm d v) (a.put d x).tmps:=by
 cases d with
 |none=>exact h
 |some d=>
  simp only[fw,IX,Z9]
  refine⟨by simp[h.1],λi u hu=>?_⟩
  rw[List.getElem?_set]at hu
  by_cases hd:d=i
  ·subst hd
   simp only[if_true]at hu
   split at hu
   ·rename_i hlt
    simp only[a7]at hu
    subst hu
    exact⟨hv,x,by simp[<-h.1,hlt],hx⟩
   ·cases hu
  ·rw[if_neg hd]at hu
   obtain⟨h1,y,h2,h3⟩:=h.2 i u hu
   exact⟨h1,y,by rw[aEq (by omega)];exact h2,h3⟩
def Gi:aP->Option A
 | .int k n=>some (.int k (.const n))
 | .bool b=>some (.bool (.lit b))
 | .string s=>cond (cx s.size 1000000) (some (.str (.const (jv s.data.toList)))) none
 |v=>cond v.oneCell' (some (.con v)) none
theorem ae0 {v:aP} {a:A} (h:Gi v=some a) (n nb:Nat) (ρ:Env) (m:Nat->Nat):a.ok n nb ρ/\a.den ρ m=v:=by
 unfold Gi at h
 split at h
 ·simp only[a7]at h;subst h;exact⟨bM.n9 _ _ _,by simp[A.den,bM.const,I.bg]⟩
 ·simp only[a7]at h;subst h;exact⟨trivial,rfl⟩
 ·rename_i s
  cases hc:cx s.size 1000000 with
  |false=>simp[hc]at h
  |true=>
   simp only[hc,cond_true,a7]at h
   subst h
   have hl:s.data.toList.length<=kW:=by
    have:=e8 hc
    have h2:s.data.toList.length=s.size:=by simp
    unfold kW;omega
   refine⟨⟨I.c5 _ _,by rw[I.bg];exact wD _,by rw[I.bg];exact uI hl⟩,?_⟩
   simp[A.den,I.bg,y4,dI]
 ·cases hc:v.oneCell' with
  |false=>simp[hc]at h
  |true=>simp only[hc,cond_true,a7]at h;subst h;exact⟨hc,rfl⟩
def zS:List aP->Option (List A)
 |[]=>some []
 |v::r=>match Gi v,zS r with|some a,some l=>some (a::l)|_,_=>none
theorem zT:∀{vs:List aP} {l:List A},zS vs=some l->∀(n nb:Nat) (ρ:Env) (m:Nat->Nat),(∀a∈l,A.ok n nb ρ a)/\l.map (A.den ρ m)=vs
 |[],l,h,n,nb,ρ,m=>by simp[zS]at h;subst h;simp
 |v::r,l,h,n,nb,ρ,m=>by
  simp only[zS]at h
  cases h1:Gi v with
  |none=>simp[h1]at h
  |some a=>
   cases h2:zS r with
   |none=>simp[h1,h2]at h
   |some l'=>
    simp only[h1,h2,a7]at h
    subst h
    have aw:=ae0 h1 n nb ρ m
    have aF:=zT h2 n nb ρ m
    exact⟨λa ha=>by rcases List.mem_cons.1 ha with rfl|ha;exact aw.1;exact aF.1 a ha,by simp[aw.2,aF.2]⟩
def Og:aP->V
 | .agg cs=>match zS cs.toList with|some l=> .w (.agg l)|none=> .any
 | .tuple _=> .any
 |v=>match Gi v with|some a=> .w (.one a)|none=> .any
theorem aoV (v:aP) (n nb:Nat) (ρ:Env) (m:Nat->Nat):(Og v).ok n nb ρ/\(Og v).rel ρ m v:=by
 unfold Og
 split
 ·rename_i cs
  cases h:zS cs.toList with
  |none=>exact⟨trivial,trivial⟩
  |some l=>have e:=zT h n nb ρ m;exact⟨e.1,by simp[V.rel,W.den,e.2]⟩
 ·exact⟨trivial,trivial⟩
 ·cases h:Gi v with
  |none=>exact⟨trivial,trivial⟩
  |some a=>have e:=ae0 h n nb ρ m;exact⟨e.1,by simp[V.rel,W.den,e.2]⟩
def cd (tm:List V):oM->V
 | .tmp t=>(tm[t]?).getD .any
 | .const v=>Og v
 | .global g=> .w (.one (.gptr g 0))
 | .func f=> .w (.one (.con (.func (.func f) #[] #[])))
theorem cy {n nb:Nat} {ρ:Env} {m:Nat->Nat} {tm:List V} {a:Act} (h:ef n nb ρ m tm a.tmps) (x:oM):(cd tm x).ok n nb ρ/\(cd tm x).rel ρ m (a.eval x):=by
 cases x with
 |tmp t=>
  simp only[cd,Act.eval]
  cases aA:tm[t]? with
  |none=>exact⟨trivial,trivial⟩
  |some v=>
   obtain⟨h1,y,h2,h3⟩:=h.2 t v aA
   exact⟨h1,by simp only[Bk];rw[show a.tmps.getD t undef=y by simp[h2]];exact h3⟩
 |const v=>exact aoV v n nb ρ m
 |global g=>exact⟨trivial,rfl⟩
 |func f=>exact⟨rfl,rfl⟩
def jL (P:bQ) (t:bh):Option Bool:=
 match P.underlying t with|some (.struct _)=>some true|some (.array _ _)=>some true|some _=>some false|none=>none
def e7 (P:bQ) (t:bh):Option Nat:=match P.info? t with|some i=>some i.size|none=>none
theorem qQ {P:bQ} {t:bh} {b:Bool} (h:jL P t=some b) (w:aE):(isAgg t).run P w= .ok b w:=by
 unfold jL at h
 cases hu:P.underlying t with
 |none=>simp[hu]at h
 |some d=>cases d<;>simp[hu]at h<;>subst h<;>simp[isAgg,eU hu]
theorem jn {P:bQ} {t:bh} {k:Nat} (h:e7 P t=some k) (w:aE):(sizeOf t).run P w= .ok k w:=by
 unfold e7 at h
 cases hi:P.info? t with
 |none=>simp[hi]at h
 |some i=>simp[hi]at h;subst h;simp[sizeOf,typeInfo,hi]
def Ge (bl:List aG) (gl:eI):A->Option (List A)
 | .ptr b off=>match bl[b]? with|some (cs,_)=>cond (b7 cs) (some (cs.drop off)) none|none=>none
 | .gptr g off=>match gl.find? (λp=>aK p.1 g)with|some (_,cs)=>some ((cs.drop off).map λp=> .int p.1 (.const p.2))|none=>none
 |_=>none
theorem jG (g o j:Nat):(⟨g,o,none⟩:Addr).add j=⟨g,o+j,none⟩:=by unfold Addr.add;split<;>simp_all
theorem U9 {w0:dX} {w:aE} {n:Nat} {ρ:Env} {m:Nat->Nat} {bl:List aG} {gl:eI} {p:A} {cs:List A} (hm:Mem w0 ρ m bl w) (hb:cM n bl.length ρ bl) (hg:eX gl w0) (h:Ge bl gl p=some cs):
 ∃g o,p.den ρ m= .pointer (some ⟨g,o,none⟩)/\(∀a∈cs,A.ok n bl.length ρ a)/\∀j a,cs[j]?=some a->w.cell? ⟨g,o+j,none⟩=some (a.den ρ m):=by
 unfold Ge at h
 split at h
 ·rename_i b off
  cases aQ:bl[b]? with
  |none=>simp[aQ]at h
  |some q=>
   obtain⟨C,t⟩:=q
   simp only[aQ]at h
   cases mm:b7 C with
   |false=>simp[mm]at h
   |true=>
   simp only[mm,cond_true,a7]at h
   subst h
   obtain⟨h1,_,r,_,h2⟩:=hm.fe b C t aQ mm
   refine⟨m b,off,rfl,λa ha=>hb _ (eD aQ) a (oN ha),λj a aI=>?_⟩
   rw[Bo]at aI
   have hlt:off+j<C.length:=(List.getElem?_eq_some_iff.1 aI).1
   simp only[lH,h2,uD,uv,if_false,MD]
   rw[xQ (by simpa using hlt),pw,aI];rfl
 ·rename_i g off
  cases hf:gl.find? (λp=>aK p.1 g)with
  |none=>simp[hf]at h
  |some q=>
   obtain⟨lk,C⟩:=q
   simp only[hf,a7]at h
   subst h
   have yB:lk=g:=by have:=St hf;exact bO this
   subst yB
   obtain⟨h1,t,Cj,h2⟩:=hg lk C (FC hf)
   refine⟨lk,off,rfl,λa ha=>?_,λj a aI=>?_⟩
   ·obtain⟨p,_,rfl⟩:=List.mem_map.1 ha;exact bM.n9 _ _ _
   ·rw[pw,Bo]at aI
    cases aj:C[off+j]? with
    |none=>simp[aj]at aI
    |some q=>
     simp only[aj,xP,a7]at aI
     subst aI
     have:=hm.ext.cell ⟨lk,off+j,none⟩ h1
     rw[this]
     simp[lH,h2,aj,A.den,bM.const,I.bg]
 ·cases h
def YF (P:bQ) (bl:List aG) (gl:eI) (ty:bh) (p:A):M V:=
 match Ge bl gl p,jL P ty,e7 P ty with
 |some cs,some true,some k=>cond (cx k cs.length) (pure (.w (.agg (cs.take k)))) fail
 |some (a::_),some false,_=>pure (.w (.one a))
 |_,_,_=>fail
section
variable {S:Nat->List Int->List Int->Prop} {L:V->Env->Prop} {n:Nat} {ρ:Env} {m:Nat->Nat} {bl:List aG} {gl:eI} {w0:dX} {P:bQ}
def mT (w0:dX) (m:Nat->Nat) (bl:List aG) (n:Nat) (ρ:Env) (run:aE->Result aP) (aa:Env) (n':Nat) (v:V):Prop:=
 v.ok n' bl.length aa/\∃val,v.rel aa m val/\∀w,Mem w0 ρ m bl w->run w= .ok val w
theorem avI (hb:cM n bl.length ρ bl) (hg:eX gl w0) (hex:∃w,Mem w0 ρ m bl w) (ty:bh) (p:A):az S L (YF P bl gl ty p) n ρ (mT w0 m bl n ρ λw=>(nr ty (p.den ρ m)).run P w):=by
 obtain⟨zd,hx⟩:=hex
 unfold YF
 cases hc:Ge bl gl p with
 |none=>exact az.fail
 |some cs=>
  obtain⟨g,o,hp,bV,_⟩:=U9 hx hb hg hc
  have hcell:∀w,Mem w0 ρ m bl w->∀j a,cs[j]?=some a->w.cell? ⟨g,o+j,none⟩=some (a.den ρ m):=λw hw=>by
   obtain⟨lk,cu,Cx,_,a8⟩:=U9 hw hb hg hc
   rw[hp]at Cx
   simp only[aLI,a7,Addr.mk.injEq,and_true]at Cx
   obtain⟨rfl,rfl⟩:=Cx
   exact a8
  cases ha:jL P ty with
  |none=>exact az.fail
  |some b=>
   cases b with
   |true=>
    cases hs:e7 P ty with
    |none=>exact az.fail
    |some k=>
     refine dY λab=>az.pure ⟨λa h=>bV a (lf h),_,rfl,λw hw=>?_⟩
     have ab:k<=cs.length:=e8 ab
     have hl:=My (P:=P) w ⟨g,o,none⟩ ((cs.take k).map (A.den ρ m)) λj v aI=>by
      rw[jG]
      rw[pw]at aI
      cases aj:(cs.take k)[j]? with
      |none=>simp[aj]at aI
      |some a=>
       simp only[aj,xP,a7]at aI
       subst aI
       refine hcell w hw j a ?_
       rw[qY]at aj
       split at aj
       ·exact aj
       ·cases aj
     simp only[l6,px,Dc ab]at hl
     simp[nr,mO,hp,loadVar,qQ ha,jn hs,hl,W.den]
   |false=>
    cases cs with
    |nil=>exact az.fail
    |cons a r=>
     refine az.pure ⟨bV a (by simp),_,rfl,λw hw=>?_⟩
     have:=hcell w hw 0 a rfl
     simp only[mM]at this
     simp[nr,mO,hp,loadVar,qQ ha,this,W.den]
def pV (k:du):List A->Option (List bM)
 |[]=>some []
 | .int bA x::r=>cond (decide (k=bA)) (match pV k r with|some l=>some (x::l)|none=>none) none
 |_::_=>none
theorem ahM {k:du}:∀{cs:List A} {l:List bM},pV k cs=some l->cs=l.map (.int k)
 |[],l,h=>by simp[pV]at h;subst h;rfl
 | .int bA x::r,l,h=>by
  simp only[pV]at h
  by_cases ab:k=bA
  ·subst ab
   simp only[decide_true,cond_true]at h
   cases h1:pV k r with
   |none=>simp[h1]at h
   |some l'=>simp only[h1,a7]at h;subst h;simp[ahM h1]
  ·simp[ab]at h
 | .bool _::_,_,h=>by simp[pV]at h
 | .ptr .. ::_,_,h=>by simp[pV]at h
 | .oD .. ::_,_,h=>by simp[pV]at h
 | .gptr .. ::_,_,h=>by simp[pV]at h
 | .slc .. ::_,_,h=>by simp[pV]at h
 | .con _::_,_,h=>by simp[pV]at h
 | .str _::_,_,h=>by simp[pV]at h
 | .rows .. ::_,_,h=>by simp[pV]at h
 | .sl .. ::_,_,h=>by simp[pV]at h
 | .ep .. ::_,_,h=>by simp[pV]at h
def Hw:List bM->Int
 |[]=>0
 |[x]=>x.lo
 |x::r=>min x.lo (Hw r)
def Hu:List bM->Int
 |[]=>0
 |[x]=>x.hi
 |x::r=>max x.hi (Hu r)
theorem aiP {n:Nat} {ρ:Env}:∀{l:List bM},(∀x∈l,x.ok n ρ)->∀x∈l,Hw l<=x.l.den ρ/\x.l.den ρ<=Hu l
 |[],_,x,hx=>by simp at hx
 |[y],h,x,hx=>by
  simp at hx;subst hx
  have:=(h x (by simp)).2
  exact this
 |y::z::r,h,x,hx=>by
  have ih:=aiP (l:=z::r) (λx hx=>h x (dU _ hx))
  simp only[Hw,Hu]
  rcases List.mem_cons.1 hx with rfl|hx
  ·have:=(h x (by simp)).2;omega
  ·have:=ih x hx;omega
def kindOf (P:bQ) (ty:bh):Option du:=match P.underlying ty with|some (.int k)=>some k|_=>none
def yQ:List Int->Int
 |[]=>0
 |[x]=>x
 |x::r=>cond (decide (x<=yQ r)) x (yQ r)
def yP:List Int->Int
 |[]=>0
 |[x]=>x
 |x::r=>cond (decide (yP r<=x)) x (yP r)
theorem aiQ:∀(l:List Int),∀z∈l,yQ l<=z/\z<=yP l
 |[],_,h=>by cases h
 |[x],z,h=>by simp at h;subst h;simp[yQ,yP]
 |x::y::r,z,h=>by
  unfold yQ yP
  have ih:=aiQ (y::r)
  rcases List.mem_cons.1 h with rfl|h
  ·refine⟨?_,?_⟩
   ·cases hc:decide (z<=yQ (y::r))with
    |true=>simp
    |false=>simp at hc⊢;omega
   ·cases hc:decide (yP (y::r)<=z)with
    |true=>simp
    |false=>simp at hc⊢;omega
  ·have:=ih z h
   refine⟨?_,?_⟩
   ·cases hc:decide (x<=yQ (y::r))with
    |true=>simp at hc⊢;omega
    |false=>simp;exact this.1
   ·cases hc:decide (yP (y::r)<=x)with
    |true=>simp at hc⊢;omega
    |false=>simp;exact this.2
def Z8 (P:bQ) (bl:List aG) (ty:bh) (b off:Nat) (bd:bM):M V:=λn c=>
 match bl[b]?,kindOf P ty with
 |some (cs,_),some k=>match pV k ((cs.drop off).take (bd.hi.toNat+1))with
  |some l=>cond (aK l.length (bd.hi.toNat+1)&&decide (0<=bd.lo)&&b7 cs) (.y7 n (l.map (·.l)) bd.l (Hw l) (Hu l) (c (.w (.one (.int k ⟨.var n,Hw l,Hu l⟩))) (n+1))) .stuck
  |none=> .stuck
 |_,_=> .stuck
theorem aAH (hb:cM n bl.length ρ bl) (ty:bh) (b off:Nat) {bd:bM} (Ky:bd.ok n ρ):az S L (Z8 P bl ty b off bd) n ρ (mT w0 m bl n ρ λw=>(nr ty ((A.oD b off bd).den ρ m)).run P w):=by
 intro amC c ab
 unfold Z8 at ab
 cases aQ:bl[b]? with
 |none=>simp[aQ,T.holds]at ab
 |some q=>
  obtain⟨cs,t⟩:=q
  cases im:kindOf P ty with
  |none=>simp[aQ,im,T.holds]at ab
  |some k=>
   cases hi:pV k ((cs.drop off).take (bd.hi.toNat+1))with
   |none=>simp[aQ,im,hi,T.holds]at ab
   |some l=>
    cases hc:(aK l.length (bd.hi.toNat+1)&&decide (0<=bd.lo)&&b7 cs)with
    |false=>simp[aQ,im,hi,hc,T.holds]at ab
    |true=>
     simp only[aQ,im,hi,hc,cond_true,T.holds]at ab
     simp only[bo,decide_eq_true_eq]at hc
     obtain⟨hc,aj⟩:=hc
     have hlen:=bO hc.1
     have e:=ahM hi
     have zN:=Ky.2
     have hlt:(bd.l.den ρ).toNat<l.length:=by omega
     have atb:∀x∈l,x.ok n ρ:=λx hx=>by
      have:A.int k x∈(cs.drop off).take (bd.hi.toNat+1):=by rw[e];exact aEr hx
      exact hb _ (eD aQ) _ (oN (lf this))
     have hz:((l.map (·.l)).map (·.den ρ)).getD (bd.l.den ρ).toNat 0=(l[(bd.l.den ρ).toNat]).l.den ρ:=by
      simp[U,hlt]
     have nI:=aiP atb _ (FD hlt)
     refine⟨_,n+1,_,qZ _,agree.de _ _ _,(show mT w0 m bl n ρ _ (de ρ n (((l.map (·.l)).map (·.den ρ)).getD (bd.l.den ρ).toNat 0)) (n+1) (.w (.one (.int k ⟨.var n,Hw l,Hu l⟩))) from⟨⟨I.fg (xT n),?_,?_⟩,_,rfl,?_⟩),ab _ (by rw[hz];exact nI.1) (by rw[hz];exact nI.2) rfl⟩
     ·simp only[I.cE,kF,hz];exact nI.1
     ·simp only[I.cE,kF,hz];exact nI.2
     ·intro w hw
      obtain⟨_,_,r,_,h2⟩:=hw.fe b cs t aQ aj
      have hu:jL P ty=some false:=by
       unfold kindOf at im
       unfold jL
       cases aj:P.underlying ty with
       |none=>simp[aj]at im
       |some d=>cases d<;>simp[aj]at im<;>rfl
      have c0:cs[off+(bd.l.den ρ).toNat]?=some (.int k (l[(bd.l.den ρ).toNat])):=by
       have h3:((cs.drop off).take (bd.hi.toNat+1))[(bd.l.den ρ).toNat]?=some (.int k (l[(bd.l.den ρ).toNat])):=by rw[e];simp[hlt]
       rw[qY,if_pos (by omega),Bo]at h3
       exact h3
      have hcell:w.cell? ⟨m b,off+(bd.l.den ρ).toNat,none⟩=some (.int k ((l[(bd.l.den ρ).toNat]).l.den ρ)):=by
       have asV:off+(bd.l.den ρ).toNat<cs.length:=(List.getElem?_eq_some_iff.1 c0).1
       simp only[lH,h2,uD,uv,if_false,MD]
       rw[xQ (by simpa using asV),pw,c0];rfl
      simp only[W.den,A.den,I.cE,kF,hz];simp[nr,mO,loadVar,qQ hu,hcell]
def Z7 (P:bQ) (gl:eI) (ty:bh) (g off:Nat) (bd:bM):M V:=λn c=>
 match gl.find? (λp=>aK p.1 g),kindOf P ty with
 |some (_,cs),some k=>cond (((cs.drop off).take (bd.hi.toNat+1)).all (λp=>decide (p.1=k))&&aK ((cs.drop off).take (bd.hi.toNat+1)).length (bd.hi.toNat+1)&&decide (0<=bd.lo))
  (.y7 n (((cs.drop off).take (bd.hi.toNat+1)).map λp=> .const p.2) bd.l (yQ (((cs.drop off).take (bd.hi.toNat+1)).map (·.2))) (yP (((cs.drop off).take (bd.hi.toNat+1)).map (·.2)))
    (c (.w (.one (.int k ⟨.var n,yQ (((cs.drop off).take (bd.hi.toNat+1)).map (·.2)),yP (((cs.drop off).take (bd.hi.toNat+1)).map (·.2))⟩))) (n+1))) .stuck
 |_,_=> .stuck
theorem aAG (hg:eX gl w0) (ty:bh) (g off:Nat) {bd:bM} (Ky:bd.ok n ρ):az S L (Z7 P gl ty g off bd) n ρ (mT w0 m bl n ρ λw=>(nr ty ((A.GG g off bd).den ρ m)).run P w):=by
 intro amC c ab
 unfold Z7 at ab
 cases hf:gl.find? (λp=>aK p.1 g)with
 |none=>simp[hf,T.holds]at ab
 |some q=>
  obtain⟨lk,cs⟩:=q
  have yB:lk=g:=by have:=St hf;exact bO this
  subst yB
  cases im:kindOf P ty with
  |none=>simp[hf,im,T.holds]at ab
  |some k=>
   simp only[hf,im]at ab
   generalize hK:(cs.drop off).take (bd.hi.toNat+1)=C at ab
   cases hc:(C.all (λp=>decide (p.1=k))&&aK C.length (bd.hi.toNat+1)&&decide (0<=bd.lo))with
   |false=>simp[hc,T.holds]at ab
   |true=>
    simp only[hc,cond_true,T.holds]at ab
    simp only[bo,decide_eq_true_eq]at hc
    obtain⟨⟨c1,bH⟩,cp⟩:=hc
    have bH:=bO bH
    have zN:=Ky.2
    have hlt:(bd.l.den ρ).toNat<C.length:=by omega
    have hz:((C.map λp=>I.const p.2).map (·.den ρ)).getD (bd.l.den ρ).toNat 0=(C[(bd.l.den ρ).toNat]).2:=by
     simp[U,hlt,I.bg]
    have nI:=aiQ (C.map (·.2)) _ (aEr (FD hlt))
    refine⟨_,n+1,_,qZ _,agree.de _ _ _,(show mT w0 m bl n ρ _ (de ρ n (((C.map λp=>I.const p.2).map (·.den ρ)).getD (bd.l.den ρ).toNat 0)) (n+1) (.w (.one (.int k ⟨.var n,yQ (C.map (·.2)),yP (C.map (·.2))⟩))) from⟨⟨I.fg (xT n),?_,?_⟩,_,rfl,?_⟩),ab _ (by rw[hz];exact nI.1) (by rw[hz];exact nI.2) rfl⟩
    ·simp only[I.cE,kF,hz];exact nI.1
    ·simp only[I.cE,kF,hz];exact nI.2
    ·intro w hw
     have hu:jL P ty=some false:=by
      unfold kindOf at im
      unfold jL
      cases aj:P.underlying ty with
      |none=>simp[aj]at im
      |some d=>cases d<;>simp[aj]at im<;>rfl
     have kP:(C[(bd.l.den ρ).toNat]).1=k:=by simpa using List.all_eq_true.1 c1 _ (FD hlt)
     have c0:cs[off+(bd.l.den ρ).toNat]?=some (C[(bd.l.den ρ).toNat]):=by
      have h3:C[(bd.l.den ρ).toNat]?=some (C[(bd.l.den ρ).toNat]):=nq hlt
      have h4:C[(bd.l.den ρ).toNat]?=cs[off+(bd.l.den ρ).toNat]?:=by rw[<-hK,qY,if_pos (by omega),Bo]
      rw[<-h4,h3]
     obtain⟨O1,t,Cj,asf⟩:=hg lk cs (FC hf)
     have hcell:w.cell? ⟨lk,off+(bd.l.den ρ).toNat,none⟩=some (.int k (C[(bd.l.den ρ).toNat]).2):=by
      rw[hw.ext.cell _ O1]
      simp only[lH,asf,uD,uv,if_false,MD]
      rw[pw,c0,xP,kP]
     simp only[W.den,A.den,I.cE,kF,hz];simp[nr,mO,loadVar,qQ hu,hcell]
end
end Go.b6
namespace Go.b6
open M
abbrev eW:=dn->Option (List aG->List V->M V)
def Dk (P:bQ) (o:Oper) (a:Act) (w:aE) (val:aP):Prop:=
 (execOp a.eval o).run P w= .ok (.value val) w∨
 ∃f args,(execOp a.eval o).run P w= .ok (.enter f args) w/\Calls P f args w λe p8=>e= .returned val/\w.Extends p8
def uG (P:bQ) (f:dn) (args:Array aP) (w:aE) (val:aP):Prop:=
 (callFunc f args).run P w= .ok (.value val) w∨
 ((callFunc f args).run P w= .ok (.enter f args) w/\Calls P f args w λe p8=>e= .returned val/\w.Extends p8)
def eJ (ρ:Env) (m:Nat->Nat):List V->List aP->Prop
 |[],[]=>True
 |v::r,x::s=>v.rel ρ m x/\eJ ρ m r s
 |_,_=>False
def hk (S:Nat->List Int->List Int->Prop) (P:bQ) (gl:eI) (w0:dX) (cal:eW):Prop:=
 ∀f g,cal f=some g->∀(L:V->Env->Prop) (n:Nat) (ρ:Env) (m:Nat->Nat) (bl:List aG) (vs:List V) (xs:List aP),cM n bl.length ρ bl->(∃w,Mem w0 ρ m bl w)->(∀v∈vs,v.ok n bl.length ρ)->eJ ρ m vs xs->
  az S L (g bl vs) n ρ λaa n' v=>v.ok n' bl.length aa/\∃val,v.rel aa m val/\∀w,Mem w0 ρ m bl w->uG P f xs.toArray w val
def JU (P:bQ) (s:bh) (f:Nat):Option Field:=match P.underlying s with|some (.struct fs)=>fs[f]?|_=>none
def sZ (P:bQ) (t:bh):Option (Nat×bh):=match P.underlying t with|some (.array n e)=>some (n,e)|_=>none
def jo (P:bQ) (t:bh):Option bh:=match P.underlying t with|some (.slice e)=>some e|_=>none
def QP (P:bQ) (t:bh) (l:List A) (off:Nat):M V:=
 match jL P t,e7 P t with
 |some true,some k=>pure (.w (.agg ((l.drop off).take k)))
 |some false,_=>match l[off]? with|some a=>pure (.w (.one a))|none=>fail
 |_,_=>fail
def XB (P:bQ) (t:bh) (x:V) (bd:bM):M V:=
 match x with
 | .w (.one (.ptr b off))=>match sZ P t with
  |some (len,e)=>match e7 P e with
   |some s=>match bd.l.ed with
    |some i=>cond (decide (0<=i)&&decide (i<len)) (pure (.w (.one (.ptr b (off+i.toNat*s))))) fail
    |none=>cond (aK s 1&&decide (0<=bd.lo)&&decide (bd.hi<len)) (pure (.w (.one (.oD b off bd)))) fail
   |none=>fail
  |none=>fail
 | .w (.one (.gptr g off))=>match sZ P t with
  |some (len,e)=>match e7 P e with
   |some s=>match bd.l.ed with
    |some i=>cond (decide (0<=i)&&decide (i<len)) (pure (.w (.one (.gptr g (off+i.toNat*s))))) fail
    |none=>cond (aK s 1) (bind (gh 74 [bd.l,.const len]) λ_=>pure (.w (.one (.GG g off ⟨bd.l,0,(len:Int)-1⟩)))) fail
   |none=>fail
  |none=>fail
 | .w (.one (.slc b off len _))=>match jo P t with
  |some e=>match e7 P e with
   |some s=>match bd.l.ed with
    |some i=>cond (decide (0<=i)&&decide (i<len)) (pure (.w (.one (.ptr b (off+i.toNat*s))))) fail
    |none=>cond (aK s 1&&decide (0<=bd.lo)&&decide (bd.hi<len)) (pure (.w (.one (.oD b off bd)))) fail
   |none=>fail
  |none=>fail
 | .p3 b len _=>match jo P t with
  |some e=>match e7 P e with
   |some s=>match bd.l.ed with
    |some i=>cond (decide (0<=i)&&decide (i<len)) (pure (.w (.one (.ptr b (i.toNat*s))))) fail
    |none=>fail
   |none=>fail
  |none=>fail
 |_=>fail
def AO:List V->Option (List A)
 |[]=>some []
 | .w (.one a)::r=>match AO r with|some l=>some (a::l)|none=>none
 |_::_=>none
def Cg:List A->List A->Option bw
 |[],[]=>some (.lit true)
 | .int k x::r,.int bA y::r'=>cond (decide (k=bA)) (match Cg r r' with|some b=>some (.mkAnd (.mkEq x y) b)|none=>none) none
 |_,_=>none
def VG (P:bQ) (t:bh) (x y:List A):Option bw:=
 match sZ P t with
 |some (len,e)=>match kindOf P e,e7 P e with
  |some _,some 1=>cond (aK x.length len&&aK y.length len&& !P.eqGuardType P.depth t) (Cg x y) none
  |_,_=>none
 |none=>none
def Gz (P:bQ):Nat->List Field->Bool
 |_,[]=>true
 |i,f::r=>(f.name != "_")&&aK f.offset i&&Gz P (i+1) r
noncomputable def tf (P:bQ):List Field->List A->List A->M bw
 |[],[],[]=>pure (.lit true)
 |f::fs,.int k a::xs,.int bA b::gN=>match kindOf P f.type with
  |some k2=>cond (decide (k=bA)) (bind (tf P fs xs gN) λr=>pure (.mkAnd (.mkEq a b) r)) fail
  |none=>fail
 |f::fs,.str a::xs,.str b::gN=>match P.underlying f.type with
  |some .string=>bind (fa 4 [a,b] 0 1) λl=>bind (tf P fs xs gN) λr=>pure (.mkAnd (.mkEq ⟨l,0,1⟩ (.const 1)) r)
  |_=>fail
 |_,_,_=>fail
noncomputable def Oy (P:bQ) (g:bh->List A->List A->M bw):Nat->List Field->List A->List A->M bw
 |_,[],_,_=>pure (.lit true)
 |o,f::fs,x,y=>match e7 P f.type with
  |some s=>cond ((f.name != "_")&&aK f.offset o) (bind (g f.type (x.take s) (y.take s)) λb=>bind (Oy P g (o+s) fs (x.drop s) (y.drop s)) λr=>pure (.mkAnd b r)) fail
  |none=>fail
noncomputable def Gw (P:bQ):Nat->bh->List A->List A->M bw
 |0,_,_,_=>fail
 |d+1,t,x,y=>match P.underlying t with
  |some (.int k)=>match x,y with
   |[.int k1 a],[.int k2 b]=>cond (decide (k1=k2)) (pure (.mkEq a b)) fail
   |_,_=>fail
  |some .string=>match x,y with
   |[.str a],[.str b]=>bind (fa 4 [a,b] 0 1) λl=>pure (.mkEq ⟨l,0,1⟩ (.const 1))
   |_,_=>fail
  |some .bool=>match x,y with
   |[.bool a],[.bool b]=>pure (.mkIff a b)
   |_,_=>fail
  |some (.struct fs)=>cond (!P.stoodInHeld t) (Oy P (Gw P d) 0 fs.toList x y) fail
  |_=>fail
noncomputable def Oz (P:bQ) (t:bh) (x y:List A):M bw:=
 match P.underlying t with
 |some (.struct fs)=>cond (Gz P 0 fs.toList&& !P.stoodInHeld t&& !P.eqGuardType P.depth t) (cond (fs.toList.all λf=>match P.underlying f.type with|some (.int _)=>true|some .string=>true|_=>false) (tf P fs.toList x y) (Gw P 8 t x y))
  (cond (!P.eqGuardType P.depth t) (Gw P 8 t x y) fail)
 |_=>fail
noncomputable def aar (op:BinOp) (a b:I):M V:=
 match op with
 | .add=>bind (gh 3 [a,b]) λ_=>bind (fa 3 [a,b] 0 n4) λl=>pure (.w (.one (.str l)))
 | .eql=>bind (fa 4 [a,b] 0 1) λl=>pure (.w (.one (.bool (.mkEq ⟨l,0,1⟩ (.const 1)))))
 | .neq=>bind (fa 4 [a,b] 0 1) λl=>pure (.w (.one (.bool (.mkNot (.mkEq ⟨l,0,1⟩ (.const 1))))))
 | .lss=>bind (fa 5 [a,b] 0 1) λl=>pure (.w (.one (.bool (.mkEq ⟨l,0,1⟩ (.const 1)))))
 | .geq=>bind (fa 5 [a,b] 0 1) λl=>pure (.w (.one (.bool (.mkNot (.mkEq ⟨l,0,1⟩ (.const 1))))))
 |_=>fail
def akK (s:I):M V:=bind (fa 0 [s] 0 9223372036854775807) λl=>pure (.w (.one (.int .i64 ⟨l,0,9223372036854775807⟩)))
def akJ (s i:I):M V:=bind (gh 1 [s,i]) λ_=>bind (fa 1 [s,i] 0 255) λl=>pure (.w (.one (.int .u8 ⟨l,0,255⟩)))
noncomputable def Ro (s a b:I):M V:=bind (gh 2 [s,a,b]) λ_=>bind (fa 2 [s,a,b] 0 n4) λl=>pure (.w (.one (.str l)))
def rn (v:V):Option I:=match v with| .w (.one (.int _ a))=>some a.l|_=>none
noncomputable def aas (tm:List V) (s:I) (lo hi:Option oM):M V:=
 match(match lo with|none=>some (I.const 0)|some x=>rn (cd tm x))with
 |none=>fail
 |some a=>match hi with
  |none=>bind (fa 0 [s] 0 9223372036854775807) λb=>Ro s a b
  |some y=>match rn (cd tm y)with
   |some b=>Ro s a b
   |none=>fail
noncomputable def aed (P:bQ) (op:BinOp) (t:bh) (x y:V):M V:=
 match x,y with
 | .w (.one (.int k a)),.w (.one (.int bA b))=>bind (UR op k a bA b) λr=>pure (.w (.one r))
 | .w (.agg a),.w (.agg b)=>match op,VG P t a b with
  | .eql,some e=>pure (.w (.one (.bool e)))
  | .neq,some e=>pure (.w (.one (.bool (.mkNot e))))
  | .eql,none=>bind (Oz P t a b) λe=>pure (.w (.one (.bool e)))
  | .neq,none=>bind (Oz P t a b) λe=>pure (.w (.one (.bool (.mkNot e))))
  |_,_=>fail
 | .w (.one (.str a)),.w (.one (.str b))=>aar op a b
 | .w (.one (.bool a)),.w (.one (.bool b))=>match op,P.underlying t with
  | .eql,some .bool=>pure (.w (.one (.bool (.mkIff a b))))
  | .neq,some .bool=>pure (.w (.one (.bool (.mkNot (.mkIff a b)))))
  |_,_=>fail
 |_,_=>fail
def alc (op:UnOp) (x:V):M V:=
 match op,x with
 | .not,.w (.one (.bool b))=>pure (.w (.one (.bool (.mkNot b))))
 | .xor,.w (.one (.int k a))=>cond (!k.signed&&decide (0<=a.lo)&&decide (a.hi<two k)) (pure (.w (.one (.int k ⟨(I.const (two k-1)).sub a.l,two k-1-a.hi,two k-1-a.lo⟩)))) fail
 | .neg,.w (.one (.int k a))=>bind (zc k ⟨a.l.smul (-1),-a.hi,-a.lo⟩) λr=>pure (.w (.one (.int k r)))
 |_,_=>fail
def ae1 (P:bQ) (src dst:bh) (x:V):M V:=
 match P.underlying src,P.underlying dst,x with
 |some _,some .string,.w (.one (.int _ a))=>match a.l.ed with
  |some c=>cond (cx (SD c).size 1000) (pure (.w (.one (.str (.const (jv (SD c).data.toList)))))) fail
  |none=>fail
 |_,_,_=>match P.underlying src,kindOf P dst,x with
 |some _,some k,.w (.one (.int _ a))=>bind (zc k a) λr=>pure (.w (.one (.int k r)))
 |_,_,_=>fail
def Of (v:V):Option Int:=match v with| .w (.one (.int _ a))=>a.l.ed|_=>none
def QK (tm:List V):Option oM->Option (Option Int)
 |none=>some none
 |some x=>match Of (cd tm x)with|some c=>some (some c)|none=>none
def akA (P:bQ) (t:bh) (x:V) (lo hi:Option Int):M V:=
 match x,sZ P t with
 | .w (.one (.ptr b off)),some (n,e)=>match e7 P e with
  |some s=>cond (decide (0<=lo.getD 0)&&decide (lo.getD 0<=hi.getD n)&&decide (hi.getD n<=n)&&decide (lo.getD 0<n)) (pure (.w (.one (.slc b (off+(lo.getD 0).toNat*s) ((hi.getD n).toNat-(lo.getD 0).toNat) (n-(lo.getD 0).toNat))))) fail
  |none=>fail
 | .w (.one (.slc b off len cap)),none=>match jo P t with
  |some e=>match e7 P e with
   |some s=>cond (decide (0<=lo.getD 0)&&decide (lo.getD 0<=hi.getD len)&&decide (hi.getD len<=cap)&&decide (lo.getD 0<cap)) (pure (.w (.one (.slc b (off+(lo.getD 0).toNat*s) ((hi.getD len).toNat-(lo.getD 0).toNat) (cap-(lo.getD 0).toNat))))) fail
   |none=>fail
  |none=>fail
 |_,_=>fail
def ajb (x:V):M V:=
 match x with
 | .w (.one (.ptr b o))=>pure (.w (.one (.ptr b o)))
 | .w (.one (.oD b o i))=>pure (.w (.one (.oD b o i)))
 | .w (.one (.gptr g o))=>pure (.w (.one (.gptr g o)))
 |_=>fail
def W.cells:W->List A
 | .one a=>[a]
 | .agg l=>l
def nX (P:bQ) (t:bh):Option (List A):=
 match P.info? t with
 |some i=>match i.zero with
  |some z=>zS z.cells.toList
  |none=>none
 |none=>none
def yw (place:Nat->Option (Nat×Nat)):List A->List (Nat×V)->Option (List A)
 |cells,[]=>some cells
 |cells,(i,.w u)::r=>match place i with
  |some (off,size)=>cond (aK u.cells.length size&&cx (off+size) cells.length) (yw place (cells.take off++u.cells++cells.drop (off+size)) r) none
  |none=>none
 |_,_::_=>none
def UY (P:bQ) (t:bh) (parts:List (Nat×V)):Option (List A):=
 match nX P t,P.underlying t with
 |some z,some (.array _ e)=>match e7 P e with
  |some s=>yw (λi=>some (i*s,s)) z parts
  |none=>none
 |some z,some (.struct fields)=>match fields.toList.mapM (λf=>(P.info? f.type).map λi=>(f.offset,i.size))with
  |some places=>yw (places.toArray[·]?) z parts
  |none=>none
 |_,_=>none
noncomputable def ZG (P:bQ) (cal:eW) (gl:eI) (bl:List aG) (tm:List V) (o:Oper):M V:=
 match o.op with
 | .move x| .assign x=>pure (cd tm x)
 | .load t x=>match cd tm x with
  | .w (.one (.oD b off bd))=>Z8 P bl t b off bd
  | .w (.one (.GG g off bd))=>Z7 P gl t g off bd
  | .w (.one p)=>YF P bl gl t p
  |_=>fail
 | .nilCheck x=>ajb (cd tm x)
 | .pick c x y=>match cd tm c with
  | .w (.one (.bool (.lit v)))=>pure (cond v (cd tm x) (cd tm y))
  |_=>fail
 | .binOp op t x y _=>aed P op t (cd tm x) (cd tm y)
 | .unOp op _ x=>alc op (cd tm x)
 | .convert s d x=>ae1 P s d (cd tm x)
 | .indexAddr t x bd=>match cd tm bd with
  | .w (.one (.int _ i))=>XB P t (cd tm x) i
  |_=>fail
 | .index t x bd=>match cd tm x with
  | .w (.one (.str s))=>match P.underlying t,rn (cd tm bd)with
   |some .string,some i=>akJ s i
   |_,_=>fail
  |_=>match cd tm x,Of (cd tm bd),sZ P t with
   | .w (.agg l),some i,some (len,e)=>match e7 P e with
    |some s=>cond (decide (0<=i)&&decide (i<len)) (QP P e l (i.toNat*s)) fail
    |none=>fail
   |_,_,_=>fail
 | .fieldAddr s x f=>match cd tm x,JU P s f with
  | .w (.one (.ptr b off)),some fd=>match e7 P fd.type with
   |some (_+1)=>pure (.w (.one (.ptr b (off+fd.offset))))
   |_=>fail
  |_,_=>fail
 | .field s x f=>match cd tm x,JU P s f with
  | .w (.agg l),some fd=>QP P fd.type l fd.offset
  |_,_=>fail
 | .extract x i=>match cd tm x with
  | .h9 l=>match l[i]? with|some u=>pure (.w u)|none=>fail
  |_=>fail
 | .slice t x lo hi none=>match cd tm x,P.underlying t with
  | .w (.one (.str s)),some .string=>aas tm s lo hi
  |_,_=>match QK tm lo,QK tm hi with
   |some l,some h=>akA P t (cd tm x) l h
   |_,_=>fail
 | .call c=>match c.callee with
  | .value (.func f)=>match cal f with
   |some g=>g bl (c.args.toList.map (cd tm))
   |none=>fail
  | .builtin .len=>match c.args.toList,c.argTypes.toList with
   |[x],[t]=>match cd tm x,P.underlying t with
    | .w (.one (.str s)),some .string=>akK s
    |_,_=>match cd tm x,jo P t with
     | .w (.one (.slc _ _ len _)),some _=>pure (.w (.one (.int .i64 (.const len))))
     | .p3 _ len _,some _=>pure (.w (.one (.int .i64 (.const len))))
     |_,_=>fail
   |_,_=>fail
  |_=>fail
 | .makeFunc (.func f) first jS=>match first.toList,AO (jS.toList.map (cd tm))with
  |[],some l=>pure (.qz f l)
  |_,_=>fail
 | .build t parts=>match UY P t (parts.toList.map λp=>(p.1,cd tm p.2))with
  |some l=>pure (.w (.agg l))
  |none=>fail
 | .sliceToArrayPointer t x=>match cd tm x,sZ P t with
  | .p3 b len _,some (k,_)=>cond (cx k len) (pure (.w (.one (.ptr b 0)))) fail
  | .w (.one (.slc b off len _)),some (k,_)=>cond (cx k len) (pure (.w (.one (.ptr b off)))) fail
  |_,_=>fail
 |_=>fail
section
variable {S:Nat->List Int->List Int->Prop} {L:V->Env->Prop} {n:Nat} {ρ:Env} {m:Nat->Nat} {bl:List aG} {gl:eI} {w0:dX} {P:bQ} {tm:List V} {a:Act}
def mS (w0:dX) (m:Nat->Nat) (bl:List aG) (n:Nat) (ρ:Env) (P:bQ) (o:Oper) (a:Act) (aa:Env) (n':Nat) (v:V):Prop:=
 v.ok n' bl.length aa/\∃val,v.rel aa m val/\∀w,Mem w0 ρ m bl w->Dk P o a w val
theorem mS.qO {o:Oper} {s:Sem aP} {aa:Env} {n':Nat} {v:V} (he:execOp a.eval o=(do pure (kr (<-s)))) (h:mT w0 m bl n ρ (λw=>s.run P w) aa n' v):mS w0 m bl n ρ P o a aa n' v:=by
 obtain⟨h1,val,h2,h3⟩:=h
 exact⟨h1,val,h2,λw hw=> .inl (by rw[he];simp[h3 w hw])⟩
theorem W.Ob {n nb:Nat} {ρ:Env} {m:Nat->Nat} (u:W) (hu:u.ok n nb ρ):(u.den ρ m).cells=(u.cells.map (A.den ρ m)).toArray:=by
 cases u with
 |one a=>
  have:=A.QH (m:=m) hu
  simp only[W.den,W.cells,cQ,e3]
  generalize A.den ρ m a=v at*
  cases v<;>first|rfl|simp[Value.oneCell']at this
 |agg l=>simp[W.den,W.cells,Value.cells]
theorem W.Gf {n nb:Nat} {ρ:Env} {u:W} (hu:u.ok n nb ρ):∀a∈u.cells,A.ok n nb ρ a:=by
 cases u with
 |one a=>intro x hx;simp[W.cells]at hx;subst hx;exact hu
 |agg l=>exact hu
def MX (n nb:Nat) (ρ:Env) (m:Nat->Nat):List (Nat×V)->List (Nat×aP)->Prop
 |[],[]=>True
 |p::r,q::s=>(p.1=q.1/\V.ok n nb ρ p.2/\V.rel ρ m p.2 q.2)/\MX n nb ρ m r s
 |_,_=>False
theorem afO (off:Nat):∀(src:List aP) (dst:Array aP) (k:Nat),off+k+src.length<=dst.size->
 ((src.zipIdx k).foldl (λcs (c,j)=>cs.setIfInBounds (off+j) c) dst)=(dst.toList.take (off+k)++src++dst.toList.drop (off+k+src.length)).toArray
 |[],dst,k,h=>by simp
 |c::src,dst,k,h=>by
  simp only[jd]at h
  rw[List.zipIdx_cons,List.foldl_cons,afO off src _ (k+1) (by simp;omega)]
  congr 1
  simp only[Array.toList_setIfInBounds,jd]
  have h1:off+k<dst.toList.length:=by simp;omega
  rw[List.take_set,show off+(k+1)=off+k+1 by omega,List.drop_set_of_lt (by omega),List.take_add_one,nq h1]
  rw[show off+k+1+src.length=off+k+(src.length+1) by omega]
  simp only[Option.toList_some]
  rw[List.set_append_right _ _ (by simp;omega)]
  have hm:min (off+k) dst.size=off+k:=Dc (by omega)
  simp[hm]
theorem OD {n nb:Nat} {ρ:Env} {m:Nat->Nat} {place:Nat->Option (Nat×Nat)}:∀{parts:List (Nat×V)} {vals:List (Nat×aP)} {cells l:List A},yw place cells parts=some l->(∀a∈cells,A.ok n nb ρ a)->
 MX n nb ρ m parts vals->(∀a∈l,A.ok n nb ρ a)/\al7 place (cells.map (A.den ρ m)).toArray vals=some (l.map (A.den ρ m)).toArray
 |[],[],cells,l,h,hc,_=>by simp[yw]at h;subst h;exact⟨hc,rfl⟩
 |(i,.w u)::r,(CB,x)::s,cells,l,h,hc,⟨⟨aw,aF,cb⟩,hr⟩=>by
  simp only at aw;subst aw
  simp only[V.rel]at cb
  have cb:x=u.den ρ m:=cb
  subst cb
  simp only[yw]at h
  cases hp:place i with
  |none=>simp[hp]at h
  |some q=>
   obtain⟨off,size⟩:=q
   simp only[hp]at h
   cases aj:(aK u.cells.length size&&cx (off+size) cells.length)with
   |false=>simp[aj]at h
   |true=>
    simp only[aj,cond_true]at h
    simp only[bo]at aj
    have bb:=bO aj.1
    have b0:=e8 aj.2
    have Wy:=W.Ob (m:=m) u aF
    obtain⟨g1,g2⟩:=OD (m:=m) h (λa ha=>by
     rcases List.mem_append.1 ha with ha|ha
     ·rcases List.mem_append.1 ha with ha|ha
      ·exact hc a (lf ha)
      ·exact W.Gf aF a ha
     ·exact hc a (oN ha)) hr
    refine⟨g1,?_⟩
    simp only[al7,hp,Wy,List.size_toArray,l6,bb]
    rw[if_neg (by simp;omega)]
    rw[<-g2]
    congr 1
    have:=afO off (u.cells.map (A.den ρ m)) (cells.map (A.den ρ m)).toArray 0 (by simp;omega)
    simp only[mM]at this
    rw[<-Array.foldl_toList]
    simp only[Array.toList_zipIdx]
    rw[this]
    simp[IU,IV,bb]
 |(_,.h9 _)::_,_,_,_,h,_,_=>by simp[yw]at h
 |(_,.any)::_,_,_,_,h,_,_=>by simp[yw]at h
 |[],_::_,_,_,_,_,hr=>hr.elim
 |(_,.w _)::_,[],_,_,_,_,hr=>hr.elim
theorem aoh {n nb:Nat} {ρ:Env} {m:Nat->Nat} {t:bh} {parts:List (Nat×V)} {vals:List (Nat×aP)} {l:List A} (h:UY P t parts=some l)
 (hr:MX n nb ρ m parts vals):(∀a∈l,A.ok n nb ρ a)/\P.built t vals=some (l.map (A.den ρ m)).toArray:=by
 unfold UY at h
 unfold Program.built
 cases hz:nX P t with
 |none=>simp[hz]at h
 |some z=>
  unfold nX at hz
  cases hi:P.info? t with
  |none=>simp[hi]at hz
  |some it=>
   simp only[hi]at hz
   cases CA:it.zero with
   |none=>simp[CA]at hz
   |some z0=>
    simp only[CA]at hz
    have Hc:=zT hz n nb ρ m
    have hz1:z0.cells=(z.map (A.den ρ m)).toArray:=by rw[Hc.2]
    cases hu:P.underlying t with
    |none=>simp[nX,hi,CA,hz,hu]at h
    |some d=>
     cases d<;>try(simp[nX,hi,CA,hz,hu]at h;done)
     case array len e=>
      simp only[nX,hi,CA,hz,hu,e7]at h
      cases WM:P.info? e with
      |none=>simp[WM]at h
      |some aII=>
       simp only[WM]at h
       simp only[CA,WM,hz1]
       exact OD h Hc.1 hr
     case struct fields=>
      simp only[nX,hi,CA,hz,hu]at h
      cases hp:fields.toList.mapM (λf=>(P.info? f.type).map λi=>(f.offset,i.size))with
      |none=>simp[hp]at h
      |some places=>
       simp only[hp]at h
       simp only[CA,hp,hz1]
       exact OD h Hc.1 hr
theorem ajD {t:bh} {l:List A} {off:Nat} (hl:∀x∈l,A.ok n bl.length ρ x):az S L (QP P t l off) n ρ (mT w0 m bl n ρ λw=>(part t (l.map (A.den ρ m)).toArray off).run P w):=by
 unfold QP
 cases h1:jL P t with
 |none=>exact az.fail
 |some b=>
  cases b with
  |true=>
   cases h2:e7 P t with
   |none=>exact az.fail
   |some k=>
    refine az.pure ⟨λx hx=>hl x (oN (lf hx)),_,rfl,λw _=>?_⟩
    simp[part,qQ h1,jn h2,W.den,IU,IV,aEw]
    try congr 1
  |false=>
   cases h3:l[off]? with
   |none=>exact az.fail
   |some x=>
    refine az.pure ⟨hl x (eD h3),_,rfl,λw _=>?_⟩
    simp[part,qQ h1,h3,W.den]
theorem wz {t:bh} {len:Nat} {e:bh} (h:sZ P t=some (len,e)):P.underlying t=some (.array len e):=by
 unfold sZ at h
 cases hu:P.underlying t with
 |none=>simp[hu]at h
 |some d=>cases d<;>simp[hu]at h<;>simp[h]
theorem h8 {t e:bh} (h:jo P t=some e):P.underlying t=some (.slice e):=by
 unfold jo at h
 cases hu:P.underlying t with
 |none=>simp[hu]at h
 |some d=>cases d<;>simp[hu]at h<;>simp[h]
theorem X9 {t:bh} {k:du} (h:kindOf P t=some k):P.underlying t=some (.int k):=by
 unfold kindOf at h
 cases hu:P.underlying t with
 |none=>simp[hu]at h
 |some d=>cases d<;>simp[hu]at h<;>simp[h]
theorem VI {s:bh} {f:Nat} {fd:Field} (h:JU P s f=some fd):∃fs,P.underlying s=some (.struct fs)/\fs[f]?=some fd:=by
 unfold JU at h
 cases hu:P.underlying s with
 |none=>simp[hu]at h
 |some d=>cases d<;>simp[hu]at h<;>exact⟨_,rfl,h⟩
theorem auH {t:bh} {x:V} {k:du} {bd:bM} {X:aP} (hx:x.ok n bl.length ρ) (bT:x.rel ρ m X) (hi:bd.ok n ρ):
 az S L (XB P t x bd) n ρ (mT w0 m bl n ρ λw=>(uB t X (.int k (bd.l.den ρ))).run P w):=by
 unfold XB
 split
 ·rename_i b off
  simp only[V.rel,W.den,A.den]at bT;subst bT
  cases h1:sZ P t with
  |none=>exact az.fail
  |some q=>
   obtain⟨len,e⟩:=q
   cases h2:e7 P e with
   |none=>simp only[h2];exact az.fail
   |some s=>
    simp only[h2]
    cases h3:bd.l.ed with
    |some i=>
     refine dY λhc=>az.pure ⟨hx,_,rfl,λw _=>?_⟩
     simp only[bo,decide_eq_true_eq]at hc
     simp[uB,asIntOf,eU (wz h1),mO,I.jI h3,hc,jn h2,jG,W.den,A.den]
    |none=>
     refine dY λhc=>az.pure ⟨?_,_,rfl,λw _=>?_⟩
     ·simp only[bo,decide_eq_true_eq]at hc
      exact⟨hx,hi,hc.1.2⟩
     ·simp only[bo,decide_eq_true_eq]at hc
      have hs:=bO hc.1.1
      subst hs
      have b3:=hi.2
      have c1:0<=bd.l.den ρ:=by omega
      have bH:bd.l.den ρ<len:=by omega
      simp[uB,asIntOf,eU (wz h1),mO,c1,bH,jn h2,jG,W.den,A.den]
 ·rename_i g off
  simp only[V.rel,W.den,A.den]at bT;subst bT
  cases h1:sZ P t with
  |none=>exact az.fail
  |some q=>
   obtain⟨len,e⟩:=q
   cases h2:e7 P e with
   |none=>simp only[h2];exact az.fail
   |some s=>
    simp only[h2]
    cases h3:bd.l.ed with
    |some i=>
     refine dY λhc=>az.pure ⟨trivial,_,rfl,λw _=>?_⟩
     simp only[bo,decide_eq_true_eq]at hc
     simp[uB,asIntOf,eU (wz h1),mO,I.jI h3,hc,jn h2,jG,W.den,A.den]
    |none=>
     refine dY λhc=>iM λaj=>az.pure ⟨?_,_,rfl,λw _=>?_⟩
     ·simp only[cQ,e3,I.bg,au,Jw]at aj
      exact⟨⟨hi.1,by show(0:Int)<=_;exact aj.1,by show _<=((len:Int)-1);have:=aj.2;simp only;omega⟩,cL _⟩
     ·simp only[cQ,e3,I.bg,au,Jw]at aj
      have hs:=bO hc
      subst hs
      simp[uB,asIntOf,eU (wz h1),mO,aj.1,aj.2,jn h2,jG,W.den,A.den]
 ·rename_i b off len cap
  simp only[V.rel,W.den,A.den]at bT;subst bT
  cases h1:jo P t with
  |none=>exact az.fail
  |some e=>
   cases h2:e7 P e with
   |none=>simp only[h2];exact az.fail
   |some s=>
    simp only[h2]
    cases h3:bd.l.ed with
    |some i=>
     refine dY λhc=>az.pure ⟨hx,_,rfl,λw _=>?_⟩
     simp only[bo,decide_eq_true_eq]at hc
     simp[uB,asIntOf,eU (h8 h1),mO,I.jI h3,hc,jn h2,jG,W.den,A.den]
    |none=>
     refine dY λhc=>az.pure ⟨?_,_,rfl,λw _=>?_⟩
     ·simp only[bo,decide_eq_true_eq]at hc
      exact⟨hx,hi,hc.1.2⟩
     ·simp only[bo,decide_eq_true_eq]at hc
      have hs:=bO hc.1.1
      subst hs
      have b3:=hi.2
      have c1:0<=bd.l.den ρ:=by omega
      have bH:bd.l.den ρ<len:=by omega
      simp[uB,asIntOf,eU (h8 h1),mO,c1,bH,jn h2,jG,W.den,A.den]
 ·rename_i b len lo
  obtain⟨c,_,bT⟩:=bT
  subst bT
  cases h1:jo P t with
  |none=>exact az.fail
  |some e=>
   cases h2:e7 P e with
   |none=>simp only[h2];exact az.fail
   |some s=>
    simp only[h2]
    cases h3:bd.l.ed with
    |some i=>
     refine dY λhc=>az.pure ⟨hx,_,rfl,λw _=>?_⟩
     simp only[bo,decide_eq_true_eq]at hc
     simp[uB,asIntOf,eU (h8 h1),mO,I.jI h3,hc,jn h2,jG,W.den,A.den]
    |none=>exact az.fail
 ·exact az.fail
theorem axr {vs:List V}:∀{l:List A} {xs:List aP},AO vs=some l->(∀v∈vs,V.ok n bl.length ρ v)->eJ ρ m vs xs->(∀a∈l,A.ok n bl.length ρ a)/\xs=l.map (A.den ρ m):=by
 induction vs with
 |nil=>
  intro l xs h _ hr
  simp[AO]at h;subst h
  cases xs with
  |nil=>exact⟨λ_ h=>by simp at h,rfl⟩
  |cons _ _=>exact hr.elim
 |cons v r ih=>
  intro l xs h bV hr
  cases xs with
  |nil=>cases v<;>exact hr.elim
  |cons x s=>
   cases v with
   |w y=>
    cases y with
    |agg q=>simp[AO]at h
    |one a=>
     cases h1:AO r with
     |none=>simp[AO,h1]at h
     |some l'=>
      simp only[AO,h1,a7]at h
      subst h
      obtain⟨aw,aF⟩:=ih h1 (λv hv=>bV v (dU _ hv)) hr.2
      have h0:x=a.den ρ m:=hr.1
      exact⟨λb hb=>by rcases List.mem_cons.1 hb with rfl|hb;exact bV (.w (.one b)) (by simp);exact aw b hb,by rw[h0,aF];rfl⟩
   |_=>simp[AO]at h
theorem apH {e:bh} {k:du} (he:P.underlying e=some (.int k)) (d:Nat) (xs gN:Array aP) (w:aE):∀(l l':List A) (i:Nat) (b:bw),Cg l l'=some b->(∀x∈l,A.ok n bl.length ρ x)->(∀x∈l',A.ok n bl.length ρ x)->
 xs.toList.drop i=l.map (A.den ρ m)->gN.toList.drop i=l'.map (A.den ρ m)->b.bD n/\(Op.eqItems (d+1) e 1 xs gN (List.range' i l.length)).run P w= .ok (b.den ρ) w:=by
 intro l
 induction l with
 |nil=>
  intro l' i b h _ _ _ _
  cases l' with
  |nil=>simp[Cg]at h;subst h;exact⟨trivial,by simp[Op.eqItems,bw.den]⟩
  |cons y r'=>simp[Cg]at h
 |cons x r ih=>
  intro l' i b h hl Cv hx hy
  cases l' with
  |nil=>cases x<;>simp[Cg]at h
  |cons y r'=>
   cases x<;>cases y<;>simp only[Cg]at h<;>try(cases h;done)
   rename_i k1 x k2 y
   by_cases ab:k1=k2
   ·subst ab
    simp only[decide_true,cond_true]at h
    cases hr:Cg r r' with
    |none=>simp[hr]at h
    |some b'=>
     simp only[hr,a7]at h
     subst h
     have ate:x.ok n ρ:=hl (.int k1 x) (by simp)
     have atf:y.ok n ρ:=Cv (.int k1 y) (by simp)
     have aw:=bw.u3 ate atf
     have J2:xs[i]?=some (.int k1 (x.l.den ρ)):=by
      have:=congrArg IY hx
      simpa [A.den]using this
     have J3:gN[i]?=some (.int k1 (y.l.den ρ)):=by
      have:=congrArg IY hy
      simpa [A.den]using this
     have DN:xs.toList.drop (i+1)=r.map (A.den ρ m):=by
      have:=congrArg ME hx
      simpa using this
     have aX:gN.toList.drop (i+1)=r'.map (A.den ρ m):=by
      have:=congrArg ME hy
      simpa using this
     obtain⟨s2,r2⟩:=ih r' (i+1) b' hr (λz hz=>hl z (dU _ hz)) (λz hz=>Cv z (dU _ hz)) DN aX
     refine⟨bw.Rf aw.2 s2,?_⟩
     simp only[jd,List.range'_succ,Op.eqItems,ic]
     have AS:(part e xs (i*1)).run P w= .ok (.int k1 (x.l.den ρ)) w:=by simp[part,isAgg,eU he,J2]
     have AT:(part e gN (i*1)).run P w= .ok (.int k1 (y.l.den ρ)) w:=by simp[part,isAgg,eU he,J3]
     simp only[AS,AT,iz,run_equalIn_int w d e k1 k _ _ he,bw.Oi,aw.1]
     by_cases aj:x.l.den ρ=y.l.den ρ
     ·simp[aj,r2]
     ·simp[aj]
   ·simp[ab]at h
theorem afm {t:bh} {x y:List A} {b:bw} (h:VG P t x y=some b) (hx:∀z∈x,A.ok n bl.length ρ z) (hy:∀z∈y,A.ok n bl.length ρ z):
 b.bD n/\P.eqGuardType P.depth t=false/\∀w,(SE 10000 t (.agg (x.map (A.den ρ m)).toArray) (.agg (y.map (A.den ρ m)).toArray)).run P w= .ok (b.den ρ) w:=by
 unfold VG at h
 cases h1:sZ P t with
 |none=>simp[h1]at h
 |some q=>
  obtain⟨len,e⟩:=q
  simp only[h1]at h
  cases h2:kindOf P e with
  |none=>simp[h2]at h
  |some k=>
   cases h3:e7 P e with
   |none=>simp[h2,h3]at h
   |some s=>
    match s,h3 with
    |0,h3=>simp[h2,h3]at h
    |s+2,h3=>simp[h2,h3]at h
    |1,h3=>
     simp only[h2,h3]at h
     cases hc:(aK x.length len&&aK y.length len&& !P.eqGuardType P.depth t)with
     |false=>simp[hc]at h
     |true=>
      simp only[hc,cond_true]at h
      simp only[bo,fF]at hc
      have hl:=bO hc.1.1
      have asL:∃i,P.info? e=some i/\P.cellsOf e=1:=by
       unfold e7 at h3
       cases aj:P.info? e with
       |none=>simp[aj]at h3
       |some i=>simp[aj]at h3;exact⟨i,rfl,by simp[Program.cellsOf,aj,h3]⟩
      obtain⟨i,Ad,dJ⟩:=asL
      have tr:=λw=>apH (P:=P) (bl:=bl) (n:=n) (ρ:=ρ) (m:=m) (X9 h2) 9998 (x.map (A.den ρ m)).toArray (y.map (A.den ρ m)).toArray w x y 0 b h hx hy (by simp) (by simp)
      refine⟨(tr default).1,hc.2,λw=>?_⟩
      rw[show(10000:Nat)=9999+1 from rfl,run_equalIn_array w 9999 _ _ (wz h1) Ad,dJ,List.range_eq_range',<-hl]
      exact(tr w).2
theorem DF (l:List UInt8):(dI l).toList=l:=aLW l
theorem zL (l:List UInt8):(dI l).size=l.length:=by simp[dI,aLX]
theorem aec (l l':List UInt8):(l==l')=decide ((if l=l' then(1:Int)else 0)=1):=by
 by_cases h:l=l'
 ·subst h;simp
 ·rw[if_neg h];simp[h]
theorem Jm (p:Prop) [Decidable p]:(0:Int)<=(if p then 1 else 0)/\(if p then(1:Int)else 0)<=1:=by split<;>decide
theorem ail (b:Bool):b=decide ((if b=true then(1:Int)else 0)=1):=by cases b<;>rfl
theorem aBd {op:BinOp} {t:bh} {x y:oM} {p q:I} (hp:(A.str p).ok n bl.length ρ) (aj:(A.str q).ok n bl.length ρ):
 az S L (aar op p q) n ρ (mT w0 m bl n ρ λw=>(do eqGuard op t x y (.string (dI (bp (p.den ρ)))) (.string (dI (bp (q.den ρ))));binOp op t (.string (dI (bp (p.den ρ)))) (.string (dI (bp (q.den ρ)))):Sem aP).run P w):=by
 have b3:=Jm (bp (p.den ρ)=bp (q.den ρ))
 have b4:=Jm (Op.bytesLess (bp (p.den ρ)) (bp (q.den ρ))=true)
 unfold aar
 split
 ·refine iM λhc=>?_
  have hc:(bp (p.den ρ)).length+(bp (q.den ρ)).length<=kW:=hc
  have hl:(bp (p.den ρ)++bp (q.den ρ)).length<=kW:=by simpa using hc
  refine(hI (op:=3) (args:=[p,q]) (wD _) (uI hl)).bind λaJ aT l _ _ ⟨h1,h2⟩=>?_
  have h2:l.den aJ=jv (bp (p.den ρ)++bp (q.den ρ)):=h2
  refine az.pure ⟨⟨h1,by rw[h2];exact wD _,by rw[h2];exact uI hl⟩,_,rfl,λw _=>?_⟩
  have hr:=run_string_add_sum (P:=P) w (dI (bp (p.den ρ))) (dI (bp (q.den ρ))) (by rw[zL,zL];unfold kW at hc;omega)
  simp only[eqGuard,binOp_string_add,W.den,A.den,h2,y4]
  simp[hr]
  exact aLY _ _
 ·refine(hI (op:=4) (args:=[p,q]) b3.1 b3.2).bind λaJ aT l _ _ ⟨h1,h2⟩=>?_
  have h2:l.den aJ=if bp (p.den ρ)=bp (q.den ρ)then 1 else 0:=h2
  have e:=bw.u3 (n:=aT) (ρ:=aJ) (a:=⟨l,0,1⟩) (b:= .const 1) ⟨h1,by simp only[h2];exact b3.1,by simp only[h2];exact b3.2⟩ (bM.n9 _ _ _)
  refine az.pure ⟨e.2,_,rfl,λw _=>?_⟩
  simp only[W.den,A.den,binOp_string_eql,DF]
  rw[e.1]
  simp only[h2,bM.const,I.bg,aec]
  simp[eqGuard]
 ·refine(hI (op:=4) (args:=[p,q]) b3.1 b3.2).bind λaJ aT l _ _ ⟨h1,h2⟩=>?_
  have h2:l.den aJ=if bp (p.den ρ)=bp (q.den ρ)then 1 else 0:=h2
  have e:=bw.u3 (n:=aT) (ρ:=aJ) (a:=⟨l,0,1⟩) (b:= .const 1) ⟨h1,by simp only[h2];exact b3.1,by simp only[h2];exact b3.2⟩ (bM.n9 _ _ _)
  refine az.pure ⟨bw.y5 e.2,_,rfl,λw _=>?_⟩
  simp only[W.den,A.den,bw.yl,binOp_string_neq,DF]
  rw[e.1]
  simp only[h2,bM.const,I.bg,aec]
  simp[eqGuard]
 ·refine(hI (op:=5) (args:=[p,q]) b4.1 b4.2).bind λaJ aT l _ _ ⟨h1,h2⟩=>?_
  have h2:l.den aJ=if Op.bytesLess (bp (p.den ρ)) (bp (q.den ρ))=true then 1 else 0:=h2
  have e:=bw.u3 (n:=aT) (ρ:=aJ) (a:=⟨l,0,1⟩) (b:= .const 1) ⟨h1,by simp only[h2];exact b4.1,by simp only[h2];exact b4.2⟩ (bM.n9 _ _ _)
  refine az.pure ⟨e.2,_,rfl,λw _=>?_⟩
  simp only[W.den,A.den,binOp_string_lss,DF]
  rw[e.1]
  simp only[h2,bM.const,I.bg]
  rw[<-ail]
  simp[eqGuard]
 ·refine(hI (op:=5) (args:=[p,q]) b4.1 b4.2).bind λaJ aT l _ _ ⟨h1,h2⟩=>?_
  have h2:l.den aJ=if Op.bytesLess (bp (p.den ρ)) (bp (q.den ρ))=true then 1 else 0:=h2
  have e:=bw.u3 (n:=aT) (ρ:=aJ) (a:=⟨l,0,1⟩) (b:= .const 1) ⟨h1,by simp only[h2];exact b4.1,by simp only[h2];exact b4.2⟩ (bM.n9 _ _ _)
  refine az.pure ⟨bw.y5 e.2,_,rfl,λw _=>?_⟩
  simp only[W.den,A.den,bw.yl,binOp_string_geq,DF]
  rw[e.1]
  simp only[h2,bM.const,I.bg]
  rw[<-ail]
  simp[eqGuard]
 ·exact az.fail
theorem aBf {t ty:bh} {p:I} (hu:P.underlying t=some .string) (hp:(A.str p).ok n bl.length ρ):
 az S L (akK p) n ρ (mT w0 m bl n ρ λw=>(IZ #[t] ty #[.string (dI (bp (p.den ρ)))]).run P w):=by
 have hl:=I8 hp.2.2
 unfold kW at hl
 refine(hI (op:=0) (args:=[p]) (IN _) (by show((bp (p.den ρ)).length:Int)<=_;omega)).bind λaJ aT l _ _ ⟨h1,h2⟩=>?_
 have h2:l.den aJ=((bp (p.den ρ)).length:Int):=h2
 refine az.pure ⟨⟨h1,by simp only[h2];omega,by simp only[h2];omega⟩,_,rfl,λw _=>?_⟩
 simp[IZ,eU hu,goInt,W.den,A.den,h2,zL]
theorem aBe {t:bh} {k:du} {p i:I} (hu:P.underlying t=some .string) (hp:(A.str p).ok n bl.length ρ):
 az S L (akJ p i) n ρ (mT w0 m bl n ρ λw=>(abC t (.string (dI (bp (p.den ρ)))) (.int k (i.den ρ))).run P w):=by
 refine iM λhc=>?_
 have hc:0<=i.den ρ/\i.den ρ<((bp (p.den ρ)).length:Int):=hc
 have hlt:(i.den ρ).toNat<(bp (p.den ρ)).length:=by omega
 have hb:=((bp (p.den ρ)).getD (i.den ρ).toNat 0).toNat_lt
 refine(hI (op:=1) (args:=[p,i]) (IN _) (by show(((bp (p.den ρ)).getD (i.den ρ).toNat 0).toNat:Int)<=_;omega)).bind λaJ aT l _ _ ⟨h1,h2⟩=>?_
 have h2:l.den aJ=(((bp (p.den ρ)).getD (i.den ρ).toNat 0).toNat:Int):=h2
 refine az.pure ⟨⟨h1,by simp only[h2];omega,by simp only[h2];omega⟩,_,rfl,λw _=>?_⟩
 have e:(dI (bp (p.den ρ)))[(i.den ρ).toNat]?=some ((bp (p.den ρ)).getD (i.den ρ).toNat 0):=by
  rw[aLZ _ _ (by rw[zL];exact hlt)]
  simp[dI,U,hlt]
  rfl
 simp[abC,asIntOf,eU hu,hc.1,e,W.den,A.den,h2]
theorem aBh {p a b:I} (hp:(A.str p).ok n bl.length ρ):az S L (Ro p a b) n ρ λaa n' v=>v.ok n' bl.length aa/\v.rel aa m (.string ((dI (bp (p.den ρ))).extract (a.den ρ).toNat (b.den ρ).toNat))/\0<=a.den ρ/\a.den ρ<=b.den ρ/\b.den ρ<=((bp (p.den ρ)).length:Int):=by
 refine iM λhc=>?_
 have hc:0<=a.den ρ/\a.den ρ<=b.den ρ/\b.den ρ<=((bp (p.den ρ)).length:Int):=hc
 have hl:=I8 hp.2.2
 have Et:(((bp (p.den ρ)).drop (a.den ρ).toNat).take ((b.den ρ).toNat-(a.den ρ).toNat)).length<=kW:=by simp;omega
 refine(hI (op:=2) (args:=[p,a,b]) (wD _) (uI Et)).bind λaJ aT l _ _ ⟨h1,h2⟩=>?_
 have h2:l.den aJ=jv (((bp (p.den ρ)).drop (a.den ρ).toNat).take ((b.den ρ).toNat-(a.den ρ).toNat)):=h2
 refine az.pure ⟨⟨h1,by rw[h2];exact wD _,by rw[h2];exact uI Et⟩,?_,hc⟩
 show _=_
 simp only[W.den,A.den,h2,y4]
 congr 1
 exact aL0 _ _ _
theorem EJ {v:V} {l:I} {x:aP} (h:rn v=some l) (hr:v.rel ρ m x) (bV:v.ok n bl.length ρ):∃k,x= .int k (l.den ρ)/\l.bD n:=by
 unfold rn at h
 split at h
 ·rename_i k a
  simp only[a7]at h;subst h
  exact⟨k,hr,bV.1⟩
 ·cases h
theorem uk {k:du} {i:Int} {y:Nat} {db:BoundsCode} (cm:0<=i) (cl:i<=y) (w:aE):(MF (.int k i) y db).run P w= .ok i.toNat w:=by
 simp[MF,asIntOf,cm,cl]
theorem aBg {t:bh} {p:I} {lo hi:Option oM} (hu:P.underlying t=some .string) (hp:(A.str p).ok n bl.length ρ) (aA:ef n bl.length ρ m tm a.tmps):
 az S L (aas tm p lo hi) n ρ (mT w0 m bl n ρ λw=>(rH t (.string (dI (bp (p.den ρ)))) (lo.map a.eval) (hi.map a.eval) none).run P w):=by
 unfold aas
 split
 ·exact az.fail
 ·rename_i fS G4
  have wU:∃f:Option aP,lo.map a.eval=f/\(f=none/\fS.den ρ=0∨∃k,f=some (.int k (fS.den ρ))):=by
   cases lo with
   |none=>simp only[a7]at G4;subst G4;exact⟨none,rfl,.inl ⟨rfl,I.bg _ _⟩⟩
   |some x=>
    obtain⟨k,ab,_⟩:=EJ (m:=m) (bl:=bl) G4 (cy aA x).2 (cy aA x).1
    exact⟨_,rfl,.inr ⟨k,by rw[<-ab];rfl⟩⟩
  obtain⟨afB,aw,j6⟩:=wU
  have key:∀(eZ:I) (aJ:Env) (aT:Nat),n<=aT->agree n ρ aJ->(hi.map a.eval=none/\eZ.den aJ=((bp (p.den ρ)).length:Int)∨∃k,hi.map a.eval=some (.int k (eZ.den aJ)))->fS.bD n->
   az S L (Ro p fS eZ) aT aJ (mT w0 m bl n ρ λw=>(rH t (.string (dI (bp (p.den ρ)))) (lo.map a.eval) (hi.map a.eval) none).run P w):=λeZ aJ aT hn ha ae Xe=>by
   have atg:(A.str p).ok aT bl.length aJ:=hp.ext ha hn (bL _)
   have ep:p.den aJ=p.den ρ:=I.bX ha hp.1
   have JT:fS.den aJ=fS.den ρ:=I.bX ha Xe
   refine(aBh (m:=m) (bl:=bl) (a:=fS) (b:=eZ) atg).mono λbR eF v _ _ ⟨bb,b0,cv,dK,jC⟩=>⟨bb,_,b0,λw _=>?_⟩
   rw[ep,JT]at*
   have ra:(mP false (dI (bp (p.den ρ))).size (dI (bp (p.den ρ))).size afB (hi.map a.eval) none).run P w= .ok ((fS.den ρ).toNat,(eZ.den aJ).toNat,(dI (bp (p.den ρ))).size) w:=by
    rw[zL]
    rcases j6 with⟨rfl,hz⟩|⟨k,rfl⟩<;>rcases ae with⟨h1,h2⟩|⟨k2,h1⟩
    ·rw[h1,hz,h2];simp[mP]
    ·rw[h1,hz];simp[mP,uk (P:=P) (by omega:0<=eZ.den aJ) jC]
    ·rw[h1,h2];simp[mP,uk (P:=P) (y:=(bp (p.den ρ)).length) cv (by omega)]
    ·rw[h1];simp[mP,uk (P:=P) (by omega:0<=eZ.den aJ) jC,uk (P:=P) (y:=(eZ.den aJ).toNat) cv (by omega)]
   rw[aw]
   simp[rH,abD,eU hu,ra]
  have G5:fS.bD n:=by
   cases lo with
   |none=>simp only[a7]at G4;subst G4;exact I.c5 _ _
   |some x=>exact(EJ (m:=m) (bl:=bl) G4 (cy aA x).2 (cy aA x).1).choose_spec.2
  cases hi with
  |none=>
   have hl:=I8 hp.2.2
   unfold kW at hl
   exact(hI (op:=0) (args:=[p]) (IN _) (by show((bp (p.den ρ)).length:Int)<=_;omega)).bind λaJ aT l hn ha ⟨h1,h2⟩=>key l aJ aT hn ha (.inl ⟨rfl,h2⟩) G5
  |some y=>
   simp only
   cases hy:rn (cd tm y)with
   |none=>exact az.fail
   |some b=>
    obtain⟨k,ab,_⟩:=EJ (m:=m) (bl:=bl) hy (cy aA y).2 (cy aA y).1
    exact key b ρ n (bL _) (agree.refl _ _) (.inr ⟨k,by rw[<-ab];rfl⟩) G5
theorem MU {xs:List oM} (h:ef n bl.length ρ m tm a.tmps):eJ ρ m (xs.map (cd tm)) (xs.map a.eval):=by
 induction xs with
 |nil=>trivial
 |cons x r ih=>exact⟨(cy h x).2,ih⟩
theorem ZU {c:Call} {f:dn} (hc:c.callee= .value (.func f)) (o:Oper) (ax:o.op= .call c):execOp a.eval o=callFunc f (c.args.map a.eval):=by
 simp only[execOp,ax,resolve,hc,Act.eval,al8]
 simp[invoke,bind_pure_comp]
theorem VF {nb:Nat} {m:Nat->Nat}:∀(fs:List Field) (x y:List A) (i n:Nat) (ρ:Env),Gz P i fs=true->(∀a∈x,A.ok n nb ρ a)->(∀a∈y,A.ok n nb ρ a)->
 az S L (tf P fs x y) n ρ λaa n' b=>b.bD n'/\∀(w:aE) (d:Nat) (xs gN:Array aP),xs.toList.drop i=x.map (A.den ρ m)->gN.toList.drop i=y.map (A.den ρ m)->(I0 (d+1) xs gN fs).run P w= .ok (b.den aa) w
 |[],[],[],i,n,ρ,_,_,_=>az.pure ⟨trivial,λw d xs gN _ _=>by simp[I0,bw.den]⟩
 |f::fs,x::xs,y::gN,i,n,ρ,hf,hx,hy=>by
  cases x with
  |int k a=>
   cases y with
   |int bA b=>
    unfold Gz at hf
    simp only[bo,bne_iff_ne,ne_eq]at hf
    obtain⟨⟨hn,ax⟩,hf⟩:=hf
    have ax:=bO ax
    unfold tf
    split
    ·rename_i k2 oY
     have hu:=X9 oY
     refine dY λab=>?_
     have ab:k=bA:=by simpa using ab
     subst ab
     have Li:a.ok n ρ:=hx (.int k a) (by simp)
     have ob:b.ok n ρ:=hy (.int k b) (by simp)
     refine(VF (nb:=nb) (m:=m) fs xs gN (i+1) n ρ hf (λz hz=>hx z (dU _ hz)) (λz hz=>hy z (dU _ hz))).bind λaa n' r Pf gY ⟨r1,r2⟩=>az.pure ?_
     have aw:=bw.u3 (Li.agree gY Pf) (ob.agree gY Pf)
     refine⟨bw.Rf aw.2 r1,λw d pj pk KT KU=>?_⟩
     have J2:pj[i]?=some (.int k (a.l.den ρ)):=by
      have:=congrArg IY KT
      simpa [A.den]using this
     have J3:pk[i]?=some (.int k (b.l.den ρ)):=by
      have:=congrArg IY KU
      simpa [A.den]using this
     have DN:pj.toList.drop (i+1)=xs.map (A.den ρ m):=by
      have:=congrArg ME KT
      simpa using this
     have aX:pk.toList.drop (i+1)=gN.map (A.den ρ m):=by
      have:=congrArg ME KU
      simpa using this
     have AS:(part f.type pj f.offset).run P w= .ok (.int k (a.l.den ρ)) w:=by simp[part,isAgg,eU hu,ax,J2]
     have AT:(part f.type pk f.offset).run P w= .ok (.int k (b.l.den ρ)) w:=by simp[part,isAgg,eU hu,ax,J3]
     have JT:a.l.den aa=a.l.den ρ:=by
      have:=A.lR (m:=m) (m':=m) (hx (.int k a) (by simp)) gY (λ_ _=>rfl)
      simpa [A.den]using this
     have Ce:b.l.den aa=b.l.den ρ:=by
      have:=A.lR (m:=m) (m':=m) (hy (.int k b) (by simp)) gY (λ_ _=>rfl)
      simpa [A.den]using this
     simp only[I0,ne_eq,hn,not_false_eq_true,if_true,ic,AS,AT,iz,run_equalIn_int w d f.type k k2 _ _ hu,bw.Oi,aw.1,JT,Ce]
     by_cases aj:a.l.den ρ=b.l.den ρ
     ·simp[aj,r2 w d pj pk DN aX]
     ·simp[aj]
    ·exact az.fail
   |_=>unfold tf;exact az.fail
  |str a=>
   cases y with
   |str b=>
    unfold Gz at hf
    simp only[bo,bne_iff_ne,ne_eq]at hf
    obtain⟨⟨hn,ax⟩,hf⟩:=hf
    have ax:=bO ax
    unfold tf
    split
    ·rename_i hu
     have b3:=Jm (bp (a.den ρ)=bp (b.den ρ))
     refine(hI (op:=4) (args:=[a,b]) b3.1 b3.2).bind λaJ aT l gi Ei ⟨h1,h2⟩=>?_
     have h2:l.den aJ=if bp (a.den ρ)=bp (b.den ρ)then 1 else 0:=h2
     have qH:∀z∈xs,A.ok aT nb aJ z:=λz hz=>(hx z (dU _ hz)).ext Ei gi (bL _)
     have Xv:∀z∈gN,A.ok aT nb aJ z:=λz hz=>(hy z (dU _ hz)).ext Ei gi (bL _)
     have ol:(⟨l,0,1⟩:bM).ok aT aJ:=⟨h1,by simp only[h2];exact b3.1,by simp only[h2];exact b3.2⟩
     refine(VF (nb:=nb) (m:=m) fs xs gN (i+1) aT aJ hf qH Xv).bind λaa n' r Pf gY ⟨r1,r2⟩=>az.pure ?_
     have aw:=bw.u3 (n:=n') (ρ:=aa) (a:=⟨l,0,1⟩) (b:= .const 1) (ol.agree gY Pf) (bM.n9 _ _ _)
     refine⟨bw.Rf aw.2 r1,λw d pj pk KT KU=>?_⟩
     have J2:pj[i]?=some (.string (dI (bp (a.den ρ)))):=by
      have:=congrArg IY KT
      simpa [A.den]using this
     have J3:pk[i]?=some (.string (dI (bp (b.den ρ)))):=by
      have:=congrArg IY KU
      simpa [A.den]using this
     have DN:pj.toList.drop (i+1)=xs.map (A.den aJ m):=by
      have:=congrArg ME KT
      rw[jQ (g:=A.den ρ m) λz hz=>A.lR (hx z (dU _ hz)) Ei (λ_ _=>rfl)]
      simpa using this
     have aX:pk.toList.drop (i+1)=gN.map (A.den aJ m):=by
      have:=congrArg ME KU
      rw[jQ (g:=A.den ρ m) λz hz=>A.lR (hy z (dU _ hz)) Ei (λ_ _=>rfl)]
      simpa using this
     have AS:(part f.type pj f.offset).run P w= .ok (.string (dI (bp (a.den ρ)))) w:=by simp[part,isAgg,eU hu,ax,J2]
     have AT:(part f.type pk f.offset).run P w= .ok (.string (dI (bp (b.den ρ)))) w:=by simp[part,isAgg,eU hu,ax,J3]
     have el:l.den aa=l.den aJ:=I.bX gY h1
     have aF:(bw.mkEq ⟨l,0,1⟩ (.const 1)).den aa=decide (bp (a.den ρ)=bp (b.den ρ)):=by
      rw[aw.1]
      simp only[bM.const,I.bg,el,h2]
      by_cases aj:bp (a.den ρ)=bp (b.den ρ)<;>simp[aj]
     simp only[I0,ne_eq,hn,not_false_eq_true,if_true,ic,AS,AT,iz,run_equalIn_string w d f.type _ _ hu,bw.Oi,aF,DF]
     by_cases aj:bp (a.den ρ)=bp (b.den ρ)
     ·simp[aj,r2 w d pj pk DN aX]
     ·simp[aj]
    ·exact az.fail
   |_=>unfold tf;exact az.fail
  |_=>unfold tf;exact az.fail
 |[],_::_,_,_,_,_,_,_,_=>by unfold tf;exact az.fail
 |[],[],y::_,_,_,_,_,_,_=>by cases y<;>(unfold tf;exact az.fail)
 |_::_,[],_,_,_,_,_,_,_=>by unfold tf;exact az.fail
 |_::_,x::_,[],_,_,_,_,_,_=>by cases x<;>(unfold tf;exact az.fail)
def Jc (P:bQ) (t:bh) (l:List aP) (v:aP):Prop:=(jL P t=some true/\v= .agg l.toArray)∨(jL P t=some false/\l=[v])
theorem ajE {t:bh} {xs:Array aP} {o s:Nat} (hs:e7 P t=some s) {v:aP} (h:Jc P t ((xs.toList.drop o).take s) v) (w:aE):(part t xs o).run P w= .ok v w:=by
 obtain⟨l⟩:=xs
 rcases h with⟨h1,rfl⟩|⟨h1,h2⟩
 ·simp[part,qQ h1,jn hs,aEw]
 ·have h3:(⟨l⟩:Array aP)[o]?=some v:=by
   have h4:=congrArg IY h2
   rw[<-MG]
   cases s with
   |zero=>simp at h2
   |succ s=>simpa [List.head?_take,List.head?_drop]using h4
  simp[part,qQ h1,h3]
theorem afk {nb:Nat} {m:Nat->Nat} {g:bh->List A->List A->M bw} {D:Nat}
 (hg:∀(t:bh) (x y:List A) (n:Nat) (ρ:Env),(∀a∈x,A.ok n nb ρ a)->(∀a∈y,A.ok n nb ρ a)->az S L (g t x y) n ρ λaa n' b=>b.bD n'/\∃pj pk,Jc P t (x.map (A.den ρ m)) pj/\Jc P t (y.map (A.den ρ m)) pk/\∀w,(SE D t pj pk).run P w= .ok (b.den aa) w):
 ∀(fs:List Field) (x y:List A) (o n:Nat) (ρ:Env),(∀a∈x,A.ok n nb ρ a)->(∀a∈y,A.ok n nb ρ a)->
 az S L (Oy P g o fs x y) n ρ λaa n' b=>b.bD n'/\∀(w:aE) (xs gN:Array aP),xs.toList.drop o=x.map (A.den ρ m)->gN.toList.drop o=y.map (A.den ρ m)->(I0 D xs gN fs).run P w= .ok (b.den aa) w
 |[],x,y,o,n,ρ,_,_=>az.pure ⟨trivial,λw xs gN _ _=>by simp[I0,bw.den]⟩
 |f::fs,x,y,o,n,ρ,hx,hy=>by
  unfold Oy
  cases hs:e7 P f.type with
  |none=>exact az.fail
  |some s=>
   simp only
   refine dY λhc=>?_
   simp only[bo,bne_iff_ne,ne_eq]at hc
   obtain⟨hn,ax⟩:=hc
   have ax:=bO ax
   refine(hg f.type (x.take s) (y.take s) n ρ (λa ha=>hx a (lf ha)) (λa ha=>hy a (lf ha))).bind λaJ aT b gi eK ⟨b3,pj,pk,b4,c7,lO⟩=>?_
   refine(afk hg fs (x.drop s) (y.drop s) (o+s) aT aJ (λa ha=>(hx a (oN ha)).ext eK gi (bL _)) (λa ha=>(hy a (oN ha)).ext eK gi (bL _))).bind λbR eF r eL dz ⟨r1,r2⟩=>az.pure ⟨bw.Rf (b3.mono eL) r1,λw xs gN fv EE=>?_⟩
   have AS:(part f.type xs f.offset).run P w= .ok pj w:=ajE hs (by rw[ax,fv,<-IU];exact b4) w
   have AT:(part f.type gN f.offset).run P w= .ok pk w:=ajE hs (by rw[ax,EE,<-IU];exact c7) w
   have DN:xs.toList.drop (o+s)=(x.drop s).map (A.den aJ m):=by
    rw[<-zv,fv,<-IV]
    exact(vp (λa ha=>hx a (oN ha)) eK (λ_ _=>rfl)).symm
   have aX:gN.toList.drop (o+s)=(y.drop s).map (A.den aJ m):=by
    rw[<-zv,EE,<-IV]
    exact(vp (λa ha=>hy a (oN ha)) eK (λ_ _=>rfl)).symm
   have Ce:b.den bR=b.den aJ:=bw.bX dz b3
   simp only[I0,ne_eq,hn,not_false_eq_true,if_true,ic,AS,AT,iz,lO w,bw.Oi,Ce]
   cases aj:b.den aJ with
   |true=>simp[r2 w xs gN DN aX]
   |false=>simp
theorem afl {nb:Nat} {m:Nat->Nat}:∀(d:Nat) (t:bh) (x y:List A) (n:Nat) (ρ:Env),(∀a∈x,A.ok n nb ρ a)->(∀a∈y,A.ok n nb ρ a)->∀D,d<=D->
 az S L (Gw P d t x y) n ρ λaa n' b=>b.bD n'/\∃pj pk,Jc P t (x.map (A.den ρ m)) pj/\Jc P t (y.map (A.den ρ m)) pk/\∀w,(SE D t pj pk).run P w= .ok (b.den aa) w
 |0,t,x,y,n,ρ,_,_,_,_=>az.fail
 |d+1,t,x,y,n,ρ,hx,hy,D,oe=>by
  obtain⟨E,rfl⟩:∃E,D=E+1:=⟨D-1,by omega⟩
  unfold Gw
  split
  ·rename_i k hu
   split
   ·rename_i k1 a k2 b
    refine dY λab=>?_
    have ab:k1=k2:=by simpa using ab
    subst ab
    have Li:a.ok n ρ:=hx (.int k1 a) (by simp)
    have ob:b.ok n ρ:=hy (.int k1 b) (by simp)
    have aw:=bw.u3 Li ob
    have gY:jL P t=some false:=by simp[jL,hu]
    refine az.pure ⟨aw.2,_,_,.inr ⟨gY,rfl⟩,.inr ⟨gY,rfl⟩,λw=>?_⟩
    simp only[A.den]
    rw[run_equalIn_int w E t k1 k _ _ hu,aw.1]
    rfl
   ·exact az.fail
  ·rename_i hu
   split
   ·rename_i a b
    have b3:=Jm (bp (a.den ρ)=bp (b.den ρ))
    have gY:jL P t=some false:=by simp[jL,hu]
    refine(hI (op:=4) (args:=[a,b]) b3.1 b3.2).bind λaJ aT l gi Ei ⟨h1,h2⟩=>az.pure ?_
    have h2:l.den aJ=if bp (a.den ρ)=bp (b.den ρ)then 1 else 0:=h2
    have ol:(⟨l,0,1⟩:bM).ok aT aJ:=⟨h1,by simp only[h2];exact b3.1,by simp only[h2];exact b3.2⟩
    have aw:=bw.u3 (n:=aT) (ρ:=aJ) (a:=⟨l,0,1⟩) (b:= .const 1) ol (bM.n9 _ _ _)
    refine⟨aw.2,_,_,.inr ⟨gY,rfl⟩,.inr ⟨gY,rfl⟩,λw=>?_⟩
    simp only[A.den]
    rw[run_equalIn_string w E t _ _ hu,aw.1,DF,DF]
    simp only[bM.const,I.bg,h2]
    by_cases aj:bp (a.den ρ)=bp (b.den ρ)
    ·simp[aj]
    ·simp[aj]
   ·exact az.fail
  ·rename_i hu
   split
   ·rename_i a b
    have gY:jL P t=some false:=by simp[jL,hu]
    have Li:a.bD n:=hx (.bool a) (by simp)
    have ob:b.bD n:=hy (.bool b) (by simp)
    refine az.pure ⟨bw.Z4 Li ob,_,_,.inr ⟨gY,rfl⟩,.inr ⟨gY,rfl⟩,λw=>?_⟩
    simp only[A.den]
    rw[run_equalIn_bool w E t _ _ hu,bw.Vj]
   ·exact az.fail
  ·rename_i fs hu
   refine dY λhg=>?_
   have hg:P.stoodInHeld t=false:=by simpa using hg
   have gY:jL P t=some true:=by simp[jL,hu]
   refine(afk (m:=m) (D:=E) (λt x y n ρ h1 h2=>afl d t x y n ρ h1 h2 E (by omega)) fs.toList x y 0 n ρ hx hy).mono λaa n' b _ _ ⟨h1,h2⟩=>⟨h1,_,_,.inl ⟨gY,rfl⟩,.inl ⟨gY,rfl⟩,λw=>?_⟩
   have hf:P.fieldsOf t=fs:=by simp[aEx,hu]
   rw[run_equalIn_struct w E t _ _ (by rw[hf];exact hu) hg,hf]
   exact h2 w _ _ (by simp) (by simp)
  ·exact az.fail
theorem afn {nb:Nat} {m:Nat->Nat} {t:bh} {x y:List A} (hx:∀a∈x,A.ok n nb ρ a) (hy:∀a∈y,A.ok n nb ρ a):
 az S L (Oz P t x y) n ρ λaa n' b=>b.bD n'/\P.eqGuardType P.depth t=false/\∀w,(SE 10000 t (.agg (x.map (A.den ρ m)).toArray) (.agg (y.map (A.den ρ m)).toArray)).run P w= .ok (b.den aa) w:=by
 unfold Oz
 split
 ·rename_i fs hu
  have oW:jL P t=some true:=by simp[jL,hu]
  have deep:P.eqGuardType P.depth t=false->az S L (Gw P 8 t x y) n ρ λaa n' b=>b.bD n'/\P.eqGuardType P.depth t=false/\∀w,(SE 10000 t (.agg (x.map (A.den ρ m)).toArray) (.agg (y.map (A.den ρ m)).toArray)).run P w= .ok (b.den aa) w:=λhg=>
   (afl (m:=m) 8 t x y n ρ hx hy 10000 (by decide)).mono λaa n' b _ _ ⟨h1,pj,pk,h2,h3,h4⟩=>⟨h1,hg,λw=>by
     rcases h2 with⟨_,rfl⟩|⟨h2,_⟩
     ·rcases h3 with⟨_,rfl⟩|⟨h3,_⟩
      ·exact h4 w
      ·rw[oW]at h3;cases h3
     ·rw[oW]at h2;cases h2⟩
  cases hg:(Gz P 0 fs.toList&& !P.stoodInHeld t&& !P.eqGuardType P.depth t)with
  |true=>
   simp only[cond_true]
   simp only[bo,fF]at hg
   generalize (fs.toList.all λf=>match P.underlying f.type with|some (.int _)=>true|some .string=>true|_=>false)=flat
   cases flat with
   |true=>
    simp only[cond_true]
    refine(VF (nb:=nb) (m:=m) fs.toList x y 0 n ρ hg.1.1 hx hy).mono λaa n' b _ _ ⟨h1,h2⟩=>⟨h1,hg.2,λw=>?_⟩
    have hf:P.fieldsOf t=fs:=by simp[aEx,hu]
    rw[run_equalIn_struct w 9999 t _ _ (by rw[hf];exact hu) hg.1.2,hf]
    exact h2 w 9998 _ _ (by simp) (by simp)
   |false=>exact deep hg.2
  |false=>
   simp only[cond_false]
   refine dY λAb=>deep (by simpa using Ab)
 ·exact az.fail
theorem azG {cal:eW} (cU:hk S P gl w0 cal) (hb:cM n bl.length ρ bl) (hg:eX gl w0) (hex:∃w,Mem w0 ρ m bl w) (aA:ef n bl.length ρ m tm a.tmps) (o:Oper):
 az S L (ZG P cal gl bl tm o) n ρ (mS w0 m bl n ρ P o a):=by
 unfold ZG
 split
 case h_1 x h=>
  exact az.pure ⟨(cy aA x).1,_,(cy aA x).2,λw _=> .inl (by simp[execOp,h])⟩
 case h_2 x h=>
  exact az.pure ⟨(cy aA x).1,_,(cy aA x).2,λw _=> .inl (by simp[execOp,h])⟩
 case h_3 t x h=>
  have hx:=cy aA x
  have he:execOp a.eval o=(do pure (kr (<-nr t (a.eval x)))):=by simp only[execOp,h]
  split
  ·rename_i b off bd hv
   rw[hv]at hx
   have dk:a.eval x=(A.oD b off bd).den ρ m:=hx.2
   rw[dk]at he
   exact(aAH hb t b off hx.1.2.1).mono λ_ _ _ _ _ aj=>mS.qO he aj
  ·rename_i g off bd hv
   rw[hv]at hx
   have dk:a.eval x=(A.GG g off bd).den ρ m:=hx.2
   rw[dk]at he
   exact(aAG hg t g off hx.1.1).mono λ_ _ _ _ _ aj=>mS.qO he aj
  ·rename_i p _ _ hv
   rw[hv]at hx
   have dk:a.eval x=p.den ρ m:=hx.2
   rw[dk]at he
   exact(avI hb hg hex t p).mono λ_ _ _ _ _ aj=>mS.qO he aj
  ·exact az.fail
 case h_4 x h=>
  have hx:=cy aA x
  unfold ajb
  split<;>first
   |exact az.fail
   |(rename_i hv
     rw[hv]at hx
     refine az.pure ⟨hx.1,_,rfl,λw _=> .inl ?_⟩
     have dk:=hx.2
     simp only[V.rel,W.den,A.den]at dk
     simp[execOp,h,dk,W.den,A.den])
 case h_5 c x y h=>
  have hc:=cy aA c
  split
  ·rename_i v hv
   rw[hv]at hc
   have aw:a.eval c= .bool v:=hc.2
   cases v with
   |true=>exact az.pure ⟨(cy aA x).1,_,(cy aA x).2,λw _=> .inl (by simp[execOp,h,aw,asBool])⟩
   |false=>exact az.pure ⟨(cy aA y).1,_,(cy aA y).2,λw _=> .inl (by simp[execOp,h,aw,asBool])⟩
  ·exact az.fail
 case h_6 op t x y t' h=>
  have hx:=cy aA x
  have hy:=cy aA y
  unfold aed
  split
  ·rename_i k p bA q rm kR
   rw[rm]at hx;rw[kR]at hy
   have aw:a.eval x= .int k (p.l.den ρ):=hx.2
   have aF:a.eval y= .int bA (q.l.den ρ):=hy.2
   refine(an9 (nb:=bl.length) (m:=m) P t hx.1 hy.1).bind λaJ aT r _ _ ⟨h1,h2⟩=>az.pure ⟨h1,_,rfl,λw _=> .inl ?_⟩
   have il:(eqGuard op t x y (.int k (p.l.den ρ)) (.int bA (q.l.den ρ))).run P w= .ok () w:=by cases op<;>simp[eqGuard]
   simp only[execOp,h,aw,aF]
   simp[il,h2,W.den]
  ·rename_i p q rm kR
   rw[rm]at hx;rw[kR]at hy
   have aw:a.eval x= .agg (p.map (A.den ρ m)).toArray:=hx.2
   have aF:a.eval y= .agg (q.map (A.den ρ m)).toArray:=hy.2
   split
   ·rename_i b heq
    obtain⟨s1,g1,r1⟩:=afm (m:=m) heq hx.1 hy.1
    refine az.pure ⟨s1,_,rfl,λw _=> .inl ?_⟩
    simp only[execOp,h,aw,aF]
    simp[run_eqGuard_agg w .eql t x y _ _ g1,run_eql_struct,r1,W.den,A.den]
   ·rename_i b heq
    obtain⟨s1,g1,r1⟩:=afm (m:=m) heq hx.1 hy.1
    refine az.pure ⟨bw.y5 s1,_,rfl,λw _=> .inl ?_⟩
    simp only[execOp,h,aw,aF]
    simp[run_eqGuard_agg w .neq t x y _ _ g1,run_neq_struct,r1,W.den,A.den,bw.yl]
   ·rename_i heq
    refine(afn (m:=m) (t:=t) hx.1 hy.1).bind λaa n' r _ _ ⟨r1,g1,r2⟩=>az.pure ⟨r1,_,rfl,λw _=> .inl ?_⟩
    simp only[execOp,h,aw,aF]
    simp[run_eqGuard_agg w .eql t x y _ _ g1,run_eql_struct,r2,W.den,A.den]
   ·rename_i heq
    refine(afn (m:=m) (t:=t) hx.1 hy.1).bind λaa n' r _ _ ⟨r1,g1,r2⟩=>az.pure ⟨bw.y5 r1,_,rfl,λw _=> .inl ?_⟩
    simp only[execOp,h,aw,aF]
    simp[run_eqGuard_agg w .neq t x y _ _ g1,run_neq_struct,r2,W.den,A.den,bw.yl]
   ·exact az.fail
  ·rename_i p q rm kR
   rw[rm]at hx;rw[kR]at hy
   have aw:a.eval x= .string (dI (bp (p.den ρ))):=hx.2
   have aF:a.eval y= .string (dI (bp (q.den ρ))):=hy.2
   have he:execOp a.eval o=(do pure (kr (<-(do eqGuard op t x y (.string (dI (bp (p.den ρ)))) (.string (dI (bp (q.den ρ))));binOp op t (.string (dI (bp (p.den ρ)))) (.string (dI (bp (q.den ρ)))):Sem aP)))):=by simp only[execOp,h,aw,aF]
   exact(aBd (op:=op) (t:=t) (x:=x) (y:=y) (w0:=w0) (m:=m) hx.1 hy.1).mono λ_ _ _ _ _ aj=>mS.qO he aj
  ·rename_i p q rm kR
   rw[rm]at hx;rw[kR]at hy
   have aw:a.eval x= .bool (p.den ρ):=hx.2
   have aF:a.eval y= .bool (q.den ρ):=hy.2
   have il:(eqGuard op t x y (.bool (p.den ρ)) (.bool (q.den ρ))).run P=λw=> .ok () w:=by funext w;cases op<;>simp[eqGuard]
   split
   ·rename_i hu
    refine az.pure ⟨bw.Z4 hx.1 hy.1,_,rfl,λw _=> .inl ?_⟩
    simp only[execOp,h,aw,aF]
    simp[il,run_eql_bool w t _ _ hu,W.den,A.den,bw.Vj]
   ·rename_i hu
    refine az.pure ⟨bw.y5 (bw.Z4 hx.1 hy.1),_,rfl,λw _=> .inl ?_⟩
    simp only[execOp,h,aw,aF]
    simp[il,run_neq_bool w t _ _ hu,W.den,A.den,bw.Vj,bw.yl]
   ·exact az.fail
  ·exact az.fail
 case h_7 op t x h=>
  have hx:=cy aA x
  unfold alc
  split
  ·rename_i b hv
   rw[hv]at hx
   have aw:a.eval x= .bool (b.den ρ):=hx.2
   refine az.pure ⟨bw.y5 hx.1,_,rfl,λw _=> .inl ?_⟩
   simp[execOp,h,aw,Op.unary,W.den,A.den,bw.yl]
  ·rename_i k p hv
   rw[hv]at hx
   have aw:a.eval x= .int k (p.l.den ρ):=hx.2
   refine dY λhc=>?_
   simp only[bo,fF,decide_eq_true_eq]at hc
   have hp:=hx.1
   have aeo:=bM.ok.agree (n':=n) hp (agree.refl n ρ) (bL _)
   have b4:=aeo.2
   have aF:((I.const (two k-1)).sub p.l).den ρ=two k-1-p.l.den ρ:=by rw[I.kf,I.bg]
   refine az.pure ⟨⟨I.uh (I.c5 _ _) aeo.1,by simp only[aF];omega,by simp only[aF];omega⟩,_,rfl,λw _=> .inl ?_⟩
   have key:k.wrap (sK k.bits (if k.signed=true then-1 else k.max)^^^sK k.bits (p.l.den ρ)).toNat=two k-1-p.l.den ρ:=by
    have ab:=hc.1.1
    obtain⟨X,bT⟩:=ps (show 0<=p.l.den ρ by omega)
    have hlt:X<2^k.bits:=by
     have:(X:Int)<2^k.bits:=by rw[<-za,<-bT];omega
     exact_mod_cast this
    have iE:(sK k.bits (if k.signed=true then-1 else k.max))=BitVec.allOnes k.bits:=by
     cases k<;>simp[MC]at ab<;>rfl
    rw[iE,BitVec.allOnes_xor,BitVec.toNat_not,bT,Sz]
    have cb:((X:Int)% ((2^k.bits:Nat):Int)).toNat=X:=by
     rw[nm (by omega) (by exact_mod_cast hlt)];rfl
    rw[cb,RV]
    have ae:half k=0:=by simp[half,ab]
    have h2:two k=((2^k.bits:Nat):Int):=by rw[za];simp
    rw[ae,h2,Int.add_zero,Int.sub_zero,nm (by omega) (by omega)]
    omega
   simp only[execOp,h,aw,Op.unary,SC,W.den,A.den,aF]
   simp at key
   simp[key]
  ·rename_i k p hv
   rw[hv]at hx
   have aw:a.eval x= .int k (p.l.den ρ):=hx.2
   have b4:=bM.ok.agree (n':=n) hx.1 (agree.refl n ρ) (bL _)
   have c7:=b4.2
   have aF:(p.l.smul (-1)).den ρ=-p.l.den ρ:=by rw[I.kM];omega
   refine(Da (k:=k) (x:=⟨p.l.smul (-1),-p.hi,-p.lo⟩) ⟨I.ug b4.1,by simp only[aF];omega,by simp only[aF];omega⟩).bind λaJ aT r _ _ ⟨h1,h2⟩=>az.pure ⟨h1,_,rfl,λw _=> .inl ?_⟩
   simp only[aF]at h2
   simp[execOp,h,aw,Op.unary,Op.intArith,W.den,A.den,h2]
  ·exact az.fail
 case h_8 s d x h=>
  have hx:=cy aA x
  unfold ae1
  split
  ·rename_i bA p hu ab hv
   rw[hv]at hx
   have aw:a.eval x= .int bA (p.l.den ρ):=hx.2
   split
   ·rename_i c hc
    refine dY λhsz=>?_
    have hl:(SD c).data.toList.length<=kW:=by
     have:=e8 hsz
     have h2:(SD c).data.toList.length=(SD c).size:=by simp
     unfold kW;omega
    refine az.pure ⟨⟨I.c5 _ _,by rw[I.bg];exact wD _,by rw[I.bg];exact uI hl⟩,_,rfl,λw _=> .inl ?_⟩
    simp[execOp,h,aw,convert,eU hu,eU ab,Conv.intToString,W.den,A.den,I.bg,y4,dI,I.jI hc]
   ·exact az.fail
  ·split
   rotate_left
   ·exact az.fail
   rename_i k bA p hu ab hv
   rw[hv]at hx
   have aw:a.eval x= .int bA (p.l.den ρ):=hx.2
   refine(Da (k:=k) hx.1).bind λaJ aT r _ _ ⟨h1,h2⟩=>az.pure ⟨h1,_,rfl,λw _=> .inl ?_⟩
   simp[execOp,h,aw,convert,eU hu,eU (X9 ab),Conv.intToInt,W.den,A.den,h2]
 case h_9 t x bd h=>
  have hx:=cy aA x
  have hi:=cy aA bd
  split
  ·rename_i k i hv
   rw[hv]at hi
   have aw:a.eval bd= .int k (i.l.den ρ):=hi.2
   have he:execOp a.eval o=(do pure (kr (<-uB t (a.eval x) (.int k (i.l.den ρ))))):=by simp only[execOp,h,aw]
   exact(auH hx.1 hx.2 hi.1).mono λ_ _ _ _ _ aj=>mS.qO he aj
  ·exact az.fail
 case h_10 t x bd h=>
  have hx:=cy aA x
  have hi:=cy aA bd
  split
  ·rename_i s hv
   rw[hv]at hx
   have aw:a.eval x= .string (dI (bp (s.den ρ))):=hx.2
   split
   ·rename_i i hu Cq
    obtain⟨k,ab,_⟩:=EJ (m:=m) (bl:=bl) Cq hi.2 hi.1
    have he:execOp a.eval o=(do pure (kr (<-abC t (.string (dI (bp (s.den ρ)))) (.int k (i.den ρ))))):=by simp only[execOp,h,aw,ab]
    exact(aBe (w0:=w0) (m:=m) hu hx.1).mono λ_ _ _ _ _ aj=>mS.qO he aj
   ·exact az.fail
  split
  ·rename_i l i len e hv Cq GN
   rw[hv]at hx
   have aw:a.eval x= .agg (l.map (A.den ρ m)).toArray:=hx.2
   have aF:∃k,a.eval bd= .int k i:=by
    unfold Of at Cq
    split at Cq
    ·rename_i k p kR
     rw[kR]at hi
     have:a.eval bd= .int k (p.l.den ρ):=hi.2
     exact⟨k,by rw[this,I.jI Cq]⟩
    ·cases Cq
   obtain⟨k,aF⟩:=aF
   split
   ·rename_i s hs
    refine dY λhc=>?_
    simp only[bo,decide_eq_true_eq]at hc
    refine(ajD (w0:=w0) (m:=m) (bl:=bl) hx.1).mono λaJ aT v _ _ ⟨bb,val,b0,cv⟩=>⟨bb,val,b0,λw hw=> .inl ?_⟩
    have:=cv w hw
    simp[execOp,h,aw,aF,abC,asIntOf,eU (wz GN),hc,jn hs,this]
   ·exact az.fail
  ·exact az.fail
 case h_11 s x f h=>
  have hx:=cy aA x
  split
  ·rename_i b off fd hv hf
   rw[hv]at hx
   have aw:a.eval x= .pointer (some ⟨m b,off,none⟩):=hx.2
   obtain⟨fs,hu,Kr⟩:=VI hf
   split
   ·rename_i k hs
    refine az.pure ⟨hx.1,_,rfl,λw _=> .inl ?_⟩
    simp[execOp,h,aw,alZ,eU hu,Kr,mO,fieldPlace,jn hs,jG,W.den,A.den]
   ·exact az.fail
  ·exact az.fail
 case h_12 s x f h=>
  have hx:=cy aA x
  split
  ·rename_i l fd hv hf
   rw[hv]at hx
   have aw:a.eval x= .agg (l.map (A.den ρ m)).toArray:=hx.2
   obtain⟨fs,hu,Kr⟩:=VI hf
   refine(ajD (w0:=w0) (m:=m) (bl:=bl) hx.1).mono λaJ aT v _ _ ⟨bb,val,b0,cv⟩=>⟨bb,val,b0,λw hw=> .inl ?_⟩
   have:=cv w hw
   simp[execOp,h,aw,Instr.field,asAgg,eU hu,Kr,this]
  ·exact az.fail
 case h_13 x i h=>
  have hx:=cy aA x
  split
  ·rename_i l hv
   rw[hv]at hx
   have aw:a.eval x= .tuple (l.map (W.den ρ m)).toArray:=hx.2
   split
   ·rename_i u hu
    refine az.pure ⟨hx.1 u (eD hu),_,rfl,λw _=> .inl ?_⟩
    simp[execOp,h,aw,alY,hu]
   ·exact az.fail
  ·exact az.fail
 case h_14 t x lo hi h=>
  have hx:=cy aA x
  split
  ·rename_i s hv hu
   rw[hv]at hx
   have aw:a.eval x= .string (dI (bp (s.den ρ))):=hx.2
   have he:execOp a.eval o=(do pure (kr (<-rH t (.string (dI (bp (s.den ρ)))) (lo.map a.eval) (hi.map a.eval) none))):=by simp only[execOp,h,aw];rfl
   exact(aBg (w0:=w0) (m:=m) hu hx.1 aA).mono λ_ _ _ _ _ aj=>mS.qO he aj
  have key:∀(y:Option oM) (c:Option Int),QK tm y=some c->∃f:Int->aP,(∀c,∃k,f c= .int k c)/\y.map a.eval=c.map f:=by
   intro y c hy
   unfold QK at hy
   cases y with
   |none=>simp at hy;subst hy;exact⟨λc=> .int .i64 c,λc=>⟨_,rfl⟩,rfl⟩
   |some y=>
    simp only at hy
    have hi:=cy aA y
    unfold Of at hy
    split at hy
    ·rename_i eg aj
     split at aj
     ·rename_i k p kR
      simp only[a7]at hy;subst hy
      rw[kR]at hi
      have:a.eval y= .int k (p.l.den ρ):=hi.2
      exact⟨λc=> .int k c,λc=>⟨_,rfl⟩,by simp[this,I.jI aj]⟩
     ·cases aj
    ·cases hy
  split
  ·rename_i l ae h1 h2
   obtain⟨afB,afC,afD⟩:=key lo l h1
   obtain⟨aGb,OC,aft⟩:=key hi ae h2
   unfold akA
   split
   ·rename_i b off EW e hv GN
    rw[hv]at hx
    have aw:a.eval x= .pointer (some ⟨m b,off,none⟩):=hx.2
    split
    ·rename_i s hs
     refine dY λhc=>?_
     simp only[bo,decide_eq_true_eq]at hc
     refine az.pure ⟨hx.1,_,rfl,λw _=> .inl ?_⟩
     have nF:(mP false EW EW (lo.map a.eval) (hi.map a.eval) none).run P w= .ok ((l.getD 0).toNat,(ae.getD EW).toNat,EW) w:=by
      rw[afD,aft]
      have c1:∀(k:du) (i:Int) (y:Nat) (db:BoundsCode),0<=i->i<=y->(MF (.int k i) y db).run P w= .ok i.toNat w:=λk i y db cm cl=>by
       simp[MF,asIntOf,cm,cl]
      cases l with
      |none=>
       cases ae with
       |none=>simp[mP]
       |some a8=>
        obtain⟨bA,lp⟩:=OC a8
        simp only[abE,Bk]at hc
        simp[mP,lp,c1 bA a8 EW _ (by omega) (by omega)]
      |some l'=>
       obtain⟨k1,kP⟩:=afC l'
       cases ae with
       |none=>
        simp only[abE,Bk]at hc
        simp[mP,kP,c1 k1 l' EW _ (by omega) (by omega)]
       |some a8=>
        obtain⟨bA,lp⟩:=OC a8
        simp only[Bk]at hc
        simp[mP,lp,kP,c1 bA a8 EW _ (by omega) (by omega),c1 k1 l' a8.toNat _ (by omega) (by omega)]
     simp only[execOp,h,aw,aEy,rH]
     simp[eU (wz GN),mO,nF,jn hs,jG,W.den,A.den]
     intro aj
     have h3:=hc.2
     omega
    ·exact az.fail
   ·rename_i b off len cap hv GN
    rw[hv]at hx
    have aw:a.eval x= .slice (some ⟨m b,off,none⟩) len cap:=hx.2
    split
    ·rename_i e vh
     split
     ·rename_i s hs
      refine dY λhc=>?_
      simp only[bo,decide_eq_true_eq]at hc
      refine az.pure ⟨hx.1,_,rfl,λw _=> .inl ?_⟩
      have nF:(mP true len cap (lo.map a.eval) (hi.map a.eval) none).run P w= .ok ((l.getD 0).toNat,(ae.getD len).toNat,cap) w:=by
       rw[afD,aft]
       have c1:∀(k:du) (i:Int) (y:Nat) (db:BoundsCode),0<=i->i<=y->(MF (.int k i) y db).run P w= .ok i.toNat w:=λk i y db cm cl=>by
        simp[MF,asIntOf,cm,cl]
       cases l with
       |none=>
        cases ae with
        |none=>simp[mP]
        |some a8=>
         obtain⟨bA,lp⟩:=OC a8
         simp only[abE,Bk]at hc
         simp[mP,lp,c1 bA a8 cap _ (by omega) (by omega)]
       |some l'=>
        obtain⟨k1,kP⟩:=afC l'
        cases ae with
        |none=>
         simp only[abE,Bk]at hc
         simp[mP,kP,c1 k1 l' len _ (by omega) (by omega)]
        |some a8=>
         obtain⟨bA,lp⟩:=OC a8
         simp only[Bk]at hc
         simp[mP,lp,kP,c1 bA a8 cap _ (by omega) (by omega),c1 k1 l' a8.toNat _ (by omega) (by omega)]
      simp only[execOp,h,aw,aEy,rH]
      simp[eU (h8 vh),abD,nF,jn hs,jG,W.den,A.den]
      intro aj
      have h3:=hc.2
      omega
     ·exact az.fail
    ·exact az.fail
   ·exact az.fail
  ·exact az.fail
 case h_15 c h=>
  split
  ·rename_i f hc
   split
   ·rename_i g WK
    have qD:∀v∈c.args.toList.map (cd tm),V.ok n bl.length ρ v:=λv hv=>by
     obtain⟨x,_,rfl⟩:=List.mem_map.1 hv
     exact(cy aA x).1
    refine(cU f g WK L n ρ m bl _ _ hb hex qD (MU (xs:=c.args.toList) aA)).mono λaJ aT v _ _ ⟨bb,val,b0,cv⟩=>⟨bb,val,b0,λw hw=>?_⟩
    have he:=ZU (a:=a) hc o h
    have ha:(c.args.toList.map a.eval).toArray=c.args.map a.eval:=by
     rw[<-xV]
    have dK:=cv w hw
    rw[ha]at dK
    rcases dK with dK|⟨dK,jC⟩
    ·exact .inl (by rw[he];exact dK)
    ·exact .inr ⟨f,_,by rw[he];exact dK,jC⟩
   ·exact az.fail
  ·rename_i hc
   split
   ·rename_i x t fv mn
    have hx:=cy aA x
    split
    ·rename_i s hv hu
     rw[hv]at hx
     have aw:a.eval x= .string (dI (bp (s.den ρ))):=hx.2
     have bZ:c.args=#[x]:=by rw[<-kc (xs:=c.args),fv]
     have a2:c.argTypes=#[t]:=by rw[<-kc (xs:=c.argTypes),mn]
     have he:execOp a.eval o=(do pure (kr (<-IZ #[t] o.type #[.string (dI (bp (s.den ρ)))]))):=by
      simp[execOp,h,resolve,hc,bZ,a2,aw,invoke,builtin]
     exact(aBf (w0:=w0) (m:=m) hu hx.1).mono λ_ _ _ _ _ aj=>mS.qO he aj
    split
    ·rename_i b off len cap e hv hs
     rw[hv]at hx
     have aw:a.eval x= .slice (some ⟨m b,off,none⟩) len cap:=hx.2
     refine az.pure ⟨bM.n9 _ _ _,_,rfl,λw _=> .inl ?_⟩
     have bZ:c.args=#[x]:=by rw[<-kc (xs:=c.args),fv]
     have a2:c.argTypes=#[t]:=by rw[<-kc (xs:=c.argTypes),mn]
     simp[execOp,h,resolve,hc,bZ,a2,aw,invoke,builtin,IZ,eU (h8 hs),goInt,W.den,A.den,bM.const,I.bg]
    ·rename_i b len lo e hv hs
     rw[hv]at hx
     obtain⟨lQ,_,aw⟩:=hx.2
     refine az.pure ⟨bM.n9 _ _ _,_,rfl,λw _=> .inl ?_⟩
     have bZ:c.args=#[x]:=by rw[<-kc (xs:=c.args),fv]
     have a2:c.argTypes=#[t]:=by rw[<-kc (xs:=c.argTypes),mn]
     simp[execOp,h,resolve,hc,bZ,a2,aw,invoke,builtin,IZ,eU (h8 hs),goInt,W.den,A.den,bM.const,I.bg]
    ·exact az.fail
   ·exact az.fail
  ·exact az.fail
 case h_16 f first jS h=>
  split
  ·rename_i l hf hl
   obtain⟨g1,g2⟩:=axr (m:=m) hl (λv hv=>by obtain⟨x,_,rfl⟩:=List.mem_map.1 hv;exact(cy aA x).1) (MU (xs:=jS.toList) aA)
   have agN:first=#[]:=by rw[<-kc (xs:=first),hf]
   have Cp:jS.map a.eval=(l.map (A.den ρ m)).toArray:=by rw[<-g2,<-xV]
   refine az.pure ⟨g1,_,rfl,λw _=> .inl ?_⟩
   simp only[execOp,h,Cp,agN]
   simp[Instr.makeFunc]
  ·exact az.fail
 case h_17 t parts h=>
  split
  ·rename_i l hl
   obtain⟨g1,g2⟩:=aoh (n:=n) (nb:=bl.length) (ρ:=ρ) (m:=m) (vals:=(parts.map λ(i,x)=>(i,a.eval x)).toList) hl (by
    rw[xV]
    generalize parts.toList=jM
    induction jM with
    |nil=>exact trivial
    |cons p r ih=>exact⟨⟨rfl,cy aA p.2⟩,ih⟩)
   refine az.pure ⟨g1,_,rfl,λw _=> .inl ?_⟩
   simp only[execOp,h]
   simp[run_build w t _ _ g2,W.den]
  ·exact az.fail
 case h_18 t x h=>
  have hx:=cy aA x
  split
  ·rename_i b len lo k e hv ha
   rw[hv]at hx
   refine dY λhc=>az.pure ⟨hx.1,_,rfl,λw _=> .inl ?_⟩
   obtain⟨c,gL,hc2⟩:=hx.2
   have hle:¬len<k:=by have:=e8 hc;omega
   simp only[execOp,h]
   rw[hc2]
   simp[al9,eU (wz ha),hle,W.den,A.den]
  ·rename_i b off len cap k e hv ha
   rw[hv]at hx
   refine dY λhc=>az.pure ⟨by simpa [V.ok,W.ok,A.ok]using hx.1,_,rfl,λw _=> .inl ?_⟩
   have hle:¬len<k:=by have:=e8 hc;omega
   have aw:a.eval x=_:=hx.2
   simp only[execOp,h]
   rw[aw]
   simp[al9,eU (wz ha),hle,W.den,A.den]
  ·exact az.fail
 case h_19=>exact az.fail
end
end Go.b6
namespace Go.b6
open M
noncomputable def N9 (c:aL) (code i:I) (j:Nat):M A:=
 match c with
 | .int k lo hi=>bind (fa 21 [code,i,.const j] lo hi) λl=>pure (.int k ⟨l,lo,hi⟩)
 | .str=>bind (fa 21 [code,i,.const j] 0 n4) λl=>pure (.str l)
 | .bool=>bind (fa 21 [code,i,.const j] 0 1) λl=>pure (.bool (.mkEq ⟨l,0,1⟩ (.const 1)))
noncomputable def Oa (code i:I):Nat->List aL->M (List A)
 |_,[]=>pure []
 |j,c::r=>bind (N9 c code i j) λa=>bind (Oa code i (j+1) r) λl=>pure (a::l)
noncomputable def ZQ (c:aL) (code:I):Nat->I->M (List A)
 |0,_=>pure []
 |q+1,i=>bind (gh 21 [code,i]) λ_=>bind (N9 c code i 0) λa=>bind (ZQ c code q (i.add (.const 1))) λl=>pure (a::l)
noncomputable def VE (P:bQ) (bl:List aG) (t:bh) (b bq:Nat) (o i:I) (j:Nat):M V:=
 match bl[b]? with
 |some ([.rows sh off code cap kind],_)=>cond (dv 0 kind&&aK bq sh.length&&I.beq o off) (bind (gh 21 [code,i]) λ_=>match jL P t,e7 P t with
  |some true,some k=>cond (cx (j+k) sh.length) (bind (Oa code i j ((sh.drop j).take k)) λl=>pure (.w (.agg l))) (match sh,j with
   |[c],0=>bind (ZQ c code k i) λl=>pure (.w (.agg l))
   |_,_=>fail)
  |some false,_=>match sh[j]? with
   |some c=>bind (N9 c code i j) λa=>pure (.w (.one a))
   |none=>fail
  |_,_=>fail) fail
 |_=>fail
def aad (P:bQ) (t:bh) (b bq:Nat) (o ro len:I) (bd:I):M V:=
 match jo P t with
 |some e=>match e7 P e with
  |some s=>cond (aK s bq) (bind (gh 30 [bd,len]) λ_=>pure (.w (.one (.ep b bq o (ro.add bd) 0)))) fail
  |none=>fail
 |none=>fail
def FW (op:Nat) (ls:List I):M Unit:=λn k=> .uT op ls (k () n)
def aaf (P:bQ) (t:bh) (b bq:Nat) (o ro len cap:I) (x y:I):M V:=
 match jo P t with
 |some e=>match e7 P e with
  |some s=>cond (aK s bq) (bind (gh 32 [x,y,len]) λ_=>match x.ed with
   |some 0=>pure (.w (.one (.sl b bq o ro y cap)))
   |_=>bind (FW 68 [len,cap]) λ_=>bind (fa 33 [ro,x,cap] 0 9223372036854775808) λr=>pure (.w (.one (.sl b bq o r (y.sub x) (cap.sub x))))) fail
  |none=>fail
 |none=>fail
def BL (tm:List V) (d:I):Option oM->Option I
 |none=>some d
 |some x=>rn (cd tm x)
def Nt:List aL->Bool
 |[.int .u8 lo hi]=>decide (lo=0)&&decide (hi=255)
 |_=>false
noncomputable def aae (bl:List aG) (b bq:Nat) (o ro len:I):M V:=
 match bl[b]? with
 |some ([.rows sh off code cap kind],_)=>cond (dv 0 kind&&aK bq 1&&I.beq o off&&Nt sh) (bind (gh 35 [code,ro,ro.add len]) λ_=>bind (fa 34 [code,ro,ro.add len] 0 n4) λl=>pure (.w (.one (.str l)))) fail
 |_=>fail
def Nq {α:Type} (b:bw) (x y:M α):M α:=λn k=>match b with
 | .lit v=>cond v (x n k) (y n k)
 |b=> .r6 b (x n k) (y n k)
def aiO (k:du) (x y:bM):M V:=Nq (.mkLt y x) (pure (.w (.one (.int k y)))) (pure (.w (.one (.int k x))))
def aiL (k:du) (x y:bM):M V:=Nq (.mkLt x y) (pure (.w (.one (.int k y)))) (pure (.w (.one (.int k x))))
def oR:List A->Option (List Bool)
 |[]=>some []
 | .bool (.lit b)::r=>match oR r with|some l=>some (b::l)|none=>none
 |_::_=>none
def An:Nat->List Bool->List UInt8
 |_,[]=>[]
 |i,b::r=>cond b (xO i::An (i+1) r) (An (i+1) r)
def Z6 (bl:List aG) (b off:Nat) (bd:bM):M V:=
 match bl[b]? with
 |some (cs,_)=>match oR ((cs.drop off).take (bd.hi.toNat+1))with
  |some l=>cond (aK l.length (bd.hi.toNat+1)&&cx bd.hi.toNat 255&&decide (0<=bd.lo)&&b7 cs) (bind (fa 43 [.const (jv (An 0 l)),bd.l] 0 1) λr=>pure (.w (.one (.bool (.mkEq ⟨r,0,1⟩ (.const 1)))))) fail
  |none=>fail
 |none=>fail
noncomputable def ZR (P:bQ) (bl:List aG) (tm:List V) (o:Oper):Option (M V):=
 match o.op with
 | .load t x=>match cd tm x with
  | .w (.one (.ep b bq o i j))=>some (VE P bl t b bq o i j)
  | .w (.one (.oD b off bd))=>match P.underlying t with
   |some .bool=>some (Z6 bl b off bd)
   |_=>none
  |_=>none
 | .nilCheck x=>match cd tm x with
  | .w (.one (.ep b bq o i j))=>some (pure (.w (.one (.ep b bq o i j))))
  |_=>none
 | .indexAddr t x bd=>match cd tm x,cd tm bd with
  | .w (.one (.sl b bq o ro len cap)),.w (.one (.int _ i))=>some (aad P t b bq o ro len i.l)
  |_,_=>none
 | .sliceToArrayPointer t x=>match cd tm x,sZ P t with
  | .w (.one (.sl b bq o ro len cap)),some (k,_)=>some (cond (dv 0 k) (bind (gh 30 [.const ((k:Int)-1),len]) λ_=>pure (.w (.one (.ep b bq o ro 0)))) fail)
  |_,_=>none
 | .fieldAddr s x f=>match cd tm x,JU P s f with
  | .w (.one (.ep b bq o i j)),some fd=>match e7 P fd.type with
   |some (_+1)=>some (pure (.w (.one (.ep b bq o i (j+fd.offset)))))
   |_=>none
  |_,_=>none
 | .slice t x lo hi none=>match cd tm x with
  | .w (.one (.sl b bq o ro len cap))=>match BL tm (.const 0) lo,BL tm len hi with
   |some p,some q=>some (aaf P t b bq o ro len cap p q)
   |_,_=>none
  |_=>none
 | .convert s d x=>match cd tm x,jo P s,P.underlying d with
  | .w (.one (.sl b bq o ro len cap)),some e,some .string=>match P.underlying e with
   |some (.int .u8)=>some (aae bl b bq o ro len)
   |_=>none
  |_,_,_=>none
 | .call c=>match c.callee with
  | .builtin .len=>match c.args.toList,c.argTypes.toList with
   |[x],[t]=>match cd tm x,jo P t with
    | .w (.one (.sl b bq o ro len cap)),some _=>some (pure (.w (.one (.int .i64 ⟨len,0,9223372036854775807⟩))))
    |_,_=>none
   |_,_=>none
  | .builtin .min=>match c.args.toList with
   |[x,y]=>match cd tm x,cd tm y with
    | .w (.one (.int k p)),.w (.one (.int bA q))=>cond (decide (k=bA)) (some (aiO k p q)) none
    |_,_=>none
   |_=>none
  | .builtin .max=>match c.args.toList with
   |[x,y]=>match cd tm x,cd tm y with
    | .w (.one (.int k p)),.w (.one (.int bA q))=>cond (decide (k=bA)) (some (aiL k p q)) none
    |_,_=>none
   |_=>none
  |_=>none
 | .binOp op t x y _=>match jo P t,cd tm x,cd tm y with
  |some _,.w (.one (.sl b bq o ro len cap)),.w (.one (.con (.slice none 0 0)))=>match op with
   | .eql=>some (bind (FW 53 [cap,len]) λ_=>pure (.w (.one (.bool (.lt cap (.const 0))))))
   | .neq=>some (bind (FW 53 [cap,len]) λ_=>pure (.w (.one (.bool (.mkNot (.lt cap (.const 0)))))))
   |_=>none
  |_,_,_=>none
 |_=>none
def Ni (bl:List aG) (b off:Nat):Option (List aL×I×Nat):=
 match bl[b]? with
 |some ([.rows sh o code cap kind],_)=>match cap.ed with
  |some c=>cond (aK off 0&&dv 0 kind&&I.beq o (.const 0)&&decide (0<=c)) (some (sh,code,c.toNat)) none
  |none=>none
 |_=>none
noncomputable def Nf (code:I) (sh:List aL):Nat->Nat->M (List A)
 |_,0=>pure []
 |i,k+1=>bind (Oa code (.const i) 0 sh) λa=>bind (Nf code sh (i+1) k) λl=>pure (a++l)
def aag (P:bQ) (t:bh) (b bq:Nat) (o ro len cap:I) (x y z:I):M V:=
 match jo P t with
 |some e=>match e7 P e with
  |some s=>cond (aK s bq) (bind (cond (I.beq z len) (gh 78 [x,y,z,cap]) (gh 64 [x,y,z,len])) λ_=>bind (fa 33 [ro,x,z] 0 9223372036854775808) λr=>pure (.w (.one (.sl b bq o r (y.sub x) (z.sub x))))) fail
  |none=>fail
 |none=>fail
noncomputable def Q7 (P:bQ) (bl:List aG) (tm:List V) (o:Oper):Option (M V):=
 match o.op with
 | .indexAddr t x bd=>match cd tm x,cd tm bd with
  | .w (.one (.ptr b off)),.w (.one (.int _ i))=>match Ni bl b off,sZ P t with
   |some (sh,code,c),some (len,e)=>match e7 P e with
    |some s=>cond (aK s sh.length&&aK len c) (some (bind (gh 30 [i.l,.const len]) λ_=>pure (.w (.one (.ep b s (.const 0) i.l 0))))) none
    |none=>none
   |_,_=>none
  |_,_=>none
 | .load t x=>match cd tm x with
  | .w (.one (.ptr b off))=>match Ni bl b off,jL P t,e7 P t with
   |some (sh,code,c),some true,some k=>cond (aK k (c*sh.length)) (some (bind (gh 31 [code,.const c]) λ_=>bind (Nf code sh 0 c) λl=>pure (.w (.agg l)))) none
   |_,_,_=>none
  |_=>none
 | .slice t x lo (some hi) (some eS)=>match cd tm x with
  | .w (.one (.sl b bq cu ro len cap))=>match BL tm (.const 0) lo,rn (cd tm hi),rn (cd tm eS)with
   |some p,some q,some r=>some (aag P t b bq cu ro len cap p q r)
   |_,_,_=>none
  |_=>none
 | .call c=>match c.callee with
  | .builtin .len=>match c.args.toList,c.argTypes.toList with
   |[x],[t]=>match cd tm x,jo P t with
    | .w (.one (.con (.slice none 0 0))),some _=>some (pure (.w (.one (.int .i64 (.const 0)))))
    |_,_=>none
   |_,_=>none
  |_=>none
 |_=>none
noncomputable def Ok (cal:eW) (bl:List aG) (tm:List V) (o:Oper):Option (M V):=
 match o.op with
 | .call c=>match c.callee with
  | .value (.tmp x)=>match cd tm (.tmp x)with
   | .w (.one (.con (.func (.func f) OA OB)))=>cond (aK OA.size 0&&aK OB.size 0) ((cal f).map λg=>g bl (c.args.toList.map (cd tm))) none
   |_=>none
  |_=>none
 |_=>none
noncomputable def AW (P:bQ) (cal:eW) (gl:eI) (bl:List aG) (tm:List V) (o:Oper):M V:=
 match ZR P bl tm o with
 |some x=>x
 |none=>match Q7 P bl tm o with
  |some x=>x
  |none=>match Ok cal bl tm o with
   |some x=>x
   |none=>ZG P cal gl bl tm o
theorem mU.get {cells:Array aP} {off:Nat} {sh:List aL} {rows:List (List Int)} (h:mU cells off sh rows) {i j:Nat} {row:List Int} {v:aP} (hi:rows[i]?=some row) (aI:(dq sh row)[j]?=some v):cells[off+i*sh.length+j]?=some v:=by
 obtain⟨h1,pre,post,h2,h3⟩:=h
 have h4:=VN h1 hi aI
 rw[<-MG,h2,List.append_assoc,IS (by omega),xQ]
 ·rw[show off+i*sh.length+j-pre.length=i*sh.length+j by omega];exact h4
 ·have:=(List.getElem?_eq_some_iff.1 h4).1;omega
section
variable {S:Nat->List Int->List Int->Prop} {L:V->Env->Prop} {n:Nat} {ρ:Env} {m:Nat->Nat} {bl:List aG} {gl:eI} {w0:dX} {P:bQ} {tm:List V} {a:Act}
theorem aep {α:Type} {b:bw} {x y:M α} {R:Env->Nat->α->Prop} (h1:b.den ρ=true->az S L x n ρ R) (h2:b.den ρ=false->az S L y n ρ R):az S L (Nq b x y) n ρ R:=by
 intro A k ab
 unfold Nq at ab
 cases hb:b.den ρ with
 |true=>
  cases b with
  |lit v=>simp only[bw.den]at hb;subst hb;exact h1 rfl A k ab
  |_=>exact h1 hb A k (ab.1 hb)
 |false=>
  cases b with
  |lit v=>simp only[bw.den]at hb;subst hb;exact h2 rfl A k ab
  |_=>exact h2 hb A k (ab.2 hb)
theorem U7 {nb:Nat} {c:aL} {code i:I} {j:Nat} {z:Int} {row:List Int} (jz:(ah (code.den ρ))[(i.den ρ).toNat]?=some row) (hz:row[j]?=some z) (h1:c.fq.1<=z) (h2:z<=c.fq.2):
 az S L (N9 c code i j) n ρ λaa n' x=>x.ok n' nb aa/\x.den aa m=c.val z:=by
 have hf:bt 21 ([code,i,I.const (j:Nat)].map (·.den ρ))=z:=by
  simp only[cQ,e3,I.bg,bt,nY]
  simp[U,jz,hz]
 cases c with
 |int k lo hi=>
  refine(hI (by rw[hf];exact h1) (by rw[hf];exact h2)).bind λaJ aT l _ _ ⟨g1,g2⟩=>az.pure ⟨⟨g1,?_,?_⟩,?_⟩
  ·rw[g2,hf];exact h1
  ·rw[g2,hf];exact h2
  ·simp only[A.den,aL.val];rw[g2,hf]
 |str=>
  refine(hI (by rw[hf];exact h1) (by rw[hf];exact h2)).bind λaJ aT l _ _ ⟨g1,g2⟩=>az.pure ⟨⟨g1,?_,?_⟩,?_⟩
  ·rw[g2,hf];exact h1
  ·rw[g2,hf];exact h2
  ·simp only[A.den,aL.val];rw[g2,hf]
 |bool=>
  refine(hI (by rw[hf];exact h1) (by rw[hf];exact h2)).bind λaJ aT l _ _ ⟨g1,g2⟩=>az.pure ?_
  have bV:bM.ok aT aJ ⟨l,0,1⟩:=⟨g1,by simp only;rw[g2,hf];exact h1,by simp only;rw[g2,hf];exact h2⟩
  have e:=bw.u3 bV (bM.n9 aT aJ 1)
  refine⟨e.2,?_⟩
  simp only[A.den,aL.val]
  rw[e.1]
  simp only[bM.const,I.bg]
  rw[g2,hf]
theorem Va {nb:Nat} {sh:List aL} {row:List Int} (bV:cw sh row):∀{r:List aL} {n:Nat} {ρ:Env} {code i:I} {j:Nat},code.bD n->i.bD n->(ah (code.den ρ))[(i.den ρ).toNat]?=some row->(∀(x:Nat) (c:aL),r[x]?=some c->sh[j+x]?=some c)->
 az S L (Oa code i j r) n ρ λaa n' l=>(∀a∈l,A.ok n' nb aa a)/\l.length=r.length/\∀(x:Nat) (a:A),l[x]?=some a->(dq sh row)[j+x]?=some (a.den aa m)
 |[],n,ρ,code,i,j,_,_,_,_=>az.pure ⟨λ_ h=>by simp at h,rfl,λx a h=>by simp at h⟩
 |c::r,n,ρ,code,i,j,Ai,wZ,jz,hr=>by
  have h0:=hr 0 c rfl
  obtain⟨z,h1,h2,h3,h4⟩:=bV.get h0
  refine(U7 (nb:=nb) (m:=m) jz h1 h2 h3).bind λaJ aT y hn ha ⟨g1,g2⟩=>?_
  refine(Va (nb:=nb) (r:=r) (n:=aT) (ρ:=aJ) (code:=code) (i:=i) (j:=j+1) bV (Ai.mono hn) (wZ.mono hn) (by rw[I.bX ha Ai,I.bX ha wZ];exact jz) (λx c hx=>by
   have:=hr (x+1) c (by simpa using hx)
   rw[show j+1+x=j+(x+1) by omega];exact this)).bind λbR eF l eL dz ⟨k1,k2,k3⟩=>az.pure ⟨λb hb=>?_,by simp[k2],λx b hb=>?_⟩
  ·rcases List.mem_cons.1 hb with rfl|hb
   ·exact g1.ext dz eL (bL _)
   ·exact k1 b hb
  ·cases x with
   |zero=>
    simp only[uz,a7]at hb
    subst hb
    rw[A.lR g1 dz (λ_ _=>rfl),g2];exact h4
   |succ x=>
    have:=k3 x b (by simpa using hb)
    rw[show j+(x+1)=j+1+x by omega];exact this
theorem aj5 {nb:Nat} {c:aL} {code:I}:∀{q n:Nat} {ρ:Env} {i:I},(∀row∈ah (code.den ρ),cw [c] row)->code.bD n->i.bD n->
 az S L (ZQ c code q i) n ρ λaa n' l=>(∀a∈l,A.ok n' nb aa a)/\l.length=q/\∀(x:Nat) (a:A),l[x]?=some a->∃row,(ah (code.den ρ))[(i.den ρ).toNat+x]?=some row/\(dq [c] row)[0]?=some (a.den aa m)
 |0,n,ρ,i,_,_,_=>az.pure ⟨λ_ h=>by simp at h,rfl,λx a h=>by simp at h⟩
 |q+1,n,ρ,i,j8,Ai,wZ=>by
  refine iM λab=>?_
  simp only[cQ,e3,au]at ab
  have hlt:(i.den ρ).toNat<(ah (code.den ρ)).length:=by omega
  have jz:(ah (code.den ρ))[(i.den ρ).toNat]?=some (ah (code.den ρ))[(i.den ρ).toNat]:=nq hlt
  have bV:=j8 _ (FD hlt)
  generalize (ah (code.den ρ))[(i.den ρ).toNat]=row at jz bV
  obtain⟨z,h1,h2,h3,h4⟩:=bV.get (show([c]:List aL)[0]?=some c from rfl)
  refine(U7 (nb:=nb) (m:=m) jz h1 h2 h3).bind λaJ aT y hn ha ⟨g1,g2⟩=>?_
  have jJ:=I.bX ha Ai
  have hid:=I.bX ha wZ
  refine(aj5 (nb:=nb) (q:=q) (n:=aT) (ρ:=aJ) (i:=i.add (.const 1)) (by rw[jJ];exact j8) (Ai.mono hn) (I.vG (wZ.mono hn) (I.c5 _ _))).bind λbR eF l eL dz ⟨k1,k2,k3⟩=>az.pure ⟨λb hb=>?_,by simp[k2],λx b hb=>?_⟩
  ·rcases List.mem_cons.1 hb with rfl|hb
   ·exact g1.ext dz eL (bL _)
   ·exact k1 b hb
  ·cases x with
   |zero=>
    simp only[uz,a7]at hb
    subst hb
    exact⟨row,by simpa using jz,by rw[A.lR g1 dz (λ_ _=>rfl),g2];exact h4⟩
   |succ x=>
    obtain⟨Fk,r1,r2⟩:=k3 x b (by simpa using hb)
    rw[jJ,I.den_add,I.bg,hid]at r1
    exact⟨Fk,by rw[<-r1];congr 1;omega,r2⟩
theorem apG (hb:cM n bl.length ρ bl) (hex:∃w,Mem w0 ρ m bl w) (t:bh) {b bq:Nat} {o i:I} {j:Nat} (hx:(A.ep b bq o i j).ok n bl.length ρ):
 az S L (VE P bl t b bq o i j) n ρ (mT w0 m bl n ρ λw=>(nr t ((A.ep b bq o i j).den ρ m)).run P w):=by
 obtain⟨zd,vj⟩:=hex
 unfold VE
 split
 ·rename_i sh off code cap kind t' aQ
  refine dY λhc=>iM λab=>?_
  simp only[bo]at hc
  obtain⟨⟨c1,bH⟩,cp⟩:=hc
  have c1:0<kind:=e8 c1
  have bH:=bO bH
  have cp:=I.beq_eq cp
  subst cp
  have EB:(A.rows sh o code cap kind).ok n bl.length ρ:=hb _ (eD aQ) _ (by simp)
  simp only[cQ,e3,au]at ab
  have hlt:(i.den ρ).toNat<(ah (code.den ρ)).length:=by omega
  have jz:(ah (code.den ρ))[(i.den ρ).toNat]?=some (ah (code.den ρ))[(i.den ρ).toNat]:=nq hlt
  generalize (ah (code.den ρ))[(i.den ρ).toNat]=row at jz
  have cZ:0<=cap.den ρ:=by
   rcases kI (cap.den ρ) 0 with h|h
   ·have:=(vj.rws b sh o code cap kind t' aQ (by omega)).1 h
    rw[this]at hlt;simp at hlt
   ·exact h
  have kQ:∀w,Mem w0 ρ m bl w->cw sh row/\∀(x:Nat) (v:aP),(dq sh row)[x]?=some v->w.cell? ⟨m b,(o.den ρ).toNat+(i.den ρ).toNat*bq+x,none⟩=some v:=λw hw=>by
   obtain⟨_,cells,km,fz,g1,⟨g2,g3⟩,_⟩:=(hw.rws b sh o code cap kind t' aQ (by omega)).2 cZ
   refine⟨g3.1 _ (eD jz),λx v hv=>?_⟩
   have:=g3.get jz hv
   simp only[lH,g1,uD,uv,if_false]
   rw[bH];exact this
  have j8:=(kQ zd vj).1
  cases oW:jL P t with
  |none=>exact az.fail
  |some anA=>
   cases anA with
   |true=>
    cases hs:e7 P t with
    |none=>exact az.fail
    |some k=>
     simp only
     cases oY:cx (j+k) sh.length with
     |false=>
      simp only[cond_false]
      split
      ·rename_i c _
       have iE:∀row∈ah (code.den ρ),cw [c] row:=by
        obtain⟨_,cells,km,fz,g1,⟨g2,g3⟩,_⟩:=(vj.rws b [c] o code cap kind t' aQ (by omega)).2 cZ
        exact g3.1
       refine(aj5 (nb:=bl.length) (m:=m) (q:=k) (i:=i) iE EB.1.2.1 hx.2.1.2).bind λaJ aT l hn ha ⟨g1,g2,g3⟩=>az.pure ⟨g1,_,rfl,λw hw=>?_⟩
       have hl:=My (P:=P) w ⟨m b,(o.den ρ).toNat+(i.den ρ).toNat*bq+0,none⟩ (l.map (A.den aJ m)) λx v aI=>by
        rw[jG]
        rw[pw]at aI
        cases aj:l[x]? with
        |none=>simp[aj]at aI
        |some y=>
         simp only[aj,xP,a7]at aI
         subst aI
         obtain⟨Fk,r1,r2⟩:=g3 x y aj
         obtain⟨_,cells,km,fz,aw,⟨aF,cb⟩,_⟩:=(hw.rws b [c] o code cap kind t' aQ (by omega)).2 cZ
         have:=cb.get r1 r2
         simp only[lH,aw,uD,uv,if_false]
         simp only[jd,n0]at bH this
         rw[bH]
         rw[<-this];congr 1;omega
       simp only[l6,g2,mM]at hl
       simp[nr,mO,A.den,loadVar,qQ oW,jn hs,hl,W.den]
      ·exact az.fail
     |true=>
     simp only[cond_true]
     have oY:=e8 oY
     refine(Va (nb:=bl.length) (m:=m) (r:=(sh.drop j).take k) j8 EB.1.2.1 hx.2.1.2 jz (λx c KV=>by
      rw[qY]at KV
      split at KV
      ·rw[Bo]at KV;exact KV
      ·cases KV)).bind λaJ aT l hn ha ⟨g1,g2,g3⟩=>az.pure ⟨g1,_,rfl,λw hw=>?_⟩
     have hl:=My (P:=P) w ⟨m b,(o.den ρ).toNat+(i.den ρ).toNat*bq+j,none⟩ (l.map (A.den aJ m)) λx v aI=>by
      rw[jG]
      rw[pw]at aI
      cases aj:l[x]? with
      |none=>simp[aj]at aI
      |some y=>
       simp only[aj,xP,a7]at aI
       subst aI
       rw[Db]
       exact(kQ w hw).2 (j+x) _ (g3 x y aj)
     simp only[l6,g2,px,List.length_drop,Dc (show k<=sh.length-j by omega)]at hl
     simp[nr,mO,A.den,loadVar,qQ oW,jn hs,hl,W.den]
   |false=>
    cases hc:sh[j]? with
    |none=>simp only;exact az.fail
    |some c=>
     simp only
     obtain⟨z,h1,h2,h3,h4⟩:=j8.get hc
     refine(U7 (nb:=bl.length) (m:=m) jz h1 h2 h3).bind λaJ aT y hn ha ⟨g1,g2⟩=>az.pure ⟨g1,_,rfl,λw hw=>?_⟩
     have:=(kQ w hw).2 j _ h4
     have W9:(A.ep b bq o i j).den ρ m= .pointer (some ⟨m b,(o.den ρ).toNat+(i.den ρ).toNat*bq+j,none⟩):=rfl
     simp[nr,mO,W9,loadVar,qQ oW,this,W.den,g2]
 ·exact az.fail
theorem uj {b bq:Nat} {o ro len cap:I} (hx:(A.sl b bq o ro len cap).ok n bl.length ρ):∃p,(A.sl b bq o ro len cap).den ρ m= .slice p (len.den ρ).toNat (if cap.den ρ<0 then 0 else(cap.den ρ).toNat)/\(cap.den ρ<0->p=none)/\(0<=cap.den ρ->p=some ⟨m b,(o.den ρ).toNat+(ro.den ρ).toNat*bq,none⟩):=by
 obtain⟨_,_,_,_,h3,_⟩:=hx
 simp only[A.den]
 by_cases hc:cap.den ρ<0
 ·rw[if_pos hc,if_pos hc,h3 hc]
  exact⟨none,rfl,λ_=>rfl,λh=>by omega⟩
 ·rw[if_neg hc,if_neg hc]
  exact⟨_,rfl,λh=>absurd h hc,λ_=>rfl⟩
theorem aAQ {t:bh} {b bq:Nat} {o ro len cap bd:I} {k:du} (hx:(A.sl b bq o ro len cap).ok n bl.length ρ) (hi:bd.bD n):
 az S L (aad P t b bq o ro len bd) n ρ (mT w0 m bl n ρ λw=>(uB t ((A.sl b bq o ro len cap).den ρ m) (.int k (bd.den ρ))).run P w):=by
 unfold aad
 cases h1:jo P t with
 |none=>exact az.fail
 |some e=>
  cases h2:e7 P e with
  |none=>simp only[h2];exact az.fail
  |some s=>
   simp only[h2]
   refine dY λhs=>iM λab=>az.pure ?_
   have hs:=bO hs
   subst hs
   simp only[cQ,e3,au]at ab
   obtain⟨ai,⟨af,ar,cN,ia⟩,⟨iR,k9,la,lb⟩,lD,gC,iQ⟩:=hx
   have cZ:¬(cap.den ρ<0):=λh=>by have:=gC h;omega
   refine⟨⟨ai,⟨af,I.vG ar hi⟩,iR,by rw[I.den_add];omega⟩,_,rfl,λw _=>?_⟩
   have bH:bd.den ρ<((len.den ρ).toNat:Int):=by omega
   have aw:(ro.den ρ+bd.den ρ).toNat=(ro.den ρ).toNat+(bd.den ρ).toNat:=by omega
   simp only[A.den,if_neg cZ,W.den,I.den_add,aw]
   simp[-aEK,uB,asIntOf,eU (h8 h1),ab.1,bH,jn h2,jG,xW,Db]
theorem UT {d:I} {y:Option oM} {l:I} (h:BL tm d y=some l) (aA:ef n bl.length ρ m tm a.tmps):(y=none/\l=d)∨∃k,y.map a.eval=some (.int k (l.den ρ))/\l.bD n:=by
 cases y with
 |none=>exact .inl ⟨rfl,by simpa [BL]using h.symm⟩
 |some x=>
  obtain⟨k,ab,h2⟩:=EJ (m:=m) (bl:=bl) h (cy aA x).2 (cy aA x).1
  exact .inr ⟨k,by rw[<-ab];rfl,h2⟩
theorem Nj {op:Nat} {ls:List I} (h:au op (ls.map (·.den ρ))):az S L (FW op ls) n ρ λaa n' _=>aa=ρ/\n'=n:=λA k ab=>⟨ρ,n,(),bL _,agree.refl _ _,⟨rfl,rfl⟩,ab h⟩
theorem aAT {t:bh} {b bq:Nat} {o ro len cap p q:I} {lo hi:Option oM} (hx:(A.sl b bq o ro len cap).ok n bl.length ρ) (aA:ef n bl.length ρ m tm a.tmps) (hp:BL tm (.const 0) lo=some p) (aj:BL tm len hi=some q):
 az S L (aaf P t b bq o ro len cap p q) n ρ (mT w0 m bl n ρ λw=>(rH t ((A.sl b bq o ro len cap).den ρ m) (lo.map a.eval) (hi.map a.eval) none).run P w):=by
 unfold aaf
 cases h1:jo P t with
 |none=>exact az.fail
 |some e=>
  cases h2:e7 P e with
  |none=>simp only[h2];exact az.fail
  |some s=>
   simp only[h2]
   refine dY λhs=>iM λab=>?_
   have hs:=bO hs
   subst hs
   simp only[cQ,e3,au]at ab
   obtain⟨k1,k2,k3⟩:=ab
   have mo:=hx
   obtain⟨ai,⟨af,ar,cN,ia⟩,⟨iR,k9,la,lb⟩,⟨lD,k8⟩,gC,iQ⟩:=hx
   have tr:=UT hp aA
   have Pm:=UT aj aA
   have Fo:p.bD n:=by rcases tr with⟨_,rfl⟩|⟨_,_,h⟩;exact I.c5 _ _;exact h
   have Ib:q.bD n:=by rcases Pm with⟨_,rfl⟩|⟨_,_,h⟩;exact cN;exact h
   obtain⟨ptr,aw,aF,cb⟩:=uj (m:=m) mo
   have ra:∀w,(mP true (len.den ρ).toNat (if cap.den ρ<0 then 0 else(cap.den ρ).toNat) (lo.map a.eval) (hi.map a.eval) none).run P w= .ok ((p.den ρ).toNat,(q.den ρ).toNat,(if cap.den ρ<0 then 0 else(cap.den ρ).toNat)) w:=λw=>by
    have hle:(len.den ρ)<=((if cap.den ρ<0 then 0 else(cap.den ρ).toNat:Nat):Int):=by
     split
     ·rename_i h;rw[gC h];simp
     ·rename_i h;have:=iQ (by omega);omega
    generalize (if cap.den ρ<0 then 0 else(cap.den ρ).toNat)=C at hle
    rcases tr with⟨rfl,rfl⟩|⟨avd,Cx,_⟩<;>rcases Pm with⟨rfl,rfl⟩|⟨ave,wV,_⟩
    ·simp[mP,I.bg]
    ·rw[wV];simp[mP,I.bg,uk (P:=P) (by omega:0<=q.den ρ) (by omega:q.den ρ<=(C:Int))]
    ·rw[Cx];simp[mP,uk (P:=P) (y:=(q.den ρ).toNat) k1 (by omega)]
    ·rw[Cx,wV];simp[mP,uk (P:=P) (by omega:0<=q.den ρ) (by omega:q.den ρ<=(C:Int)),uk (P:=P) (y:=(q.den ρ).toNat) k1 (by omega)]
   have ir:∀(w:aE) (r:Int),r=(if p.den ρ=cap.den ρ then ro.den ρ else ro.den ρ+p.den ρ)->
    (rH t ((A.sl b s o ro len cap).den ρ m) (lo.map a.eval) (hi.map a.eval) none).run P w= .ok (if cap.den ρ-p.den ρ<0 then .slice none 0 0 else .slice (some ⟨m b,(o.den ρ).toNat+r.toNat*s,none⟩) (q.den ρ-p.den ρ).toNat (cap.den ρ-p.den ρ).toNat) w:=λw r hr=>by
    rw[aw]
    have gX:(q.den ρ).toNat-(p.den ρ).toNat=(q.den ρ-p.den ρ).toNat:=by omega
    simp only[rH,ic,eU (h8 h1),iz,abD,ra w,jn h2,js,gX]
    by_cases hc:cap.den ρ<0
    ·have hl:=gC hc
     have Ph:p.den ρ=0:=by omega
     rw[if_pos hc,aF hc,if_pos (by omega)]
     have:q.den ρ=0:=by omega
     simp[Ph,this,hc]
    ·rw[if_neg hc,cb (by omega)]
     have hX:=iQ (by omega)
     have Cs:¬(cap.den ρ-p.den ρ<0):=by omega
     rw[if_neg Cs]
     have fD:(cap.den ρ).toNat-(p.den ρ).toNat=(cap.den ρ-p.den ρ).toNat:=by omega
     rw[fD]
     by_cases KG:p.den ρ=cap.den ρ
     ·rw[if_pos KG]at hr
      have h7:(cap.den ρ).toNat=(p.den ρ).toNat:=by omega
      rw[if_pos h7,hr]
     ·rw[if_neg KG]at hr
      have h7:¬(cap.den ρ).toNat=(p.den ρ).toNat:=by omega
      rw[if_neg h7,hr]
      have td:(ro.den ρ+p.den ρ).toNat=(ro.den ρ).toNat+(p.den ρ).toNat:=by omega
      rw[td,xW,<-Db]
      simp[jG]
   split
   ·rename_i h0
    have Ph:=I.jI h0 (ρ:=ρ)
    refine az.pure ⟨⟨ai,⟨af,ar,Ib,ia⟩,⟨iR,k9,by omega,by omega⟩,⟨lD,k8⟩,λh=>?_,λh=>?_⟩,_,rfl,λw _=>?_⟩
    ·have:=gC h;omega
    ·have:=iQ h;omega
    ·have hr:=ir w (ro.den ρ) (by rw[Ph];split<;>omega)
     rw[Ph]at hr
     simp only[Int.sub_zero]at hr
     simp only[W.den,A.den]at hr⊢
     exact hr
   ·have nF:(0:Int)<=bt 33 ([ro,p,cap].map (·.den ρ)):=by
     simp only[cQ,e3,bt];split<;>omega
    have og:bt 33 ([ro,p,cap].map (·.den ρ))<=9223372036854775808:=by
     simp only[cQ,e3,bt]
     by_cases hc:cap.den ρ<0
     ·have:=gC hc;split<;>omega
     ·have:=iQ (by omega);split<;>omega
    refine(Nj (op:=68) (ls:=[len,cap]) (show len.den ρ<=cap.den ρ∨len.den ρ=0 from by
     by_cases hc:cap.den ρ<0
     ·exact .inr (gC hc)
     ·exact .inl (iQ (by omega)))).bind λck iH _ _ _ ⟨EF,rh⟩=>?_
    have EF:=EF.symm;have rh:=rh.symm
    subst EF;subst rh
    refine(hI nF og).bind λaJ aT r hn ha ⟨g1,g2⟩=>az.pure ?_
    simp only[cQ,e3,bt]at g2
    have bZ:=I.bX ha af;have a2:=I.bX ha Ib;have a3:=I.bX ha Fo;have a4:=I.bX ha ia
    refine⟨⟨ai,⟨af.mono hn,g1,I.uh (Ib.mono hn) (Fo.mono hn),I.uh (ia.mono hn) (Fo.mono hn)⟩,?_⟩,_,rfl,λw _=>?_⟩
    ·rw[I.kf,I.kf,bZ,a2,a3,a4,g2]
     refine⟨⟨iR,?_,by omega,by omega⟩,⟨?_,?_⟩,λh=>?_,λh=>?_⟩
     ·split<;>omega
     ·by_cases hc:cap.den ρ<0
      ·have:=gC hc;omega
      ·have:=iQ (by omega);omega
     ·split<;>omega
     ·by_cases hc:cap.den ρ<0
      ·have:=gC hc;omega
      ·have:=iQ (by omega);omega
     ·by_cases hc:cap.den ρ<0
      ·have:=gC hc;omega
      ·have:=iQ (by omega);omega
    ·refine(ir w (r.den aJ) g2).trans ?_
     simp only[W.den,A.den,I.kf,bZ,a2,a3,a4]
theorem aAR (hb:cM n bl.length ρ bl) (hex:∃w,Mem w0 ρ m bl w) {src dst e:bh} (hs:P.underlying src=some (.slice e)) (he:P.underlying e=some (.int .u8)) (hd:P.underlying dst=some .string) {b bq:Nat} {o ro len cap:I} (hx:(A.sl b bq o ro len cap).ok n bl.length ρ):
 az S L (aae bl b bq o ro len) n ρ (mT w0 m bl n ρ λw=>(convert src dst ((A.sl b bq o ro len cap).den ρ m)).run P w):=by
 obtain⟨zd,vj⟩:=hex
 unfold aae
 split
 ·rename_i sh off code jw kind t' aQ
  refine dY λhc=>iM λab=>?_
  simp only[bo]at hc
  obtain⟨⟨⟨c1,bH⟩,cp⟩,cR⟩:=hc
  have c1:0<kind:=e8 c1
  have bH:=bO bH
  have cp:=I.beq_eq cp
  subst cp;subst bH
  simp only[cQ,e3,au,I.den_add]at ab
  obtain⟨ptr,aw,aF,cb⟩:=uj (m:=m) hx
  obtain⟨ai,⟨af,ar,cN,ia⟩,⟨iR,k9,la,lb⟩,⟨lD,k8⟩,gC,iQ⟩:=hx
  generalize hR:ah (code.den ρ)=rows at ab
  have oZ:jw.den ρ<0->rows=[]:=λh=>by rw[<-hR];exact(vj.rws b sh o code jw kind t' aQ (by omega)).1 h
  have fv:(((rows.drop (ro.den ρ).toNat).take (len.den ρ).toNat).map λrow=>row.getD 0 0).length=(len.den ρ).toNat:=by
   simp;omega
  have hf:bt 34 ([code,ro,ro.add len].map (·.den ρ))=jv ((((rows.drop (ro.den ρ).toNat).take (len.den ρ).toNat).map λrow=>row.getD 0 0).map λz=>xO z.toNat):=by
   simp only[cQ,e3,bt,I.den_add,hR]
   have:(ro.den ρ+len.den ρ).toNat-(ro.den ρ).toNat=(len.den ρ).toNat:=by omega
   rw[this,nk];rfl
  generalize bT:(((rows.drop (ro.den ρ).toNat).take (len.den ρ).toNat).map λrow=>row.getD 0 0)=xs at fv hf
  have hl:(xs.map λz=>xO z.toNat).length<=kW:=by
   have:(xs.map λz=>xO z.toNat).length=(len.den ρ).toNat:=by simp[fv]
   unfold kW;omega
  refine(hI (by rw[hf];exact wD _) (by rw[hf];exact uI hl)).bind λaJ aT l _ _ ⟨g1,g2⟩=>az.pure ⟨⟨g1,by rw[g2,hf];exact wD _,by rw[g2,hf];exact uI hl⟩,_,rfl,λw hw=>?_⟩
  have ot:(W.one (A.str l)).den aJ m= .string (strOfNums xs):=by
   simp only[W.den,A.den,g2,hf,y4]
   rfl
  rw[ot]
  show(convert src dst ((A.sl b 1 o ro len cap).den ρ m)).run P w=_
  rw[aw]
  by_cases cZ:cap.den ρ<0
  ·have m1:=gC cZ
   rw[aF cZ,if_pos cZ]
   have ahq:xs=[]:=xX (by rw[fv,m1];rfl)
   rw[ahq,run_convert_bytes_nil w src e hs he _ _ dst hd]
   rfl
  ·rw[cb (by omega),if_neg cZ]
   by_cases Ki:jw.den ρ<0
   ·have iq:=oZ Ki
    have m1:len.den ρ=0:=by rw[iq]at ab;simp at ab;omega
    have ahq:xs=[]:=xX (by rw[fv,m1];rfl)
    exact run_convert_bytes_arg w src e hs he (m b) _ _ _ xs fv (λi hi=>by rw[m1]at hi;simp at hi) dst hd
   ·obtain⟨_,cells,km,fz,k1,⟨k2,k3⟩,_⟩:=(hw.rws b sh o code jw kind t' aQ (by omega)).2 (by omega)
    refine run_convert_bytes_arg w src e hs he (m b) _ _ _ xs fv (λi hi=>?_) dst hd
    have hlt:(ro.den ρ).toNat+i<rows.length:=by omega
    have jz:(ah (code.den ρ))[(ro.den ρ).toNat+i]?=some rows[(ro.den ρ).toNat+i]:=by rw[hR];exact nq hlt
    have kh:∃lo hi,sh=[.int .u8 lo hi]:=by
     unfold Nt at cR
     split at cR
     ·exact⟨_,_,rfl⟩
     ·cases cR
    obtain⟨lo,dJ,rfl⟩:=kh
    have EB:=k3.1 _ (eD jz)
    obtain⟨z,bb,_,_,dK⟩:=EB.get (j:=0) (c:= .int .u8 lo dJ) rfl
    have:=k3.get jz dK
    have hz:xs.getD i 0=z:=by
     rw[<-bT]
     have:i<(len.den ρ).toNat:=hi
     simp[U,qY,this,hlt,bb]
    simp only[lH,k1,uD,uv,if_false,hz]
    simp only[jd,n0,mM,uC,zw]at this
    rw[show(o.den ρ).toNat+(ro.den ρ).toNat*1+i=(o.den ρ).toNat+((ro.den ρ).toNat+i) by omega]
    exact this
 ·exact az.fail
theorem avX {k:du} {x y:bM} {t:bh} {ts:Array bh} (hx:x.ok n ρ) (hy:y.ok n ρ):az S L (aiO k x y) n ρ (mT w0 m bl n ρ λw=>(abK ts t #[.int k (x.l.den ρ),.int k (y.l.den ρ)]).run P w):=by
 have e:=bw.Oj hy hx
 have hr:∀w,(abK ts t #[.int k (x.l.den ρ),.int k (y.l.den ρ)]).run P w= .ok (.int k (if y.l.den ρ<x.l.den ρ then y.l.den ρ else x.l.den ρ)) w:=λw=>by
  simp[abK,Builtin.min2]
 refine aep (λhb=>az.pure ⟨hy,_,rfl,λw _=>?_⟩) λhb=>az.pure ⟨hx,_,rfl,λw _=>?_⟩
 ·rw[e.1]at hb
  simp only[hr,if_pos (of_decide_eq_true hb)];rfl
 ·rw[e.1]at hb
  simp only[hr,if_neg (of_decide_eq_false hb)];rfl
theorem avW {k:du} {x y:bM} {t:bh} {ts:Array bh} (hx:x.ok n ρ) (hy:y.ok n ρ):az S L (aiL k x y) n ρ (mT w0 m bl n ρ λw=>(abL ts t #[.int k (x.l.den ρ),.int k (y.l.den ρ)]).run P w):=by
 have e:=bw.Oj hx hy
 have hr:∀w,(abL ts t #[.int k (x.l.den ρ),.int k (y.l.den ρ)]).run P w= .ok (.int k (if x.l.den ρ<y.l.den ρ then y.l.den ρ else x.l.den ρ)) w:=λw=>by
  simp[abL,Builtin.max2]
 refine aep (λhb=>az.pure ⟨hy,_,rfl,λw _=>?_⟩) λhb=>az.pure ⟨hx,_,rfl,λw _=>?_⟩
 ·rw[e.1]at hb
  simp only[hr,if_pos (of_decide_eq_true hb)];rfl
 ·rw[e.1]at hb
  simp only[hr,if_neg (of_decide_eq_false hb)];rfl
theorem aen:∀{cs:List A} {l:List Bool},oR cs=some l->cs=l.map λb=>A.bool (.lit b)
 |[],l,h=>by simp[oR]at h;subst h;rfl
 | .bool (.lit b)::r,l,h=>by
  simp only[oR]at h
  cases hr:oR r with
  |none=>simp[hr]at h
  |some l'=>
   simp only[hr,a7]at h
   subst h
   simp[aen hr]
 | .bool (.eq ..)::_,_,h| .bool (.lt ..)::_,_,h| .bool (.le ..)::_,_,h| .bool (.not ..)::_,_,h| .bool (.and ..)::_,_,h| .bool (.iff ..)::_,_,h=>by simp[oR]at h
 | .int .. ::_,_,h=>by simp[oR]at h
 | .ptr .. ::_,_,h=>by simp[oR]at h
 | .oD .. ::_,_,h=>by simp[oR]at h
 | .gptr .. ::_,_,h=>by simp[oR]at h
 | .slc .. ::_,_,h=>by simp[oR]at h
 | .con _::_,_,h=>by simp[oR]at h
 | .str _::_,_,h=>by simp[oR]at h
 | .rows .. ::_,_,h=>by simp[oR]at h
 | .sl .. ::_,_,h=>by simp[oR]at h
 | .ep .. ::_,_,h=>by simp[oR]at h
theorem ahC:∀(l:List Bool) (s:Nat),s+l.length<=256->∀i:Nat,i<256->(xO i∈An s l↔s<=i/\l[i-s]?=some true)
 |[],s,_,i,_=>by simp[An]
 |b::r,s,h,i,hi=>by
  simp only[jd]at h
  have ih:=ahC r (s+1) (by omega) i hi
  have cW:s≠i->xO i≠xO s:=λcW he=>by
   have:=congrArg UInt8.toNat he
   simp at this;omega
  have key:(s+1<=i/\r[i-(s+1)]?=some true)↔(s<i/\(b::r)[i-s]?=some true):=by
   constructor
   ·rintro⟨h1,h2⟩
    refine⟨h1,?_⟩
    rw[show i-s=(i-(s+1))+1 by omega];simpa using h2
   ·rintro⟨h1,h2⟩
    refine⟨h1,?_⟩
    rw[show i-s=(i-(s+1))+1 by omega]at h2;simpa using h2
  unfold An
  cases b with
  |true=>
   simp only[cond_true,mL,ih,key]
   by_cases he:s=i
   ·subst he;simp
   ·constructor
    ·rintro(h1|h1)
     ·exact absurd h1 (cW he)
     ·exact⟨by omega,h1.2⟩
    ·rintro⟨h1,h2⟩;exact .inr ⟨by omega,h2⟩
  |false=>
   simp only[cond_false,ih,key]
   by_cases he:s=i
   ·subst he;simp
   ·constructor
    ·rintro⟨h1,h2⟩;exact⟨by omega,h2⟩
    ·rintro⟨h1,h2⟩;exact⟨by omega,h2⟩
theorem aAF (hb:cM n bl.length ρ bl) {ty:bh} (hu:P.underlying ty=some .bool) (b off:Nat) {bd:bM} (Ky:bd.ok n ρ):az S L (Z6 bl b off bd) n ρ (mT w0 m bl n ρ λw=>(nr ty ((A.oD b off bd).den ρ m)).run P w):=by
 unfold Z6
 cases aQ:bl[b]? with
 |none=>exact az.fail
 |some q=>
  obtain⟨cs,t⟩:=q
  simp only
  cases hi:oR ((cs.drop off).take (bd.hi.toNat+1))with
  |none=>exact az.fail
  |some l=>
   refine dY λhc=>?_
   simp only[bo,decide_eq_true_eq]at hc
   obtain⟨⟨⟨gL,hc2⟩,agz⟩,aj⟩:=hc
   have hlen:=bO gL
   have aHV:=e8 hc2
   have e:=aen hi
   have zN:=Ky.2
   have hlt:(bd.l.den ρ).toNat<l.length:=by omega
   have lU:jv (An 0 l)=(I.const (jv (An 0 l))).den ρ:=(I.bg _ _).symm
   have hf:bt 43 ([I.const (jv (An 0 l)),bd.l].map (·.den ρ))=if l[(bd.l.den ρ).toNat]=true then 1 else 0:=by
    simp only[cQ,e3,bt,I.bg,y4]
    have:=ahC l 0 (by omega) (bd.l.den ρ).toNat (by omega)
    simp only[Nat.sub_zero,IP,true_and,nq hlt,a7]at this
    simp only[this]
   have b3:=Jm (l[(bd.l.den ρ).toNat]=true)
   refine(hI (by rw[hf];exact b3.1) (by rw[hf];exact b3.2)).bind λaJ aT r hn ha ⟨g1,g2⟩=>?_
   rw[hf]at g2
   have aF:=bw.u3 (n:=aT) (ρ:=aJ) (a:=⟨r,0,1⟩) (b:= .const 1) ⟨g1,by simp only[g2];exact b3.1,by simp only[g2];exact b3.2⟩ (bM.n9 _ _ _)
   refine az.pure ⟨aF.2,_,rfl,λw hw=>?_⟩
   obtain⟨_,_,H7,_,h2⟩:=hw.fe b cs t aQ aj
   have c0:cs[off+(bd.l.den ρ).toNat]?=some (.bool (.lit l[(bd.l.den ρ).toNat])):=by
    have h1:((cs.drop off).take (bd.hi.toNat+1))[(bd.l.den ρ).toNat]?=some (.bool (.lit l[(bd.l.den ρ).toNat])):=by rw[e];simp[hlt]
    rw[qY]at h1
    split at h1
    ·rw[Bo]at h1;exact h1
    ·cases h1
   have ash:=(List.getElem?_eq_some_iff.1 c0).1
   have hcell:w.cell? ⟨m b,off+(bd.l.den ρ).toNat,none⟩=some (.bool l[(bd.l.den ρ).toNat]):=by
    simp only[lH,h2,uD,uv,if_false,MD]
    rw[xQ (by simpa using ash),pw,c0];rfl
   have oW:jL P ty=some false:=by unfold jL;rw[hu]
   have W9:(A.oD b off bd).den ρ m= .pointer (some ⟨m b,off+(bd.l.den ρ).toNat,none⟩):=rfl
   simp only[W.den,A.den]
   rw[aF.1]
   simp only[g2,bM.const,I.bg]
   have ar9:decide ((if l[(bd.l.den ρ).toNat]=true then(1:Int)else 0)=1)=l[(bd.l.den ρ).toNat]:=by
    cases l[(bd.l.den ρ).toNat]<;>rfl
   rw[ar9]
   have ath:=W9
   simp only[A.den]at ath
   simp[nr,mO,loadVar,qQ oW,hcell]
theorem az2 (w:aE) {t e:bh} (hu:P.underlying t=some (.slice e)) (p:Option Addr) (l c:Nat):(binOp .eql t (.slice p l c) (.slice none 0 0)).run P w= .ok (.bool p.isNone) w:=by
 have h:binOp .eql t (.slice p l c) (.slice none 0 0)=(do pure (.bool (<-Op.equal t (.slice p l c) (.slice none 0 0)))):=rfl
 rw[h]
 simp only[ic,run_equal_slice_nil w t e p l c hu,iz,js]
theorem az4 (w:aE) {t e:bh} (hu:P.underlying t=some (.slice e)) (p:Option Addr) (l c:Nat):(binOp .neq t (.slice p l c) (.slice none 0 0)).run P w= .ok (.bool !p.isNone) w:=by
 have h:binOp .neq t (.slice p l c) (.slice none 0 0)=(do pure (.bool (!(<-Op.equal t (.slice p l c) (.slice none 0 0))))):=rfl
 rw[h]
 simp only[ic,run_equal_slice_nil w t e p l c hu,iz,js]
theorem adn {b off:Nat} {sh:List aL} {code:I} {c:Nat} (h:Ni bl b off=some (sh,code,c)):off=0/\∃cap kind t,bl[b]?=some ([.rows sh (.const 0) code cap kind],t)/\0<kind/\∀ρ,cap.den ρ=(c:Int):=by
 unfold Ni at h
 split at h
 ·rename_i fh o code' cap kind t aQ
  split at h
  ·rename_i q aj
   cases hc:(aK off 0&&dv 0 kind&&I.beq o (.const 0)&&decide (0<=q))with
   |false=>rw[hc]at h;cases h
   |true=>
    rw[hc]at h
    simp only[cond_true,a7,ek]at h
    obtain⟨rfl,rfl,rfl⟩:=h
    simp only[bo,decide_eq_true_eq]at hc
    obtain⟨⟨⟨c1,bH⟩,cp⟩,cR⟩:=hc
    have cp:=I.beq_eq cp
    subst cp
    exact⟨bO c1,cap,kind,t,aQ,e8 bH,λρ=>by rw[I.jI aj];omega⟩
  ·cases h
 ·cases h
theorem adj {nb:Nat} {sh:List aL}:∀{k i:Nat} {n:Nat} {ρ:Env} {code:I},code.bD n->(∀row∈ah (code.den ρ),cw sh row)->(ah (code.den ρ)).length=i+k->
 az S L (Nf code sh i k) n ρ λaa n' l=>(∀a∈l,A.ok n' nb aa a)/\l.length=k*sh.length/\∀(x:Nat) (a:A),l[x]?=some a->(b2 sh (ah (code.den ρ)))[i*sh.length+x]?=some (a.den aa m)
 |0,i,n,ρ,code,_,_,_=>az.pure ⟨λ_ h=>by simp at h,by simp,λx a h=>by simp at h⟩
 |k+1,i,n,ρ,code,hs,j8,hl=>by
  unfold Nf
  have hlt:i<(ah (code.den ρ)).length:=by omega
  have jz:(ah (code.den ρ))[i]?=some (ah (code.den ρ))[i]:=nq hlt
  generalize (ah (code.den ρ))[i]=row at jz
  refine(Va (nb:=nb) (m:=m) (r:=sh) (j:=0) (i:= .const (i:Nat)) (code:=code) (j8 row (eD jz)) hs (I.c5 _ _) (by rw[I.bg,nY];exact jz) (λx c hx=>by rw[uC];exact hx)).bind λaJ aT l1 gi eK ⟨g1,g2,g3⟩=>?_
  have aw:code.den aJ=code.den ρ:=I.bX eK hs
  refine(adj (nb:=nb) (k:=k) (i:=i+1) (code:=code) (hs.mono gi) (by rw[aw];exact j8) (by rw[aw];omega)).bind λbR eF l2 eL dz ⟨k1,k2,k3⟩=>az.pure ⟨λa ha=>?_,by rw[fc,g2,k2,xU];omega,λx a hx=>?_⟩
  ·rcases List.mem_append.1 ha with ha|ha
   ·exact(g1 a ha).ext dz eL (bL _)
   ·exact k1 a ha
  ·rw[List.getElem?_append]at hx
   split at hx
   ·rename_i hlt
    have:=g3 x a hx
    rw[uC]at this
    rw[A.lR (g1 a (eD hx)) dz (λ_ _=>rfl)]
    exact VN j8 jz this
   ·rename_i oh
    have:=k3 (x-l1.length) a hx
    rw[aw,g2]at this
    rw[g2]at oh
    rw[show i*sh.length+x=(i+1)*sh.length+(x-sh.length) by rw[xU];omega]
    exact this
theorem aoO {α:Type} {p q r len cap:I} {f:Unit->M α} {R:Env->Nat->α->Prop} (od:cap.den ρ<0->len.den ρ=0) (hX:0<=cap.den ρ->len.den ρ<=cap.den ρ) (h:(0<=p.den ρ/\p.den ρ<=q.den ρ/\q.den ρ<=r.den ρ/\r.den ρ<=cap.den ρ)->az S L (f ()) n ρ R):
 az S L (bind (cond (I.beq r len) (gh 78 [p,q,r,cap]) (gh 64 [p,q,r,len])) f) n ρ R:=by
 cases I.beq r len with
 |true=>exact iM λab=>h ab
 |false=>
  refine iM λab=>h ?_
  have ab:0<=p.den ρ/\p.den ρ<=q.den ρ/\q.den ρ<=r.den ρ/\r.den ρ<=len.den ρ/\0<len.den ρ:=ab
  have hc:0<=cap.den ρ:=by
   rcases kI (cap.den ρ) 0 with h|h
   ·have:=od h;omega
   ·exact h
  have:=hX hc
  omega
theorem aAS {t:bh} {b bq:Nat} {o ro len cap p q r:I} {lo:Option oM} {hi eS:oM} (hx:(A.sl b bq o ro len cap).ok n bl.length ρ) (aA:ef n bl.length ρ m tm a.tmps) (hp:BL tm (.const 0) lo=some p) (aj:rn (cd tm hi)=some q) (hr:rn (cd tm eS)=some r):
 az S L (aag P t b bq o ro len cap p q r) n ρ (mT w0 m bl n ρ λw=>(rH t ((A.sl b bq o ro len cap).den ρ m) (lo.map a.eval) (some (a.eval hi)) (some (a.eval eS))).run P w):=by
 unfold aag
 cases h1:jo P t with
 |none=>exact az.fail
 |some e=>
  cases h2:e7 P e with
  |none=>simp only[h2];exact az.fail
  |some s=>
   simp only[h2]
   refine dY λhs=>aoO (λh=>hx.2.2.2.2.1 h) (λh=>hx.2.2.2.2.2 h) λab=>?_
   have hs:=bO hs
   subst hs
   obtain⟨k1,k2,k3,k4⟩:=ab
   have mo:=hx
   obtain⟨ai,⟨af,ar,cN,ia⟩,⟨iR,k9,la,lb⟩,⟨lD,k8⟩,gC,iQ⟩:=hx
   have tr:=UT hp aA
   have Fo:p.bD n:=by rcases tr with⟨_,rfl⟩|⟨_,_,h⟩;exact I.c5 _ _;exact h
   obtain⟨ave,wV,Ib⟩:=EJ (m:=m) (bl:=bl) aj (cy aA hi).2 (cy aA hi).1
   obtain⟨aIX,Cy,akw⟩:=EJ (m:=m) (bl:=bl) hr (cy aA eS).2 (cy aA eS).1
   obtain⟨ptr,aw,aF,cb⟩:=uj (m:=m) mo
   have hc:¬(cap.den ρ<0):=by omega
   have hX:=iQ (by omega)
   have Ol:=aw
   rw[if_neg hc,cb (by omega)]at Ol
   have hf:bt 33 ([ro,p,r].map (·.den ρ))=(if p.den ρ=r.den ρ then ro.den ρ else ro.den ρ+p.den ρ):=rfl
   refine(hI (by rw[hf];split<;>omega) (by rw[hf];split<;>omega)).bind λaJ aT H7 hn ha ⟨g1,g2⟩=>az.pure ?_
   rw[hf]at g2
   have bZ:=I.bX ha af;have a2:=I.bX ha Ib;have a3:=I.bX ha Fo;have a4:=I.bX ha akw
   refine⟨⟨ai,⟨af.mono hn,g1,I.uh (Ib.mono hn) (Fo.mono hn),I.uh (akw.mono hn) (Fo.mono hn)⟩,?_⟩,_,rfl,λw _=>?_⟩
   ·rw[I.kf,I.kf,bZ,a2,a3,a4,g2]
    refine⟨⟨iR,?_,by omega,by omega⟩,⟨by omega,?_⟩,λh=>by omega,λh=>by omega⟩
    ·split<;>omega
    ·split<;>omega
   ·rw[Ol]
    have ra:(mP true (len.den ρ).toNat (cap.den ρ).toNat (lo.map a.eval) (some (a.eval hi)) (some (a.eval eS))).run P w= .ok ((p.den ρ).toNat,(q.den ρ).toNat,(r.den ρ).toNat) w:=by
     rw[wV,Cy]
     rcases tr with⟨rfl,rfl⟩|⟨avd,Cx,_⟩
     ·simp[mP,I.bg,uk (P:=P) (y:=(cap.den ρ).toNat) (by omega:0<=r.den ρ) (by omega),uk (P:=P) (y:=(r.den ρ).toNat) (by omega:0<=q.den ρ) (by omega)]
     ·rw[Cx]
      simp[mP,uk (P:=P) (y:=(cap.den ρ).toNat) (by omega:0<=r.den ρ) (by omega),uk (P:=P) (y:=(r.den ρ).toNat) (by omega:0<=q.den ρ) (by omega),uk (P:=P) (y:=(q.den ρ).toNat) k1 (by omega)]
    have gX:(q.den ρ).toNat-(p.den ρ).toNat=(q.den ρ-p.den ρ).toNat:=by omega
    have fD:(r.den ρ).toNat-(p.den ρ).toNat=(r.den ρ-p.den ρ).toNat:=by omega
    simp only[rH,ic,eU (h8 h1),iz,abD,ra,jn h2,js,gX,fD,W.den,A.den,I.kf,bZ,a2,a3,a4,g2]
    rw[if_neg (show ¬(r.den ρ-p.den ρ<0) by omega)]
    by_cases KG:p.den ρ=r.den ρ
    ·rw[if_pos KG,if_pos (by omega)]
    ·rw[if_neg KG,if_neg (by omega)]
     have td:(ro.den ρ+p.den ρ).toNat=(ro.den ρ).toNat+(p.den ρ).toNat:=by omega
     rw[td,xW,<-Db]
     simp[jG]
theorem az0 (hb:cM n bl.length ρ bl) (hex:∃w,Mem w0 ρ m bl w) (aA:ef n bl.length ρ m tm a.tmps) (o:Oper) {q:M V} (aj:Q7 P bl tm o=some q):az S L q n ρ (mS w0 m bl n ρ P o a):=by
 obtain⟨zd,vj⟩:=hex
 unfold Q7 at aj
 split at aj
 ·rename_i t x bd h
  have hx:=cy aA x
  have hi:=cy aA bd
  split at aj
  ·rename_i b off k i hv Xo
   rw[hv]at hx;rw[Xo]at hi
   split at aj
   ·rename_i sh code c len e Ej GN
    split at aj
    ·rename_i s hs
     cases hc:(aK s sh.length&&aK len c)with
     |false=>rw[hc]at aj;cases aj
     |true=>
      rw[hc]at aj
      simp only[cond_true,a7]at aj
      subst aj
      simp only[bo]at hc
      have bH:=bO hc.2
      subst bH
      obtain⟨rfl,cap,kind,dp,aQ,ab,cZ⟩:=adn Ej
      refine iM λO4=>az.pure ?_
      simp only[cQ,e3,au,I.bg]at O4
      have dk:a.eval x= .pointer (some ⟨m b,0,none⟩):=hx.2
      have oj:a.eval bd= .int k (i.l.den ρ):=hi.2
      have WQ:bM.ok n ρ i:=hi.1
      have o3:b<bl.length:=hx.1
      refine⟨⟨o3,⟨I.c5 _ _,WQ.1⟩,by rw[I.bg];omega,O4.1⟩,_,rfl,λw _=> .inl ?_⟩
      have c1:i.l.den ρ<((len:Nat):Int):=O4.2
      simp[execOp,h,dk,oj,uB,asIntOf,eU (wz GN),mO,O4.1,c1,jn hs,jG,W.den,A.den,I.bg]
    ·cases aj
   ·cases aj
  ·cases aj
 ·rename_i t x h
  have hx:=cy aA x
  split at aj
  ·rename_i b off hv
   rw[hv]at hx
   split at aj
   ·rename_i sh code c k Ej oW hs
    cases hc:(aK k (c*sh.length))with
    |false=>rw[hc]at aj;cases aj
    |true=>
     rw[hc]at aj
     simp only[cond_true,a7]at aj
     subst aj
     have hc:=bO hc
     subst hc
     obtain⟨rfl,cap,kind,dp,aQ,ab,cZ⟩:=adn Ej
     refine iM λO5=>?_
     simp only[cQ,e3,au,I.bg]at O5
     have fu:(A.rows sh (.const 0) code cap kind).ok n bl.length ρ:=hb _ (eD aQ) _ (by simp)
     have kQ:∀w,Mem w0 ρ m bl w->∃cells t' fz,w.heap[m b]?=some (.cells cells t' fz)/\mU cells 0 sh (ah (code.den ρ)):=λw hw=>by
      obtain⟨_,cells,km,fz,g1,⟨g2,g3⟩,_⟩:=(hw.rws b sh (.const 0) code cap kind dp aQ (by omega)).2 (by rw[cZ];omega)
      rw[I.bg]at g3
      exact⟨cells,km,fz,g1,g3⟩
     obtain⟨_,_,_,_,ats⟩:=kQ zd vj
     refine(adj (nb:=bl.length) (m:=m) (k:=c) (i:=0) fu.1.2.1 ats.1 (by omega)).bind λaJ aT l hn ha ⟨g1,g2,g3⟩=>az.pure ⟨g1,_,rfl,λw hw=> .inl ?_⟩
     obtain⟨cells,km,fz,bb,b0⟩:=kQ w hw
     have hl:=My (P:=P) w ⟨m b,0,none⟩ (l.map (A.den aJ m)) λx v aI=>by
      rw[jG]
      rw[pw]at aI
      cases aj:l[x]? with
      |none=>simp[aj]at aI
      |some y=>
       simp only[aj,xP,a7]at aI
       subst aI
       have h3:=g3 x y aj
       rw[Nat.zero_mul,uC]at h3
       simp only[lH,bb,uD,uv,if_false]
       obtain⟨_,pre,post,cm,cl⟩:=b0
       have o2:pre=[]:=xX cl
       subst o2
       have hlt:=(List.getElem?_eq_some_iff.1 h3).1
       rw[<-MG,cm,List.nil_append,xQ (by omega),uC]
       exact h3
     simp only[l6,g2]at hl
     have dk:a.eval x= .pointer (some ⟨m b,0,none⟩):=hx.2
     simp[execOp,h,dk,nr,mO,loadVar,qQ oW,jn hs,hl,W.den]
   ·cases aj
  ·cases aj
 ·rename_i t x lo hi eS h
  have hx:=cy aA x
  split at aj
  ·rename_i b bq off ro len cap hv
   rw[hv]at hx
   have dk:a.eval x=(A.sl b bq off ro len cap).den ρ m:=hx.2
   have he:execOp a.eval o=(do pure (kr (<-rH t ((A.sl b bq off ro len cap).den ρ m) (lo.map a.eval) (some (a.eval hi)) (some (a.eval eS))))):=by simp only[execOp,h,dk];rfl
   split at aj
   ·rename_i p eA r hp wV hr
    cases aj
    exact(aAS hx.1 aA hp wV hr).mono λ_ _ _ _ _ aj=>mS.qO he aj
   ·cases aj
  ·cases aj
 ·rename_i c h
  split at aj
  ·rename_i hc
   split at aj
   ·rename_i x t fv mn
    have hx:=cy aA x
    split at aj
    ·rename_i e hv hs
     cases aj
     rw[hv]at hx
     have dk:a.eval x= .slice none 0 0:=hx.2
     have bZ:c.args=#[x]:=by rw[<-kc (xs:=c.args),fv]
     have a2:c.argTypes=#[t]:=by rw[<-kc (xs:=c.argTypes),mn]
     refine az.pure ⟨bM.n9 _ _ _,_,rfl,λw _=> .inl ?_⟩
     simp[execOp,h,resolve,hc,bZ,a2,dk,invoke,builtin,IZ,eU (h8 hs),goInt,W.den,A.den,bM.const,I.bg]
    ·cases aj
   ·cases aj
  ·cases aj
 ·cases aj
theorem ZH {cal:eW} (cU:hk S P gl w0 cal) (hb:cM n bl.length ρ bl) (hg:eX gl w0) (hex:∃w,Mem w0 ρ m bl w) (aA:ef n bl.length ρ m tm a.tmps) (o:Oper):
 az S L (AW P cal gl bl tm o) n ρ (mS w0 m bl n ρ P o a):=by
 unfold AW
 cases aj:ZR P bl tm o with
 |none=>
  simp only
  cases tq:Q7 P bl tm o with
  |some q=>exact az0 hb hex aA o tq
  |none=>
  simp only
  cases hd:Ok cal bl tm o with
  |none=>exact azG cU hb hg hex aA o
  |some q=>
   simp only
   unfold Ok at hd
   split at hd
   ·rename_i c ax
    split at hd
    ·rename_i x hc
     split at hd
     ·rename_i f OA OB hv
      cases hz:(aK OA.size 0&&aK OB.size 0)with
      |false=>rw[hz]at hd;cases hd
      |true=>
       rw[hz]at hd
       simp only[cond_true,Option.map_eq_some_iff]at hd
       obtain⟨g,WK,rfl⟩:=hd
       simp only[bo,Nat.beq_eq]at hz
       have e5:OA=#[]:=Bq hz.1
       have aw:OB=#[]:=Bq hz.2
       subst e5 aw
       have hx:=cy aA (.tmp x)
       rw[hv]at hx
       have dk:a.eval (.tmp x)= .func (.func f) #[] #[]:=hx.2
       have qD:∀v∈c.args.toList.map (cd tm),V.ok n bl.length ρ v:=λv hv=>by
        obtain⟨x,_,rfl⟩:=List.mem_map.1 hv
        exact(cy aA x).1
       have he:execOp a.eval o=callFunc f (c.args.map a.eval):=by
        simp only[execOp,ax,resolve,hc,dk,al8]
        simp[invoke,bind_pure_comp]
       refine(cU f g WK L n ρ m bl _ _ hb hex qD (MU (xs:=c.args.toList) aA)).mono λaJ aT v _ _ ⟨bb,val,b0,cv⟩=>⟨bb,val,b0,λw hw=>?_⟩
       have ha:(c.args.toList.map a.eval).toArray=c.args.map a.eval:=by
        rw[<-xV]
       have dK:=cv w hw
       rw[ha]at dK
       rcases dK with dK|⟨dK,jC⟩
       ·exact .inl (by rw[he];exact dK)
       ·exact .inr ⟨f,_,by rw[he];exact dK,jC⟩
     ·cases hd
    ·cases hd
   ·cases hd
 |some q=>
  simp only
  unfold ZR at aj
  split at aj
  case h_1 t x h=>
   have hx:=cy aA x
   split at aj
   ·rename_i b bq off i j hv
    cases aj
    rw[hv]at hx
    have dk:a.eval x=(A.ep b bq off i j).den ρ m:=hx.2
    have he:execOp a.eval o=(do pure (kr (<-nr t ((A.ep b bq off i j).den ρ m)))):=by simp only[execOp,h,dk]
    exact(apG hb hex t hx.1).mono λ_ _ _ _ _ aj=>mS.qO he aj
   ·rename_i b off bd hv
    split at aj
    ·rename_i hu
     cases aj
     rw[hv]at hx
     have dk:a.eval x=(A.oD b off bd).den ρ m:=hx.2
     have he:execOp a.eval o=(do pure (kr (<-nr t ((A.oD b off bd).den ρ m)))):=by simp only[execOp,h,dk]
     exact(aAF hb hu b off hx.1.2.1).mono λ_ _ _ _ _ aj=>mS.qO he aj
    ·cases aj
   ·cases aj
  case h_2 x h=>
   have hx:=cy aA x
   split at aj
   ·rename_i b bq off i j hv
    cases aj
    rw[hv]at hx
    refine az.pure ⟨hx.1,_,rfl,λw _=> .inl ?_⟩
    have dk:=hx.2
    simp only[V.rel,W.den,A.den]at dk
    simp[execOp,h,dk,W.den,A.den]
   ·cases aj
  case h_3 t x bd h=>
   have hx:=cy aA x
   have hi:=cy aA bd
   split at aj
   ·rename_i b bq off ro len cap k i hv Xo
    cases aj
    rw[hv]at hx
    rw[Xo]at hi
    have dk:a.eval x=(A.sl b bq off ro len cap).den ρ m:=hx.2
    have oj:a.eval bd= .int k (i.l.den ρ):=hi.2
    have he:execOp a.eval o=(do pure (kr (<-uB t ((A.sl b bq off ro len cap).den ρ m) (.int k (i.l.den ρ))))):=by simp only[execOp,h,dk,oj]
    have WQ:bM.ok n ρ i:=hi.1
    exact(aAQ hx.1 WQ.1).mono λ_ _ _ _ _ aj=>mS.qO he aj
   ·cases aj
  case h_4 t x h=>
   have hx:=cy aA x
   split at aj
   ·rename_i b bq off ro len cap k e hv ha
    cases aj
    rw[hv]at hx
    refine dY λhc=>iM λab=>?_
    have hc:0<k:=e8 hc
    simp only[cQ,e3,I.bg,au]at ab
    have bV:A.ok n bl.length ρ (.sl b bq off ro len cap):=hx.1
    obtain⟨h1,⟨h2,h3,h4,h5⟩,h6⟩:=bV
    have cZ:¬cap.den ρ<0:=λPe=>by have:=h6.2.2.1 Pe;omega
    refine az.pure ⟨⟨h1,⟨h2,h3⟩,h6.1.1,h6.1.2.1⟩,_,rfl,λw _=> .inl ?_⟩
    have dk:a.eval x=(A.sl b bq off ro len cap).den ρ m:=hx.2
    have hle:¬(len.den ρ).toNat<k:=by omega
    simp only[execOp,h]
    rw[dk]
    simp only[A.den,if_neg cZ]
    simp[al9,eU (wz ha),hle,W.den,A.den]
   ·cases aj
  case h_5 s x f h=>
   have hx:=cy aA x
   split at aj
   ·rename_i b bq off i j fd hv hf
    rw[hv]at hx
    obtain⟨fs,hu,Kr⟩:=VI hf
    split at aj
    ·rename_i k hs
     cases aj
     refine az.pure ⟨hx.1,_,rfl,λw _=> .inl ?_⟩
     have dk:=hx.2
     simp only[V.rel,W.den,A.den]at dk
     simp[execOp,h,dk,alZ,eU hu,Kr,mO,fieldPlace,jn hs,jG,W.den,A.den,Db]
    ·cases aj
   ·cases aj
  case h_6 t x lo hi h=>
   have hx:=cy aA x
   split at aj
   ·rename_i b bq off ro len cap hv
    rw[hv]at hx
    have dk:a.eval x=(A.sl b bq off ro len cap).den ρ m:=hx.2
    have he:execOp a.eval o=(do pure (kr (<-rH t ((A.sl b bq off ro len cap).den ρ m) (lo.map a.eval) (hi.map a.eval) none))):=by simp only[execOp,h,dk];rfl
    split at aj
    ·rename_i p eA hp wV
     cases aj
     exact(aAT hx.1 aA hp wV).mono λ_ _ _ _ _ aj=>mS.qO he aj
    ·cases aj
   ·cases aj
  case h_7 s d x h=>
   have hx:=cy aA x
   split at aj
   ·rename_i b bq off ro len cap e hv hs hd
    split at aj
    ·rename_i ast
     cases aj
     rw[hv]at hx
     have dk:a.eval x=(A.sl b bq off ro len cap).den ρ m:=hx.2
     have he:execOp a.eval o=(do pure (kr (<-convert s d ((A.sl b bq off ro len cap).den ρ m)))):=by simp only[execOp,h,dk]
     exact(aAR hb hex (h8 hs) ast hd hx.1).mono λ_ _ _ _ _ aj=>mS.qO he aj
    ·cases aj
   ·cases aj
  case h_8 c h=>
   split at aj
   ·rename_i hc
    split at aj
    ·rename_i x t fv mn
     have hx:=cy aA x
     split at aj
     ·rename_i b bq off ro len cap e hv hs
      cases aj
      rw[hv]at hx
      have dk:a.eval x=(A.sl b bq off ro len cap).den ρ m:=hx.2
      have o3:(A.sl b bq off ro len cap).ok n bl.length ρ:=hx.1
      obtain⟨ptr,aw,_,_⟩:=uj (m:=m) o3
      rw[aw]at dk
      obtain⟨ai,⟨af,ar,cN,ia⟩,⟨iR,k9,la,lb⟩,_⟩:=o3
      have bZ:c.args=#[x]:=by rw[<-kc (xs:=c.args),fv]
      have a2:c.argTypes=#[t]:=by rw[<-kc (xs:=c.argTypes),mn]
      refine az.pure ⟨⟨cN,la,lb⟩,_,rfl,λw _=> .inl ?_⟩
      have gX:((len.den ρ).toNat:Int)=len.den ρ:=by omega
      simp[-aEK,execOp,h,resolve,hc,bZ,a2,dk,invoke,builtin,IZ,eU (h8 hs),goInt,W.den,A.den,gX]
     ·cases aj
    ·cases aj
   ·rename_i hc
    split at aj
    ·rename_i x y fv
     have hx:=cy aA x
     have hy:=cy aA y
     split at aj
     ·rename_i k p bA eA rm kR
      by_cases om:k=bA
      ·subst om
       simp only[decide_true,cond_true]at aj
       cases aj
       rw[rm]at hx;rw[kR]at hy
       have aw:a.eval x= .int k (p.l.den ρ):=hx.2
       have aF:a.eval y= .int k (eA.l.den ρ):=hy.2
       have bZ:c.args=#[x,y]:=by rw[<-kc (xs:=c.args),fv]
       have he:execOp a.eval o=(do pure (kr (<-abK c.argTypes o.type #[.int k (p.l.den ρ),.int k (eA.l.den ρ)]))):=by
        simp[execOp,h,resolve,hc,bZ,aw,aF,invoke,builtin]
       exact(avX hx.1 hy.1).mono λ_ _ _ _ _ aj=>mS.qO he aj
      ·simp[om]at aj
     ·cases aj
    ·cases aj
   ·rename_i hc
    split at aj
    ·rename_i x y fv
     have hx:=cy aA x
     have hy:=cy aA y
     split at aj
     ·rename_i k p bA eA rm kR
      by_cases om:k=bA
      ·subst om
       simp only[decide_true,cond_true]at aj
       cases aj
       rw[rm]at hx;rw[kR]at hy
       have aw:a.eval x= .int k (p.l.den ρ):=hx.2
       have aF:a.eval y= .int k (eA.l.den ρ):=hy.2
       have bZ:c.args=#[x,y]:=by rw[<-kc (xs:=c.args),fv]
       have he:execOp a.eval o=(do pure (kr (<-abL c.argTypes o.type #[.int k (p.l.den ρ),.int k (eA.l.den ρ)]))):=by
        simp[execOp,h,resolve,hc,bZ,aw,aF,invoke,builtin]
       exact(avW hx.1 hy.1).mono λ_ _ _ _ _ aj=>mS.qO he aj
      ·simp[om]at aj
     ·cases aj
    ·cases aj
   ·cases aj
  case h_9 op t x y eB h=>
   have hx:=cy aA x
   have hy:=cy aA y
   split at aj
   ·rename_i e b bq cu ro len cap hs rm kR
    rw[rm]at hx;rw[kR]at hy
    have dk:a.eval x=(A.sl b bq cu ro len cap).den ρ m:=hx.2
    have w1:a.eval y= .slice none 0 0:=hy.2
    have o3:(A.sl b bq cu ro len cap).ok n bl.length ρ:=hx.1
    obtain⟨ptr,aw,aF,cb⟩:=uj (m:=m) o3
    rw[aw]at dk
    obtain⟨ai,⟨af,ar,cN,ia⟩,_,_,gC,_⟩:=o3
    have has:au 53 ([cap,len].map (·.den ρ)):=gC
    have hp:ptr.isNone=decide (cap.den ρ<0):=by
     rcases kI (cap.den ρ) 0 with h0|h0
     ·rw[aF h0,decide_eq_true h0];rfl
     ·rw[cb h0,decide_eq_false (by omega)];rfl
    split at aj
    ·cases aj
     refine(Nj has).bind λaJ aT _ _ _ ⟨qI,hn⟩=>?_
     have qI:=qI.symm
     have hn:=hn.symm
     subst qI hn
     refine az.pure ⟨⟨ia,I.c5 _ _⟩,_,rfl,λw _=> .inl ?_⟩
     have Kt:eqGuard .eql t x y (.slice ptr (len.den ρ).toNat (if cap.den ρ<0 then 0 else(cap.den ρ).toNat)) (.slice none 0 0)=Sv ():=rfl
     have he:execOp a.eval o=(do pure (kr (<-binOp .eql t (.slice ptr (len.den ρ).toNat (if cap.den ρ<0 then 0 else(cap.den ρ).toNat)) (.slice none 0 0)))):=by
      simp only[execOp,h,dk,w1,Kt,pure_bind]
     simp only[he,ic,az2 w (h8 hs),iz,js,hp]
     simp[W.den,A.den,bw.den,I.bg]
    ·cases aj
     refine(Nj has).bind λaJ aT _ _ _ ⟨qI,hn⟩=>?_
     have qI:=qI.symm
     have hn:=hn.symm
     subst qI hn
     refine az.pure ⟨bw.y5 ⟨ia,I.c5 _ _⟩,_,rfl,λw _=> .inl ?_⟩
     have Kt:eqGuard .neq t x y (.slice ptr (len.den ρ).toNat (if cap.den ρ<0 then 0 else(cap.den ρ).toNat)) (.slice none 0 0)=Sv ():=rfl
     have he:execOp a.eval o=(do pure (kr (<-binOp .neq t (.slice ptr (len.den ρ).toNat (if cap.den ρ<0 then 0 else(cap.den ρ).toNat)) (.slice none 0 0)))):=by
      simp only[execOp,h,dk,w1,Kt,pure_bind]
     simp only[he,ic,az4 w (h8 hs),iz,js,hp]
     simp[W.den,A.den,bw.den,bw.yl,I.bg]
    ·cases aj
   ·cases aj
  case h_10=>cases aj
end
end Go.b6
namespace Go.b6
def afc (ops:Array Oper) (n:Nat):Bool:=
 (fk n).all λi=>match ops[i]? with
   |none=>false
   |some kX=>(kX.after.all λe=> !abF .any e||dv e.on i)&&(match kX.op with| .select .. =>false|_=>true)&&
    (fk n).all λj=>aK i j||match ops[j]? with
      |none=>false
      |some ei=>match ei.dst with
       |none=>true
       |some d=>(!(kX.looksAt ops).contains d||Bp .any ops i j||Bp .any ops j i)&& !(match kX.dst with|some DK=>aK DK d|none=>false)
def WD (size n:Nat):Array Bool:=((fk size).map λi=>dv i n).toArray
def GA (o:Oper):Bool:=match o.op with| .move _| .assign _| .extract _ _=>true|_=>false
def wL (ops:Array Oper) (i:Nat):Bool:=match ops[i]? with|some o=>GA o|none=>false
def gU (o:Oper):Bool:=match o.op,o.guard,o.dst with| .alloc _,none,some _=>true|_,_,_=>false
def sU (ops:Array Oper) (i:Nat):Bool:=match ops[i]? with|some o=>gU o|none=>false
def aja (ops:Array Oper) (n:Nat):Bool:=
 (fk n).all λi=> !sU ops i||match ops[i]? with
   |some kX=>match kX.dst with
    |some d=>(fk n).all λj=>match ops[j]? with|some ei=> !(ei.looksAt ops).contains d|none=>true
    |none=>false
   |none=>false
def akz (ops:Array Oper) (n:Nat):Bool:=
 (fk n).all λi=>wL ops i||(fk (n+1)).any λj=>dv i j&&Bp .any ops j i&&(aK j n|| !wL ops j)
def aq5 (ops:Array Oper) (n:Nat):Bool:=
 (fk n).all λi=> !wL ops i||(fk ops.size).all λj=>dv j n||Bp .any ops j i||(match ops[i]?,ops[j]? with|some kX,some ei=>kX.apart ops ei|_,_=>false)
def Ij (ops:Array Oper) (n:Nat):Bool:=
 Ss ops&&aq5 ops n&&aja ops n&&afc ops n&&cx n ops.size&&(aK n ops.size||(akz ops n&&aEz .any ops n))&&aEA .any ops (ops.size-n) n (WD ops.size n)
def calm (Q:Exit->Act->aE->Prop):Exit->Act->aE->Prop
 | .panic _,_,_=>False
 |e,a,w=>Q e a w
theorem r3 {a b:Nat} (h:dv a b=true):a<b:=e8 h
theorem avN {a b:Nat} (h:a<b):dv a b=true:=Nat.ble_eq_true_of_le h
section
variable {P:bQ} {ops:Array Oper} {C:aE->Prop}
def x5 (P:bQ) (ops:Array Oper) (C:aE->Prop) (o:Oper) (v:aP) (a:Act):Prop:=
 (zz o (yielded ops a.tmps)=true/\∀w,C w->Dk P o a w v)∨(zz o (yielded ops a.tmps)=false/\v=undef)
def Di (P:bQ) (ops:Array Oper) (C:aE->Prop) (F:Act->Prop):List Oper->Act->Prop
 |[],a=>F a
 |o::r,a=>cond (gU o) (Di P ops C F r a) (∃v,x5 P ops C o v a/\Di P ops C F r (a.put o.dst v))
theorem ZI {Q:Act->Prop}:∀(l:List Oper) (a:Act),Di P ops C Q l a->∃(as:Nat->Act) (vs:Nat->aP),as 0=a/\(∀i o,l[i]?=some o->(gU o=false->x5 P ops C o (vs i) (as i)/\as (i+1)=(as i).put o.dst (vs i))/\(gU o=true->as (i+1)=as i))/\Q (as l.length)
 |[],a,h=>⟨λ_=>a,λ_=>undef,rfl,λi o hi=>by simp at hi,h⟩
 |o::r,a,h=>by
  unfold Di at h
  cases eR:gU o with
  |true=>
   simp only[eR,cond_true]at h
   obtain⟨as,vs,e5,hs,tj⟩:=ZI r _ h
   refine⟨λi=>match i with|0=>a|i+1=>as i,λi=>match i with|0=>undef|i+1=>vs i,rfl,λi cu hi=>?_,tj⟩
   cases i with
   |zero=>
    simp at hi;subst hi
    exact⟨λh1=>by(rw[eR]at h1;cases h1),λ_=>e5⟩
   |succ i=>
    simp at hi
    exact hs i cu hi
  |false=>
   simp only[eR,cond_false]at h
   obtain⟨v,hy,h2⟩:=h
   obtain⟨as,vs,e5,hs,tj⟩:=ZI r _ h2
   refine⟨λi=>match i with|0=>a|i+1=>as i,λi=>match i with|0=>v|i+1=>vs i,rfl,λi cu hi=>?_,tj⟩
   cases i with
   |zero=>
    simp at hi;subst hi
    exact⟨λ_=>⟨hy,e5⟩,λh1=>by(rw[eR]at h1;cases h1)⟩
   |succ i=>
    simp at hi
    exact hs i cu hi
theorem alk {Q:Exit->Act->aE->Prop} {md:ama}:∀(f:Nat) (listed:Array Bool) (a:Act) (w:aE),wpAny P md ops Q f listed a w->wpAny P md ops Q (f+1) listed a w
 |0,_,_,_,h=>⟨λ_=>h.2,λi hi=>by rw[h.1]at hi;cases hi⟩
 |f+1,_,_,_,h=>⟨h.1,λi hi=>wpOp_mono (λdr w' a8=>alk f _ dr w' a8) (h.2 i hi)⟩
theorem alj {Q:Exit->Act->aE->Prop} {md:ama} {listed:Array Bool} {a:Act} {w:aE} {f qB:Nat} (h:wpAny P md ops Q f listed a w) (hle:f<=qB):wpAny P md ops Q qB listed a w:=by
 induction hle with
 |refl=>exact h
 |step _ ih=>exact alk _ _ _ _ ih
theorem ae4 {α:Type} {p q:α->Bool}:∀{l:List α},(∀x∈l,q x=true->p x=true)->(∃x∈l,p x=true/\q x=false)->l.countP q<l.countP p
 |[],_,⟨x,hx,_⟩=>by simp at hx
 |y::r,h1,⟨x,hx,h2,h3⟩=>by
  have hle:r.countP q<=r.countP p:=List.countP_mono_left λz hz=>h1 z (dU _ hz)
  rw[aEB,aEB]
  rcases List.mem_cons.1 hx with rfl|hx
  ·simp[h2,h3];omega
  ·have ih:=ae4 (l:=r) (λz hz=>h1 z (dU _ hz)) ⟨x,hx,h2,h3⟩
   have:=h1 y (by simp)
   cases aj:q y<;>cases hp:p y<;>simp[aj,hp]at this⊢<;>omega
theorem ym {n i:Nat} {kX:Oper} (h:afc ops n=true) (hi:i<n) (ax:ops[i]?=some kX):
 (∀e∈kX.after,abF .any e=true->e.on<i)/\(∀cs b,kX.op≠ .select cs b)/\
 ∀j ei d,j<n->j≠i->ops[j]?=some ei->ei.dst=some d->kX.dst≠some d/\(d∈kX.looksAt ops->Bp .any ops i j=true∨Bp .any ops j i=true):=by
 have h1:=List.all_eq_true.1 h i (List.mem_range.2 hi)
 simp only[ax,bo]at h1
 obtain⟨⟨h1,h2⟩,h3⟩:=h1
 refine⟨λe he hb=>?_,λcs b hc=>by simp[hc]at h2,λj ei d aI cW ve hd=>?_⟩
 ·have:=Array.all_eq_true_iff_forall_mem.1 h1 e he
  simp only[hb,ix,FF]at this
  exact r3 this
 ·have h4:=List.all_eq_true.1 h3 j (List.mem_range.2 aI)
  have h5:aK i j=false:=by cases hb:aK i j with|false=>rfl|true=>exact absurd (bO hb).symm cW
  simp only[h5,FF,ve,hd,bo]at h4
  refine⟨λasq=>?_,λkQ=>?_⟩
  ·have:=h4.2
   simp[asq]at this
  ·have:=h4.1
   have hc:(kX.looksAt ops).contains d=true:=by simpa using kQ
   simp only[hc,ix,FF,Bm]at this
   exact this
theorem anv {a b:Act} (h1:a.defers=b.defers) (h2:∀t:Nat,a.tmps[t]?=b.tmps[t]?):a=b:=by
 cases a;cases b
 simp only at h1 h2
 rw[h1,aEC h2]
theorem yY {a:Act} {o:Option Tmp} {v:aP} {t:Nat} (h:o≠some t):(a.put o v).tmps[t]?=a.tmps[t]?:=by
 cases o with
 |none=>rfl
 |some d=>simp only[IX];rw[aEq (λe=>h (by rw[e]))]
theorem put_defers (a:Act) (o:Option Tmp) (v:aP):(a.put o v).defers=a.defers:=by cases o<;>rfl
theorem E9 (a:Act) (o:Option Tmp) (v:aP):(a.put o v).tmps.size=a.tmps.size:=by cases o<;>simp[IX]
theorem aq2 {o:Oper} {a:Act} {v:aP} {w:aE} (hf:GA o=true) (hK:C w) (h:x5 P ops C o v a):Yields P ops o v a:=by
 rcases h with⟨h1,h2⟩|h
 ·refine .inl ⟨h1,λw'=>?_⟩
  have h3:=h2 w hK
  unfold Dk at h3
  unfold GA at hf
  split at hf
  ·rename_i x ax
   simp only[execOp,ax,js]at h3⊢
   rcases h3 with h3|⟨f,args,h3,_⟩
   ·simp only[aED,aEE,and_true]at h3;rw[h3]
   ·simp at h3
  ·rename_i x ax
   simp only[execOp,ax,js]at h3⊢
   rcases h3 with h3|⟨f,args,h3,_⟩
   ·simp only[aED,aEE,and_true]at h3;rw[h3]
   ·simp at h3
  ·rename_i x i ax
   simp only[execOp,ax,ic]at h3⊢
   unfold alY at h3⊢
   cases hx:a.eval x<;>simp only[hx]at h3⊢<;>try(simp[aEF]at h3;done)
   rename_i vs
   cases hv:vs[i]? with
   |none=>simp[hv,aEF]at h3
   |some u=>simp[hv]at h3;simp[h3]
  ·cases hf
 ·exact .inr h
theorem aAM {n:Nat} {listed:Array Bool} (hs:akz ops n=true) (hc:aEz .any ops n=true) (hn:n<ops.size) (inv:HeadInv .any ops n listed):
 ∀(d i:Nat),n-i=d->i<n->wL ops i=false->listed.getD i false=false->∀t,n<=t->t∉wh .any ops listed:=by
 intro d
 induction d using Nat.strongRecOn with
 |_ d ih=>
  intro i hd hi j6 tt t aA hr
  obtain⟨_,aju,W8,iE⟩:=mem_ready.1 hr
  have atI:t<ops.size:=(Array.getElem?_eq_some_iff.1 W8).1
  by_cases atJ:t=n
  ·subst atJ
   have h1:=List.all_eq_true.1 hs i (List.mem_range.2 hi)
   simp only[j6,FF]at h1
   obtain⟨j,aI,vb⟩:=List.any_eq_true.1 h1
   simp only[bo,Bm]at vb
   obtain⟨⟨agW,Kz⟩,WR⟩:=vb
   have agW:=r3 agW
   obtain⟨ei,ve,e,he,hb,Pg⟩:=FG Kz
   have aIu:j<=t:=by have:=List.mem_range.1 aI;omega
   by_cases agZ:j=t
   ·subst agZ
    have:ei=aju:=hV (ve.symm.trans W8)
    subst this
    have h2:=iE e he hb
    rw[Pg,tt]at h2
    cases h2
   ·cases hl:listed.getD j false with
    |true=>
     have h2:=inv.closed j ei ve hl e he hb
     rw[Pg,tt]at h2
     cases h2
    |false=>
     have asA:wL ops j=false:=by
      rcases WR with h3|h3
      ·exact absurd (bO h3) agZ
      ·simpa using h3
     exact ih (t-j) (by omega) j rfl (by omega) asA hl t (bL _) hr
  ·have h1:=List.all_eq_true.1 hc t (List.mem_range.2 atI)
   simp only[Bm,decide_eq_true_eq]at h1
   rcases h1 with h1|h1
   ·omega
   ·obtain⟨cu,jj,e,he,hb,Pg⟩:=FG h1
    have:cu=aju:=hV (jj.symm.trans W8)
    subst this
    have h2:=iE e he hb
    rw[Pg,FH (inv.tail (t-1) (by omega) (by omega))]at h2
    cases h2
theorem aq1 {o:Oper} (h:GA o=true):gU o=false:=by
 unfold GA at h
 unfold gU
 cases ax:o.op<;>simp only[ax]at h⊢<;>cases h
theorem awe {n i j:Nat} {kX ei:Oper} {d:Tmp} (h:aja ops n=true) (hi:i<n) (ax:ops[i]?=some kX) (eR:gU kX=true) (hd:kX.dst=some d) (aI:j<n) (ve:ops[j]?=some ei):d∉ei.looksAt ops:=by
 have h1:=List.all_eq_true.1 h i (List.mem_range.2 hi)
 have ha:sU ops i=true:=by simp[sU,ax,eR]
 simp only[ha,ix,FF,ax,hd]at h1
 have h2:=List.all_eq_true.1 h1 j (List.mem_range.2 aI)
 simp only[ve,fF]at h2
 intro hm
 have:(ei.looksAt ops).contains d=true:=by simpa using hm
 rw[this]at h2;cases h2
theorem aDb {Q:Exit->Act->aE->Prop} {o:Oper} {i:Nat} {v:aP} {a:Act} {w:aE} {K:Act->aE->Prop} (hi:ops[i]?=some o) (hK:C w) (hy:x5 P ops C o v a) (h:∀w',w.Extends w'->K (a.put o.dst v) w'):wpOp P ops Q i K a w:=by
 unfold wpOp
 simp only[hi]
 rcases hy with⟨h1,h2⟩|⟨h1,h2⟩
 ·rw[if_pos h1]
  refine .inl ?_
  unfold mQ
  rcases h2 w hK with h3|⟨f,args,h3,h4⟩
  ·rw[h3];exact h w (qc w)
  ·rw[h3]
   refine h4.mono λe p8 ⟨he,hx⟩=>?_
   subst he
   exact h p8 hx
 ·rw[if_neg (by simp[h1]),<-h2]
  exact h w (qc w)
theorem x5.of_same {o:Oper} {v:aP} {a dr:Act} (hy:x5 P ops C o v a) (he:execOp dr.eval o=execOp a.eval o) (hw:zz o (yielded ops dr.tmps)=zz o (yielded ops a.tmps)):x5 P ops C o v dr:=by
 unfold x5 Dk at*
 rw[he,hw]
 exact hy
structure acB (ops:Array Oper) (n:Nat) (S:Nat->Prop) (a sX b:Act) (gr:Nat->Nat):Prop where
 d:b.defers=a.defers
 bq:b.tmps.size=a.tmps.size
 q:∀t:Nat,(∃j o,j<n/\S j/\ops[j]?=some o/\gU o=false/\o.dst=some t)->b.tmps[t]?=sX.tmps[t]?
 al:∀(t:Nat) j o,j<n->S j->ops[j]?=some o->gU o=true->o.dst=some t->t<b.tmps.size->b.tmps[t]?=some (.pointer (some ⟨gr j,0,none⟩))
 no:∀t:Nat,(∀j o,j<n->S j->ops[j]?=some o->o.dst≠some t)->b.tmps[t]?=a.tmps[t]?
structure Fin (ops:Array Oper) (n:Nat) (sX b:Act) (gr:Nat->Nat):Prop where
 d:b.defers=sX.defers
 bq:b.tmps.size=sX.tmps.size
 al:∀(t:Nat) j o,j<n->ops[j]?=some o->gU o=true->o.dst=some t->t<b.tmps.size->b.tmps[t]?=some (.pointer (some ⟨gr j,0,none⟩))
 no:∀t:Nat,(∀j o,j<n->ops[j]?=some o->gU o=true->o.dst≠some t)->b.tmps[t]?=sX.tmps[t]?
def Bx (ops:Array Oper) (n:Nat) (S:Nat->Prop) (Z:Nat->Obj) (gr:Nat->Nat) (bq:Nat) (w:aE):Prop:=
 (∀j,j<n->S j->sU ops j=true->bq<=gr j/\w.heap[gr j]?=some (Z j))/\∀i j,i<n->j<n->S i->S j->sU ops i=true->sU ops j=true->gr i=gr j->i=j
theorem Bx.grow {n:Nat} {S:Nat->Prop} {Z:Nat->Obj} {gr:Nat->Nat} {bq:Nat} {w w':aE} (h:Bx ops n S Z gr bq w) (he:w.Extends w'):Bx ops n S Z gr bq w':=
 ⟨λj h1 h2 h3=>by
  obtain⟨h4,h5⟩:=h.1 j h1 h2 h3
  exact⟨h4,by rw[he.block _ (Array.getElem?_eq_some_iff.1 h5).1];exact h5⟩,h.2⟩
theorem aDc {Q:Exit->Act->aE->Prop} {a:Act} {w:aE} {l:List Oper} (n:Nat) (Z:Nat->Obj) (hm:P.follows .mixedOrders=true) (cY:Ij l.toArray n=true) (hK:∀w',w.drew.Extends w'->C w')
 (Eg:∀j o,j<n->l.toArray[j]?=some o->gU o=true->∀(b:Act) w',(execOp b.eval o).run P w'= .ok (.value (.pointer (some ⟨w'.heap.size,0,none⟩))) (w'.alloc (Z j)))
 (h:Di P l.toArray C (λsX=>∀gr b w',Fin l.toArray n sX b gr->w.drew.Extends w'->Bx l.toArray n (λ_=>True) Z gr w.drew.heap.size w'->wpList P l.toArray (calm Q) (l.drop n) b w') (l.take n) a):wpAny P .any l.toArray (calm Q) l.toArray.size (zx l.toArray.size false) a {w with drawn:=w.drawn+1}:=by
 simp only[Ij,bo]at cY
 obtain⟨⟨⟨⟨⟨⟨as5,asC⟩,vc⟩,yz⟩,hle⟩,ahh⟩,aty⟩:=cY
 have hle:n<=l.length:=by simpa using e8 hle
 obtain⟨as,vs,e5,hs,bx⟩:=ZI _ _ h
 have hlen:(l.take n).length=n:=by simp;omega
 rw[hlen]at bx
 have e6:∀i,i<n->∃o,l.toArray[i]?=some o/\(gU o=false->x5 P l.toArray C o (vs i) (as i)/\as (i+1)=(as i).put o.dst (vs i))/\(gU o=true->as (i+1)=as i):=λi hi=>by
  have hlt:i<l.length:=by omega
  have h1:(l.take n)[i]?=some l[i]:=by rw[qY,if_pos hi,nq hlt]
  have h2:=hs i _ h1
  exact⟨l[i],by simp[hlt],h2⟩
 have Kn:∀i,i<=n->(as i).defers=a.defers/\(as i).tmps.size=a.tmps.size:=by
  intro i
  induction i with
  |zero=>intro _;rw[e5];exact⟨rfl,rfl⟩
  |succ i ih=>
   intro hi
   obtain⟨o,ax,h1,h2⟩:=e6 i (by omega)
   cases eR:gU o with
   |true=>rw[h2 eR];exact ih (by omega)
   |false=>rw[(h1 eR).2,put_defers,E9];exact ih (by omega)
 have agi:∀i,i<=n->∀t:Nat,(∀j o,j<i->l.toArray[j]?=some o->gU o=false->o.dst≠some t)->(as i).tmps[t]?=a.tmps[t]?:=by
  intro i
  induction i with
  |zero=>intro _ t _;rw[e5]
  |succ i ih=>
   intro hi t kz
   obtain⟨o,ax,h1,h2⟩:=e6 i (by omega)
   have ahD:=ih (by omega) t λj o aI=>kz j o (by omega)
   cases eR:gU o with
   |true=>rw[h2 eR];exact ahD
   |false=>rw[(h1 eR).2,yY (kz i o (by omega) ax eR)];exact ahD
 have agh:∀(d i:Nat),i+d=n->∀t:Nat,(∃j o,j<i/\l.toArray[j]?=some o/\o.dst=some t)->(as n).tmps[t]?=(as i).tmps[t]?:=by
  intro d
  induction d with
  |zero=>intro i hi t _;rw[show i=n by omega]
  |succ d ih=>
   intro i hi t aI
   obtain⟨o,ax,h1,h2⟩:=e6 i (by omega)
   rw[ih (i+1) (by omega) t (by obtain⟨j,o,h1,h2⟩:=aI;exact⟨j,o,by omega,h2⟩)]
   cases eR:gU o with
   |true=>rw[h2 eR]
   |false=>
    rw[(h1 eR).2]
    obtain⟨j,ei,Kz,vb,WR⟩:=aI
    exact yY ((ym yz (show i<n by omega) ax).2.2 j ei t (by omega) (by omega) vb WR).1
 have hsz:l.toArray.size=l.length:=by simp
 have main:∀(f:Nat) (listed:Array Bool) (b:Act) (dZ:aE) (gr:Nat->Nat),HeadInv .any l.toArray n listed->w.drew.Extends dZ->
  acB l.toArray n (λj=>listed.getD j false=true) a (as n) b gr->Bx l.toArray n (λj=>listed.getD j false=true) Z gr w.drew.heap.size dZ->
  (fk n).countP (λi=> !listed.getD i false)+(l.length-n)<=f->wpAny P .any l.toArray (calm Q) f listed b dZ:=by
  intro f
  have done:∀(listed:Array Bool) (b:Act) (dZ:aE) (gr:Nat->Nat),HeadInv .any l.toArray n listed->w.drew.Extends dZ->
   acB l.toArray n (λj=>listed.getD j false=true) a (as n) b gr->Bx l.toArray n (λj=>listed.getD j false=true) Z gr w.drew.heap.size dZ->(∀i,i<n->listed.getD i false=true)->
   wpAny P .any l.toArray (calm Q) (l.drop n).length listed b dZ:=by
   intro listed b dZ gr inv u7 mi wN iE
   have hl:listed=WD l.toArray.size n:=by
    apply aEC
    intro i
    unfold WD
    simp only[MD,pw]
    rcases IW i l.length with hi|hi
    ·rw[List.getElem?_range (by simpa using hi)]
     have dJ:i<listed.size:=by rw[inv.size];simpa using hi
     rcases IW i n with ec|ec
     ·have:=iE i ec
      simp[dJ]at this
      simp[dJ,this,avN ec]
     ·have:=inv.tail i ec (by simpa using hi)
      simp[dJ]at this
      have hb:dv i n=false:=by cases aj:dv i n with|false=>rfl|true=>have:=r3 aj;omega
      simp[dJ,this,hb]
    ·have h1:listed.size<=i:=by rw[inv.size];simpa using hi
     have h2:(fk l.toArray.size)[i]?=none:=by simp;omega
     rw[h2,SF h1];rfl
   have Pm:aEA .any l.toArray (l.drop n).length n listed=true:=by rw[hl];simpa using aty
   refine wpAny_of_seq (P:=P) (md:= .any) (Q':=calm Q) (l.drop n) n listed b dZ (λj=>by simp[Bo]) Pm (bx gr b dZ ?_ u7 ?_)
   ·refine⟨mi.d.trans (Kn n (bL _)).1.symm,mi.bq.trans (Kn n (bL _)).2.symm,λt j o h1 h3 h4 h5=>mi.al t j o h1 (iE j h1) h3 h4 h5,λt kz=>?_⟩
    by_cases aj:∃j o,j<n/\l.toArray[j]?=some o/\gU o=false/\o.dst=some t
    ·obtain⟨j,o,h1,h2,h3,h4⟩:=aj
     exact mi.q t ⟨j,o,h1,iE j h1,h2,h3,h4⟩
    ·have wV:∀j o,j<n->l.toArray[j]?=some o->gU o=false->o.dst≠some t:=λj o h1 h2 h3 h4=>aj ⟨j,o,h1,h2,h3,h4⟩
     rw[mi.no t λj o h1 _ h3=>(by
      cases eR:gU o with
      |true=>exact kz j o h1 h3 eR
      |false=>exact wV j o h1 h3 eR),agi n (bL _) t wV]
   ·exact⟨λj h1 _ h3=>wN.1 j h1 (iE j h1) h3,λi j h1 h2 _ _ h5 h6=>wN.2 i j h1 h2 (iE i h1) (iE j h2) h5 h6⟩
  have adi:∀(listed:Array Bool),(fk n).countP (λi=> !listed.getD i false)=0->∀i,i<n->listed.getD i false=true:=λlisted hc i hi=>by
   cases aj:listed.getD i false with
   |true=>rfl
   |false=>
    have:0<(fk n).countP (λi=> !listed.getD i false):=List.countP_pos_iff.2 ⟨i,List.mem_range.2 hi,by simp[aj]⟩
    omega
  induction f with
  |zero=>
   intro listed b dZ gr inv u7 mi wN hf
   have:=done listed b dZ gr inv u7 mi wN (adi listed (by omega))
   exact alj this (by simp;omega)
  |succ f ih=>
   intro listed b dZ gr inv u7 mi wN hf
   by_cases asi:(fk n).countP (λi=> !listed.getD i false)=0
   ·exact alj (done listed b dZ gr inv u7 mi wN (adi listed asi)) (by simp;omega)
   ·
    have o0:∃i,i<n/\listed.getD i false=false:=by
     have h1:0<(fk n).countP (λi=> !listed.getD i false):=by omega
     obtain⟨i,hi,aj⟩:=List.countP_pos_iff.1 h1
     exact⟨i,List.mem_range.1 hi,by simpa using aj⟩
    have cW:wh .any l.toArray listed≠[]:=by
     have key:∀k,∀i,i<=k->i<n->listed.getD i false=false->wh .any l.toArray listed≠[]:=by
      intro k
      induction k with
      |zero=>
       intro i WN ec aj oZ
       obtain⟨o,ax,_,_⟩:=e6 i ec
       have hlt:i<listed.size:=by rw[inv.size];exact(Array.getElem?_eq_some_iff.1 ax).1
       have:i∈wh .any l.toArray listed:=mem_ready.2 ⟨getD_in hlt aj,o,ax,λe he hb=>by have:=(ym yz ec ax).1 e he hb;omega⟩
       rw[oZ]at this;cases this
      |succ k XC=>
       intro i WN ec aj oZ
       obtain⟨o,ax,_,_⟩:=e6 i ec
       have hlt:i<listed.size:=by rw[inv.size];exact(Array.getElem?_eq_some_iff.1 ax).1
       have:i∈wh .any l.toArray listed:=mem_ready.2 ⟨getD_in hlt aj,o,ax,λe he hb=>by
        have h1:=(ym yz ec ax).1 e he hb
        cases tq:listed.getD e.on false with
        |true=>rfl
        |false=>exact absurd oZ (XC e.on (by omega) (by omega) tq)⟩
       rw[oZ]at this;cases this
     obtain⟨i,hi,aj⟩:=o0
     exact key i i (bL _) hi aj
    have dN:∀i,i∈wh .any l.toArray listed->∀j,(listed.setIfInBounds i true).getD j false=true↔(j=i∨listed.getD j false=true):=λi hi j=>by
     obtain⟨tt,kX,Ex,iE⟩:=mem_ready.1 hi
     have hlt:i<listed.size:=by rw[inv.size];exact(Array.getElem?_eq_some_iff.1 Ex).1
     by_cases aI:i=j
     ·subst aI;simp[hlt]
     ·rw[getD_set_ne false aI]
      exact⟨.inr,λh=>h.resolve_left (λe=>aI e.symm)⟩
    have ag2:∀i,i∈wh .any l.toArray listed->i<n->(fk n).countP (λj=> !(listed.setIfInBounds i true).getD j false)+(l.length-n)<=f:=λi hi ec=>by
     obtain⟨tt,_⟩:=mem_ready.1 hi
     have:(fk n).countP (λj=> !(listed.setIfInBounds i true).getD j false)<(fk n).countP (λj=> !listed.getD j false):=by
      refine ae4 (λj _ aI=>?_) ⟨i,List.mem_range.2 ec,?_,?_⟩
      ·cases aj:listed.getD j false with
       |false=>rfl
       |true=>rw[(dN i hi j).2 (.inr aj)]at aI;cases aI
      ·simp only[FH tt];rfl
      ·simp only[(dN i hi i).2 (.inl rfl)];rfl
     omega
    have step:∀i,i∈wh .any l.toArray listed->i<n->∀o,l.toArray[i]?=some o->gU o=false->x5 P l.toArray C o (vs i) b/\∀w',dZ.Extends w'->wpAny P .any l.toArray (calm Q) f (listed.setIfInBounds i true) (b.put o.dst (vs i)) w':=by
     intro i hi ec o ax eR
     obtain⟨tt,kX,Ex,iE⟩:=mem_ready.1 hi
     have:o=kX:=hV (ax.symm.trans Ex)
     subst this
     obtain⟨cu,jj,Xu,_⟩:=e6 i ec
     have:cu=o:=hV (jj.symm.trans ax)
     subst this
     obtain⟨hy,he⟩:=Xu eR
     have Ct:=ym yz ec ax
     have ahj:∀t:Nat,t∈cu.looksAt l.toArray->b.tmps[t]?=(as i).tmps[t]?:=λt aA=>by
      by_cases hw:∃j ei,j<i/\l.toArray[j]?=some ei/\gU ei=false/\ei.dst=some t
      ·obtain⟨j,ei,h1,h2,D8,h3⟩:=hw
       rw[<-agh (n-i) i (by omega) t ⟨j,ei,h1,h2,h3⟩]
       refine mi.q t ⟨j,ei,by omega,?_,h2,D8,h3⟩
       rcases(Ct.2.2 j ei t (by omega) (by omega) h2 h3).2 aA with h4|h4
       ·obtain⟨Y1,W6,e,wR,wS,z7⟩:=FG h4
        have:Y1=cu:=hV (W6.symm.trans ax)
        subst this
        have:=iE e wR wS
        rwa [z7]at this
       ·obtain⟨HE,KF,e,wR,wS,z7⟩:=FG h4
        have:HE=ei:=hV (KF.symm.trans h2)
        subst this
        have:=(ym yz (show j<n by omega) h2).1 e wR wS
        omega
      ·rw[agi i (by omega) t λj ei h1 h2 D8 h3=>hw ⟨j,ei,h1,h2,D8,h3⟩]
       refine mi.no t λj ei h1 hl h2 h3=>?_
       cases agq:gU ei with
       |true=>exact awe vc h1 h2 agq h3 ec ax aA
       |false=>
        by_cases nH:j=i
        ·subst nH
         rw[FH tt]at hl;cases hl
        ·rcases(Ct.2.2 j ei t h1 nH h2 h3).2 aA with h4|h4
         ·obtain⟨Y1,W6,e,wR,wS,z7⟩:=FG h4
          have:Y1=cu:=hV (W6.symm.trans ax)
          subst this
          have:=Ct.1 e wR wS
          exact hw ⟨j,ei,by omega,h2,agq,h3⟩
         ·obtain⟨HE,KF,e,wR,wS,z7⟩:=FG h4
          have:HE=ei:=hV (KF.symm.trans h2)
          subst this
          have:=inv.closed j HE h2 hl e wR wS
          rw[z7,FH tt]at this;cases this
     have asy:∀x∈cu.op.operands,b.eval x=(as i).eval x:=λx hx=>by
      cases x with
      |tmp t=>
       have:=ahj t (List.mem_append_left _ (List.mem_filterMap.2 ⟨.tmp t,by simpa using hx,rfl⟩))
       simp only[Act.eval]
       simp[this]
      |_=>rfl
     have hex:execOp b.eval cu=execOp (as i).eval cu:=execOp_congr cu Ct.2.1 asy
     have at2:zz cu (yielded l.toArray b.tmps)=zz cu (yielded l.toArray (as i).tmps):=by
      unfold zz
      cases hg:cu.guard with
      |none=>rfl
      |some VY=>
       obtain⟨g,want⟩:=VY
       have:yielded l.toArray b.tmps g=yielded l.toArray (as i).tmps g:=by
        unfold yielded
        cases aA:(l.toArray[g]?).bind (·.dst)with
        |none=>rfl
        |some t=>
         have:=ahj t (List.mem_append_right _ (by simp only[hg,aA];simp))
         simp[this]
       simp only[this]
     refine⟨hy.of_same hex at2,λw' vi=>?_⟩
     refine ih _ _ _ gr (inv.set hi ec) (u7.trans vi) ⟨(put_defers _ _ _).trans mi.d,(E9 _ _ _).trans mi.bq,?_,?_,?_⟩ (Bx.grow (w:=dZ) ⟨λj h1 h2 h3=>?_,λi1 hZ h1 h2 h3 h4 h5 h6=>?_⟩ vi) (ag2 i hi ec)
     ·rintro t ⟨j,ei,h1,h2,h3,Cn,h4⟩
      by_cases aA:cu.dst=some t
      ·have aw:(as n).tmps[t]?=(as (i+1)).tmps[t]?:=agh (n-(i+1)) (i+1) (by omega) t ⟨i,cu,by omega,ax,aA⟩
       rw[aw,he,aA]
       simp only[IX]
       have ahf:b.tmps.size=(as i).tmps.size:=mi.bq.trans (Kn i (by omega)).2.symm
       rcases IW t b.tmps.size with h5|h5
       ·simp[h5,ahf▸h5]
       ·rw[SF (by simpa using h5),SF (by rw[Array.size_setIfInBounds,<-ahf];exact h5)]
      ·rw[yY aA]
       rcases(dN i hi j).1 h2 with rfl|h5
       ·have:ei=cu:=hV (h3.symm.trans ax)
        subst this
        exact absurd h4 aA
       ·exact mi.q t ⟨j,ei,h1,h5,h3,Cn,h4⟩
     ·intro t j ei h1 h2 h3 h4 h5 h6
      rcases(dN i hi j).1 h2 with rfl|h7
      ·have:ei=cu:=hV (h3.symm.trans ax)
       subst this
       rw[eR]at h4;cases h4
      ·have nH:j≠i:=λe=>by subst e;rw[FH tt]at h7;cases h7
       have aA:cu.dst≠some t:=(Ct.2.2 j ei t h1 nH h3 h5).1
       rw[yY aA]
       rw[E9]at h6
       exact mi.al t j ei h1 h7 h3 h4 h5 h6
     ·intro t kz
      have aA:cu.dst≠some t:=kz i cu ec ((dN i hi i).2 (.inl rfl)) ax
      rw[yY aA]
      exact mi.no t λj ei h1 h2 h3=>kz j ei h1 ((dN i hi j).2 (.inr h2)) h3
     ·rcases(dN i hi j).1 h2 with rfl|h7
      ·simp[sU,ax,eR]at h3
      ·exact wN.1 j h1 h7 h3
     ·have k1:listed.getD i1 false=true:=by
       rcases(dN i hi i1).1 h3 with rfl|h7
       ·simp[sU,ax,eR]at h5
       ·exact h7
      have k2:listed.getD hZ false=true:=by
       rcases(dN i hi hZ).1 h4 with rfl|h7
       ·simp[sU,ax,eR]at h6
       ·exact h7
      exact wN.2 i1 hZ h1 h2 k1 k2 h5 h6
    by_cases j6:∃i,i∈wh .any l.toArray listed/\i<n/\wL l.toArray i=true
    ·obtain⟨i,hi,ec,re⟩:=j6
     obtain⟨o,ax,_,_⟩:=e6 i ec
     obtain⟨tt,kX,Ex,iE⟩:=mem_ready.1 hi
     have agO:GA o=true:=by unfold wL at re;simpa [ax]using re
     have eR:gU o=false:=aq1 agO
     obtain⟨Cz,W4⟩:=step i hi ec o ax eR
     refine wpAny_first ax (Region.noSelect_spec as5) (λc dr w' aj=>aj.elim) f listed b dZ (λj ei ve nH asP asO=>?_) hi (aq2 agO (hK dZ u7) Cz) (W4 dZ (qc dZ))
     have KE:Bp .any l.toArray j i=false:=by
      cases aj:Bp .any l.toArray j i with
      |false=>rfl
      |true=>
       obtain⟨HE,KF,e,wR,wS,z7⟩:=FG aj
       have:HE=ei:=hV (KF.symm.trans ve)
       subst this
       exact absurd z7 (asO e wR wS)
     have ag9:j<n->Bp .any l.toArray i j=false:=λG2=>by
      cases aj:Bp .any l.toArray i j with
      |false=>rfl
      |true=>
       obtain⟨cu,jj,e,wR,wS,z7⟩:=FG aj
       have:cu=kX:=hV (jj.symm.trans Ex)
       subst this
       have:=iE e wR wS
       rw[z7,FH asP]at this;cases this
     by_cases G2:j<n
     ·have d1:=(ym yz ec ax).2.2 j ei
      have d2:=(ym yz G2 ve).2.2 i o
      simp only[Oper.apart,bo]
      constructor
      ·cases hd:o.dst with
       |none=>rfl
       |some d=>
        have:=d2 d ec (λe=>nH e.symm) ax hd
        simp only[bo,fF,bne_iff_ne,ne_eq]
        refine⟨?_,this.1⟩
        cases hc:(ei.looksAt l.toArray).contains d with
        |false=>rfl
        |true=>
         rcases this.2 (by simpa using hc)with h1|h1
         ·rw[KE]at h1;cases h1
         ·rw[ag9 G2]at h1;cases h1
      ·cases hd:ei.dst with
       |none=>rfl
       |some d=>
        have:=d1 d G2 nH ve hd
        simp only[fF]
        cases hc:(o.looksAt l.toArray).contains d with
        |false=>rfl
        |true=>
         rcases this.2 (by simpa using hc)with h1|h1
         ·rw[ag9 G2]at h1;cases h1
         ·rw[KE]at h1;cases h1
     ·have h1:=List.all_eq_true.1 asC i (List.mem_range.2 ec)
      simp only[re,ix,FF]at h1
      have h2:=List.all_eq_true.1 h1 j (List.mem_range.2 (Array.getElem?_eq_some_iff.1 ve).1)
      have hb:dv j n=false:=by cases aj:dv j n with|false=>rfl|true=>exact absurd (r3 aj) G2
      simp only[hb,KE,FF,ax,ve]at h2
      exact h2
    ·
     have as4:∃i,i<n/\wL l.toArray i=false/\listed.getD i false=false:=by
      have key:∀k,∀i,i<=k->i<n->listed.getD i false=false->∃i,i<n/\wL l.toArray i=false/\listed.getD i false=false:=by
       intro k
       induction k with
       |zero=>
        intro i WN ec aj
        cases kg:wL l.toArray i with
        |false=>exact⟨i,ec,kg,aj⟩
        |true=>
         obtain⟨o,ax,_,_⟩:=e6 i ec
         have hlt:i<listed.size:=by rw[inv.size];exact(Array.getElem?_eq_some_iff.1 ax).1
         exact absurd ⟨i,mem_ready.2 ⟨getD_in hlt aj,o,ax,λe he hb=>by have:=(ym yz ec ax).1 e he hb;omega⟩,ec,kg⟩ j6
       |succ k XC=>
        intro i WN ec aj
        cases kg:wL l.toArray i with
        |false=>exact⟨i,ec,kg,aj⟩
        |true=>
         obtain⟨o,ax,_,_⟩:=e6 i ec
         have hlt:i<listed.size:=by rw[inv.size];exact(Array.getElem?_eq_some_iff.1 ax).1
         by_cases agF:∀e∈o.after,abF .any e=true->listed.getD e.on false=true
         ·exact absurd ⟨i,mem_ready.2 ⟨getD_in hlt aj,o,ax,agF⟩,ec,kg⟩ j6
         ·have hex:∃e,e∈o.after/\abF .any e=true/\¬listed.getD e.on false=true:=by
           apply abu
           intro kz
           exact agF λe he hb=>abu λtq=>kz ⟨e,he,hb,tq⟩
          obtain⟨e,he,hb,tq⟩:=hex
          have h1:=(ym yz ec ax).1 e he hb
          exact XC e.on (by omega) (by omega) (by simpa using tq)
      obtain⟨i,hi,aj⟩:=o0
      exact key i i (bL _) hi aj
     refine⟨λh0=>absurd h0 cW,λi hi=>?_⟩
     have ec:i<n:=by
      rcases IW i n with h1|h1
      ·exact h1
      ·exfalso
       obtain⟨_,kX,Ex,_⟩:=mem_ready.1 hi
       have aIr:i<l.toArray.size:=(Array.getElem?_eq_some_iff.1 Ex).1
       simp only[Bm,bo]at ahh
       rcases ahh with h2|⟨h2,h3⟩
       ·have:=bO h2;omega
       ·obtain⟨i0,asJ,GV,wW⟩:=as4
        exact aAM h2 h3 (by omega) inv (n-i0) i0 rfl asJ GV wW i h1 hi
     obtain⟨o,ax,_,_⟩:=e6 i ec
     cases eR:gU o with
     |false=>
      obtain⟨Cz,W4⟩:=step i hi ec o ax eR
      exact aDb ax (hK dZ u7) Cz W4
     |true=>
      obtain⟨tt,_⟩:=mem_ready.1 hi
      have il:o.guard=none/\∃d,o.dst=some d:=by
       unfold gU at eR
       split at eR
       ·rename_i h1 h2 h3;exact⟨h2,_,h3⟩
       ·cases eR
      obtain⟨il,d,hd⟩:=il
      have Ct:=ym yz ec ax
      unfold wpOp
      simp only[ax]
      rw[if_pos (by simp[zz,il])]
      refine .inl ?_
      unfold mQ
      rw[Eg i o ec ax eR b dZ]
      show wpAny P .any l.toArray (calm Q) f (listed.setIfInBounds i true) (b.put o.dst _) _
      have Xz:∀j,j<n->listed.getD j false=true->sU l.toArray j=true->gr j<dZ.heap.size:=λj h1 h2 h3=>(Array.getElem?_eq_some_iff.1 (wN.1 j h1 h2 h3).2).1
      refine ih _ _ _ (λj=>if j=i then dZ.heap.size else gr j) (inv.set hi ec) (u7.alloc _) ⟨(put_defers _ _ _).trans mi.d,(E9 _ _ _).trans mi.bq,?_,?_,?_⟩ ⟨λj h1 h2 h3=>?_,λi1 hZ h1 h2 h3 h4 h5 h6 h7=>?_⟩ (ag2 i hi ec)
      ·rintro t ⟨j,ei,h1,h2,h3,Cn,h4⟩
       rcases(dN i hi j).1 h2 with rfl|h5
       ·have:ei=o:=hV (h3.symm.trans ax)
        subst this
        rw[eR]at Cn;cases Cn
       ·have nH:j≠i:=λe=>by subst e;rw[FH tt]at h5;cases h5
        rw[yY (Ct.2.2 j ei t h1 nH h3 h4).1]
        exact mi.q t ⟨j,ei,h1,h5,h3,Cn,h4⟩
      ·intro t j ei h1 h2 h3 h4 h5 h6
       rcases(dN i hi j).1 h2 with rfl|h7
       ·have:ei=o:=hV (h3.symm.trans ax)
        subst this
        rw[h5]
        simp only[if_true]
        rw[E9]at h6
        simp[IX,h6]
       ·have nH:j≠i:=λe=>by subst e;rw[FH tt]at h7;cases h7
        rw[yY (Ct.2.2 j ei t h1 nH h3 h5).1]
        rw[E9]at h6
        rw[if_neg nH]
        exact mi.al t j ei h1 h7 h3 h4 h5 h6
      ·intro t kz
       rw[yY (kz i o ec ((dN i hi i).2 (.inl rfl)) ax)]
       exact mi.no t λj ei h1 h2 h3=>kz j ei h1 ((dN i hi j).2 (.inr h2)) h3
      ·show w.drew.heap.size<=(if j=i then dZ.heap.size else gr j)/\(dZ.alloc (Z i)).heap[(if j=i then dZ.heap.size else gr j)]?=some (Z j)
       by_cases nH:j=i
       ·subst nH
        rw[if_pos rfl]
        exact⟨u7.size,heap_alloc_new dZ (Z j)⟩
       ·rw[if_neg nH]
        have h7:=((dN i hi j).1 h2).resolve_left nH
        obtain⟨ew,c9⟩:=wN.1 j h1 h7 h3
        exact⟨ew,by rw[heap_alloc_old dZ _ (Xz j h1 h7 h3)];exact c9⟩
      ·change (if i1=i then dZ.heap.size else gr i1)=(if hZ=i then dZ.heap.size else gr hZ)at h7
       by_cases ew:i1=i<;>by_cases c9:hZ=i
       ·rw[ew,c9]
       ·rw[if_pos ew,if_neg c9]at h7
        have:=Xz hZ h2 (((dN i hi hZ).1 h4).resolve_left c9) h6
        omega
       ·rw[if_neg ew,if_pos c9]at h7
        have:=Xz i1 h1 (((dN i hi i1).1 h3).resolve_left ew) h5
        omega
       ·rw[if_neg ew,if_neg c9]at h7
        exact wN.2 i1 hZ h1 h2 (((dN i hi i1).1 h3).resolve_left ew) (((dN i hi hZ).1 h4).resolve_left c9) h5 h6 h7
 have auO:HeadInv .any l.toArray n (zx l.toArray.size false):=
  ⟨by simp,λj ei _ hl=>(by rw[getD_replicate_false]at hl;cases hl),λt _ aA=>getD_in (by simpa using aA) (getD_replicate_false _ _)⟩
 have QA:∀j,¬(zx l.toArray.size false).getD j false=true:=λj h=>by rw[getD_replicate_false]at h;cases h
 refine main l.toArray.size _ a _ (λ_=>0) auO (qc w.drew) ⟨rfl,rfl,λt ⟨j,o,_,h2,_⟩=>absurd h2 (QA j),λt j o _ h2=>absurd h2 (QA j),λ_ _=>rfl⟩ ⟨λj _ h2=>absurd h2 (QA j),λi j _ _ h3=>absurd h3 (QA i)⟩ ?_
 have:(fk n).countP (λi=> !(zx l.toArray.size false).getD i false)<=n:=by
  have:=List.countP_le_length (p:=λi=> !(zx l.toArray.size false).getD i false) (l:=fk n)
  simpa using this
 omega
end
end Go.b6
namespace Go.b6
open M
inductive X where
 |normal
 |exit (id:Nat)
 |ret
def X.to:X->Exit
 |normal=> .normal
 |exit id=> .exit id
 |ret=> .ret
abbrev gR:=Nat->List V->List aG->T
abbrev uF:=X->gR
abbrev RK:=Nat->V->List aG->T
abbrev kt:=dn->Nat->List V->List aG->RK->T
structure fH where
 fR:List Nat
 ints:List (Nat×Int×Int)
 cells:List (Nat×Nat×Int×Int)
 r5:List Nat:=[]
 q2:List (Nat×List aL×bh):=[]
 ZS:List (Nat×List aL×Nat):=[]
 nc:List (Nat×List aL):=[]
def dE:List aG->Nat->aG->List aG
 |[],_,_=>[]
 |_::r,0,b=>b::r
 |x::r,i+1,b=>x::dE r i b
theorem kE:∀(l:List aG) (i:Nat) (b:aG),dE l i b=l.set i b
 |[],_,_=>rfl
 |_::_,0,_=>rfl
 |_::r,i+1,b=>by simp[dE,kE r i b]
def azH (cal:eW) (dyn:Bool) (o:Oper):Bool:=
 match o.op with
 | .alloc _| .box _ _| .store _ _ _| .buildSlice _ _ _| .makeSlice _ _ _=>false
 | .call c=>match c.callee with
  | .value (.func f)=>(cal f).isSome
  | .value (.tmp _)=>dyn
  | .builtin .append=>false
  | .builtin .clear=>false
  | .builtin .copy=>false
  |_=>true
 |_=>true
def LS (z:List A) (len:Nat):List A:=(fk (len*z.length)).map λi=>(z[i% z.length]?).getD (.con undef)
def UX (P:bQ) (t:bh) (len:Nat) (parts:List (Nat×V)):Option (List A×bh):=
 match jo P t with
 |some e=>match e7 P e,nX P e with
  |some s,some z=>cond (aK z.length s&&dv 0 s&&cx (len*s) 16777216) (match yw (λi=>some (i*s,s)) (LS z len) parts with|some cs=>some (cs,e)|none=>none) none
  |_,_=>none
 |none=>none
def va (bl:List aG) (b off k:Nat):Option (List A):=
 match bl[b]? with
 |some (cs,_)=>cond (cx (off+k) cs.length&&b7 cs) (some ((cs.drop off).take k)) none
 |none=>none
def OM (i:TypeInfo) (e:bh) (z:List A) (d:Option Tmp) (gp qR len:Nat) (olds news:List A) (n:Nat) (tm:List V) (bl:List aG) (k:gR):T:=
 cond (cx (gp+len) 1000000&&cx (Builtin.nextslicecap (gp+len) qR*i.bytes) 281474976710656&&dv qR (gp+len)&&dv 0 len&&aK z.length i.size&&dv 0 i.size&&b7 (olds++news)&&b7 (olds++news++z))
  (.both (k n (fw tm d (.w (.one (.slc bl.length 0 (gp+len) (gp+len))))) (bl++[(olds++news,(e,false))]))
    (k n (fw tm d (.p3 bl.length (gp+len) (gp+len+1))) (bl++[(olds++news++z,(e,true))]))) .stuck
def XG:V->Bool
 | .w (.one (.con (.slice none 0 0)))=>true
 |_=>false
def UA (P:bQ) (d:Option Tmp) (t t':bh) (s x:V) (n:Nat) (tm:List V) (bl:List aG) (k:gR):T:=
 match x,jo P t with
 | .w (.one (.slc b' jB oz _)),some e=>match P.info? e,nX P e with
  |some i,some z=>match va bl b' jB (oz*i.size)with
   |some news=>cond (!(aK t t')) .stuck <| cond (XG s) (OM i e z d 0 0 oz [] news n tm bl k) <| match s with
    | .w (.one (.slc b off len cap))=>match va bl b off (len*i.size)with
     |some olds=>OM i e z d len cap oz olds news n tm bl k
     |none=> .stuck
    | .p3 b len lo=>match bl[b]? with
     |some (cs,ty)=>cond (cx (len+oz) lo&&cx ((len+oz)*i.size) cs.length&&dv 0 (oz*i.size)&&b7 cs&&b7 (cs.take (len*i.size)++news++cs.drop (len*i.size+news.length))) (k n (fw tm d (.p3 b (len+oz) lo)) (dE bl b (cs.take (len*i.size)++news++cs.drop (len*i.size+news.length),ty))) .stuck
     |none=> .stuck
    |_=> .stuck
   |none=> .stuck
  |_,_=> .stuck
 |_,_=> .stuck
def nT (sh:List aL):Bool:=cx sh.length 100&&dv 0 sh.length&&sh.all λc=>match c with
 | .int _ lo hi=>decide (-18446744073709551616<=lo)&&decide (hi<=18446744073709551616)
 |_=>true
def EH (e:bw):M I:=λn k=> .ind n e (k (.var n) (n+1))
def U6 (c:aL) (a:A):M I:=
 match c,a with
 | .int k lo hi,.int bA x=>cond (decide (k=bA)&&decide (lo<=x.lo)&&decide (x.hi<=hi)) (pure x.l) fail
 | .str,.str l=>pure l
 | .bool,.bool e=>match e with
  | .lit v=>pure (.const (cond v 1 0))
  |e=>EH e
 |_,_=>fail
def A5:List aL->List A->M (List I)
 |[],[]=>pure []
 |c::sh,a::r=>bind (U6 c a) λl=>bind (A5 sh r) λls=>pure (l::ls)
 |_,_=>fail
noncomputable def BE (sh:List aL):List (List A)->I->M I
 |[],c=>pure c
 |row::rs,c=>bind (A5 sh row) λls=>bind (fa 23 (c::ls) 0 bN) λeg=>BE sh rs eg
def oS (w:Nat):Nat->List A->List (List A)
 |0,_=>[]
 |k+1,l=>l.take w::oS w k (l.drop w)
noncomputable def Rm (P:bQ) (qU:bh) (sh:List aL) (bl:List aG) (x:V) (base:I):M (I×I):=
 match x with
 | .w (.one (.slc b off len _))=>match va bl b off (len*sh.length),jo P qU with
  |some cs,some _=>bind (gh 23 [base,.const len]) λ_=>bind (BE sh (oS sh.length len cs) base) λc=>pure (c,.const len)
  |_,_=>fail
 | .w (.one (.sl b bq o ro len _))=>match bl[b]?,jo P qU with
  |some ([.rows fh off code eE kind],_),some _=>cond (dv 0 kind&&qS sh fh&&I.beq o off&&aK bq sh.length) (bind (gh 22 [code,ro,ro.add len]) λ_=>bind (gh 23 [base,len]) λ_=>bind (fa 22 [code,ro,ro.add len] 0 bN) λs=>bind (fa 24 [base,s] 0 bN) λc=>pure (c,len)) fail
  |_,_=>fail
 | .w (.one (.str l))=>match P.underlying qU with
  |some .string=>cond (Nt sh) (bind (fa 0 [l] 0 9223372036854775807) λlen=>bind (gh 23 [base,len]) λ_=>bind (fa 27 [l] 0 bN) λs=>bind (fa 24 [base,s] 0 bN) λc=>pure (c,len)) fail
  |_=>fail
 | .w (.one (.con (.slice none 0 0)))=>match jo P qU with
  |some _=>bind (gh 23 [base,.const 0]) λ_=>pure (base,.const 0)
  |none=>fail
 |_=>fail
def aAI (bl:List aG):V->Option (List aL)
 | .w (.one (.sl b _ _ _ _ _))=>match bl[b]? with
  |some ([.rows sh _ _ _ _],_)=>some sh
  |_=>none
 |_=>none
def Rk:List A->Option (List aL)
 |[]=>some []
 | .int k _::r=>(Rk r).map (.int k k.min k.max::·)
 | .str _::r=>(Rk r).map (.str::·)
 | .bool _::r=>(Rk r).map (.bool::·)
 |_=>none
def aAJ (bl:List aG) (s x:V) (z:List A):Option (List aL):=match aAI bl x with
 |some sh=>some sh
 |none=>match s,x with
  | .w (.one (.slc ..)),.w (.one (.slc ..))=>Rk z
  |_,_=>none
def abm:V->Bool
 | .w (.one (.sl _ _ _ _ len cap))=>match len.ed,cap.ed with|some l,some c=>decide (l=0)&&decide (c=0)|_,_=>false
 | .w (.one (.slc _ _ len cap))=>aK len 0&&aK cap 0
 | .w (.one (.con (.slice none 0 0)))=>true
 |_=>false
noncomputable def J0 (kd:Nat) (e:bh) (d:Option Tmp) (sh:List aL) (code len:I) (n:Nat) (tm:List V) (bl:List aG) (k:gR):T:=
 .sz n (-1) 9223372036854775807 (k (n+1) (fw tm d (.w (.one (.sl bl.length sh.length (.const 0) (.const 0) len (.var n))))) (bl++[([.rows sh (.const 0) code (.var n) kd],(e,false))]))
noncomputable def GH (e:bh) (d:Option Tmp) (sh:List aL) (code len:I) (n:Nat) (tm:List V) (bl:List aG) (k:gR):T:=
 .sz n (-1) 9223372036854775807 (k (n+1) (fw tm d (.w (.one (.sl bl.length sh.length (.const 0) (.const 0) len (.var n))))) (bl++[([.rows sh (.const 0) code (.var n) 2],(e,false))]))
noncomputable def afP (P:bQ) (qU e:bh) (d:Option Tmp) (sh:List aL) (s x:V) (n:Nat) (tm:List V) (bl:List aG) (k:gR):T:=
 Rm P qU sh bl x (.const 0) n λp n'=>match p.2.ed with
  |some 0=>k n' (fw tm d s) bl
  |some _=>GH e d sh p.1 p.2 n' tm bl k
  |none=> .r6 (.le p.2 (.const 0)) (k n' (fw tm d s) bl) (GH e d sh p.1 p.2 n' tm bl k)
def GF (sh:List aL) (i:TypeInfo) (z:List A):Bool:=nT sh&&aK i.size sh.length&&aK z.length sh.length&&cx i.bytes 131072
noncomputable def UB (P:bQ) (d:Option Tmp) (t t':bh) (s x:V) (n:Nat) (tm:List V) (bl:List aG) (k:gR):Option T:=
 match jo P t with
 |none=>none
 |some e=>match P.info? e,nX P e with
  |some i,some z=>match abm s with
   |true=>match aAJ bl s x z with
    |some sh=>cond (GF sh i z) (some (afP P t' e d sh s x n tm bl k)) none
    |none=>none
   |false=>match s with
    | .w (.one (.sl b _ o ro len cap))=>match bl[b]? with
     |some ([.rows sh off code eE kind],dp)=>cond (GF sh i z&&aK kind 2&&I.beq o (.const 0)&&I.beq off (.const 0)&&I.beq ro (.const 0)&&I.beq cap eE&&aK dp.1 e)
      (some (.qy 31 [code,len] (Rm P t' sh bl x code n λp n'=>GH e d sh p.1 (len.add p.2) n' tm (dE bl b ([.rows sh off code eE 0],dp)) k))) none
     |_=>none
    |_=>none
  |_,_=>none
noncomputable def aan (P:bQ) (o:Oper) (n:Nat) (tm:List V) (bl:List aG) (k:gR):Option T:=
 match o.op with
 | .call c=>match c.callee with
  | .builtin .append=>match c.args.toList,c.argTypes.toList with
   |[s,x],[t,t']=>UB P o.dst t t' (cd tm s) (cd tm x) n tm bl k
   |_,_=>none
  |_=>none
 |_=>none
def iW:List aL:=[.int .u8 0 255]
def Pv (fn:Func):Bool:=fn.name== "internal/bytealg.MakeNoZero" &&fn.body.isNone&&fn.origin== ""
noncomputable def A7 (P:bQ) (o:Oper) (n:Nat) (tm:List V) (bl:List aG) (k:gR):Option T:=
 match o.op with
 | .store t p x=>match cd tm p,cd tm x with
  | .w (.one (.ep b bq cu i j)),.w u=>match bl[b]?,e7 P t with
   |some ([.rows sh off code cap kind],dp),some s=>cond (cx 2 kind&&aK bq sh.length&&I.beq cu off&&aK u.cells.length s&&dv 0 s&&cx (j+s) sh.length&&nT sh)
    (some (gh 21 [code,i] n λ_ n=>FW 67 [code,i,.const sh.length] n λ_ n=>A5 ((sh.drop j).take s) u.cells n λls n=>fa 42 (code::i:: .const j::ls) 0 bN n λcode' n=>k n (fw tm o.dst (.h9 [])) (dE bl b ([.rows sh off code' cap kind],dp)))) none
   |_,_=>none
  |_,_=>none
 | .convert s d x=>match cd tm x with
  | .w (.one (.str l))=>match P.underlying s,jo P d with
   |some .string,some e=>match P.underlying e with
    |some (.int .u8)=>some (fa 27 [l] 0 bN n λcode n=>fa 0 [l] 0 9223372036854775807 n λlen n=>J0 3 e o.dst iW code len n tm bl k)
    |_=>none
   |_,_=>none
  | .w (.one (.slc b 0 len cap))=>match bl[b]?,jo P d with
   |some (C,t),some e=>match P.underlying e with
    |some (.int .u8)=>cond (aK s d&&b7 C&& !t.2&&aK C.length len&&aK cap len&&cx len 1000000)
     (some (BE iW (oS 1 len C) (.const 0) n λcode n=>k n (fw tm o.dst (.w (.one (.sl b 1 (.const 0) (.const 0) (.const len) (.const len))))) (dE bl b ([.rows iW (.const 0) code (.const len) 3],t)))) none
    |_=>none
   |_,_=>none
  |_=>none
 | .makeSlice t x y=>match jo P t,rn (cd tm x),rn (cd tm y)with
  |some e,some oA,some nO=>match P.info? e with
   |some i=>match i.zero with
    |some (.int .u8 z)=>cond (aK i.size 1&&cx i.bytes 1024&&decide (z=0)) (some (.qy 49 [oA,nO] (fa 26 [oA,.const 0] 0 bN n λcode n=>J0 2 e o.dst iW code oA n tm bl k))) none
    |_=>none
   |none=>none
  |_,_,_=>none
 | .call c=>match c.callee with
  | .value (.func f)=>match P.funcs[f]?,c.args.toList with
   |some fn,[x]=>match cd tm x,fn.resultTypes.toList with
    | .w (.one (.int .i64 y)),[t]=>match jo P t with
     |some e=>match P.underlying e with
      |some (.int .u8)=>cond (Pv fn) (some (.qy 26 [y.l] (.sz n 0 bN (.uT 31 [.var n,y.l] (.sz (n+1) 0 9223372036854775807 (.uT 79 [y.l,.var (n+1)]
       (k (n+2) (fw tm o.dst (.w (.one (.sl bl.length 1 (.const 0) (.const 0) y.l (.var (n+1)))))) (bl++[([.rows iW (.const 0) (.var n) (.var (n+1)) 2],(e,false))]))))))))
       none
      |_=>none
     |none=>none
    |_,_=>none
   |_,_=>none
  |_=>none
 |_=>none
noncomputable def aao (P:bQ) (o:Oper) (n:Nat) (tm:List V) (bl:List aG) (k:gR):Option T:=
 match o.op with
 | .call c=>match c.callee with
  | .builtin .clear=>match c.args.toList,c.argTypes.toList with
   |[x],[t]=>match cd tm x,jo P t with
    | .w (.one (.sl b bq cu ro len cap)),some e=>match bl[b]?,nX P e with
     |some ([.rows sh off code eE kind],dp),some z=>cond (cx 2 kind&&I.beq cu off&&aK bq sh.length&&nT sh&&aK z.length sh.length)
      (some (gh 65 [code,ro,len] n λ_ n=>A5 sh z n λls n=>fa 61 (code::ro::len::ls) 0 bN n λcode' n=>k n (fw tm o.dst (.h9 [])) (dE bl b ([.rows sh off code' eE kind],dp)))) none
     |_,_=>none
    |_,_=>none
   |_,_=>none
  | .builtin .copy=>match c.args.toList,c.argTypes.toList with
   |[x,y],[t,t']=>match cd tm x,cd tm y,jo P t with
    | .w (.one (.sl b bq cu ro len cap)),.w (.one (.sl b4 aav tF hT hP yj)),some e=>match bl[b]?,bl[b4]?,e7 P e with
     |some ([.rows sh off code eE kind],dp),some ([.rows aab AN iN zR AG],_),some s=>cond (cx 2 kind&&dv 0 AG&&I.beq cu off&&I.beq tF AN&&qS sh aab&&aK bq sh.length&&aK aav sh.length&&aK s sh.length&&nT sh)
      (some (gh 80 [code,ro,len] n λ_ n=>gh 22 [iN,hT,hT.add hP] n λ_ n=>fa 62 [hP,len] 0 9223372036854775807 n λq n=>fa 22 [iN,hT,hT.add q] 0 bN n λsrc n=>fa 63 [code,ro,src] 0 bN n λcode' n=>k n (fw tm o.dst (.w (.one (.int .i64 ⟨q,0,9223372036854775807⟩)))) (dE bl b ([.rows sh off code' eE kind],dp)))) none
     |_,_,_=>none
    | .w (.one (.sl ..)),.w (.one (.con (.slice none 0 0))),some e=>match e7 P e with
     |some _=>some (k n (fw tm o.dst (.w (.one (.int .i64 ⟨.const 0,0,0⟩)))) bl)
     |none=>none
    |_,_,_=>none
   |_,_=>none
  |_=>none
 |_=>none
noncomputable def aap (P:bQ) (o:Oper) (n:Nat) (tm:List V) (bl:List aG) (k:gR):Option T:=
 match o.op with
 | .call c=>match c.callee with
  | .builtin .copy=>match c.args.toList,c.argTypes.toList with
   |[x,y],[t,_]=>match cd tm x,cd tm y,jo P t with
    | .w (.one (.slc b off len _)),.w (.one (.slc b4 AN hP _)),some e=>match bl[b]?,va bl b4 AN (I1 hP len),e7 P e with
     |some (C,dp),some l,some s=>cond (aK s 1&&cx (off+l.length) C.length&&b7 C&&b7 (C.take off++l++C.drop (off+l.length)))
      (some (k n (fw tm o.dst (.w (.one (.int .i64 (bM.const (I1 hP len:Nat)))))) (dE bl b (C.take off++l++C.drop (off+l.length),dp)))) none
     |_,_,_=>none
    |_,_,_=>none
   |_,_=>none
  |_=>none
 |_=>none
noncomputable def Q2 (code:I) (kd:du) (lo hi:Int):Nat->Nat->M (List A)
 |0,_=>pure []
 |c+1,i=>bind (gh 21 [code,.const i]) λ_=>bind (fa 21 [code,.const i,.const 0] lo hi) λl=>bind (Q2 code kd lo hi c (i+1)) λr=>pure (.int kd ⟨l,lo,hi⟩::r)
noncomputable def aaq (P:bQ) (o:Oper) (n:Nat) (tm:List V) (bl:List aG) (k:gR):Option T:=
 match o.op with
 | .load t p=>match cd tm p with
  | .w (.one (.ptr b 0))=>match bl[b]?,jL P t,e7 P t with
   |some ([.rows [.int kd lo hi] off code cap kind],_),some true,some s=>cond (cx 2 kind&&dv 0 s)
    (some (Q2 code kd lo hi s 0 n λl n=>k n (fw tm o.dst (.w (.agg l))) bl)) none
   |_,_,_=>none
  |_=>none
 |_=>none
def Vb:V->Option (Nat×List A)
 | .qz f jS=>some (f,jS)
 | .w (.one (.con (.func (.func f) a b)))=>cond (aK a.size 0&&aK b.size 0) (some (f,[])) none
 |_=>none
noncomputable def aam (P:bQ) (gl:eI) (cal:eW) (inl:kt) (o:Oper) (n:Nat) (tm:List V) (bl:List aG) (k:gR):T:=
 match o.op with
 | .alloc t=>match nX P t with
  |some cs=>cond (b7 cs) (k n (fw tm o.dst (.w (.one (.ptr bl.length 0)))) (bl++[(cs,(t,false))])) .stuck
  |none=> .stuck
 | .box t x=>match cd tm x with
  | .w u=>cond (b7 u.cells) (k n (fw tm o.dst (.w (.one (.ptr bl.length 0)))) (bl++[(u.cells,(t,false))])) .stuck
  |_=> .stuck
 | .buildSlice t len parts=>match UX P t len (parts.toList.map λp=>(p.1,cd tm p.2))with
  |some (cs,e)=>cond (b7 cs) (k n (fw tm o.dst (.w (.one (.slc bl.length 0 len len)))) (bl++[(cs,(e,false))])) .stuck
  |none=> .stuck
 | .store t p x=>match cd tm p,cd tm x with
  | .w (.one (.ptr b off)),.w u=>match bl[b]?,e7 P t with
   |some (cs,dp),some s=>cond (aK u.cells.length s&&cx (off+s) cs.length&&dv 0 s&&b7 cs&&b7 (cs.take off++u.cells++cs.drop (off+s))) (k n (fw tm o.dst (.h9 [])) (dE bl b (cs.take off++u.cells++cs.drop (off+s),dp))) .stuck
   |_,_=> .stuck
  |_,_=> .stuck
 | .call c=>match c.callee with
  | .value (.func f)=>match cal f with
   |some _=>AW P cal gl bl tm o n λv n'=>k n' (fw tm o.dst v) bl
   |none=>inl f n (c.args.toList.map (cd tm)) bl λn' v bj=>k n' (fw tm o.dst v) bj
  | .value (.tmp x)=>match Ok cal bl tm o with
   |some _=>AW P cal gl bl tm o n λv n'=>k n' (fw tm o.dst v) bl
   |none=>match Vb (cd tm (.tmp x))with
   |some (f,jS)=>inl f n (c.args.toList.map (cd tm)++jS.map λy=>V.w (.one y)) bl λn' v bj=>k n' (fw tm o.dst v) bj
   |none=> .stuck
  | .builtin .append=>match c.args.toList,c.argTypes.toList with
   |[s,x],[t,t']=>UA P o.dst t t' (cd tm s) (cd tm x) n tm bl k
   |_,_=> .stuck
  |_=>AW P cal gl bl tm o n λv n'=>k n' (fw tm o.dst v) bl
 |_=>AW P cal gl bl tm o n λv n'=>k n' (fw tm o.dst v) bl
noncomputable def Rn (P:bQ) (gl:eI) (cal:eW) (inl:kt) (o:Oper) (n:Nat) (tm:List V) (bl:List aG) (k:gR):T:=
 match aan P o n tm bl k with
 |some t=>t
 |none=>match A7 P o n tm bl k with
  |some t=>t
  |none=>match aao P o n tm bl k with
   |some t=>t
   |none=>match aap P o n tm bl k with
    |some t=>t
    |none=>match aaq P o n tm bl k with
     |some t=>t
     |none=>aam P gl cal inl o n tm bl k
def u1:bw->Bool->Option (I×Option Int×Option Int)
 | .le p q,true=>match p.ed,q.ed with|some c,none=>some (q,some c,none)|none,some c=>some (p,none,some c)|_,_=>none
 | .le p q,false=>match p.ed,q.ed with|some c,none=>some (q,none,some (c-1))|none,some c=>some (p,some (c+1),none)|_,_=>none
 | .lt p q,true=>match p.ed,q.ed with|some c,none=>some (q,some (c+1),none)|none,some c=>some (p,none,some (c-1))|_,_=>none
 | .lt p q,false=>match p.ed,q.ed with|some c,none=>some (q,none,some c)|none,some c=>some (p,some c,none)|_,_=>none
 | .not b,v=>u1 b (!v)
 |_,_=>none
def Ht (a:Int):Option Int->Int
 |some b=>cond (decide (a<=b)) b a
 |none=>a
def Ld (a:Int):Option Int->Int
 |some b=>cond (decide (b<=a)) b a
 |none=>a
def Oh (b:bw) (v:Bool) (r:Option (I×Option Int×Option Int)):V->V
 | .w (.one (.bool e))=> .w (.one (.bool (cond (bw.beq e b) (.lit v) e)))
 | .w (.one (.int k x))=>match r with
  |some (l,lo,hi)=> .w (.one (.int k (cond (I.beq x.l l) (cond (decide (Ht x.lo lo=Ld x.hi hi)) (.const (Ht x.lo lo)) ⟨x.l,Ht x.lo lo,Ld x.hi hi⟩) x)))
  |none=> .w (.one (.int k x))
 |u=>u
def uo (b:bw) (v:Bool) (l:List V):List V:=l.map (Oh b v (u1 b v))
def D6 (ops:Array Oper) (tm:List V) (o:Oper) (yes no:List V->T):T:=
 match o.guard with
 |none=>yes tm
 |some (g,want)=>match(ops[g]?).bind (·.dst)with
  |none=> .stuck
  |some d=>match tm[d]? with
   |some (.w (.one (.bool b)))=>match b with
    | .lit v=>cond (v==want) (yes tm) (no tm)
    |b=> .r6 b (cond want (yes (uo b true tm)) (no (uo b true tm))) (cond want (no (uo b false tm)) (yes (uo b false tm)))
   |some (.h9 [])=>no tm
   |_=> .stuck
noncomputable def HF (P:bQ) (gl:eI) (cal:eW) (inl:kt) (ops:Array Oper):List Oper->Nat->List V->List aG->gR->T
 |[],n,tm,bl,k=>k n tm bl
 |o::r,n,tm,bl,k=>D6 ops tm o (λtm=>Rn P gl cal inl o n tm bl λn' cr bj=>HF P gl cal inl ops r n' cr bj k) (λtm=>HF P gl cal inl ops r n (fw tm o.dst (.h9 [])) bl k)
def Ux (g:Nat->T):List Nat->T
 |[]=> .stuck
 |[i]=>g i
 |i::r=> .both (g i) (Ux g r)
noncomputable def GR (P:bQ) (gl:eI) (cal:eW) (ops:Array Oper):List Oper->Nat->List V->List aG->(Nat->List V->T)->T
 |[],n,tm,bl,k=>k n tm
 |o::r,n,tm,bl,k=>cond (gU o) (GR P gl cal ops r n tm bl k) (D6 ops tm o (λtm=>AW P cal gl bl tm o n λv n'=>GR P gl cal ops r n' (fw tm o.dst v) bl k) (λtm=>GR P gl cal ops r n (fw tm o.dst (.h9 [])) bl k))
def Jh (P:bQ):List Oper->Nat->List V->List aG->gR->T
 |[],n,tm,bl,k=>k n tm bl
 |o::r,n,tm,bl,k=>cond (gU o) (match o.op with
  | .alloc t=>match nX P t with
   |some cs=>cond (b7 cs) (Jh P r n (fw tm o.dst (.w (.one (.ptr bl.length 0)))) (bl++[(cs,(t,false))]) k) .stuck
   |none=> .stuck
  |_=> .stuck) (Jh P r n tm bl k)
def Sm (P:bQ) (l:List Oper):Bool:=l.all λo=> !gU o||(match o.op with| .alloc t=>(nX P t).isSome|_=>false)
def GS (cal:eW) (dyn:Bool) (ops:Array Oper):List Tmp->List Oper->Nat
 |_,[]=>0
 |ds,o::r=>cond ((o.looksAt ops).any ds.contains) 0 <| cond (gU o) (GS cal dyn ops (match o.dst with|some d=>d::ds|none=>ds) r+1) <| cond (azH cal dyn o) (GS cal dyn ops ds r+1) 0
def Ko (P:bQ) (cal:eW) (ops:Array Oper):Nat:=
 cond (Ij ops (GS cal false ops [] ops.toList)&&Sm P (ops.toList.take (GS cal false ops [] ops.toList))) (GS cal false ops [] ops.toList) (GS cal true ops [] ops.toList)
def Gy:Code->Option Nat
 | .region id _ _=>some id
 | .seq a b=>match Gy a with|some i=>some i|none=>Gy b
 | .block _ c| .loop c| .scope c=>Gy c
 | .cond _ a b=>match Gy a with|some i=>some i|none=>Gy b
 |_=>none
def Vc:aP->aP->Bool
 | .pointer none,.pointer none=>true
 | .slice none 0 0,.slice none 0 0=>true
 | .func (.func f) a b,.func (.func qB) dr b'=>aK f qB&&aK a.size 0&&aK b.size 0&&aK dr.size 0&&aK b'.size 0
 |_,_=>false
def A.beq:A->A->Bool
 | .int k x,.int bA y=>decide (k=bA)&&I.beq x.l y.l&&x.lo==y.lo&&x.hi==y.hi
 | .bool a,.bool b=>bw.beq a b
 | .con a,.con b=>Vc a b
 | .ptr b o,.ptr b' cu=>aK b b'&&aK o cu
 | .gptr b o,.gptr b' cu=>aK b b'&&aK o cu
 | .slc b o l c,.slc b' cu l' eg=>aK b b'&&aK o cu&&aK l l'&&aK c eg
 | .str a,.str b=>I.beq a b
 | .rows sh o c q k,.rows fh cu eg eA bA=>qS sh fh&&I.beq o cu&&I.beq c eg&&I.beq q eA&&aK k bA
 | .sl b z o r l c,.sl b' abf cu r' l' eg=>aK b b'&&aK z abf&&I.beq o cu&&I.beq r r'&&I.beq l l'&&I.beq c eg
 | .ep b z o i j,.ep b' abf cu CB XI=>aK b b'&&aK z abf&&I.beq o cu&&I.beq i CB&&aK j XI
 |_,_=>false
def oQ:List A->List A->Bool
 |[],[]=>true
 |a::r,b::s=>A.beq a b&&oQ r s
 |_,_=>false
def V.beq:V->V->Bool
 | .w (.one a),.w (.one b)=>A.beq a b
 | .w (.agg l),.w (.agg l')=>oQ l l'
 | .h9 [],.h9 []=>true
 | .qz f l,.qz qB l'=>aK f qB&&oQ l l'
 |_,_=>false
def Ci (i:Nat):List (Nat×Int×Int)->Option (Int×Int)
 |[]=>none
 |(j,lo,hi)::r=>cond (aK i j) (some (lo,hi)) (Ci i r)
noncomputable def hs (fR:List Nat) (ints:List (Nat×Int×Int)):Nat->Nat->List V->Option (List V×List I×List (Int×Int))
 |_,_,[]=>some ([],[],[])
 |i,s,v::r=>cond (fR.any (aK i)) (match hs fR ints (i+1) s r with|some (t,l,b)=>some (v::t,l,b)|none=>none)
  (match Ci i ints with
  |some (lo,hi)=>match v with
   | .w (.one (.int k x))=>cond (decide (lo<=x.lo)&&decide (x.hi<=hi)) (match hs fR ints (i+1) (s+1) r with|some (t,l,b)=>some (.w (.one (.int k ⟨.var s,lo,hi⟩))::t,x.l::l,(lo,hi)::b)|none=>none) none
   | .w (.one (.str x))=>(match hs fR ints (i+1) (s+1) r with|some (t,l,b)=>some (.w (.one (.str (.var s)))::t,x::l,(0,n4)::b)|none=>none)
   |_=>none
  |none=>match hs fR ints (i+1) s r with|some (t,l,b)=>some (.any::t,l,b)|none=>none)
noncomputable def kL (lo hi:Int) (s:Nat):A->Option (A×I×(Int×Int))
 | .int k x=>cond (decide (lo<=x.lo)&&decide (x.hi<=hi)) (some (.int k ⟨.var s,lo,hi⟩,x.l,(lo,hi))) none
 | .str x=>some (.str (.var s),x,(0,n4))
 | .rows sh off code cap k=>some (.rows sh off (.var s) cap k,code,(0,bN))
 |_=>none
noncomputable def ha (ints:List (Nat×Int×Int)):Nat->Nat->List A->Option (List A×List I×List (Int×Int))
 |_,_,[]=>some ([],[],[])
 |i,s,v::r=>match Ci i ints with
  |some (lo,hi)=>match kL lo hi s v with
   |some (a,x,fq)=>match ha ints (i+1) (s+1) r with|some (t,l,b)=>some (a::t,x::l,fq::b)|none=>none
   |none=>none
  |none=>match ha ints (i+1) s r with|some (t,l,b)=>some (v::t,l,b)|none=>none
def cellsOf (b:Nat):List (Nat×Nat×Int×Int)->List (Nat×Int×Int)
 |[]=>[]
 |(b',c,q)::r=>cond (aK b b') ((c,q)::cellsOf b r) (cellsOf b r)
noncomputable def hb (cells:List (Nat×Nat×Int×Int)):Nat->Nat->List aG->Option (List aG×List I×List (Int×Int))
 |_,_,[]=>some ([],[],[])
 |i,s,(cs,ty)::r=>match ha (cellsOf i cells) 0 s cs with
  |some (c,l,b)=>match hb cells (i+1) (s+l.length) r with
   |some (t,l',b')=>some ((c,ty)::t,l++l',b++b')
   |none=>none
  |none=>none
def nE:List V->List V->Bool
 |[],[]=>true
 | .any::r,_::s=>nE r s
 |v::r,u::s=>V.beq v u&&nE r s
 |_,_=>false
def nD:List aG->List aG->Bool
 |[],[]=>true
 |(c,t)::r,(eg,t')::s=>oQ c eg&&aK t.1 t'.1&&(t.2==t'.2)&&nD r s
 |_,_=>false
def ft:aG:=([.rows [] (.const 0) (.const 0) (.const 0) 0],(0,false))
def yJ:List A->Bool
 |[.rows _ _ _ _ k]=>aK k 1
 |_=>false
def iY (N:Nat):Nat->List aG->List aG
 |_,[]=>[]
 |i,p::r=>cond (dv i N&&(b7 p.1||yJ p.1)) p ft::iY N (i+1) r
def OZ (N:Nat) (tm:List V) (bl:List aG) (o:Oper):Bool:=match o.op with
 | .move _| .assign _| .extract _ _| .fieldAddr .. =>true
 | .load _ p=>match cd tm p with
  | .w (.one (.ptr b _))=>dv b N&&(match bl[b]? with|some p=>b7 p.1|none=>false)
  |_=>false
 | .slice _ x _ _ _=>match cd tm x with| .w (.one (.sl ..))=>true|_=>false
 |_=>false
def O0 (N:Nat) (tm:List V) (bl:List aG) (o:Oper):Bool:=match o.op with
 | .binOp _ _ x y _=>match cd tm x,cd tm y with
  | .w (.one (.int ..)),.w (.one (.int ..))=>true
  |_,_=>false
 | .indexAddr _ x _=>match cd tm x with| .w (.one (.sl ..))=>true|_=>false
 | .slice _ x _ _ _=>match cd tm x with| .w (.one (.str _))=>true|_=>false
 | .load _ p=>match cd tm p with
  | .w (.one (.ep b ..))=>dv b N&&(match bl[b]? with|some p=>yJ p.1|none=>false)
  |_=>false
 |_=>false
def Pw (o:Oper):Bool:=match o.op with| .store .. =>true|_=>false
def YH (o:Oper):Bool:=match o.op with| .move _| .assign _| .extract _ _| .fieldAddr .. | .load .. | .slice .. =>true|_=>false
def ahN (o:Oper):Bool:=match o.op with| .call c=>(match c.callee with| .value _=>true|_=>false)|_=>false
def auQ (o:Oper):Bool:=match o.op with| .call c=>(match c.callee with| .builtin .copy=>true|_=>false)|_=>false
def awf (ops:List Oper) (p:oM):Bool:=match p with
 | .tmp d=>ops.any λo=>o.dst==some d&&(match o.op with| .alloc .. =>true|_=>false)
 |_=>false
def YJ (ops:Array Oper):Bool:=(ops.toList.any (λo=>Pw o||ahN o)&&cx 7 (ops.toList.filter λo=> !YH o).length)||(ops.toList.any ahN&&ops.toList.any Pw&&ops.toList.all λo=>match o.op with| .store _ p _=>awf ops.toList p|_=>true)
def Kq (tm:List V) (o:Oper):Bool:=match o.op with
 | .slice _ x _ _ _=>match cd tm x with| .w (.one (.ptr ..))=>true|_=>false
 |_=>false
def agL (N:Nat) (tm:List V) (bl:List aG) (ops:Array Oper) (listed:Array Bool):Option Nat:=
 cond (Ss ops) ((wh .any ops listed).find? λi=>(match ops[i]? with|some o=>OZ N tm bl o||(YJ ops&&(O0 N tm bl o||Kq tm o))||(ops.toList.any auQ&&Kq tm o)|none=>false)&&aEG .any ops listed i) none
def awr (ops:Array Oper) (tm:List V) (o:Oper):Bool:=match o.guard with
 |some (g,want)=>match(ops[g]?).bind (·.dst)with
  |some d=>match tm[d]? with
   |some (.w (.one (.bool (.lit v))))=> !(v==want)
   |some (.h9 [])=>true
   |_=>false
  |none=>false
 |none=>false
def ajl (tm:List V) (ops:Array Oper) (listed:Array Bool):Option Nat:=
 cond (Ss ops) ((wh .any ops listed).find? λi=>(match ops[i]? with|some o=>awr ops tm o|none=>false)&&aEG .any ops listed i) none
def preB:List aG->List aG->Bool
 |(c,t)::r,(eg,t')::s=>oQ c eg&&aK t.1 t'.1&&(t.2==t'.2)&&preB r s
 |[],_=>true
 |_,_=>false
noncomputable def zK (P:bQ) (gl:eI) (cal:eW) (inl:kt) (ops:Array Oper) (N:Nat) (F3:List aG):Nat->Array Bool->Nat->List V->List aG->gR->T
 |0,listed,n,tm,bl,k=>match wh .any ops listed with
  |[]=>k n tm bl
  |_=> .stuck
 |f+1,listed,n,tm,bl,k=>match wh .any ops listed with
  |[]=>k n tm bl
  |l=>match agL N tm bl ops listed with
   |some i=>match ops[i]? with
    |none=> .stuck
    |some o=>D6 ops tm o (λtm=>AW P cal gl (iY N 0 bl) tm o n λv n'=>zK P gl cal inl ops N F3 f (listed.setIfInBounds i true) n' (fw tm o.dst v) bl k) (λtm=>zK P gl cal inl ops N F3 f (listed.setIfInBounds i true) n (fw tm o.dst (.h9 [])) bl k)
   |none=>match ajl tm ops listed with
    |some i=>match ops[i]? with
     |none=> .stuck
     |some o=>D6 ops tm o (λ_=> .stuck) (λtm=>zK P gl cal inl ops N F3 f (listed.setIfInBounds i true) n (fw tm o.dst (.h9 [])) bl k)
    |none=>Ux (λi=>match ops[i]? with
    |none=> .stuck
    |some o=>D6 ops tm o (λtm=>Rn P gl cal inl o n tm bl λn' cr bj=>cond (preB F3 (iY N 0 bj)) (zK P gl cal inl ops N F3 f (listed.setIfInBounds i true) n' cr bj k) .stuck) (λtm=>zK P gl cal inl ops N F3 f (listed.setIfInBounds i true) n (fw tm o.dst (.h9 [])) bl k)) l
def anB (ops:List Oper) (tm:List V) (p:oM):Nat:=match p with
 | .tmp d=>match ops.find? λo=>o.dst==some d with
  |some o=>match o.op with
   | .fieldAddr _ x _=>match cd tm x with| .w (.one (.ptr b _))=>b|_=>0
   | .alloc .. =>1000000
   |_=>0
  |none=>match cd tm p with| .w (.one (.ptr b _))=>b|_=>0
 |_=>0
def ada (ops:List Oper) (tm:List V):List Oper->Nat->Nat
 |[],N=>N
 |o::r,N=>ada ops tm r (match o.op with| .store _ p _=>min N (anB ops tm p)|_=>N)
def Kp (ops:Array Oper) (tm:List V) (bl:List aG):Nat:=cond (YJ ops) (min bl.length (ada ops.toList tm ops.toList bl.length)) (cond (ops.toList.any Pw) 0 bl.length)
def ZN (body:Nat->List V->List aG->uF->T):Nat->Nat->List V->List aG->uF->T
 |0,_,_,_,_=> .stuck
 |r+1,n,tm,bl,k=>body n tm bl λx n' cr bj=>match x with
  | .normal=>ZN body r n' cr bj k
  |x=>k x n' cr bj
def ya (lo:Nat):List (Nat×List aL×bh)->List V->List aG->List Nat->Option (List I×List Nat)
 |[],_,_,used=>some ([],used)
 |(s,sh,e)::r,tm,bl,used=>match tm[s]? with
  |some (.w (.one (.con (.slice none 0 0))))=>match ya lo r tm bl used with
   |some (l,u)=>some (.const 0:: .const 0:: .const (-1)::l,u)
   |none=>none
  |some (.w (.one (.sl b bq o ro len cap)))=>match bl[b]? with
   |some ([.rows fh off code eE kind],t)=>cond (qS sh fh&&aK kind 2&&I.beq o (.const 0)&&I.beq off (.const 0)&&I.beq ro (.const 0)&&I.beq cap eE&&aK t.1 e&&aK bq sh.length&&cx lo b&& !(used.any (aK b)))
    (match ya lo r tm bl (b::used)with
    |some (l,u)=>some (code::len::cap::l,u)
    |none=>none) none
   |_=>none
  |_=>none
def nN:List Nat->List aG->List aG
 |[],bl=>bl
 |b::r,bl=>match bl[b]? with
  |some ([.rows sh off code cap _],t)=>nN r (dE bl b ([.rows sh off code cap 0],t))
  |_=>nN r bl
def D0:List (Nat×Int×Int)->List V->M (List V)
 |[],tm=>pure tm
 |(s,lo,hi)::r,tm=>match tm[s]? with
  |some (.w (.one (.int k x)))=>cond (decide (lo<=x.lo)&&decide (x.hi<=hi)) (D0 r tm) (bind (gh 39 [x.l,.const lo,.const hi]) λ_=>D0 r (ui tm s (.w (.one (.int k ⟨x.l,lo,hi⟩)))))
  |_=>D0 r tm
def Jp (tm:List V):List Nat->M (List I)
 |[]=>pure []
 |s::r=>match tm[s]? with
  |some (.w (.one (.bool e)))=>bind (match e with| .lit v=>pure (.const (cond v 1 0))|e=>EH e) λl=>bind (Jp tm r) λls=>pure (l::ls)
  |_=>fail
def wT:List Nat->Nat->List V->List V
 |[],_,tm=>tm
 |s::r,v,tm=>wT r (v+1) (ui tm s (.w (.one (.bool (.eq (.var v) (.const 1))))))
def tp:List (Nat×List aL×bh)->Nat->List V->List aG->List V×List aG
 |[],_,tm,bl=>(tm,bl)
 |(s,sh,e)::r,v,tm,bl=>tp r (v+3) (ui tm s (.w (.one (.sl bl.length sh.length (.const 0) (.const 0) (.var (v+1)) (.var (v+2)))))) (bl++[([.rows sh (.const 0) (.var v) (.var (v+2)) 2],(e,false))])
def Np (l:List Nat):List (Int×Int):=l.map λ_=>(0,1)
noncomputable def Dw (l:List (Nat×List aL×bh)):List (Int×Int):=l.flatMap λ_=>[(0,bN),(0,9223372036854775807),(-1,9223372036854775807)]
noncomputable def L0:List (Nat×List aL×Nat)->List aG->M (List aG)
 |[],bl=>pure bl
 |(b,sh,c)::r,bl=>match bl[b]? with
  |some (C,t)=>cond (b7 C) (cond (!t.2&&aK C.length (c*sh.length)&&nT sh&&cx c 1000000) (bind (BE sh (oS sh.length c C) (.const 0)) λcode=>L0 r (dE bl b ([.rows sh (.const 0) code (.const c) 2],t))) fail) (L0 r bl)
  |none=>fail
def Ff:List (Nat×List aL)->List V->List aG->Option (List I)
 |[],_,_=>some []
 |(s,sh)::r,tm,bl=>match tm[s]? with
  |some (.w (.one (.con (.slice none 0 0))))=>match Ff r tm bl with
   |some l=>some (.const 0:: .const 0:: .const (-1)::l)
   |none=>none
  |some (.w (.one (.sl b bq o ro len cap)))=>match bl[b]? with
   |some ([.rows fh off code eE kind],t)=>cond (qS sh fh&&aK kind 1&&I.beq o off&&I.beq ro (.const 0)&&I.beq cap eE&&aK bq sh.length)
    (match Ff r tm bl with
    |some l=>some (code::len::cap::l)
    |none=>none) none
   |_=>none
  |_=>none
def Qz:Nat->M Unit
 |0=>pure ()
 |k+1=>λn FJ=> .nat n (Qz k (n+1) FJ)
def headD:List (Nat×List aL)->Nat->Nat->List V->List aG->List V×List aG
 |[],_,_,tm,bl=>(tm,bl)
 |(s,sh)::r,v,u,tm,bl=>headD r (v+3) (u+1) (ui tm s (.w (.one (.sl bl.length sh.length (.var u) (.const 0) (.var (v+1)) (.var (v+2)))))) (bl++[([.rows sh (.var u) (.var v) (.var (v+2)) 1],(0,false))])
noncomputable def Fe (l:List (Nat×List aL)):List (Int×Int):=l.flatMap λ_=>[(0,bN),(0,9223372036854775807),(-1,9223372036854775807)]
noncomputable def YG (li:fH) (body:Nat->List V->List aG->uF->T) (n:Nat) (tm:List V) (bl:List aG) (k:uF):T:=
 L0 li.ZS bl n λbl n=>D0 li.ints tm n λtm n=>Jp tm li.r5 n λeZ n=>match hs li.fR li.ints 0 (n+1) tm,ya 0 li.q2 tm bl [],Ff li.nc tm bl with
 |some (mF,l1,b3),some (fS,us),some gA=>match hb li.cells 0 (n+1+l1.length) (nN us bl)with
  |none=> .stuck
  |some (eN,l2,b4)=>cond (!(nE mF mF&&nD eN eN)) .stuck <| .loop n (l1++l2++(eZ++fS++gA)) (n+1) (b3++b4++(Np li.r5++Dw li.q2++Fe li.nc))
   (Qz li.nc.length (n+1+l1.length+l2.length+(eZ++fS++gA).length) λ_ N=>
   let d:=headD li.nc (n+1+l1.length+l2.length+(eZ++fS).length) (n+1+l1.length+l2.length+(eZ++fS++gA).length) (wT li.r5 (n+1+l1.length+l2.length) mF) eN
   let e:=tp li.q2 (n+1+l1.length+l2.length+eZ.length) d.1 d.2
   body N e.1 e.2 λx n' cr bj=>match x with
   | .normal=>D0 li.ints cr n' λcr n'=>Jp cr li.r5 n' λaif n'=>match hs li.fR li.ints 0 (n+1) cr,ya bl.length li.q2 cr bj [],Ff li.nc cr bj with
    |some (A8,v1,_),some (Yw,_),some aip=>match hb li.cells 0 (n+1+v1.length) (bj.take bl.length)with
     |none=> .stuck
     |some (pR,v2,_)=>cond (nE mF A8&&nD eN pR) (.again n (v1++v2++(aif++Yw++aip))) .stuck
    |_,_,_=> .stuck
   |x=>k x n' cr bj)
 |_,_,_=> .stuck
noncomputable def nB (P:bQ) (gl:eI) (cal:eW) (inl:kt) (li:Nat->Option fH) (rounds:Nat):Code->Nat->List V->List aG->uF->T
 | .skip,n,tm,bl,k=>k .normal n tm bl
 | .region _ ops draw,n,tm,bl,k=>cond draw
  (let h:=Ko P cal ops
   cond (Ij ops h&&Sm P (ops.toList.take h)) (GR P gl cal ops (ops.toList.take h) n tm bl λn' cr=>Jh P (ops.toList.take h) n' cr bl λn' cr bj=>HF P gl cal inl ops (ops.toList.drop h) n' cr bj (k .normal)) (cond (cx (ops.toList.filter λo=> !YH o).length 12) (zK P gl cal inl ops (Kp ops tm bl) (iY (Kp ops tm bl) 0 bl) ops.size (zx ops.size false) n tm bl (k .normal)) .stuck))
  (HF P gl cal inl ops ops.toList n tm bl (k .normal))
 | .seq a b,n,tm,bl,k=>nB P gl cal inl li rounds a n tm bl λx n' cr bj=>match x with
  | .normal=>nB P gl cal inl li rounds b n' cr bj k
  |x=>k x n' cr bj
 | .cond c a b,n,tm,bl,k=>match cd tm c with
  | .w (.one (.bool e))=>match e with
   | .lit v=>cond v (nB P gl cal inl li rounds a n tm bl k) (nB P gl cal inl li rounds b n tm bl k)
   |e=> .r6 e (nB P gl cal inl li rounds a n (uo e true tm) bl k) (nB P gl cal inl li rounds b n (uo e false tm) bl k)
  |_=> .stuck
 | .block id c,n,tm,bl,k=>nB P gl cal inl li rounds c n tm bl λx n' cr bj=>match x with
  | .exit CC=>cond (aK CC id) (k .normal n' cr bj) (k (.exit CC) n' cr bj)
  |x=>k x n' cr bj
 | .loop c,n,tm,bl,k=>match(Gy c).bind li with
  |some l=>YG l (λn tm bl k=>nB P gl cal inl li rounds c n tm bl k) n tm bl k
  |none=>ZN (λn tm bl k=>nB P gl cal inl li rounds c n tm bl k) rounds n tm bl k
 | .exit id,n,tm,bl,k=>k (.exit id) n tm bl
 | .ret,n,tm,bl,k=>k .ret n tm bl
 |_,_,_,_,_=> .stuck
def LX (P:bQ) (gl:eI) (bl:List aG) (tm:List V):ResultVar->Option W
 | .tmp t=>match tm[t]? with|some (.w u)=>some u|_=>none
 | .cell a t=>match tm[a]? with
  |some (.w (.one p))=>match Ge bl gl p,jL P t,e7 P t with
   |some cs,some true,some k=>cond (cx k cs.length) (some (.agg (cs.take k))) none
   |some (x::_),some false,_=>some (.one x)
   |_,_,_=>none
  |_=>none
def Fi (P:bQ) (gl:eI) (bl:List aG) (tm:List V):List ResultVar->Option (List W)
 |[]=>some []
 |r::s=>match LX P gl bl tm r,Fi P gl bl tm s with|some u,some l=>some (u::l)|_,_=>none
def Y8 (tm:List V):List ResultVar->Option V
 |[.tmp t]=>match tm[t]? with
  |some (.qz f c)=>some (.qz f c)
  |some (.p3 b l lo)=>some (.p3 b l lo)
  |_=>none
 |_=>none
def LV (P:bQ) (gl:eI) (fn:Func) (n:Nat) (tm:List V) (bl:List aG) (k:RK):T:=
 match Fi P gl bl tm fn.results.toList with
 |some [u]=>k n (.w u) bl
 |some l=>k n (.h9 l) bl
 |none=>match Y8 tm fn.results.toList with
  |some v=>k n v bl
  |none=> .stuck
def H3:Nat->List V
 |0=>[]
 |n+1=> .h9 []::H3 n
noncomputable def Nn (P:bQ) (gl:eI) (cal:eW) (inl:kt) (li:dn->Nat->Option fH) (rounds:Nat):kt:=
 λf n vs bl k=>match P.funcs[f]? with
  |none=> .stuck
  |some fn=>match fn.body with
   |none=> .stuck
   |some c=>cond (!(fn.name== "runtime.NumGoroutine")&&cx vs.length fn.ntmps) (nB P gl cal inl (li f) rounds c n (vs++H3 (fn.ntmps-vs.length)) bl λx n' cr bj=>match x with
    | .exit _=> .stuck
    |_=>LV P gl fn n' cr bj k) .stuck
noncomputable def Jv (P:bQ) (gl:eI) (cal:eW) (li:dn->Nat->Option fH) (rounds:Nat):Nat->kt
 |0=>λ_ _ _ _ _=> .stuck
 |d+1=>Nn P gl cal (Jv P gl cal li rounds d) li rounds
abbrev n1:=dn->Option (Nat->List V->List aG->RK->T)
noncomputable def Za (bc:n1) (inl:kt):kt:=λf n vs bl k=>match bc f with
 |some g=>g n vs bl k
 |none=>inl f n vs bl k
noncomputable def Gd (bc:n1) (P:bQ) (gl:eI) (cal:eW) (li:dn->Nat->Option fH) (rounds:Nat):Nat->kt
 |0=>λ_ _ _ _ _=> .stuck
 |d+1=>Nn P gl cal (Za bc (Gd bc P gl cal li rounds d)) li rounds
end Go.b6
