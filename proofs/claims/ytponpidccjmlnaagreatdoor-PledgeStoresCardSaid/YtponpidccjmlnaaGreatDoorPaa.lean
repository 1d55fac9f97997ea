/- Texts as numbers. -/
import GoSem.ClaimData
import GoSem.Op.String
import Derived.WalkKit
import Derived.Laws.StructEq
import Derived.ChangeKeysEq
import Derived.Laws.Tables
import Derived.Laws.Strings2
import Derived.Laws.Concat
import Derived.Laws.Cover1
import Derived.Laws.Cover3
import Derived.Laws.BytesArg
import Derived.StillTail
import Derived.OrdersHeld
import Derived.Laws.CopyRow
import Derived.Deep.LoopGhost
open Array renaming toArray_toList->jF,toList_map->s7,replicate->uG,eq_empty_of_size_eq_zero->wy,getElem?_eq_none->Hz,getElem?_toList->HO,getElem?_setIfInBounds_ne->az3,ext_getElem?->aAd
open BitVec renaming ofInt->p9,toNat_ofInt->LV
open Bool renaming and_eq_true->aS,not_eq_true'->gW,not_eq_false'->nD,false_eq_true->qb,true_and->rM,false_or->sX,or_eq_true->sZ,not_true->Ec
open ByteArray renaming size->aEa
open Classical renaming choose_spec->S3,choose->acv,byContradiction->acT
open Function renaming comp->HD
open Go renaming World->ar,Value->aF,TypeId->aX,Program->bH,FuncId->cw,IntKind->dp,run_underlying->eH,Operand->om,getD_both->Bc,run_loadCells_list->LP
open Go.Act renaming put->Ej
open Go.Builtin renaming len_->El,min_->Tn,max_->To
open Go.ByteArray renaming toList_mk->aD9,mk_append_mk->aEb,getElem?_lt'->aEc,extract_mk->aEd
open Go.Deferred renaming ofValue->acN
open Go.Instr renaming sliceBounds->k9,sureAddr->lO,loadAt->oh,sliceAt->q0,indexAt->rS,sliceBound->HN,index->Te,slice->Tf,extract->acB,fieldAt->acC,fill->acM,arrayAt->acP
open Go.IntKind renaming max->fs,signed->HI,bits->acI,wrap->azU
open Go.Next renaming value->kx
open Go.Next.value renaming injEq->aAf
open Go.Op renaming bytesLess->dy,eqFields->Em,intBits->LY,equalIn->L0
open Go.Oper renaming wp->mw
open Go.Program renaming fieldsOf->az9
open Go.Region renaming ready->rT,wanted->uK,waitsFor->wx,waitsFor_spec->Bb,noSelect->LN,binds->Th,Mode->acR,chainB->aAa,seqB->aAb,free->aAh
open Go.Result renaming andThen_ok->gH,andThen->aAg
open Go.Result.ok renaming injEq->aAe
open Go.Sem renaming run_bind->gY,run_pure->iw
open Go.Utf8 renaming encode->LZ
open Go.Value.pointer renaming injEq->aDW
open Go.World renaming cell?->jW
open Go.World.Extends renaming refl->oi
open Int renaming le_refl->bX,toNat_natCast->gu,lt_or_le->jX,le_of_lt->q1,natCast_nonneg->rL,mul_comm->uI,emod_eq_of_lt->yt,mul_le_mul_of_nonneg_left->A9,eq_ofNat_of_zero_le->Ei,mul_add->HE,mul_le_mul->LK,dvd_of_emod_eq_zero->Td,mul_nonneg->acw,emod_nonneg->acF,emod_lt_of_pos->acG,mul_ediv_add_emod->acH,ofNat_sub->acK,ediv_nonneg->acL,ediv_le_ediv->azT,mul_emod_right->azX,ediv_le_self->azZ,fdiv_eq_ediv_of_nonneg->az0,tdiv_eq_ediv_of_nonneg->az1,tmod_eq_emod_of_nonneg->az2,ofNat_toNat->aAm
open List renaming getD->ae,map_cons->cI,range->cU,mem_cons_of_mem->dn,replicate->du,length_cons->dv,length_append->dN,mem_of_getElem?->eh,map_nil->eo,length_nil->fM,map_congr_left->h8,getElem?_eq_getElem->kg,mem_of_mem_take->kv,map_map->k7,length_map->k8,length_take->m8,getElem?_map->nE,getElem?_take->og,mem_of_mem_drop->oo,mem_cons->oT,flatMap_cons->qa,getElem?_cons_zero->rQ,getElem?_append_left->s0,eq_nil_of_length_eq_zero->uL,getElem?_drop->wv,map_take->yr,map_drop->ys,getElem?_append_right->A6,map_id->D9,mem_of_find?_eq_some->Ed,head?->Ek,getElem?_toArray->HK,getElem_mem->HL,tail->HM,drop_drop->HP,find?_some->Ta,mem_map_of_mem->az4,take_drop->az8,countP_cons->aAc
open Nat renaming beq->aG,le_refl->br,ble->bB,eq_of_beq_eq_true->bG,blt->cf,le_of_ble_eq_true->eC,zero_le->gX,le_trans->iL,add_zero->mv,log2->m7,lt_or_ge->od,le_succ->oV,zero_add->pB,lt_succ_self->s5,succ_mul->s6,add_mul->s8,lt_of_lt_of_le->wo,pow_succ->yo,mul_comm->yp,min_eq_left->yq,mul_one->Eg,two_pow_pos->Eh,add_assoc->Eo,pow_le_pow_right->HC,div_div_eq_div_mul->HJ,pow_add->LW,mul_div_cancel_left->S7,one_le_two_pow->acy,div_add_mod->acJ,testBit_mul_two_pow->azV,lt_log2_self->azW,or_lt_two_pow->azY
open Option renaming map_some->rO,getD_some->rP,isSome_none->rR,getD_none->Tg,map_none->acO
open Option.some renaming injEq->aQ,inj->hZ
open Prod.mk renaming injEq->cA
open Pure renaming pure->A7
open UInt8 renaming ofNat->mu
set_option linter.unusedVariables false
set_option linter.unusedSimpArgs false
namespace Go.bo
def my:List UInt8->Nat
 |[]=>0
 |b::r=>(b.toNat+1)+257*my r
def x9:Nat->Nat->List UInt8
 |0,_=>[]
 |f+1,n=>match n with
  |0=>[]
  |k+1=>mu (k% 257)::x9 f ((k+1)/257)
theorem M4 (b:UInt8) (r:List UInt8):my (b::r)=(b.toNat+1)+257*my r:=rfl
theorem afr (b:UInt8) (r:List UInt8):my (b::r)=(b.toNat+257*my r)+1:=by rw[M4];omega
theorem abq:∀(l:List UInt8) (f:Nat),l.length<=f->x9 f (my l)=l
 |[],0,_=>rfl
 |[],f+1,_=>rfl
 |b::r,0,h=>by simp at h
 |b::r,f+1,h=>by
  have hb:=b.toNat_lt
  rw[afr]
  show mu ((b.toNat+257*my r)% 257)::x9 f ((b.toNat+257*my r+1)/257)=b::r
  have e1:(b.toNat+257*my r)% 257=b.toNat:=by omega
  have e2:(b.toNat+257*my r+1)/257=my r:=by omega
  rw[e1,e2,abq r f (by simpa using h)]
  simp
theorem abr:∀(f n k:Nat),n<257^k->(x9 f n).length<=k
 |0,_,_,_=>by simp[x9]
 |f+1,0,k,_=>by simp[x9]
 |f+1,n+1,0,h=>by simp at h
 |f+1,n+1,k+1,h=>by
  have:(n+1)/257<257^k:=by rw[Nat.div_lt_iff_lt_mul (by decide)];rw[yo]at h;exact h
  have ih:=abr f ((n+1)/257) k this
  simp only[x9,dv]
  omega
theorem V3:∀(l:List UInt8),my l<257^l.length
 |[]=>by simp[my]
 |b::r=>by
  have ih:=V3 r
  have hb:=b.toNat_lt
  unfold my
  rw[dv,yo]
  omega
theorem V2:∀(l:List UInt8),l.length<=my l
 |[]=>by simp
 |b::r=>by
  have ih:=V2 r
  unfold my
  rw[dv]
  omega
theorem V4:∀(l:List UInt8),0<l.length->2^(l.length-1)<=my l
 |[b],_=>by rw[M4];show 1<=_;omega
 |b::c::r,_=>by
  have ih:=V4 (c::r) (by simp)
  rw[M4 b]
  simp only[dv,Nat.add_sub_cancel]at ih⊢
  rw[yo]
  omega
def U (z:Int):List UInt8:=x9 (m7 z.toNat+1) z.toNat
def ev (l:List UInt8):Int:=my l
theorem fm (l:List UInt8):U (ev l)=l:=by
 unfold U ev
 rw[gu]
 apply abq
 by_cases h:l.length=0
 ·omega
 ·have h1:=V4 l (by omega)
  have h2:my l≠0:=by have:=V2 l;omega
  have h3:=(Nat.le_log2 h2).2 h1
  omega
theorem ra (l:List UInt8):0<=ev l:=rL _
theorem adw (k:Nat):∃H:Int,(∀l:List UInt8,l.length<=k->ev l<=H)/\∀z:Int,z<=H->(U z).length<=k:=by
 refine⟨(257^k:Nat)-1,λl h=>?_,λz h=>?_⟩
 ·have h1:=V3 l
  have h2:257^l.length<=257^k:=HC (by decide) h
  unfold ev
  omega
 ·unfold U
  apply abr
  have:=Nat.pow_pos (n:=k) (show 0<257 by decide)
  omega
def gk:Nat:=140737488351232
theorem Mm:∃H:Int,(∀l:List UInt8,l.length<=gk->ev l<=H)/\∀z:Int,z<=H->(U z).length<=gk:=adw gk
noncomputable def bM:Int:=acv Mm
theorem oW {l:List UInt8} (h:l.length<=gk):ev l<=bM:=(S3 Mm).1 l h
theorem tc {z:Int} (h:z<=bM):(U z).length<=gk:=(S3 Mm).2 z h
theorem fv:0<=bM:=by have:=oW (l:=[]) (by simp);exact this
def ru (l:List UInt8):List UInt8:=cond (bB l.length 1000000) l []
theorem am2 (l:List UInt8):0<=ev (ru l)/\ev (ru l)<=bM:=by
 refine⟨ra _,oW ?_⟩
 unfold ru
 cases h:bB l.length 1000000 with
 |true=>have:=eC h;simp only[cond_true];unfold gk;omega
 |false=>simp
def bw (l:List UInt8):ByteArray:=⟨l.toArray⟩
def uP (z:Int):Nat:=if 0<=z then 2*z.toNat else 2*(-z).toNat-1
def yh (n:Nat):Int:=if n% 2=0 then((n/2:Nat):Int)else-(((n+1)/2:Nat):Int)
theorem ax5 (z:Int):yh (uP z)=z:=by
 unfold uP yh
 split
 ·rw[if_pos (by omega)];omega
 ·rw[if_neg (by omega)];omega
def lc:List Nat->Nat
 |[]=>0
 |x::r=>2^x*(2*lc r+1)
def oQ:Nat->Nat->Nat
 |0,_=>0
 |f+1,n=>if n% 2=0 then oQ f (n/2)+1 else 0
theorem ab3 (k:Nat):∀(x f:Nat),x<f->oQ f (2^x*(2*k+1))=x
 |0,f+1,_=>by
  unfold oQ
  rw[if_neg (by rw[Nat.pow_zero,Nat.one_mul];omega)]
 |x+1,f+1,h=>by
  unfold oQ
  have e:2^(x+1)*(2*k+1)=2*(2^x*(2*k+1)):=by rw[yo,yp (2^x) 2,Nat.mul_assoc]
  rw[e,if_pos (by omega),S7 _ (by decide),ab3 k x f (by omega)]
def aN:Nat->Nat->List Nat
 |0,_=>[]
 |f+1,n=>if n=0 then []else oQ n n::aN f (n/2^oQ n n/2)
theorem ao2 (x:Nat):x<2^x:=Nat.lt_two_pow_self
theorem QF:∀l:List Nat,l.length<=lc l
 |[]=>br _
 |x::r=>by
  have ih:=QF r
  unfold lc
  have h1:1<=2^x:=acy
  have h2:2*lc r+1<=2^x*(2*lc r+1):=Nat.le_mul_of_pos_left _ h1
  rw[dv]
  omega
theorem QH:∀(l:List Nat) (f:Nat),l.length<=f->aN f (lc l)=l
 |[],0,_=>rfl
 |[],f+1,_=>by simp[aN,lc]
 |x::r,0,h=>by simp at h
 |x::r,f+1,h=>by
  have h1:1<=2^x:=acy
  have h2:2^x<=2^x*(2*lc r+1):=Nat.le_mul_of_pos_right _ (by omega)
  have h3:=ao2 x
  have hz:lc (x::r)≠0:=by
   have hl:lc (x::r)=2^x*(2*lc r+1):=rfl
   omega
  have ht:oQ (lc (x::r)) (lc (x::r))=x:=by
   show oQ (2^x*(2*lc r+1)) (2^x*(2*lc r+1))=x
   exact ab3 _ _ _ (by omega)
  unfold aN
  rw[if_neg hz,ht]
  have e:lc (x::r)/2^x/2=lc r:=by
   have hl:lc (x::r)=2^x*(2*lc r+1):=rfl
   rw[hl,S7 _ (by omega)]
   omega
  rw[e,QH r f (by simpa using h)]
theorem QE (X:Nat):∀k:Nat,∃B,∀l:List Nat,l.length<=k->(∀x∈l,x<=X)->lc l<=B
 |0=>⟨0,λl h _=>by
  have:l=[]:=List.length_eq_zero_iff.1 (by omega)
  subst this;exact br _⟩
 |k+1=>by
  obtain⟨B,hB⟩:=QE X k
  refine⟨2^X*(2*B+1),λl h hx=>?_⟩
  cases l with
  |nil=>exact gX _
  |cons x r=>
   unfold lc
   have h1:=hB r (by simpa using h) λy hy=>hx y (dn _ hy)
   exact Nat.mul_le_mul (HC (by decide) (hx x (by simp))) (by omega)
def rc (l:List (List Int)):Int:=(lc (l.map λrow=>lc (row.map uP)):Nat)
def af (z:Int):List (List Int):=(aN z.toNat z.toNat).map λn=>(aN n n).map yh
theorem apa (l:List Int):(l.map uP).map yh=l:=by
 rw[k7]
 conv=>rhs;rw[<-D9 l]
 exact h8 λz _=>ax5 z
theorem ee (l:List (List Int)):af (rc l)=l:=by
 unfold af rc
 rw[gu,QH _ _ (QF _),k7]
 conv=>rhs;rw[<-D9 l]
 refine h8 λrow _=>?_
 simp only[HD,id]
 rw[QH _ _ (QF _),apa]
theorem gm (l:List (List Int)):0<=rc l:=rL _
def RB (row:List Int):Prop:=row.length<=100/\∀z∈row,-18446744073709551616-bM<=z/\z<=18446744073709551616+bM
theorem Vp:∃H:Int,∀l:List (List Int),l.length<=maxLen->(∀row∈l,RB row)->rc l<=H:=by
 obtain⟨B,hB⟩:=QE (2*(18446744073709551616+bM).toNat) 100
 obtain⟨C,hC⟩:=QE B maxLen
 refine⟨(C:Nat),λl h hr=>?_⟩
 unfold rc
 have:=hC (l.map λrow=>lc (row.map uP)) (by simpa using h) λx hx=>by
  obtain⟨row,hrow,rfl⟩:=List.mem_map.1 hx
  refine hB _ (by simpa using(hr row hrow).1) λy hy=>?_
  obtain⟨z,hz,rfl⟩:=List.mem_map.1 hy
  have h1:=(hr row hrow).2 z hz
  have h2:=fv
  unfold uP
  split<;>omega
 omega
noncomputable def bK:Int:=acv Vp
theorem oX {l:List (List Int)} (h:l.length<=maxLen) (hr:∀row∈l,RB row):rc l<=bK:=S3 Vp l h hr
inductive aB where
 |int (k:dp) (lo hi:Int)
 |str
 |bool
def aB.beq:aB->aB->Bool
 |int k lo hi,int a6 ZH nR=>decide (k=a6)&&decide (lo=ZH)&&decide (hi=nR)
 |str,str=>true
 |bool,bool=>true
 |_,_=>false
theorem aB.beq_eq:∀{a b:aB},aB.beq a b=true->a=b
 |int k lo hi,int a6 ZH nR,h=>by
  simp only[aB.beq,aS,decide_eq_true_eq]at h
  rw[h.1.1,h.1.2,h.2]
 |str,str,_=>rfl
 |bool,bool,_=>rfl
 |int ..,str,h=>by cases h
 |int ..,bool,h=>by cases h
 |str,int ..,h=>by cases h
 |str,bool,h=>by cases h
 |bool,int ..,h=>by cases h
 |bool,str,h=>by cases h
def nu:List aB->List aB->Bool
 |[],[]=>true
 |a::r,b::s=>aB.beq a b&&nu r s
 |_,_=>false
theorem vZ:∀{a b:List aB},nu a b=true->a=b
 |[],[],_=>rfl
 |a::r,b::s,h=>by
  simp only[nu,aS]at h
  rw[aB.beq_eq h.1,vZ h.2]
 |[],_::_,h=>by cases h
 |_::_,[],h=>by cases h
noncomputable def aB.eL:aB->Int×Int
 |int _ lo hi=>(lo,hi)
 |str=>(0,bM)
 |bool=>(0,1)
def aB.val:aB->Int->aF
 |int k _ _,z=> .int k z
 |str,z=> .string (bw (U z))
 |bool,z=> .bool (decide (z=1))
def au:Nat->List Int->Int
 |0,[s]=>(U s).length
 |1,[s,i]=>((U s).getD i.toNat 0).toNat
 |2,[s,a,b]=>ev (((U s).drop a.toNat).take (b.toNat-a.toNat))
 |3,[s,t]=>ev (U s++U t)
 |4,[s,t]=>if U s=U t then 1 else 0
 |5,[s,t]=>if dy (U s) (U t)=true then 1 else 0
 |20,[c]=>(af c).length
 |21,[c,i,j]=>((af c).getD i.toNat []).getD j.toNat 0
 |22,[c,a,b]=>rc (((af c).drop a.toNat).take (b.toNat-a.toNat))
 |23,c::row=>rc (af c++[row])
 |24,[c,e]=>rc (af c++af e)
 |25,c::i::row=>rc ((af c).set i.toNat row)
 |26,n::row=>rc (du n.toNat row)
 |27,[s]=>rc ((U s).map λb=>[(b.toNat:Int)])
 |34,[c,a,b]=>ev ((((af c).drop a.toNat).take (b.toNat-a.toNat)).map λrow=>mu (row.getD 0 0).toNat)
 |37,[x,y]=>x*2^y.toNat
 |38,[x,y]=>x% y
 |76,[x,y]=>x/y
 |33,[r,a,c]=>if a=c then r else r+a
 |29,[c,i,j,v]=>rc ((af c).set i.toNat (((af c).getD i.toNat []).set j.toNat v))
 |42,c::i::j::vs=>rc ((af c).set i.toNat (((af c).getD i.toNat []).take j.toNat++vs++((af c).getD i.toNat []).drop (j.toNat+vs.length)))
 |43,[s,i]=>if mu i.toNat∈U s then 1 else 0
 |61,c::a::k::row=>rc ((af c).take a.toNat++du k.toNat row++(af c).drop (a.toNat+k.toNat))
 |62,[a,b]=>min a b
 |63,[c,a,s]=>rc ((af c).take a.toNat++af s++(af c).drop (a.toNat+(af s).length))
 |28,[c]=>ev ((af c).map λrow=>mu (row.getD 0 0).toNat)
 |_,_=>0
noncomputable def EV:Nat->List Int->Prop
 |70,[l,c]=>c∣l
 |71,z::_=>(af z).length<=1000000000
 |72,z::_=>64∣(af z).length/\(af z).length<=1000001000
 |73,z::_=>128∣(af z).length/\(af z).length<=1000001000
 |74,[i,l]=>0<=i/\i<l
 |78,[x,y,z,c]=>0<=x/\x<=y/\y<=z/\z<=c
 |79,[l,c]=>l<=c
 |75,l=>∀z∈l,(af z).length<=100000000
 |77,[x]=>0<=x
 |80,[c,a,k]=>0<=a/\0<=k/\a+k<=(af c).length
 |81,l=>(U (l.getD 5 0)).length<=1000000000
 |_,_=>False
def ab:Nat->List Int->Prop
 |1,[s,i]=>0<=i/\i<(U s).length
 |2,[s,a,b]=>0<=a/\a<=b/\b<=(U s).length
 |3,[s,t]=>(U s).length+(U t).length<=gk
 |21,[c,i]=>0<=i/\i<(af c).length
 |30,[i,n]=>0<=i/\i<n
 |31,[c,n]=>n=(af c).length
 |32,[a,b,n]=>0<=a/\a<=b/\b<=n
 |22,[c,a,b]=>0<=a/\a<=b/\b<=(af c).length
 |35,[c,a,b]=>(0<=a/\a<=b/\b<=(af c).length)/\b-a<=140737488351232
 |36,[y]=>0<y
 |39,[x,l,h]=>l<=x/\x<=h
 |40,[a,b]=>0<=a->0<=b
 |41,[s]=>(U s).length<=4294967280
 |44,[w,s]=>U w=[]∨(U s).length<=4294967280
 |23,[c,k]=>(af c).length+k<=1073741824
 |26,[n]=>0<=n/\n<=1073741824
 |48,r::_=>(af r).length<=1099511627776
 |50,s::_=>(U s).length<=1073741824
 |49,[l,c]=>0<=l/\l<=c/\c<=1073741824
 |64,[p,q,r,l]=>0<=p/\p<=q/\q<=r/\r<=l/\0<l
 |65,[c,a,k]=>0<=a/\0<k/\a+k<=(af c).length
 |66,r::_=>(af r).length<=1000000
 |68,[l,c]=>l<=c∨l=0
 |67,[c,i,k]=>((af c).getD i.toNat []).length=k.toNat
 |53,[c,l]=>c<0->l=0
 |52,[c,a,b]=>0<=a/\a<b/\b<=(af c).length/\(af c).length<=1073741824
 |51,[c,i,r]=>(0<=i/\i<=(af c).length)/\(af r).length=1/\(af c).length+1<=1073741824
 |op,l=>EV op l
end Go.bo
namespace Go.bo
abbrev Env:=Nat->Int
def c6 (ρ:Env) (n:Nat) (z:Int):Env:=λi=>cond (aG i n) z (ρ i)
def bL (ρ:Env):Nat->List Int->Env
 |_,[]=>ρ
 |n,z::zs=>bL (c6 ρ n z) (n+1) zs
def agree (n:Nat) (ρ ah:Env):Prop:=∀i,i<n->ah i=ρ i
theorem agree.refl (n:Nat) (ρ:Env):agree n ρ ρ:=λ_ _=>rfl
theorem agree.trans {n n':Nat} {ρ ah rW:Env} (h:agree n ρ ah) (h':agree n' ah rW) (hn:n<=n'):agree n ρ rW:=
 λi hi=>(h' i (by omega)).trans (h i hi)
theorem agree.mono {n n':Nat} {ρ ah:Env} (h:agree n' ρ ah) (hn:n<=n'):agree n ρ ah:=λi hi=>h i (by omega)
theorem jC (ρ:Env) (n:Nat) (z:Int):c6 ρ n z n=z:=by simp[c6]
theorem Sq (ρ:Env) {n i:Nat} (z:Int) (h:i≠n):c6 ρ n z i=ρ i:=by
 unfold c6
 cases hb:aG i n with
 |false=>rfl
 |true=>exact absurd (bG hb) h
theorem agree.c6 (n:Nat) (ρ:Env) (z:Int):agree n ρ (c6 ρ n z):=λi hi=>Sq ρ z (by omega)
theorem agree.bL:∀(zs:List Int) (n:Nat) (ρ:Env),agree n ρ (bL ρ n zs)
 |[],n,ρ=>agree.refl n ρ
 |z::zs,n,ρ=>(agree.c6 n ρ z).trans (agree.bL zs (n+1) _) (by omega)
structure aa where
 c:Int
 ts:List (Int×Nat)
def hE (ρ:Env):List (Int×Nat)->Int
 |[]=>0
 |(k,i)::r=>k*ρ i+hE ρ r
def aa.den (ρ:Env) (l:aa):Int:=hE ρ l.ts+l.c
def zR (k:Int) (i:Nat):List (Int×Nat)->List (Int×Nat)
 |[]=>[(k,i)]
 |(a6,j)::r=>cond (cf i j) ((k,i)::(a6,j)::r) (cond (aG i j) (cond (k+a6==0) r ((k+a6,i)::r)) ((a6,j)::zR k i r))
def Bq:List (Int×Nat)->List (Int×Nat)->List (Int×Nat)
 |[],l=>l
 |(k,i)::r,l=>zR k i (Bq r l)
def yc (m:Int):List (Int×Nat)->List (Int×Nat)
 |[]=>[]
 |(k,i)::r=>(m*k,i)::yc m r
theorem Wl (ρ:Env) (k:Int) (i:Nat):∀l,hE ρ (zR k i l)=k*ρ i+hE ρ l
 |[]=>rfl
 |(a6,j)::r=>by
  unfold zR
  cases h1:cf i j with
  |true=>rfl
  |false=>
   cases h2:aG i j with
   |true=>
    have e:i=j:=bG h2
    subst e
    cases h3:(k+a6==0)with
    |true=>
     have h3:k+a6=0:=by simpa using h3
     simp only[cond_true,cond_false,hE]
     rw[<-Int.add_assoc,<-Int.add_mul,h3];simp
    |false=>simp only[cond_true,cond_false,hE];rw[Int.add_mul];omega
   |false=>simp only[cond_false,hE,Wl ρ k i r];omega
theorem Wj (ρ:Env):∀l bQ,hE ρ (Bq l bQ)=hE ρ l+hE ρ bQ
 |[],bQ=>by simp[Bq,hE]
 |(k,i)::r,bQ=>by simp only[Bq,Wl,hE,Wj ρ r bQ];omega
theorem Wm (ρ:Env) (m:Int):∀l,hE ρ (yc m l)=m*hE ρ l
 |[]=>by simp[yc,hE]
 |(k,i)::r=>by simp only[yc,hE,Wm ρ m r];rw[HE,Int.mul_assoc]
def p3 (n:Nat) (l:List (Int×Nat)):Prop:=∀t∈l,t.2<n
theorem p3.mono {n n':Nat} {l} (h:p3 n l) (hn:n<=n'):p3 n' l:=λt ht=>wo (h t ht) hn
theorem abu {n:Nat} {k:Int} {i:Nat} (hi:i<n):∀{l},p3 n l->p3 n (zR k i l)
 |[],_=>by intro t ht;simp[zR]at ht;subst ht;exact hi
 |(a6,j)::r,h=>by
  have hr:p3 n r:=λt ht=>h t (dn _ ht)
  have hj:j<n:=h (a6,j) (by simp)
  have ih:=abu (k:=k) hi hr
  unfold zR
  intro t ht
  cases h1:cf i j<;>cases h2:aG i j<;>cases h3:(k+a6==0)<;>simp only[h1,h2,h3,cond_true,cond_false,oT]at ht<;>
   first
   |(rcases ht with rfl|ht<;>first|exact hi|exact hj|(exact hr t ht)|(exact ih t ht)|(rcases ht with rfl|ht<;>first|exact hj|exact hr t ht))
   |exact hr t ht
theorem abt {n:Nat}:∀{l bQ},p3 n l->p3 n bQ->p3 n (Bq l bQ)
 |[],_,_,h'=>h'
 |(k,i)::r,_,h,h'=>abu (k:=k) (i:=i) (h (k,i) (by simp)) (abt (l:=r) (λt ht=>h t (dn _ ht)) h')
theorem abv {n:Nat} {m:Int}:∀{l},p3 n l->p3 n (yc m l)
 |[],_=>λt ht=>by simp[yc]at ht
 |(k,i)::r,h=>by
  intro t ht
  simp only[yc,oT]at ht
  rcases ht with rfl|ht
  ·exact h (k,i) (by simp)
  ·exact abv (λt ht=>h t (dn _ ht)) t ht
theorem Wk {n:Nat} {ρ ah:Env} (h:agree n ρ ah):∀{l},p3 n l->hE ah l=hE ρ l
 |[],_=>rfl
 |(k,i)::r,hs=>by
  simp only[hE,h i (hs (k,i) (by simp)),Wk h (l:=r) (λt ht=>hs t (dn _ ht))]
namespace aa
def const (c:Int):aa:=⟨c,[]⟩
def var (n:Nat):aa:=⟨0,[(1,n)]⟩
def add (a b:aa):aa:=⟨a.c+b.c,Bq a.ts b.ts⟩
def smul (m:Int) (a:aa):aa:=cond (m==0) ⟨0,[]⟩ ⟨m*a.c,yc m a.ts⟩
def sub (a b:aa):aa:=a.add (b.smul (-1))
def dM (a:aa):Option Int:=match a.ts with|[]=>some a.c|_=>none
def bk (n:Nat) (a:aa):Prop:=p3 n a.ts
def By:List (Int×Nat)->List (Int×Nat)->Bool
 |[],[]=>true
 |(k,i)::r,(a6,zN)::r'=>k==a6&&aG i zN&&By r r'
 |_,_=>false
def beq (a b:aa):Bool:=a.c==b.c&&By a.ts b.ts
theorem VN:∀{a b},By a b=true->a=b
 |[],[],_=>rfl
 |(k,i)::r,(a6,zN)::r',h=>by
  simp only[By,aS,beq_iff_eq]at h
  obtain⟨⟨h1,h2⟩,h3⟩:=h
  rw[h1,bG h2,VN h3]
 |[],_::_,h=>by simp[By]at h
 |_::_,[],h=>by simp[By]at h
theorem beq_eq {a b:aa} (h:beq a b=true):a=b:=by
 simp only[beq,aS,beq_iff_eq]at h
 cases a;cases b
 simp only at h
 rw[h.1,VN h.2]
theorem aW (ρ:Env) (c:Int):(const c).den ρ=c:=by simp[const,den,hE]
theorem cE (ρ:Env) (n:Nat):(var n).den ρ=ρ n:=by simp[var,den,hE]
theorem den_add (ρ:Env) (a b:aa):(a.add b).den ρ=a.den ρ+b.den ρ:=by simp only[add,den,Wj];omega
theorem ll (ρ:Env) (m:Int) (a:aa):(a.smul m).den ρ=m*a.den ρ:=by
 unfold smul
 cases h:(m==0)with
 |true=>have h:m=0:=by simpa using h
        subst h;simp[den,hE]
 |false=>simp only[cond_false,den,Wm,HE]
theorem mA (ρ:Env) (a b:aa):(a.sub b).den ρ=a.den ρ-b.den ρ:=by simp only[sub,den_add,ll];omega
theorem ia {ρ:Env} {a:aa} {c:Int} (h:a.dM=some c):a.den ρ=c:=by
 unfold dM at h
 cases ha:a.ts with
 |nil=>simp[ha]at h;simp[den,ha,hE,h]
 |cons x r=>simp[ha]at h
theorem cT (n:Nat) (c:Int):(const c).bk n:=λt ht=>by simp[const]at ht
theorem eV {n i:Nat} (h:i<n):(var i).bk n:=λt ht=>by simp[var]at ht;subst ht;exact h
theorem um {n:Nat} {a b:aa} (ha:a.bk n) (hb:b.bk n):(a.add b).bk n:=abt ha hb
theorem vY {n:Nat} {m:Int} {a:aa} (ha:a.bk n):(a.smul m).bk n:=by
 unfold smul
 cases(m==0)with
 |true=>exactλt ht=>by simp at ht
 |false=>exact abv ha
theorem ya {n:Nat} {a b:aa} (ha:a.bk n) (hb:b.bk n):(a.sub b).bk n:=um ha (vY hb)
theorem bk.mono {n n':Nat} {a:aa} (h:a.bk n) (hn:n<=n'):a.bk n':=p3.mono h hn
theorem bR {n:Nat} {ρ ah:Env} (h:agree n ρ ah) {a:aa} (ha:a.bk n):a.den ah=a.den ρ:=by simp only[den,Wk h ha]
end aa
structure bF where
 l:aa
 lo:Int
 hi:Int
def bF.ok (n:Nat) (ρ:Env) (x:bF):Prop:=x.l.bk n/\x.lo<=x.l.den ρ/\x.l.den ρ<=x.hi
theorem bF.ok.agree {n n':Nat} {ρ ah:Env} {x:bF} (h:x.ok n ρ) (ha:agree n ρ ah) (hn:n<=n'):x.ok n' ah:=
 ⟨h.1.mono hn,by rw[aa.bR ha h.1];exact h.2.1,by rw[aa.bR ha h.1];exact h.2.2⟩
def bF.const (c:Int):bF:=⟨.const c,c,c⟩
theorem bF.nd (n:Nat) (ρ:Env) (c:Int):(bF.const c).ok n ρ:=⟨aa.cT n c,by simp[bF.const,aa.aW],by simp[bF.const,aa.aW]⟩
inductive bd where
 |lit (b:Bool)
 |eq (a b:aa)
 |lt (a b:aa)
 |le (a b:aa)
 |not (a:bd)
 |and (a b:bd)
 |iff (a b:bd)
namespace bd
def den (ρ:Env):bd->Bool
 |lit b=>b
 |eq a b=>decide (a.den ρ=b.den ρ)
 |lt a b=>decide (a.den ρ<b.den ρ)
 |le a b=>decide (a.den ρ<=b.den ρ)
 |not a=> !a.den ρ
 |and a b=>a.den ρ&&b.den ρ
 |iff a b=>a.den ρ==b.den ρ
def bk (n:Nat):bd->Prop
 |lit _=>True
 |eq a b|lt a b|le a b=>a.bk n/\b.bk n
 |not a=>a.bk n
 |and a b=>a.bk n/\b.bk n
 |iff a b=>a.bk n/\b.bk n
theorem bk.mono {n n':Nat} (hn:n<=n'):∀{b:bd},b.bk n->b.bk n'
 |lit _,_=>trivial
 |eq _ _,h|lt _ _,h|le _ _,h=>⟨h.1.mono hn,h.2.mono hn⟩
 |not a,h=>bk.mono (b:=a) hn h
 |and a b,h=>⟨bk.mono (b:=a) hn h.1,bk.mono (b:=b) hn h.2⟩
 |iff a b,h=>⟨bk.mono (b:=a) hn h.1,bk.mono (b:=b) hn h.2⟩
theorem bR {n:Nat} {ρ ah:Env} (ha:agree n ρ ah):∀{b:bd},b.bk n->b.den ah=b.den ρ
 |lit _,_=>rfl
 |eq _ _,h|lt _ _,h|le _ _,h=>by simp only[den,aa.bR ha h.1,aa.bR ha h.2]
 |not a,h=>by simp only[den,bR (b:=a) ha h]
 |and a b,h=>by simp only[den,bR (b:=a) ha h.1,bR (b:=b) ha h.2]
 |iff a b,h=>by simp only[den,bR (b:=a) ha h.1,bR (b:=b) ha h.2]
def beq:bd->bd->Bool
 |lit a,lit b=>a==b
 |eq a b,eq c d|lt a b,lt c d|le a b,le c d=>aa.beq a c&&aa.beq b d
 |not a,not b=>beq a b
 |and a b,and c d|iff a b,iff c d=>beq a c&&beq b d
 |_,_=>false
theorem beq_eq:∀{a b:bd},beq a b=true->a=b
 |lit a,b,h=>by cases b<;>simp[beq]at h;rw[h]
 |eq a b,c,h=>by cases c<;>simp[beq]at h;rw[aa.beq_eq h.1,aa.beq_eq h.2]
 |lt a b,c,h=>by cases c<;>simp[beq]at h;rw[aa.beq_eq h.1,aa.beq_eq h.2]
 |le a b,c,h=>by cases c<;>simp[beq]at h;rw[aa.beq_eq h.1,aa.beq_eq h.2]
 |not a,c,h=>by cases c<;>simp[beq]at h;rw[beq_eq h]
 |and a b,c,h=>by cases c<;>simp[beq]at h;rw[beq_eq h.1,beq_eq h.2]
 |iff a b,c,h=>by cases c<;>simp[beq]at h;rw[beq_eq h.1,beq_eq h.2]
def mkNot:bd->bd
 |lit b=>lit (!b)
 |not a=>a
 |a=>not a
def mkAnd:bd->bd->bd
 |lit true,b=>b
 |lit false,_=>lit false
 |a,lit true=>a
 |a,lit false=>cond true (lit false) a
 |a,b=>and a b
def mkIff (a b:bd):bd:=
 match a with
 |lit true=>b
 |lit false=>mkNot b
 |_=>match b with
  |lit true=>a
  |lit false=>mkNot a
  |_=>cond (beq a b) (lit true) (iff a b)
theorem tp (ρ:Env) (a:bd):(mkNot a).den ρ= !a.den ρ:=by cases a<;>simp[mkNot,den]
theorem uo {n:Nat} {a:bd} (h:a.bk n):(mkNot a).bk n:=by cases a<;>exact h
theorem IX (ρ:Env) (a b:bd):(mkAnd a b).den ρ=(a.den ρ&&b.den ρ):=by
 unfold mkAnd;split<;>simp[den]
theorem K6 {n:Nat} {a b:bd} (ha:a.bk n) (hb:b.bk n):(mkAnd a b).bk n:=by
 unfold mkAnd;split<;>first|exact hb|exact ha|trivial|exact⟨ha,hb⟩
theorem Nv (ρ:Env) (a b:bd):(mkIff a b).den ρ=(a.den ρ==b.den ρ):=by
 unfold mkIff
 split
 ·simp[den]
 ·rw[tp];simp[den]
 ·split
  ·simp[den]
  ·rw[tp];simp[den]
  ·cases h:beq a b with
   |true=>have:=beq_eq h;subst this;simp[den]
   |false=>rfl
theorem RO {n:Nat} {a b:bd} (ha:a.bk n) (hb:b.bk n):(mkIff a b).bk n:=by
 unfold mkIff
 split
 ·exact hb
 ·exact uo hb
 ·split
  ·exact ha
  ·exact uo ha
  ·cases beq a b with
   |true=>trivial
   |false=>exact⟨ha,hb⟩
def BU (d:aa) (f:Int->Bool) (e:bd):bd:=match d.dM with|some c=>lit (f c)|none=>e
def mkLt (a b:bF):bd:=cond (decide (a.hi<b.lo)) (lit true) (cond (decide (b.hi<=a.lo)) (lit false) (BU (a.l.sub b.l) (λc=>decide (c<0)) (lt a.l b.l)))
def mkLe (a b:bF):bd:=cond (decide (a.hi<=b.lo)) (lit true) (cond (decide (b.hi<a.lo)) (lit false) (BU (a.l.sub b.l) (λc=>decide (c<=0)) (le a.l b.l)))
def mkEq (a b:bF):bd:=cond (decide (a.hi<b.lo)) (lit false) (cond (decide (b.hi<a.lo)) (lit false) (cond (a.lo==a.hi&&b.lo==b.hi&&a.lo==b.lo) (lit true) (cond (aa.beq a.l b.l) (lit true) (BU (a.l.sub b.l) (λc=>decide (c=0)) (eq a.l b.l)))))
theorem Nu {n:Nat} {ρ:Env} {d:aa} {f:Int->Bool} {e:bd} (h:e.den ρ=f (d.den ρ)) (hs:e.bk n):(BU d f e).den ρ=e.den ρ/\(BU d f e).bk n:=by
 unfold BU
 split
 ·rename_i c hc
  exact⟨by rw[h,aa.ia hc];rfl,trivial⟩
 ·exact⟨rfl,hs⟩
theorem IY {n:Nat} {ρ:Env} {a b:bF} (ha:a.ok n ρ) (hb:b.ok n ρ):(mkLt a b).den ρ=decide (a.l.den ρ<b.l.den ρ)/\(mkLt a b).bk n:=by
 have h1:=ha.2;have h2:=hb.2
 unfold mkLt
 by_cases c1:a.hi<b.lo
 ·simp only[decide_eq_true c1,cond_true,den,bk,and_true];symm;simp;omega
 ·by_cases c2:b.hi<=a.lo
  ·simp only[decide_eq_false c1,decide_eq_true c2,cond_true,cond_false,den,bk,and_true];symm;simp;omega
  ·simp only[decide_eq_false c1,decide_eq_false c2,cond_false]
   have:=Nu (n:=n) (ρ:=ρ) (d:=a.l.sub b.l) (f:=λc=>decide (c<0)) (e:=lt a.l b.l) (by simp only[den,aa.mA];congr 1;simp;omega) ⟨ha.1,hb.1⟩
   exact⟨this.1,this.2⟩
theorem Wn {n:Nat} {ρ:Env} {a b:bF} (ha:a.ok n ρ) (hb:b.ok n ρ):(mkLe a b).den ρ=decide (a.l.den ρ<=b.l.den ρ)/\(mkLe a b).bk n:=by
 have h1:=ha.2;have h2:=hb.2
 unfold mkLe
 by_cases c1:a.hi<=b.lo
 ·simp only[decide_eq_true c1,cond_true,den,bk,and_true];symm;simp;omega
 ·by_cases c2:b.hi<a.lo
  ·simp only[decide_eq_false c1,decide_eq_true c2,cond_true,cond_false,den,bk,and_true];symm;simp;omega
  ·simp only[decide_eq_false c1,decide_eq_false c2,cond_false]
   have:=Nu (n:=n) (ρ:=ρ) (d:=a.l.sub b.l) (f:=λc=>decide (c<=0)) (e:=le a.l b.l) (by simp only[den,aa.mA];congr 1;simp;omega) ⟨ha.1,hb.1⟩
   exact⟨this.1,this.2⟩
theorem rb {n:Nat} {ρ:Env} {a b:bF} (ha:a.ok n ρ) (hb:b.ok n ρ):(mkEq a b).den ρ=decide (a.l.den ρ=b.l.den ρ)/\(mkEq a b).bk n:=by
 have h1:=ha.2;have h2:=hb.2
 unfold mkEq
 by_cases c1:a.hi<b.lo
 ·simp only[decide_eq_true c1,cond_true,den,bk,and_true];symm;simp;omega
 ·by_cases c2:b.hi<a.lo
  ·simp only[decide_eq_false c1,decide_eq_true c2,cond_true,cond_false,den,bk,and_true];symm;simp;omega
  ·cases c3:(a.lo==a.hi&&b.lo==b.hi&&a.lo==b.lo)with
   |true=>
    simp only[aS,beq_iff_eq]at c3
    simp only[decide_eq_false c1,decide_eq_false c2,cond_false,cond_true,den,bk,and_true];symm;simp;omega
   |false=>
    cases c4:aa.beq a.l b.l with
    |true=>simp only[decide_eq_false c1,decide_eq_false c2,cond_false,cond_true,den,bk,and_true,aa.beq_eq c4];simp
    |false=>
     simp only[decide_eq_false c1,decide_eq_false c2,cond_false]
     have:=Nu (n:=n) (ρ:=ρ) (d:=a.l.sub b.l) (f:=λc=>decide (c=0)) (e:=eq a.l b.l) (by simp only[den,aa.mA];congr 1;simp;omega) ⟨ha.1,hb.1⟩
     exact⟨this.1,this.2⟩
end bd
end Go.bo
namespace Go.bo
inductive A where
 |int (k:dp) (x:bF)
 |bool (b:bd)
 |ptr (b off:Nat)
 |mU (b off:Nat) (aU:bF)
 |gptr (g off:Nat)
 |BX (g off:Nat) (aU:bF)
 |slc (b off len cap:Nat)
 |con (v:aF)
 |str (l:aa)
 |rows (sh:List aB) (off code cap:aa) (kind:Nat)
 |sl (b a7:Nat) (o ro len cap:aa)
 |ep (b a7:Nat) (o i:aa) (j:Nat)
inductive W where
 |one (a:A)
 |agg (l:List A)
inductive V where
 |w (x:W)
 |fY (l:List W)
 |any
 |n2 (b len lo:Nat)
 |oy (f:Nat) (iA:List A)
def cD (op:BinOp) (k:dp) (x y:Int):Int:=
 match op with
 | .and=>k.wrap (p9 k.bits x&&&p9 k.bits y).toNat
 | .or=>k.wrap (p9 k.bits x|||p9 k.bits y).toNat
 | .xor=>k.wrap (p9 k.bits x^^^p9 k.bits y).toNat
 | .andNot=>k.wrap (p9 k.bits x&&&~~~(p9 k.bits y)).toNat
 |_=>0
inductive T where
 |stuck
 |leaf (v:V)
 |div (n:Nat) (x:aa) (d lo hi:Int) (r:T)
 |mul (n:Nat) (x y:aa) (lo hi:Int) (r:T)
 |bit (n:Nat) (op:BinOp) (k:dp) (x y:aa) (r:T)
 |shr (n:Nat) (x y:aa) (lo hi:Int) (r:T)
 |qP (n:Nat) (cs:List aa) (aU:aa) (lo hi:Int) (r:T)
 |nM (b:bd) (t e:T)
 |call (id:Nat) (args:List aa) (n:Nat) (bds:List (Int×Int)) (r:T)
 |loop (iU:Nat) (init:List aa) (n:Nat) (bds:List (Int×Int)) (r:T)
 |again (iU:Nat) (vals:List aa)
 |both (a b:T)
 |fn (n:Nat) (op:Nat) (args:List aa) (lo hi:Int) (r:T)
 |nO (op:Nat) (args:List aa) (r:T)
 |p7 (n:Nat) (lo hi:Int) (r:T)
 |nat (n:Nat) (r:T)
 |qi (op:Nat) (args:List aa) (r:T)
 |ind (n:Nat) (b:bd) (r:T)
def nJ:List (Int×Int)->(List Int->Prop)->Prop
 |[],P=>P []
 |(l,h)::b,P=>∀r:Int,l<=r->r<=h->nJ b (λrs=>P (r::rs))
def aV:List (Int×Int)->List Int->Prop
 |[],[]=>True
 |(l,h)::b,r::rs=>l<=r/\r<=h/\aV b rs
 |_,_=>False
theorem lT:∀{b:List (Int×Int)} {P:List Int->Prop} {rs:List Int},nJ b P->aV b rs->P rs
 |[],_,[],h,_=>h
 |(l,u)::b,P,r::rs,h,hi=>lT (b:=b) (P:=λrs=>P (r::rs)) (h r hi.1 hi.2.1) hi.2.2
 |[],_,_::_,_,hi=>hi.elim
 |(_,_)::_,_,[],_,hi=>hi.elim
abbrev dT:=Nat->List Int->Prop
def dT.set (A:dT) (iU:Nat) (p:List Int->Prop):dT:=λi=>cond (aG i iU) p (A i)
def T.holds (S:Nat->List Int->List Int->Prop) (L:V->Env->Prop):T->dT->Env->Prop
 |stuck,_,_=>False
 |leaf v,_,ρ=>L v ρ
 |div n x d lo hi r,A,ρ=>∀q:Int,lo<=q->q<=hi->0<=x.den ρ-d*q->x.den ρ-d*q<d->r.holds S L A (c6 ρ n q)
 |mul n x y lo hi r,A,ρ=>∀p:Int,lo<=p->p<=hi->p=x.den ρ*y.den ρ->r.holds S L A (c6 ρ n p)
 |bit n op k x y r,A,ρ=>∀z:Int,0<=z->z<=k.max->z=cD op k (x.den ρ) (y.den ρ)->r.holds S L A (c6 ρ n z)
 |shr n x y lo hi r,A,ρ=>∀z:Int,lo<=z->z<=hi->z=x.den ρ/2^(y.den ρ).toNat->r.holds S L A (c6 ρ n z)
 |qP n cs aU lo hi r,A,ρ=>∀z:Int,lo<=z->z<=hi->z=(cs.map (·.den ρ)).getD (aU.den ρ).toNat 0->r.holds S L A (c6 ρ n z)
 |nM b t e,A,ρ=>(b.den ρ=true->t.holds S L A ρ)/\(b.den ρ=false->e.holds S L A ρ)
 |call id args n bds r,A,ρ=>nJ bds λrs=>S id (args.map (·.den ρ)) rs->r.holds S L A (bL ρ n rs)
 |loop iU init n bds r,A,ρ=>∃(I:List Int->Prop) (jZ:List Int->Nat),I (init.map (·.den ρ))/\
  nJ bds λzs=>I zs->r.holds S L (A.set iU λvs=>I vs/\jZ vs<jZ zs) (bL ρ n zs)
 |again iU vals,A,ρ=>A iU (vals.map (·.den ρ))
 |both a b,A,ρ=>a.holds S L A ρ/\b.holds S L A ρ
 |fn n op args lo hi r,A,ρ=>∀z:Int,lo<=z->z<=hi->z=au op (args.map (·.den ρ))->r.holds S L A (c6 ρ n z)
 |nO op args r,A,ρ=>ab op (args.map (·.den ρ))/\r.holds S L A ρ
 |p7 n lo hi r,A,ρ=>∀z:Int,lo<=z->z<=hi->r.holds S L A (c6 ρ n z)
 |nat n r,A,ρ=>∀z:Int,0<=z->r.holds S L A (c6 ρ n z)
 |qi op args r,A,ρ=>ab op (args.map (·.den ρ))->r.holds S L A ρ
 |ind n b r,A,ρ=>∀z:Int,0<=z->z<=1->b.den ρ=decide (z=1)->r.holds S L A (c6 ρ n z)
abbrev M (α:Type):=Nat->(α->Nat->T)->T
namespace M
variable {α β:Type}
def pure (a:α):M α:=λn k=>k a n
def bind (x:M α) (f:α->M β):M β:=λn k=>x n λa n'=>f a n' k
def fail:M α:=λ_ _=> .stuck
def aw (S:Nat->List Int->List Int->Prop) (L:V->Env->Prop) (x:M α) (n:Nat) (ρ:Env) (R:Env->Nat->α->Prop):Prop:=
 ∀A k,(x n k).holds S L A ρ->∃ah n' a,n<=n'/\agree n ρ ah/\R ah n' a/\(k a n').holds S L A ah
variable {S:Nat->List Int->List Int->Prop} {L:V->Env->Prop} {n:Nat} {ρ:Env}
theorem aw.pure {a:α} {R:Env->Nat->α->Prop} (h:R ρ n a):aw S L (M.pure a) n ρ R:=
 λ_ _ hk=>⟨ρ,n,a,br _,agree.refl _ _,h,hk⟩
theorem aw.fail {R:Env->Nat->α->Prop}:aw S L (M.fail:M α) n ρ R:=λ_ _ hk=>hk.elim
theorem aw.bind {x:M α} {f:α->M β} {R:Env->Nat->α->Prop} {R':Env->Nat->β->Prop} (hx:aw S L x n ρ R)
 (hf:∀ah n' a,n<=n'->agree n ρ ah->R ah n' a->aw S L (f a) n' ah R'):aw S L (M.bind x f) n ρ R':=by
 intro A k hk
 obtain⟨ah,n',a,hn,ha,hR,j4⟩:=hx A _ hk
 obtain⟨rW,Dh,b,tH,j1,qs,akX⟩:=hf ah n' a hn ha hR A k j4
 exact⟨rW,Dh,b,iL hn tH,ha.trans j1 hn,qs,akX⟩
theorem aw.mono {x:M α} {R R':Env->Nat->α->Prop} (hx:aw S L x n ρ R) (h:∀ah n' a,n<=n'->agree n ρ ah->R ah n' a->R' ah n' a):aw S L x n ρ R':=by
 intro A k hk
 obtain⟨ah,n',a,hn,ha,hR,j4⟩:=hx A k hk
 exact⟨ah,n',a,hn,ha,h _ _ _ hn ha hR,j4⟩
end M
open M
section
variable {S:Nat->List Int->List Int->Prop} {L:V->Env->Prop} {n:Nat} {ρ:Env}
def yQ:List aa->Option (List Int)
 |[]=>some []
 |l::r=>match l.dM,yQ r with|some c,some s=>some (c::s)|_,_=>none
theorem MH {ρ:Env}:∀{l:List aa} {cs:List Int},yQ l=some cs->l.map (·.den ρ)=cs
 |[],cs,h=>by simp[yQ]at h;subst h;rfl
 |l::r,cs,h=>by
  simp only[yQ]at h
  cases h1:l.dM with
  |none=>simp[h1]at h
  |some c=>
   cases h2:yQ r with
   |none=>simp[h1,h2]at h
   |some s=>
    simp only[h1,h2,aQ]at h
    subst h
    simp only[cI,aa.ia h1,MH h2]
def eT (op:Nat) (args:List aa) (lo hi:Int):M aa:=λn k=>match bB op 5,yQ args with
 |true,some cs=>k (.const (au op cs)) n
 |_,_=> .fn n op args lo hi (k (.var n) (n+1))
def IM:Nat->List Int->Bool
 |1,[s,i]=>decide (0<=i)&&decide (i<(U s).length)
 |2,[s,a,b]=>decide (0<=a)&&decide (a<=b)&&decide (b<=(U s).length)
 |3,[s,t]=>bB ((U s).length+(U t).length) 1000000
 |30,[i,n]=>decide (0<=i)&&decide (i<n)
 |32,[a,b,n]=>decide (0<=a)&&decide (a<=b)&&decide (b<=n)
 |39,[x,l,h]=>decide (l<=x)&&decide (x<=h)
 |_,_=>false
theorem afM {op:Nat} {cs:List Int} (h:IM op cs=true):ab op cs:=by
 unfold IM at h
 split at h
 ·simp only[aS,decide_eq_true_eq]at h;exact h
 ·simp only[aS,decide_eq_true_eq]at h;exact⟨h.1.1,h.1.2,h.2⟩
 ·have h:=eC h
  show _<=gk
  unfold gk;omega
 ·simp only[aS,decide_eq_true_eq]at h;exact h
 ·simp only[aS,decide_eq_true_eq]at h;exact⟨h.1.1,h.1.2,h.2⟩
 ·simp only[aS,decide_eq_true_eq]at h;exact h
 ·cases h
def fy (op:Nat) (args:List aa):M Unit:=λn k=>match yQ args with
 |some cs=>cond (IM op cs) (k () n) (.nO op args (k () n))
 |none=> .nO op args (k () n)
theorem fT {op:Nat} {args:List aa} {lo hi:Int} (h1:lo<=au op (args.map (·.den ρ))) (h2:au op (args.map (·.den ρ))<=hi):
 aw S L (eT op args lo hi) n ρ λah n' l=>l.bk n'/\l.den ah=au op (args.map (·.den ρ)):=by
 intro A k hk
 unfold eT at hk
 split at hk
 ·rename_i cs _ hcs
  exact⟨_,n,_,br _,agree.refl _ _,⟨aa.cT _ _,by rw[aa.aW,MH hcs]⟩,hk⟩
 ·exact⟨_,n+1,_,oV _,agree.c6 _ _ _,⟨aa.eV (s5 n),by simp[aa.cE,jC]⟩,hk _ h1 h2 rfl⟩
theorem gM {op:Nat} {args:List aa} {α:Type} {x:M α} {R:Env->Nat->α->Prop} (h:ab op (args.map (·.den ρ))->aw S L x n ρ R):aw S L (bind (fy op args) λ_=>x) n ρ R:=by
 intro A k hk
 unfold M.bind fy at hk
 split at hk
 ·rename_i cs hcs
  cases hb:IM op cs with
  |true=>
   rw[hb]at hk
   exact h (by rw[MH hcs];exact afM hb) A k hk
  |false=>
   rw[hb]at hk
   exact h hk.1 A k hk.2
 ·exact h hk.1 A k hk.2
def tt (x:bF) (d:Int):M bF:=λn k=>
 cond (d==1) (k x n) <| cond (x.lo/d==x.hi/d) (k (.const (x.lo/d)) n) (.div n x.l d (x.lo/d) (x.hi/d) (k ⟨.var n,x.lo/d,x.hi/d⟩ (n+1)))
theorem EY {x:bF} {d:Int} (hd:0<d) (hx:x.ok n ρ):aw S L (tt x d) n ρ λah n' q=>q.ok n' ah/\q.l.den ah=x.l.den ρ/d/\(q.lo=x.lo/d/\q.hi=x.hi/d):=by
 intro A k hk
 have h1:=azT hd hx.2.1
 have h2:=azT hd hx.2.2
 unfold tt at hk
 cases N9:(d==1)with
 |true=>
  have e:d=1:=by simpa using N9
  subst e
  simp only[N9,cond_true]at hk
  exact⟨ρ,n,x,br _,agree.refl _ _,⟨hx,by simp,by simp,by simp⟩,hk⟩
 |false=>
 simp only[N9,cond_false]at hk
 cases hc:(x.lo/d==x.hi/d)with
 |true=>
  simp only[hc,cond_true]at hk
  have hc:x.lo/d=x.hi/d:=by simpa using hc
  exact⟨ρ,n,_,br _,agree.refl _ _,⟨bF.nd _ _ _,by simp only[bF.const,aa.aW];omega,rfl,hc⟩,hk⟩
 |false=>
  simp only[hc,cond_false,T.holds]at hk
  have hm:=acF (x.l.den ρ) (show d≠0 by omega)
  have vj:=acG (x.l.den ρ) hd
  have he:=acH (x.l.den ρ) d
  refine⟨_,n+1,_,oV _,agree.c6 _ _ _,⟨⟨aa.eV (s5 n),?_,?_⟩,?_,rfl,rfl⟩,hk (x.l.den ρ/d) h1 h2 (by omega) (by omega)⟩<;>
   simp only[aa.cE,jC]<;>omega
def QW (x:bF) (d:Int):M bF:=
 bind (tt x d) λq=>pure ⟨x.l.sub (q.l.smul d),cond (q.lo==q.hi) (x.lo-d*q.lo) 0,cond (q.lo==q.hi) (x.hi-d*q.lo) (d-1)⟩
theorem ZZ {x:bF} {d:Int} (hd:0<d) (hx:x.ok n ρ):aw S L (QW x d) n ρ λah n' q=>q.ok n' ah/\q.l.den ah=x.l.den ρ% d:=by
 refine(EY hd hx).bind λah n' q hn ha ⟨hq,he,sw,aCk⟩=>aw.pure ?_
 have iS:=hx.agree ha hn
 have hm:=acF (x.l.den ρ) (show d≠0 by omega)
 have vj:=acG (x.l.den ρ) hd
 have akx:=acH (x.l.den ρ) d
 have sk:(x.l.sub (q.l.smul d)).den ah=x.l.den ρ% d:=by
  rw[aa.mA,aa.ll,aa.bR ha hx.1,he];omega
 refine⟨⟨aa.ya iS.1 (aa.vY hq.1),?_,?_⟩,sk⟩
 ·cases hc:(q.lo==q.hi)with
  |true=>
   have hc:q.lo=q.hi:=by simpa using hc
   have:q.l.den ah=q.lo:=by have:=hq.2;omega
   simp only[cond_true,aa.mA,aa.ll,this];have:=iS.2.1;omega
  |false=>simp only[cond_false,sk];omega
 ·cases hc:(q.lo==q.hi)with
  |true=>
   have hc:q.lo=q.hi:=by simpa using hc
   have:q.l.den ah=q.lo:=by have:=hq.2;omega
   simp only[cond_true,aa.mA,aa.ll,this];have:=iS.2.2;omega
  |false=>simp only[cond_false,sk];omega
def two (k:dp):Int:=match k with| .i8| .u8=>256| .i16| .u16=>65536| .i32| .u32=>4294967296| .i64| .u64=>18446744073709551616
theorem uv (k:dp):two k=(2:Int)^k.bits:=by cases k<;>rfl
def half (k:dp):Int:=cond k.signed (two k/2) 0
theorem Lq (k:dp) (x:Int):k.wrap x=(x+half k)% two k-half k:=by
 cases k<;>simp only[azU,HI,acI,half,two,cond_true,cond_false,rM,Bool.false_and]<;>
  simp<;>(try split)<;>omega
def ux (k:dp) (x:bF):M bF:=
 cond (decide (-half k<=x.lo)&&decide (x.hi<two k-half k)) (pure x)
  (bind (QW ⟨x.l.add (.const (half k)),x.lo+half k,x.hi+half k⟩ (two k)) λr=>pure ⟨r.l.add (.const (-half k)),r.lo-half k,r.hi-half k⟩)
theorem yi {k:dp} {x:bF} (hx:x.ok n ρ):aw S L (ux k x) n ρ λah n' q=>q.ok n' ah/\q.l.den ah=k.wrap (x.l.den ρ):=by
 have ht:0<two k:=by cases k<;>decide
 unfold ux
 cases hc:(decide (-half k<=x.lo)&&decide (x.hi<two k-half k))with
 |true=>
  simp only[aS,decide_eq_true_eq]at hc
  refine aw.pure ⟨hx,?_⟩
  have h1:=hx.2
  rw[Lq,yt (by omega) (by omega)];omega
 |false=>
  refine(ZZ (x:=⟨x.l.add (.const (half k)),x.lo+half k,x.hi+half k⟩) ht ⟨aa.um hx.1 (aa.cT _ _),?_,?_⟩).bind λah n' r hn ha ⟨hr,he⟩=>aw.pure ?_
  ·rw[aa.den_add,aa.aW];have:=hx.2.1;simp only;omega
  ·rw[aa.den_add,aa.aW];have:=hx.2.2;simp only;omega
  ·have e:(r.l.add (.const (-half k))).den ah=k.wrap (x.l.den ρ):=by
    rw[aa.den_add,aa.aW,he,aa.den_add,aa.aW,Lq];omega
   refine⟨⟨aa.um hr.1 (aa.cT _ _),?_,?_⟩,e⟩<;>simp only[aa.den_add,aa.aW]<;>have:=hr.2<;>omega
def mulM (x y:bF):M bF:=λn k=>
 match x.l.dM,y.l.dM with
 |some c,_=>cond (decide (0<=c)) (k ⟨y.l.smul c,c*y.lo,c*y.hi⟩ n) .stuck
 |none,some c=>cond (decide (0<=c)) (k ⟨x.l.smul c,c*x.lo,c*x.hi⟩ n) .stuck
 |none,none=>cond (decide (0<=x.lo)&&decide (0<=y.lo)) (.mul n x.l y.l (x.lo*y.lo) (x.hi*y.hi) (k ⟨.var n,x.lo*y.lo,x.hi*y.hi⟩ (n+1))) .stuck
theorem Z0 {x y:bF} (hx:x.ok n ρ) (hy:y.ok n ρ):aw S L (mulM x y) n ρ λah n' q=>q.ok n' ah/\q.l.den ah=x.l.den ρ*y.l.den ρ:=by
 intro A k hk
 unfold mulM at hk
 cases h1:x.l.dM with
 |some c=>
  simp only[h1]at hk
  by_cases hc:0<=c
  ·simp only[decide_eq_true hc,cond_true]at hk
   refine⟨ρ,n,_,br _,agree.refl _ _,⟨⟨aa.vY hy.1,?_,?_⟩,?_⟩,hk⟩
   ·simp only[aa.ll];exact A9 hy.2.1 hc
   ·simp only[aa.ll];exact A9 hy.2.2 hc
   ·simp only[aa.ll,aa.ia h1]
  ·simp only[decide_eq_false hc,cond_false,T.holds]at hk
 |none=>
  cases h2:y.l.dM with
  |some c=>
   simp only[h1,h2]at hk
   by_cases hc:0<=c
   ·simp only[decide_eq_true hc,cond_true]at hk
    refine⟨ρ,n,_,br _,agree.refl _ _,⟨⟨aa.vY hx.1,?_,?_⟩,?_⟩,hk⟩
    ·simp only[aa.ll];exact A9 hx.2.1 hc
    ·simp only[aa.ll];exact A9 hx.2.2 hc
    ·simp only[aa.ll,aa.ia h2];exact uI _ _
   ·simp only[decide_eq_false hc,cond_false,T.holds]at hk
  |none=>
   simp only[h1,h2]at hk
   cases hc:(decide (0<=x.lo)&&decide (0<=y.lo))with
   |false=>simp only[hc,cond_false,T.holds]at hk
   |true=>
    simp only[hc,cond_true,T.holds]at hk
    simp only[aS,decide_eq_true_eq]at hc
    have a1:x.lo*y.lo<=x.l.den ρ*y.l.den ρ:=LK hx.2.1 hy.2.1 hc.2 (by have:=hx.2.1;omega)
    have a2:x.l.den ρ*y.l.den ρ<=x.hi*y.hi:=LK hx.2.2 hy.2.2 (by have:=hy.2.1;omega) (by have:=hx.2;omega)
    refine⟨_,n+1,_,oV _,agree.c6 _ _ _,⟨⟨aa.eV (s5 n),?_,?_⟩,?_⟩,hk _ a1 a2 rfl⟩<;>simp only[aa.cE,jC]<;>assumption
def Bz (op:BinOp) (k:dp) (x y:bF):M bF:=λn c=>
 cond k.signed .stuck (.bit n op k x.l y.l (c ⟨.var n,0,k.max⟩ (n+1)))
theorem ayk {k:dp} (hk:k.signed=false) (x:Int):0<=k.wrap x/\k.wrap x<=k.max:=by
 cases k<;>simp[HI]at hk<;>simp[azU,HI,acI,fs]<;>omega
theorem ae5 {k:dp} (hk:k.signed=false) (op:BinOp) (x y:Int):0<=cD op k x y/\cD op k x y<=k.max:=by
 unfold cD
 split
 iterate 4 exact ayk hk _
 cases k<;>simp[HI]at hk<;>simp[fs,HI,acI]
theorem Iz {op:BinOp} {k:dp} {x y:bF}:aw S L (Bz op k x y) n ρ λah n' q=>q.ok n' ah/\q.l.den ah=cD op k (x.l.den ρ) (y.l.den ρ):=by
 intro A c hk
 unfold Bz at hk
 cases hs:k.signed with
 |true=>simp only[hs,cond_true,T.holds]at hk
 |false=>
  simp only[hs,cond_false,T.holds]at hk
  have hb:=ae5 hs op (x.l.den ρ) (y.l.den ρ)
  refine⟨_,n+1,_,oV _,agree.c6 _ _ _,⟨⟨aa.eV (s5 n),?_,?_⟩,?_⟩,hk _ hb.1 hb.2 rfl⟩<;>simp only[aa.cE,jC]<;>first|exact hb.1|exact hb.2
def Kn (c:Int):Option (Int×Int):=
 match c with
 | .ofNat 0=>none
 | .ofNat c=>
  let b:=2^(m7 c+1)
  let a:=b-c
  cond (aG (2^m7 a) a) (some (a,b)) none
 |_=>none
theorem bv_and {w:Nat} (x y:Int):((p9 w x&&&p9 w y).toNat:Int)=(((x% 2^w).toNat&&&(y% 2^w).toNat:Nat):Int):=by
 rw[BitVec.toNat_and,LV,LV]
 congr
theorem aff {w:Nat} (x y:Int):((p9 w x|||p9 w y).toNat:Int)=(((x% 2^w).toNat|||(y% 2^w).toNat:Nat):Int):=by
 rw[BitVec.toNat_or,LV,LV]
 congr
theorem aeJ (x a b:Nat) (aCf:a<=b):x&&&(2^b-2^a)=2^a*(x/2^a)-2^b*(x/2^b):=by
 have e1:2^b-2^a=2^a*(2^(b-a)-1):=by
  rw[Nat.mul_sub,<-LW,Eg];congr 2;omega
 have e2:x&&&(2^b-2^a)=2^a*(x/2^a% 2^(b-a)):=by
  rw[e1]
  apply Nat.eq_of_testBit_eq
  intro i
  rw[Nat.testBit_and,yp (2^a) (2^(b-a)-1),yp (2^a),azV,azV,Nat.testBit_two_pow_sub_one,Nat.testBit_mod_two_pow,Nat.testBit_div_two_pow]
  by_cases h:a<=i
  ·simp only[h,decide_true,rM]
   rw[show i-a+a=i by omega,Bool.and_comm]
  ·simp[h]
 rw[e2]
 have bN:x/2^b=x/2^a/2^(b-a):=by
  rw[HJ,<-LW];congr 2;omega
 have fi:2^b=2^a*2^(b-a):=by rw[<-LW];congr 1;omega
 have o5:=acJ (x/2^a) (2^(b-a))
 rw[bN,fi,Nat.mul_assoc,<-Nat.mul_sub]
 congr 1
 omega
theorem apb {c a b:Int} (h:Kn c=some (a,b)):∃i j:Nat,i<=j/\a=2^i/\b=2^j/\c=b-a/\0<a/\0<b:=by
 unfold Kn at h
 split at h
 ·cases h
 ·rename_i c hc
  have hc0:c≠0:=λe=>hc (by rw[e])
  cases hb:aG (2^m7 (2^(m7 c+1)-c)) (2^(m7 c+1)-c)with
  |false=>simp[hb]at h
  |true=>
   simp only[hb,cond_true,aQ,cA]at h
   obtain⟨rfl,rfl⟩:=h
   have e:=bG hb
   have hlt:c<2^(m7 c+1):=azW
   have hp:0<2^m7 (2^(m7 c+1)-c):=Eh _
   refine⟨m7 (2^(m7 c+1)-c),m7 c+1,?_,?_,?_,?_,?_,?_⟩
   ·rcases od (m7 c+1) (m7 (2^(m7 c+1)-c))with ai|ai
    ·have:=Nat.pow_lt_pow_right (a:=2) (by omega) ai
     omega
    ·exact ai
   ·rw[<-e];simp
   ·simp
   ·have:((2^(m7 c+1)-c:Nat):Int)=((2^(m7 c+1):Nat):Int)-(c:Int):=by omega
    simp only[Int.ofNat_eq_natCast]
    omega
   ·omega
   ·have:0<2^(m7 c+1):=Eh _
    omega
 ·cases h
def andM (x:bF) (a b:Int):M bF:=
 bind (tt x a) λp=>bind (tt x b) λq=>
  pure ⟨(p.l.smul a).sub (q.l.smul b),cond (q.lo==q.hi) (a*p.lo-b*q.lo) 0,cond (q.lo==q.hi) (a*p.hi-b*q.lo) (b-a)⟩
theorem aeI {x:bF} {i j:Nat} (FZ:i<=j) (hx:x.ok n ρ) (h0:0<=x.lo):aw S L (andM x (2^i) (2^j)) n ρ λah n' q=>q.ok n' ah/\q.l.den ah=((x.l.den ρ).toNat&&&(2^j-2^i):Nat):=by
 have hi:(0:Int)<2^i:=by have:=Eh i;exact_mod_cast this
 have hj:(0:Int)<2^j:=by have:=Eh j;exact_mod_cast this
 refine(EY hi hx).bind λaE n1 p fq dP ⟨hp,ep,_,_⟩=>?_
 refine(EY hj (hx.agree dP fq)).bind λbT en q eN dD ⟨hq,eq,_,_⟩=>aw.pure ?_
 rw[aa.bR dP hx.1]at eq
 have xk:=hp.agree dD eN
 have agw:p.l.den bT=x.l.den ρ/2^i:=by rw[aa.bR dD hp.1,ep]
 obtain⟨X,bP⟩:=Ei (show 0<=x.l.den ρ by have:=hx.2.1;omega)
 have e:((p.l.smul (2^i)).sub (q.l.smul (2^j))).den bT=((x.l.den ρ).toNat&&&(2^j-2^i):Nat):=by
  rw[aa.mA,aa.ll,aa.ll,agw,eq,bP,gu,aeJ X i j FZ]
  have h1:2^j*(X/2^j)<=2^i*(X/2^i):=by
   have bN:X/2^j=X/2^i/2^(j-i):=by rw[HJ,<-LW];congr 2;omega
   have fi:2^j=2^i*2^(j-i):=by rw[<-LW];congr 1;omega
   rw[bN]
   conv=>lhs;rw[fi,Nat.mul_assoc]
   exact Nat.mul_le_mul_left _ (Nat.mul_div_le _ _)
  rw[acK h1]
  simp
 refine⟨⟨aa.ya (aa.vY xk.1) (aa.vY hq.1),?_,?_⟩,e⟩
 ·cases hc:(q.lo==q.hi)with
  |true=>
   have hc:q.lo=q.hi:=by simpa using hc
   have h1:q.l.den bT=q.lo:=by have:=hq.2;omega
   simp only[cond_true,aa.mA,aa.ll,h1]
   have:=A9 xk.2.1 (q1 hi);omega
  |false=>simp only[cond_false,e];omega
 ·cases hc:(q.lo==q.hi)with
  |true=>
   have hc:q.lo=q.hi:=by simpa using hc
   have h1:q.l.den bT=q.lo:=by have:=hq.2;omega
   simp only[cond_true,aa.mA,aa.ll,h1]
   have:=A9 xk.2.2 (q1 hi);omega
  |false=>
   simp only[cond_false,e]
   have h2:(x.l.den ρ).toNat&&&(2^j-2^i)<=2^j-2^i:=Nat.and_le_right
   have h3:2^i<=2^j:=HC (by omega) FZ
   have h4:((2^j-2^i:Nat):Int)=2^j-2^i:=by rw[acK h3];simp
   omega
end
end Go.bo
namespace Go.bo
open M
def A.den (ρ:Env) (m:Nat->Nat):A->aF
 | .int k x=> .int k (x.l.den ρ)
 | .bool b=> .bool (b.den ρ)
 | .ptr b off=> .pointer (some ⟨m b,off,none⟩)
 | .mU b off aU=> .pointer (some ⟨m b,off+(aU.l.den ρ).toNat,none⟩)
 | .gptr g off=> .pointer (some ⟨g,off,none⟩)
 | .BX g off aU=> .pointer (some ⟨g,off+(aU.l.den ρ).toNat,none⟩)
 | .slc b off len cap=> .slice (some ⟨m b,off,none⟩) len cap
 | .con v=>v
 | .str l=> .string (bw (U (l.den ρ)))
 | .rows _ _ code _ _=> .int .u8 (code.den ρ)
 | .sl b a7 o ro len cap=>if cap.den ρ<0 then .slice none 0 0 else .slice (some ⟨m b,(o.den ρ).toNat+(ro.den ρ).toNat*a7,none⟩) (len.den ρ).toNat (cap.den ρ).toNat
 | .ep b a7 o i j=> .pointer (some ⟨m b,(o.den ρ).toNat+(i.den ρ).toNat*a7+j,none⟩)
def AT (o ro len cap:Int):Prop:=(0<=o/\0<=ro/\0<=len/\len<=9223372036854775807)/\(-1<=cap/\ro+cap<=9223372036854775807)/\(cap<0->len=0)/\(0<=cap->len<=cap)
def A.ok (n nb:Nat) (ρ:Env):A->Prop
 | .int _ x=>x.ok n ρ
 | .bool b=>b.bk n
 | .ptr b _=>b<nb
 | .mU b _ aU=>b<nb/\aU.ok n ρ/\0<=aU.lo
 | .gptr .. =>True
 | .BX _ _ aU=>aU.ok n ρ/\0<=aU.lo
 | .slc b .. =>b<nb
 | .con v=>v.oneCell'=true
 | .str l=>l.bk n/\0<=l.den ρ/\l.den ρ<=bM
 | .rows _ off code cap _=>(off.bk n/\code.bk n/\cap.bk n)/\(0<=code.den ρ/\code.den ρ<=bK)/\-1<=cap.den ρ/\cap.den ρ<=9223372036854775807
 | .sl b _ o ro len cap=>b<nb/\(o.bk n/\ro.bk n/\len.bk n/\cap.bk n)/\AT (o.den ρ) (ro.den ρ) (len.den ρ) (cap.den ρ)
 | .ep b _ o i _=>b<nb/\(o.bk n/\i.bk n)/\0<=o.den ρ/\0<=i.den ρ
theorem A.ok.ext {n n' nb j5:Nat} {ρ ah:Env} {a:A} (h:a.ok n nb ρ) (ha:agree n ρ ah) (hn:n<=n') (hb:nb<=j5):a.ok n' j5 ah:=by
 cases a<;>simp only[A.ok]at h⊢
 ·exact h.agree ha hn
 ·exact bd.bk.mono hn h
 ·omega
 ·exact⟨by omega,h.2.1.agree ha hn,h.2.2⟩
 ·exact⟨h.1.agree ha hn,h.2⟩
 ·omega
 ·exact h
 ·exact⟨h.1.mono hn,by rw[aa.bR ha h.1];exact h.2⟩
 ·obtain⟨⟨h1,h2,h3⟩,h4⟩:=h
  exact⟨⟨h1.mono hn,h2.mono hn,h3.mono hn⟩,by rw[aa.bR ha h2,aa.bR ha h3];exact h4⟩
 ·obtain⟨h1,⟨h2,h3,h4,h5⟩,h6⟩:=h
  exact⟨by omega,⟨h2.mono hn,h3.mono hn,h4.mono hn,h5.mono hn⟩,by rw[aa.bR ha h2,aa.bR ha h3,aa.bR ha h4,aa.bR ha h5];exact h6⟩
 ·obtain⟨h1,⟨h2,h3⟩,h4⟩:=h
  exact⟨by omega,⟨h2.mono hn,h3.mono hn⟩,by rw[aa.bR ha h2,aa.bR ha h3];exact h4⟩
theorem A.ki {n nb:Nat} {ρ ah:Env} {m m':Nat->Nat} {a:A} (h:a.ok n nb ρ) (ha:agree n ρ ah) (hm:∀b,b<nb->m' b=m b):a.den ah m'=a.den ρ m:=by
 cases a<;>simp only[A.ok]at h<;>simp only[A.den]
 ·rw[aa.bR ha h.1]
 ·rw[bd.bR ha h]
 ·rw[hm _ h]
 ·rw[hm _ h.1,aa.bR ha h.2.1.1]
 ·rw[aa.bR ha h.1.1]
 ·rw[hm _ h]
 ·rw[aa.bR ha h.1]
 ·rw[aa.bR ha h.1.2.1]
 ·obtain⟨h1,⟨h2,h3,h4,h5⟩,h6⟩:=h
  rw[hm _ h1,aa.bR ha h2,aa.bR ha h3,aa.bR ha h4,aa.bR ha h5]
 ·rw[hm _ h.1,aa.bR ha h.2.1.1,aa.bR ha h.2.1.2]
theorem A.Kx {n nb:Nat} {ρ:Env} {m:Nat->Nat} {a:A} (h:a.ok n nb ρ):(a.den ρ m).oneCell'=true:=by
 cases a<;>first|rfl|exact h|(simp only[A.den];split<;>rfl)
def W.den (ρ:Env) (m:Nat->Nat):W->aF
 | .one a=>a.den ρ m
 | .agg l=> .agg (l.map (A.den ρ m)).toArray
def W.ok (n nb:Nat) (ρ:Env):W->Prop
 | .one a=>a.ok n nb ρ
 | .agg l=>∀a∈l,a.ok n nb ρ
theorem W.ok.ext {n n' nb j5:Nat} {ρ ah:Env} {x:W} (h:x.ok n nb ρ) (ha:agree n ρ ah) (hn:n<=n') (hb:nb<=j5):x.ok n' j5 ah:=by
 cases x with
 |one a=>exact A.ok.ext h ha hn hb
 |agg l=>exactλa h'=>(h a h').ext ha hn hb
theorem sF {n nb:Nat} {ρ ah:Env} {m m':Nat->Nat} {l:List A} (h:∀a∈l,a.ok n nb ρ) (ha:agree n ρ ah) (hm:∀b,b<nb->m' b=m b):l.map (A.den ah m')=l.map (A.den ρ m):=
 h8 λa h'=>A.ki (h a h') ha hm
theorem W.ki {n nb:Nat} {ρ ah:Env} {m m':Nat->Nat} {x:W} (h:x.ok n nb ρ) (ha:agree n ρ ah) (hm:∀b,b<nb->m' b=m b):x.den ah m'=x.den ρ m:=by
 cases x with
 |one a=>exact A.ki h ha hm
 |agg l=>simp only[W.den,sF h ha hm]
def V.rel (ρ:Env) (m:Nat->Nat):V->aF->Prop
 | .w x,v=>v=x.den ρ m
 | .fY l,v=>v= .tuple (l.map (W.den ρ m)).toArray
 | .any,_=>True
 | .n2 b len lo,v=>∃c:Nat,lo<=c/\v= .slice (some ⟨m b,0,none⟩) len c
 | .oy f iA,v=>v= .func (.func f) #[] (iA.map (A.den ρ m)).toArray
def V.ok (n nb:Nat) (ρ:Env):V->Prop
 | .w x=>x.ok n nb ρ
 | .fY l=>∀x∈l,x.ok n nb ρ
 | .any=>True
 | .n2 b _ _=>b<nb
 | .oy _ iA=>∀a∈iA,A.ok n nb ρ a
theorem V.ok.ext {n n' nb j5:Nat} {ρ ah:Env} {x:V} (h:x.ok n nb ρ) (ha:agree n ρ ah) (hn:n<=n') (hb:nb<=j5):x.ok n' j5 ah:=by
 cases x with
 |w x=>exact W.ok.ext h ha hn hb
 |fY l=>exactλa h'=>(h a h').ext ha hn hb
 |any=>trivial
 |n2 b len lo=>exact wo h hb
 |oy f iA=>exactλa h'=>(h a h').ext ha hn hb
theorem V.rel.ext {n nb:Nat} {ρ ah:Env} {m m':Nat->Nat} {x:V} {v:aF} (hr:x.rel ρ m v) (h:x.ok n nb ρ) (ha:agree n ρ ah) (hm:∀b,b<nb->m' b=m b):x.rel ah m' v:=by
 cases x with
 |w x=>simp only[V.rel]at hr⊢;rw[W.ki h ha hm];exact hr
 |fY l=>simp only[V.rel]at hr⊢;rw[hr];congr 2;exact(h8 λa h'=>W.ki (h a h') ha hm).symm
 |any=>trivial
 |n2 b len lo=>obtain⟨c,h1,h2⟩:=hr;exact⟨c,h1,by rw[hm b h];exact h2⟩
 |oy f iA=>simp only[V.rel]at hr⊢;rw[hr];congr 2;exact(h8 λa h'=>A.ki (h a h') ha hm).symm
section
variable {S:Nat->List Int->List Int->Prop} {L:V->Env->Prop} {n:Nat} {ρ:Env}
def Im (s:Int):List (Int×Nat)->Bool
 |[]=>true
 |(k,_)::r=>k% s==0&&Im s r
theorem VB {s:Int} (ρ:Env):∀{l},Im s l=true->hE ρ l% s=0
 |[],_=>by simp[hE]
 |(k,i)::r,h=>by
  simp only[Im,aS,beq_iff_eq]at h
  have h1:=VB ρ h.2
  obtain⟨c,hc⟩:=Td h.1
  obtain⟨d,hd⟩:=Td h1
  simp only[hE,hc,hd,Int.mul_assoc]
  rw[<-HE];exact azX _ _
def aa.uV (s:Int) (l:aa):Bool:=l.c% s==0&&Im s l.ts
theorem aa.MG {s:Int} (ρ:Env) {l:aa} (h:l.uV s=true):l.den ρ% s=0:=by
 simp only[uV,aS,beq_iff_eq]at h
 have h1:=VB ρ h.2
 obtain⟨c,hc⟩:=Td h.1
 obtain⟨d,hd⟩:=Td h1
 simp only[den,hc,hd]
 rw[<-HE];exact azX _ _
def wK (h:Int):Nat:=2^(m7 h.toNat+1)
theorem Vy {x h:Int} (hx:x<=h) (h0:0<=x):x<(wK h:Int):=by
 have:h.toNat<2^(m7 h.toNat+1):=azW
 unfold wK;omega
theorem dV {c:Bool} {α:Type} {x:M α} {R:Env->Nat->α->Prop} (h:c=true->aw S L x n ρ R):aw S L (cond c x fail) n ρ R:=by
 cases c with
 |true=>exact h rfl
 |false=>exact aw.fail
def lz (k:dp):Int:=two k-half k
theorem Ki (k:dp):lz k<=two k:=by cases k<;>decide
theorem aok (k:dp):∃i:Nat,lz k=2^i/\i<=k.bits:=by cases k<;>first|exact⟨7,by decide,by decide⟩|exact⟨8,by decide,by decide⟩|exact⟨15,by decide,by decide⟩|exact⟨16,by decide,by decide⟩|exact⟨31,by decide,by decide⟩|exact⟨32,by decide,by decide⟩|exact⟨63,by decide,by decide⟩|exact⟨64,by decide,by decide⟩
def Il (x:aa):List Nat->Nat
 |[]=>1
 |i::r=>cond (x.uV (2^i)) (2^i) (Il x r)
def orM (k:dp) (x y:bF):M bF:=
 cond (!(decide (0<=x.lo)&&decide (0<=y.lo)&&decide (x.hi<lz k)&&decide (y.hi<lz k))) (cond (decide (0<=x.lo)&&decide (x.hi<lz k)) (
  let s:=Il x.l [24,18,16,12,8,6,4]
  cond (x.l.uV s&&decide (y.hi<lz k)&&decide (x.hi+s<lz k)) (bind (fy 30 [y.l,.const s]) λ_=>pure ⟨x.l.add y.l,x.lo,x.hi+s⟩) fail) fail) <|
 cond (x.l.uV (wK y.hi)) (pure ⟨x.l.add y.l,x.lo+y.lo,cond (decide (x.hi+y.hi<two k)) (x.hi+y.hi) (two k-1)⟩) <|
 cond (y.l.uV (wK x.hi)) (pure ⟨x.l.add y.l,x.lo+y.lo,cond (decide (x.hi+y.hi<two k)) (x.hi+y.hi) (two k-1)⟩) (Bz .or k x y)
theorem GR {X Y s:Nat} (hs:∃i,s=2^i) (hx:X% s=0) (hy:Y<s):X|||Y=X+Y:=by
 obtain⟨i,rfl⟩:=hs
 have e:=acJ X (2^i)
 rw[hx,mv]at e
 rw[<-e,<-Nat.two_pow_add_eq_or_of_lt hy]
theorem Sz {k:dp} {z:Int} (h0:0<=z) (h1:z<lz k):k.wrap z=z:=by
 rw[Lq]
 have ai:0<=half k:=by cases k<;>decide
 unfold lz at h1
 rw[yt (by omega) (by omega)]
 omega
theorem Iy {k:dp} {x y:Int} (hx:0<=x) (hy:0<=y) (hx2:x<lz k) (Gw:y<lz k):cD .or k x y=((x.toNat|||y.toNat:Nat):Int):=by
 have hl:=Ki k
 have Qd:x<2^k.bits:=by rw[<-uv];omega
 have Gx:y<2^k.bits:=by rw[<-uv];omega
 obtain⟨i,hi,_⟩:=aok k
 obtain⟨X,rfl⟩:=Ei hx
 obtain⟨Y,rfl⟩:=Ei hy
 have bP:X<2^i:=by rw[hi]at hx2;exact_mod_cast hx2
 have hY:Y<2^i:=by rw[hi]at Gw;exact_mod_cast Gw
 have h1:X|||Y<2^i:=azY bP hY
 unfold cD
 simp only
 rw[aff,yt hx Qd,yt hy Gx]
 simp only[gu]
 exact Sz (by omega) (by rw[hi];exact_mod_cast h1)
theorem MT {k:dp} {x y:Int} (hx:0<=x) (hy:0<=y) (hx2:x<lz k) (Gw:y<two k):cD .and k x y=((x.toNat&&&y.toNat:Nat):Int):=by
 have hl:=Ki k
 have Qd:x<2^k.bits:=by rw[<-uv];omega
 have Gx:y<2^k.bits:=by rw[<-uv];omega
 obtain⟨X,rfl⟩:=Ei hx
 obtain⟨Y,rfl⟩:=Ei hy
 have h1:X&&&Y<=X:=Nat.and_le_left
 unfold cD
 simp only
 rw[bv_and,yt hx Qd,yt hy Gx]
 simp only[gu]
 exact Sz (by omega) (by omega)
theorem toNat_mod {x:Int} {s:Nat} (hx:0<=x) (h:x% (s:Int)=0):x.toNat% s=0:=by
 obtain⟨X,rfl⟩:=Ei hx
 simp only[gu]
 exact_mod_cast h
theorem art {k:dp} {x y:bF} (hx:x.ok n ρ) (hy:y.ok n ρ):aw S L (orM k x y) n ρ λah n' q=>q.ok n' ah/\q.l.den ah=cD .or k (x.l.den ρ) (y.l.den ρ):=by
 unfold orM
 cases hc:(!(decide (0<=x.lo)&&decide (0<=y.lo)&&decide (x.hi<lz k)&&decide (y.hi<lz k)))with
 |true=>
  simp only[cond_true]
  refine dV λh1=>dV λh2=>gM λh3=>aw.pure ?_
  simp only[aS,decide_eq_true_eq]at h1 h2
  simp only[cI,eo,ab,aa.aW]at h3
  obtain⟨⟨h4,h6⟩,h5⟩:=h2
  have BC:=hx.2;have V0:=hy.2
  generalize hs:Il x.l [24,18,16,12,8,6,4]=s at*
  have hm:=aa.MG ρ h4
  have alC:∃i,s=2^i:=by
   rw[<-hs]
   generalize [24,18,16,12,8,6,4]=l
   induction l with
   |nil=>exact⟨0,rfl⟩
   |cons i r ih=>
    unfold Il
    cases x.l.uV (2^i)with
    |true=>exact⟨i,rfl⟩
    |false=>exact ih
  have e:x.l.den ρ+y.l.den ρ=cD .or k (x.l.den ρ) (y.l.den ρ):=by
   rw[Iy (by omega) h3.1 (by omega) (by omega),GR alC (toNat_mod (by omega) hm) (by omega)];omega
  exact⟨⟨aa.um hx.1 hy.1,by simp only[aa.den_add];omega,by simp only[aa.den_add];omega⟩,by rw[aa.den_add];exact e⟩
 |false=>
  simp only[nD,aS,decide_eq_true_eq]at hc
  obtain⟨⟨⟨h1,h2⟩,w3⟩,aCe⟩:=hc
  have Pu:=Ki k
  have h3:x.hi<two k:=by omega
  have h4:y.hi<two k:=by omega
  have BC:=hx.2;have V0:=hy.2
  have hb:=Iy (k:=k) (x:=x.l.den ρ) (y:=y.l.den ρ) (by omega) (by omega) (by omega) (by omega)
  have hlt:cD .or k (x.l.den ρ) (y.l.den ρ)<two k:=by
   have e1:x.l.den ρ<2^k.bits:=by rw[<-uv];omega
   have e2:y.l.den ρ<2^k.bits:=by rw[<-uv];omega
   have h1:(x.l.den ρ).toNat|||(y.l.den ρ).toNat<2^k.bits:=azY (by
    have:(x.l.den ρ).toNat=x.l.den ρ:=by omega
    exact_mod_cast (show((x.l.den ρ).toNat:Int)<2^k.bits by omega)) (by exact_mod_cast (show((y.l.den ρ).toNat:Int)<2^k.bits by omega))
   rw[hb,uv]
   exact_mod_cast h1
  have ok:∀q:Int,q=cD .or k (x.l.den ρ) (y.l.den ρ)->x.l.den ρ+y.l.den ρ=q->(bF.mk (x.l.add y.l) (x.lo+y.lo) (cond (decide (x.hi+y.hi<two k)) (x.hi+y.hi) (two k-1))).ok n ρ:=λq rq pT=>⟨aa.um hx.1 hy.1,by simp only[aa.den_add];omega,by
   simp only[aa.den_add]
   cases hd:decide (x.hi+y.hi<two k)with
   |true=>simp only[cond_true];omega
   |false=>simp only[cond_false];omega⟩
  simp only[cond_false]
  cases h5:x.l.uV (wK y.hi)with
  |true=>
   have hm:=aa.MG ρ h5
   have hl:=Vy V0.2 (by omega)
   have hs:x.l.den ρ+y.l.den ρ=cD .or k (x.l.den ρ) (y.l.den ρ):=by
    rw[hb,GR (s:=wK y.hi) ⟨_,rfl⟩ (toNat_mod (by omega) hm) (by omega)];omega
   exact aw.pure ⟨ok _ rfl hs,by rw[aa.den_add];exact hs⟩
  |false=>
   simp only[cond_false]
   cases h6:y.l.uV (wK x.hi)with
   |true=>
    have hm:=aa.MG ρ h6
    have hl:=Vy BC.2 (by omega)
    have hs:x.l.den ρ+y.l.den ρ=cD .or k (x.l.den ρ) (y.l.den ρ):=by
     rw[hb,Nat.or_comm,GR (s:=wK x.hi) ⟨_,rfl⟩ (toNat_mod (by omega) hm) (by omega)];omega
    exact aw.pure ⟨ok _ rfl hs,by rw[aa.den_add];exact hs⟩
   |false=>exact Iz
def Ir (k:dp) (x:bF) (c:Int):M bF:=
 match Kn c with
 |some (a,b)=>cond (!(decide (0<=x.lo)&&decide (x.hi<lz k)&&decide (c<two k)&&decide (0<=c))) fail (andM x a b)
 |none=>cond (c==0&&decide (0<=x.lo)&&decide (x.hi<lz k)) (pure (.const 0)) fail
theorem VH {k:dp} {x:bF} {c:Int} (hx:x.ok n ρ):aw S L (Ir k x c) n ρ λah n' q=>q.ok n' ah/\q.l.den ah=cD .and k (x.l.den ρ) c:=by
 unfold Ir
 have BC:=hx.2
 cases hm:Kn c with
 |some p=>
  obtain⟨a,b⟩:=p
  simp only
  cases hc:(!(decide (0<=x.lo)&&decide (x.hi<lz k)&&decide (c<two k)&&decide (0<=c)))with
  |true=>exact aw.fail
  |false=>
   simp only[nD,aS,decide_eq_true_eq]at hc
   obtain⟨⟨⟨h1,h2⟩,h3⟩,h4⟩:=hc
   obtain⟨i,j,FZ,rfl,rfl,Ju,_,_⟩:=apb hm
   refine(aeI FZ hx h1).mono λah n' q _ _ ⟨ho,he⟩=>⟨ho,?_⟩
   rw[he,MT (by omega) h4 (by omega) h3]
   congr 2
   have h3:2^i<=2^j:=HC (by omega) FZ
   have h5:((2^j-2^i:Nat):Int)=2^j-2^i:=by rw[acK h3];simp
   omega
 |none=>
  simp only
  cases hc:(c==0&&decide (0<=x.lo)&&decide (x.hi<lz k))with
  |false=>exact aw.fail
  |true=>
   simp only[aS,beq_iff_eq,decide_eq_true_eq]at hc
   obtain⟨⟨rfl,h1⟩,h2⟩:=hc
   refine aw.pure ⟨bF.nd _ _ _,?_⟩
   rw[MT (by omega) (bX _) (by omega) (by cases k<;>decide)]
   simp[bF.const,aa.aW]
theorem ae4 (k:dp) (x y:Int):cD .and k x y=cD .and k y x:=by simp only[cD,BitVec.and_comm]
def ML (k:dp) (x y:bF):M bF:=
 match y.l.dM,x.l.dM with
 |some c,_=>Ir k x c
 |none,some c=>Ir k y c
 |none,none=>Bz .and k x y
theorem aeH {k:dp} {x y:bF} (hx:x.ok n ρ) (hy:y.ok n ρ):aw S L (ML k x y) n ρ λah n' q=>q.ok n' ah/\q.l.den ah=cD .and k (x.l.den ρ) (y.l.den ρ):=by
 unfold ML
 cases h1:y.l.dM with
 |some c=>simp only[aa.ia h1];exact VH hx
 |none=>
  cases h2:x.l.dM with
  |some c=>simp only[aa.ia h2];rw[ae4];exact VH hy
  |none=>exact Iz
def RX (x y:bF):M bF:=λn k=> .shr n x.l y.l 0 x.hi (k ⟨.var n,0,x.hi⟩ (n+1))
theorem auw {x y:bF} (hx:x.ok n ρ) (h0:0<=x.lo):aw S L (RX x y) n ρ λah n' q=>q.ok n' ah/\q.l.den ah=x.l.den ρ/2^(y.l.den ρ).toNat:=by
 intro A k hk
 simp only[RX,T.holds]at hk
 have hp:(0:Int)<2^(y.l.den ρ).toNat:=by have:=Eh (y.l.den ρ).toNat;exact_mod_cast this
 have b0:0<=x.l.den ρ:=by have:=hx.2;omega
 have a1:0<=x.l.den ρ/2^(y.l.den ρ).toNat:=acL b0 (q1 hp)
 have a2:x.l.den ρ/2^(y.l.den ρ).toNat<=x.hi:=Int.le_trans (azZ _ b0) hx.2.2
 exact⟨_,n+1,_,oV _,agree.c6 _ _ _,⟨⟨aa.eV (s5 n),by simp only[aa.cE,jC];exact a1,by simp only[aa.cE,jC];exact a2⟩,by simp only[aa.cE,jC]⟩,hk _ a1 a2 rfl⟩
def isInt (k:dp) (x:M bF):M A:=bind x λr=>pure (.int k r)
def xW (x:bF):M bF:=cond (decide (0<=x.lo)) (pure x) (bind (fy 77 [x.l]) λ_=>pure ⟨x.l,0,x.hi⟩)
def QX (x y:bF):M bF:=match x.l.dM,y.l.dM with
 |none,none=>bind (xW x) λx=>bind (xW y) λy=>mulM x y
 |_,_=>mulM x y
def MS (op:BinOp) (k:dp) (x:bF) (a6:dp) (y:bF):M A:=
 match op with
 | .shl=>match y.l.dM with
  |some c=>cond (decide (0<=c)) (let s:Int:=2^min c.toNat k.bits;isInt k (ux k ⟨x.l.smul s,x.lo*s,x.hi*s⟩)) fail
  |none=>cond (decide (0<=x.lo)&&decide (0<=y.lo)&&decide (y.hi<=62)&&decide (x.hi*2^y.hi.toNat<lz k)) (isInt k (bind (eT 37 [x.l,y.l] 0 (x.hi*2^y.hi.toNat)) λl=>pure ⟨l,0,x.hi*2^y.hi.toNat⟩)) fail
 | .shr=>match y.l.dM with
  |some c=>cond (decide (0<=c)) (isInt k (tt x (2^min c.toNat k.bits))) fail
  |none=>cond (decide (0<=x.lo)&&decide (0<=y.lo)&&decide (y.hi<=(k.bits:Int))) (isInt k (RX x y)) fail
 | .add=>cond (decide (k=a6)) (isInt k (ux k ⟨x.l.add y.l,x.lo+y.lo,x.hi+y.hi⟩)) fail
 | .sub=>cond (decide (k=a6)) (isInt k (ux k ⟨x.l.sub y.l,x.lo-y.hi,x.hi-y.lo⟩)) fail
 | .mul=>cond (decide (k=a6)) (isInt k (bind (QX x y) (ux k))) fail
 | .quo=>match y.l.dM with
  |some c=>cond (decide (k=a6)&&decide (0<c)) (bind (xW x) λx=>isInt k (bind (tt x c) (ux k))) fail
  |none=>cond (decide (k=a6)) (bind (xW x) λx=>bind (fy 36 [y.l]) λ_=>isInt k (bind (bind (eT 76 [x.l,y.l] 0 x.hi) λl=>pure ⟨l,0,x.hi⟩) (ux k))) fail
 | .rem=>match y.l.dM with
  |some c=>cond (decide (k=a6)&&decide (0<c)) (bind (xW x) λx=>isInt k (QW x c)) fail
  |none=>cond (decide (k=a6)) (bind (xW x) λx=>bind (fy 36 [y.l]) λ_=>isInt k (bind (eT 38 [x.l,y.l] 0 (cond (decide (y.hi-1<=x.hi)) (y.hi-1) x.hi)) λl=>pure ⟨l,0,cond (decide (y.hi-1<=x.hi)) (y.hi-1) x.hi⟩)) fail
 | .and=>cond (decide (k=a6)) (isInt k (ML k x y)) fail
 | .or=>cond (decide (k=a6)) (isInt k (orM k x y)) fail
 | .xor=>cond (decide (k=a6)) (isInt k (Bz .xor k x y)) fail
 | .andNot=>cond (decide (k=a6)) (isInt k (Bz .andNot k x y)) fail
 | .eql=>cond (decide (k=a6)) (pure (.bool (.mkEq x y))) fail
 | .neq=>cond (decide (k=a6)) (pure (.bool (.mkNot (.mkEq x y)))) fail
 | .lss=>cond (decide (k=a6)) (pure (.bool (.mkLt x y))) fail
 | .leq=>cond (decide (k=a6)) (pure (.bool (.mkLe x y))) fail
 | .gtr=>cond (decide (k=a6)) (pure (.bool (.mkLt y x))) fail
 | .geq=>cond (decide (k=a6)) (pure (.bool (.mkLe y x))) fail
theorem pf {k:dp} {x:M bF} {R:Env->Nat->A->Prop} {v:Int} (h:aw S L x n ρ λah n' q=>q.ok n' ah/\q.l.den ah=v)
 (hR:∀ah n' (q:bF),n<=n'->agree n ρ ah->q.ok n' ah->q.l.den ah=v->R ah n' (.int k q)):aw S L (isInt k x) n ρ R:=
 h.bind λah n' q hn ha ⟨ho,he⟩=>aw.pure (hR ah n' q hn ha ho he)
theorem Dq {x:bF} (hx:x.ok n ρ):aw S L (xW x) n ρ λah n' q=>q.ok n' ah/\q.l=x.l/\q.hi=x.hi/\0<=q.lo/\x.l.den ah=x.l.den ρ:=by
 unfold xW
 cases h:decide (0<=x.lo)with
 |true=>exact aw.pure ⟨hx,rfl,rfl,of_decide_eq_true h,rfl⟩
 |false=>
  refine gM λhk=>aw.pure ⟨⟨hx.1,?_,hx.2.2⟩,rfl,rfl,bX _,rfl⟩
  simpa [ab,EV]using hk
theorem apr {x y:bF} (hx:x.ok n ρ) (hy:y.ok n ρ):aw S L (QX x y) n ρ λah n' q=>q.ok n' ah/\q.l.den ah=x.l.den ρ*y.l.den ρ:=by
 unfold QX
 split
 ·refine(Dq hx).bind λaE n1 gp fq dP ⟨iS,ex,_,_,qn⟩=>(Dq (hy.agree dP fq)).bind λbT en kb eN dD ⟨Qf,agA,_,_,agB⟩=>(Z0 (iS.agree dD eN) Qf).mono λgv mh q _ _ ⟨h1,h2⟩=>⟨h1,?_⟩
  rw[h2,agA,agB,aa.bR dP hy.1,aa.bR dD iS.1,ex,qn]
 ·exact Z0 hx hy
theorem ae3 {nb:Nat} {m:Nat->Nat} (P:bH) {op:BinOp} {k a6:dp} {x y:bF} (t:aX) (hx:x.ok n ρ) (hy:y.ok n ρ):
 aw S L (MS op k x a6 y) n ρ λah n' a=>a.ok n' nb ah/\∀w,(binOp op t (.int k (x.l.den ρ)) (.int a6 (y.l.den ρ))).run P w= .ok (a.den ah m) w:=by
 have bJ:∀s:Nat,(0:Int)<2^s:=λs=>by have:=Eh s;exact_mod_cast this
 cases op<;>simp only[MS]
 case shl=>
  cases hc:y.l.dM with
  |none=>
   refine dV λh0=>?_
   simp only[aS,decide_eq_true_eq]at h0
   obtain⟨⟨⟨h1,h2⟩,h3⟩,h4⟩:=h0
   have zK:=hx.2;have xp:=hy.2
   have hp:=bJ (y.l.den ρ).toNat
   have e1:(0:Int)<=x.l.den ρ*2^(y.l.den ρ).toNat:=acw (by omega) (q1 hp)
   have e2:x.l.den ρ*2^(y.l.den ρ).toNat<=x.hi*2^y.hi.toNat:=LK zK.2 (by
    have:=HC (n:=2) (by decide) (show(y.l.den ρ).toNat<=y.hi.toNat by omega)
    exact_mod_cast this) (q1 hp) (by omega)
   have hf:au 37 ([x.l,y.l].map (·.den ρ))=x.l.den ρ*2^(y.l.den ρ).toNat:=rfl
   refine pf (v:=x.l.den ρ*2^(y.l.den ρ).toNat) ((fT (by rw[hf];exact e1) (by rw[hf];exact e2)).bind λaE n1 l _ _ ⟨g1,g2⟩=>aw.pure ⟨⟨g1,by simp only;rw[g2,hf];exact e1,by simp only;rw[g2,hf];exact e2⟩,by simp only;rw[g2,hf]⟩) λah n' q _ _ ho he=>⟨ho,λw=>?_⟩
   simp only[A.den,he,binOp,Op.shift]
   have akh:(y.l.den ρ).toNat<=k.bits∨x.l.den ρ=0:=by
    rcases Nat.le_total (y.l.den ρ).toNat k.bits with h|h
    ·exact .inl h
    ·refine .inr ?_
     have h5:x.l.den ρ*2^(y.l.den ρ).toNat<lz k:=by omega
     have h6:=Ki k
     rw[uv]at h6
     have h7:(2:Int)^k.bits<=2^(y.l.den ρ).toNat:=by
      have:=HC (n:=2) (by decide) h
      exact_mod_cast this
     rcases jX 0 (x.l.den ρ)with bD|bD
     ·have:(1:Int)*2^(y.l.den ρ).toNat<=x.l.den ρ*2^(y.l.den ρ).toNat:=Int.mul_le_mul_of_nonneg_right (by omega) (q1 hp)
      omega
     ·omega
   rw[if_neg (by omega)]
   rcases akh with h|h
   ·rw[show min (y.l.den ρ).toNat k.bits=(y.l.den ρ).toNat by omega]
    simp[Sz e1 (show x.l.den ρ*2^(y.l.den ρ).toNat<lz k by omega)]
   ·have hw:k.wrap 0=0:=by cases k<;>decide
    simp[h,hw]
  |some c=>
   refine dV λh0=>?_
   simp only[decide_eq_true_eq]at h0
   have hp:=bJ (min c.toNat k.bits)
   refine pf (yi (x:=⟨x.l.smul (2^min c.toNat k.bits),x.lo*2^min c.toNat k.bits,x.hi*2^min c.toNat k.bits⟩) ⟨aa.vY hx.1,?_,?_⟩) λah n' q _ _ ho he=>⟨ho,λw=>?_⟩
   ·simp only[aa.ll];rw[uI];exact A9 hx.2.1 (q1 hp)
   ·simp only[aa.ll];rw[uI x.hi];exact A9 hx.2.2 (q1 hp)
   ·simp only[A.den,he,aa.ll,aa.ia hc,binOp,Op.shift]
    rw[if_neg (by omega)]
    simp[uI]
 case shr=>
  cases hc:y.l.dM with
  |some c=>
   refine dV λh0=>?_
   simp only[decide_eq_true_eq]at h0
   have hp:=bJ (min c.toNat k.bits)
   refine pf ((EY hp hx).mono λ_ _ q _ _ h=>⟨h.1,h.2.1⟩) λah n' q _ _ ho he=>⟨ho,λw=>?_⟩
   simp only[A.den,he,aa.ia hc,binOp,Op.shift]
   rw[if_neg (by omega)]
   simp[az0 _ (q1 hp)]
  |none=>
   refine dV λh0=>?_
   simp only[aS,decide_eq_true_eq]at h0
   refine pf (auw hx h0.1.1) λah n' q _ _ ho he=>⟨ho,λw=>?_⟩
   have xp:=hy.2
   simp only[A.den,he,binOp,Op.shift]
   rw[if_neg (by omega),show min (y.l.den ρ).toNat k.bits=(y.l.den ρ).toNat by omega]
   simp[az0 _ (q1 (bJ _))]
 case add=>
  refine dV λh0=>?_
  simp only[decide_eq_true_eq]at h0;subst h0
  have zK:=hx.2;have xp:=hy.2
  refine pf (yi (x:=⟨x.l.add y.l,x.lo+y.lo,x.hi+y.hi⟩) ⟨aa.um hx.1 hy.1,by simp only[aa.den_add];omega,by simp only[aa.den_add];omega⟩) λah n' q _ _ ho he=>⟨ho,λw=>?_⟩
  simp[A.den,he,aa.den_add,binOp,Op.intArith]
 case sub=>
  refine dV λh0=>?_
  simp only[decide_eq_true_eq]at h0;subst h0
  have zK:=hx.2;have xp:=hy.2
  refine pf (yi (x:=⟨x.l.sub y.l,x.lo-y.hi,x.hi-y.lo⟩) ⟨aa.ya hx.1 hy.1,by simp only[aa.mA];omega,by simp only[aa.mA];omega⟩) λah n' q _ _ ho he=>⟨ho,λw=>?_⟩
  simp[A.den,he,aa.mA,binOp,Op.intArith]
 case mul=>
  refine dV λh0=>?_
  simp only[decide_eq_true_eq]at h0;subst h0
  refine pf (v:=k.wrap (x.l.den ρ*y.l.den ρ)) ((apr hx hy).bind λaE n1 p _ _ ⟨hp,ep⟩=>by rw[<-ep];exact yi hp) λah n' q _ _ ho he=>⟨ho,λw=>?_⟩
  simp[A.den,he,binOp,Op.intArith]
 case quo=>
  cases hc:y.l.dM with
  |none=>
   refine dV λh0=>(Dq hx).bind λb8 n0 gp nT ha0 ⟨iS,ex,NI,sw,qn⟩=>gM λhk=>?_
   have h0:=of_decide_eq_true h0
   subst h0
   simp only[cI,eo,ab]at hk
   have Gy:=aa.bR ha0 hy.1
   have zK:=iS.2
   have e1:=acL (show 0<=gp.l.den b8 by omega) (q1 hk)
   have bN:gp.l.den b8/y.l.den b8<=gp.l.den b8:=by
    have h5:=azZ (y.l.den b8) (show 0<=gp.l.den b8 by omega)
    exact h5
   have fi:gp.l.den b8/y.l.den b8<=gp.hi:=by omega
   have hf:au 76 ([gp.l,y.l].map (·.den b8))=gp.l.den b8/y.l.den b8:=rfl
   refine pf (v:=k.wrap (gp.l.den b8/y.l.den b8)) (((fT (by rw[hf];exact e1) (by rw[hf];exact fi)).bind λaE n1 l _ _ ⟨g1,g2⟩=>aw.pure (R:=λah n' (q:bF)=>q.ok n' ah/\q.l.den ah=gp.l.den b8/y.l.den b8) ⟨⟨g1,by simp only;rw[g2,hf];exact e1,by simp only;rw[g2,hf];exact fi⟩,by simp only;rw[g2,hf]⟩).bind λaE n1 p _ _ ⟨hp,ep⟩=>by rw[<-ep];exact yi hp) λah n' q _ _ ho he=>⟨ho,λw=>?_⟩
   simp only[A.den,he,binOp,Op.intDiv]
   have amj:0<y.l.den ρ:=Gy▸hk
   have hx0:0<=x.l.den ρ:=by rw[<-qn,<-ex];omega
   rw[Gy,ex,qn,if_neg (by simp),if_neg (by omega),az1 hx0]
   simp
  |some c=>
   refine dV λh0=>(Dq hx).bind λb8 n0 gp nT ha0 ⟨iS,ex,NI,sw,qn⟩=>?_
   simp only[aS,decide_eq_true_eq]at h0
   obtain⟨h0,h1⟩:=h0
   subst h0
   have zK:=iS.2
   refine pf (v:=k.wrap (gp.l.den b8/c)) ((EY h1 iS).bind λaE n1 p _ _ ⟨hp,ep,_⟩=>by rw[<-ep];exact yi hp) λah n' q _ _ ho he=>⟨ho,λw=>?_⟩
   have hx0:0<=x.l.den ρ:=by rw[<-qn,<-ex];omega
   simp only[A.den,he,aa.ia hc,binOp,Op.intDiv]
   rw[ex,qn,if_neg (by simp),if_neg (by omega),az1 hx0]
   simp
 case rem=>
  cases hc:y.l.dM with
  |none=>
   refine dV λh0=>(Dq hx).bind λb8 n0 gp nT ha0 ⟨iS,ex,NI,sw,qn⟩=>gM λhk=>?_
   have h0:=of_decide_eq_true h0
   subst h0
   simp only[cI,eo,ab]at hk
   have Gy:=aa.bR ha0 hy.1
   have zK:=iS.2;have xp:=(hy.agree ha0 nT).2
   have e1:=acF (gp.l.den b8) (show y.l.den b8≠0 by omega)
   have e2:=acG (gp.l.den b8) hk
   have bN:gp.l.den b8% y.l.den b8<=gp.l.den b8:=by
    have h5:=acH (gp.l.den b8) (y.l.den b8)
    have h6:=acw (q1 hk) (acL (show 0<=gp.l.den b8 by omega) (q1 hk))
    omega
   have hf:au 38 ([gp.l,y.l].map (·.den b8))=gp.l.den b8% y.l.den b8:=rfl
   have fi:gp.l.den b8% y.l.den b8<=cond (decide (y.hi-1<=gp.hi)) (y.hi-1) gp.hi:=by
    cases decide (y.hi-1<=gp.hi)with
    |true=>simp only[cond_true];omega
    |false=>simp only[cond_false];omega
   refine pf (v:=gp.l.den b8% y.l.den b8) ((fT (by rw[hf];exact e1) (by rw[hf];exact fi)).bind λaE n1 l _ _ ⟨g1,g2⟩=>aw.pure ⟨⟨g1,by simp only;rw[g2,hf];exact e1,by simp only;rw[g2,hf];exact fi⟩,by simp only;rw[g2,hf]⟩) λah n' q _ _ ho he=>⟨ho,λw=>?_⟩
   simp only[A.den,he,binOp,Op.intDiv]
   have amj:0<y.l.den ρ:=Gy▸hk
   have hx0:0<=x.l.den ρ:=by rw[<-qn,<-ex];omega
   rw[Gy,ex,qn,if_neg (by simp),if_neg (by omega),az2 hx0]
   simp
  |some c=>
   refine dV λh0=>(Dq hx).bind λb8 n0 gp nT ha0 ⟨iS,ex,NI,sw,qn⟩=>?_
   simp only[aS,decide_eq_true_eq]at h0
   obtain⟨h0,h1⟩:=h0
   subst h0
   have zK:=iS.2
   refine pf (ZZ h1 iS) λah n' q _ _ ho he=>⟨ho,λw=>?_⟩
   have hx0:0<=x.l.den ρ:=by rw[<-qn,<-ex];omega
   simp only[A.den,he,aa.ia hc,binOp,Op.intDiv]
   rw[ex,qn,if_neg (by simp),if_neg (by omega),az2 hx0]
   simp
 case and=>
  refine dV λh0=>?_
  simp only[decide_eq_true_eq]at h0;subst h0
  refine pf (aeH hx hy) λah n' q _ _ ho he=>⟨ho,λw=>?_⟩
  simp[A.den,he,binOp,LY,cD]
 case or=>
  refine dV λh0=>?_
  simp only[decide_eq_true_eq]at h0;subst h0
  refine pf (art hx hy) λah n' q _ _ ho he=>⟨ho,λw=>?_⟩
  simp[A.den,he,binOp,LY,cD]
 case xor=>
  refine dV λh0=>?_
  simp only[decide_eq_true_eq]at h0;subst h0
  refine pf Iz λah n' q _ _ ho he=>⟨ho,λw=>?_⟩
  simp[A.den,he,binOp,LY,cD]
 case andNot=>
  refine dV λh0=>?_
  simp only[decide_eq_true_eq]at h0;subst h0
  refine pf Iz λah n' q _ _ ho he=>⟨ho,λw=>?_⟩
  simp[A.den,he,binOp,LY,cD]
 all_goals
  refine dV λh0=>?_
  simp only[decide_eq_true_eq]at h0;subst h0
  have e1:=bd.rb hx hy
  have e2:=bd.IY hx hy
  have bN:=bd.Wn hx hy
  have fi:=bd.IY hy hx
  have o5:=bd.Wn hy hx
  refine aw.pure ⟨?_,λw=>?_⟩
  ·first|exact e1.2|exact bd.uo e1.2|exact e2.2|exact bN.2|exact fi.2|exact o5.2
  ·simp[A.den,bd.tp,e1.1,e2.1,bN.1,fi.1,o5.1,binOp,Op.intCmp]
   try rfl
end
end Go.bo
namespace Go.bo
open M
abbrev ax:=List A×(aX×Bool)
abbrev ei:=List (Nat×List (dp×Int))
structure dK where
 b:ar
 r:ar
 ex:Nat->Prop
 ro:Nat->Prop
 ds:List Deferred
def bV:List A->Bool
 |[.rows _ _ _ _ _]=>false
 |_=>true
noncomputable def bp (ρ:Env):List A->Nat
 |[.rows _ _ _ cap k]=>if cap.den ρ<0 then 0 else k
 |_=>2
def cl:List aB->List Int->Prop
 |[],[]=>True
 |c::sh,z::r=>(c.eL.1<=z/\z<=c.eL.2)/\cl sh r
 |_,_=>False
def de:List aB->List Int->List aF
 |c::sh,z::r=>c.val z::de sh r
 |_,_=>[]
def bf (sh:List aB) (rows:List (List Int)):List aF:=rows.flatMap (de sh)
def lg (cells:Array aF) (off:Nat) (sh:List aB) (rows:List (List Int)):Prop:=
 (∀row∈rows,cl sh row)/\∃pre post,cells.toList=pre++bf sh rows++post/\pre.length=off
theorem cl.len:∀{sh:List aB} {row:List Int},cl sh row->row.length=sh.length
 |[],[],_=>rfl
 |_::_,_::_,h=>by simp[cl.len h.2]
 |[],_::_,h=>h.elim
 |_::_,[],h=>h.elim
theorem cl.get:∀{sh:List aB} {row:List Int} {j:Nat} {c:aB},cl sh row->sh[j]?=some c->∃z,row[j]?=some z/\c.eL.1<=z/\z<=c.eL.2/\(de sh row)[j]?=some (c.val z)
 |c'::sh,z::r,0,c,h,hc=>by
  simp only[rQ,aQ]at hc
  subst hc
  exact⟨z,rfl,h.1.1,h.1.2,rfl⟩
 |c'::sh,z::r,j+1,c,h,hc=>cl.get (sh:=sh) (row:=r) (j:=j) h.2 (by simpa using hc)
 |[],_,_,_,_,hc=>by simp at hc
 |_::_,[],_,_,h,_=>h.elim
theorem AP:∀{sh:List aB} {row:List Int},cl sh row->(de sh row).length=sh.length
 |[],[],_=>rfl
 |_::_,_::_,h=>by simp[de,AP h.2]
 |[],_::_,h=>h.elim
 |_::_,[],h=>h.elim
theorem kj {sh:List aB}:∀{rows:List (List Int)},(∀row∈rows,cl sh row)->(bf sh rows).length=rows.length*sh.length
 |[],_=>by simp[bf]
 |r::rs,h=>by
  have ih:=kj (rows:=rs) λrow hr=>h row (dn _ hr)
  have h1:=AP (h r (by simp))
  simp only[bf,qa,dN,dv]at ih⊢
  rw[ih,h1,s6];omega
theorem N0 {sh:List aB}:∀{rows:List (List Int)} {i j:Nat} {row:List Int} {v:aF},(∀row∈rows,cl sh row)->rows[i]?=some row->(de sh row)[j]?=some v->(bf sh rows)[i*sh.length+j]?=some v
 |r::rs,0,j,row,v,h,hi,hj=>by
  simp only[rQ,aQ]at hi
  subst hi
  have hlt:=(List.getElem?_eq_some_iff.1 hj).1
  simp only[bf,qa,Nat.zero_mul,pB]
  rw[s0 hlt];exact hj
 |r::rs,i+1,j,row,v,h,hi,hj=>by
  have ih:=N0 (rows:=rs) (i:=i) (λrow hr=>h row (dn _ hr)) (by simpa using hi) hj
  have h1:=AP (h r (by simp))
  simp only[bf,qa]at ih⊢
  rw[A6 (by rw[h1,s6];omega),h1,s6]
  rw[show i*sh.length+sh.length+j-sh.length=i*sh.length+j by omega];exact ih
 |[],i,_,_,_,_,hi,_=>by simp at hi
theorem pK (sh:List aB) (a b:List (List Int)):bf sh (a++b)=bf sh a++bf sh b:=by simp[bf]
def uQ (kind:Nat) (fz:Nat×Nat) (n:Nat):Prop:=(kind=2/\fz=(0,0))∨(kind≠2/\fz=(n,n+1))
theorem uQ.two {fz:Nat×Nat} {n:Nat} (h:uQ 2 fz n):fz=(0,0):=by
 rcases h with h|h
 ·exact h.2
 ·exact absurd rfl h.1
theorem uQ.GL {n:Nat}:uQ 2 (0,0) n:= .inl ⟨rfl,rfl⟩
def q4 (w0:dK) (ρ:Env) (g:Nat) (sh:List aB) (off code cap:aa) (kind:Nat) (t:aX) (w:ar):Prop:=
 kind≠0->(cap.den ρ<0->af (code.den ρ)=[])/\(0<=cap.den ρ->(w0.ex g∨w0.ro g∨w0.r.heap.size<=g)/\∃cells t' fz,w.heap[g]?=some (.cells cells t' fz)/\(0<=off.den ρ/\lg cells (off.den ρ).toNat sh (af (code.den ρ)))/\
  (2<=kind->t'=t/\off.den ρ=0/\uQ kind fz cells.size/\cells.size=(cap.den ρ).toNat*sh.length/\w0.b.heap.size<=g/\(w0.ex g∨w0.r.heap.size<=g)))
structure Mem (w0:dK) (ρ:Env) (m:Nat->Nat) (bl:List ax) (w:ar):Prop where
 ext:w0.b.Extends w
 gQ:w.os=w0.r.os
 jz:w.tape=w0.r.tape
 ic:w.output=w0.r.output
 e8:w0.r.heap.size<=w.heap.size
 gz:∀i:Nat,i<w0.r.heap.size->¬w0.ex i->w.heap[i]?=w0.r.heap[i]?
 eR:∀(i:Nat) (cs:List A) (t:aX×Bool),bl[i]?=some (cs,t)->bV cs=true->w0.b.heap.size<=m i/\(w0.ex (m i)∨w0.r.heap.size<=m i)/\∃r:List aF,(t.2=false->r=[])/\w.heap[m i]?=some (.cells (cs.map (A.den ρ m)++r).toArray t.1 (0,0))
 rws:∀(i:Nat) (sh:List aB) (off code cap:aa) (kind:Nat) (t:aX×Bool),bl[i]?=some ([.rows sh off code cap kind],t)->q4 w0 ρ (m i) sh off code cap kind t.1 w
 inj:∀(i j:Nat) (p q:ax),bl[i]?=some p->bl[j]?=some q->m i=m j->i=j∨(bp ρ p.1<=1/\bp ρ q.1<=1)∨bp ρ p.1=0∨bp ρ q.1=0
theorem Mem.lt {w0:dK} {ρ:Env} {m:Nat->Nat} {bl:List ax} {w:ar} (h:Mem w0 ρ m bl w) {i:Nat} {p:ax} (hi:bl[i]?=some p) (hk:bp ρ p.1≠0):m i<w.heap.size:=by
 obtain⟨cs,t⟩:=p
 by_cases ho:bV cs=true
 ·obtain⟨_,_,r,_,h2⟩:=h.eR i cs t hi ho
  exact(Array.getElem?_eq_some_iff.1 h2).1
 ·unfold bV at ho
  split at ho
  ·rename_i sh off code cap k
   simp only[bp]at hk
   split at hk
   ·exact absurd rfl hk
   ·rename_i c0
    obtain⟨_,cells,t',fz,h2,_⟩:=(h.rws i _ _ _ _ _ t hi hk).2 (by omega)
    exact(Array.getElem?_eq_some_iff.1 h2).1
  ·exact absurd rfl ho
theorem jA {ρ:Env} {cs:List A} (h:bV cs=true):bp ρ cs=2:=by
 unfold bV at h
 unfold bp
 split<;>simp_all
def cK (n nb:Nat) (ρ:Env) (bl:List ax):Prop:=∀p∈bl,∀a∈p.1,A.ok n nb ρ a
def fg (gl:ei) (w0:dK):Prop:=∀g cs,(g,cs)∈gl->g<w0.b.heap.size/\∃t wY,w0.b.heap[g]?=some (.cells (cs.map λp=>Value.int p.1 p.2).toArray t wY)
theorem cK.ext {n n' nb j5:Nat} {ρ ah:Env} {bl:List ax} (h:cK n nb ρ bl) (ha:agree n ρ ah) (hn:n<=n') (hb:nb<=j5):cK n' j5 ah bl:=
 λp hp a h'=>(h p hp a h').ext ha hn hb
theorem q4.mZ {w0:dK} {n nb:Nat} {ρ ah:Env} {g:Nat} {sh:List aB} {off code cap:aa} {kind:Nat} {t:aX} {w:ar} (h:q4 w0 ρ g sh off code cap kind t w) (bm:(A.rows sh off code cap kind).ok n nb ρ) (ha:agree n ρ ah):q4 w0 ah g sh off code cap kind t w:=by
 unfold q4 at*
 rw[aa.bR ha bm.1.1,aa.bR ha bm.1.2.1,aa.bR ha bm.1.2.2]
 exact h
theorem qK {n nb:Nat} {ρ ah:Env} {cs:List A} (bm:∀a∈cs,A.ok n nb ρ a) (ha:agree n ρ ah):bp ah cs=bp ρ cs:=by
 unfold bp
 split
 ·rename_i sh off code cap k
  have h1:A.ok n nb ρ (.rows sh off code cap k):=bm _ (by simp)
  rw[aa.bR ha h1.1.2.2]
 ·rfl
theorem agree.sym {n:Nat} {ρ ah:Env} (h:agree n ρ ah):agree n ah ρ:=λi hi=>(h i hi).symm
theorem Mem.mZ {w0:dK} {n:Nat} {ρ ah:Env} {m:Nat->Nat} {bl:List ax} {w:ar} (h:Mem w0 ρ m bl w) (hb:cK n bl.length ρ bl) (ha:agree n ρ ah):Mem w0 ah m bl w:=
 ⟨h.ext,h.gQ,h.jz,h.ic,h.e8,h.gz,λi cs t hi ho=>by
  obtain⟨h1,h2,r,hr,h3⟩:=h.eR i cs t hi ho
  exact⟨h1,h2,r,hr,by rw[sF (hb _ (eh hi)) ha (λ_ _=>rfl)];exact h3⟩,
  λi sh off code cap kind t hi=>(h.rws i sh off code cap kind t hi).mZ (hb _ (eh hi) _ (by simp)) ha,λi j p q hi hj he=>by
   rw[qK (hb _ (eh hi)) ha,qK (hb _ (eh hj)) ha]
   exact h.inj i j p q hi hj he⟩
theorem q4.grow {w0:dK} {ρ:Env} {g:Nat} {sh:List aB} {off code cap:aa} {kind:Nat} {t:aX} {w w':ar} (h:q4 w0 ρ g sh off code cap kind t w) (he:kind≠0->0<=cap.den ρ->w'.heap[g]?=w.heap[g]?):q4 w0 ρ g sh off code cap kind t w':=by
 intro hk
 obtain⟨h1,h2⟩:=h hk
 refine⟨h1,λhc=>?_⟩
 rw[he hk hc]
 exact h2 hc
theorem oJ {ρ:Env} {sh:List aB} {off code cap:aa} {k:Nat} (hk:k≠0) (hc:0<=cap.den ρ):bp ρ [.rows sh off code cap k]=k:=by
 simp only[bp]
 rw[if_neg (by omega)]
theorem Mem.grow {w0:dK} {ρ:Env} {m:Nat->Nat} {bl:List ax} {w w':ar} (h:Mem w0 ρ m bl w) (he:w.Extends w'):Mem w0 ρ m bl w':=
 ⟨h.ext.trans he,he.os.trans h.gQ,he.tape.trans h.jz,he.output.trans h.ic,iL h.e8 he.size,λi hi hx=>(he.block i (wo hi h.e8)).trans (h.gz i hi hx),λi cs t hi ho=>by
  obtain⟨h1,h2,r,hr,h3⟩:=h.eR i cs t hi ho
  exact⟨h1,h2,r,hr,by rw[he.block _ (h.lt hi (by rw[jA ho];decide))];exact h3⟩,λi sh off code cap kind t hi=>(h.rws i sh off code cap kind t hi).grow λhk hc=>he.block _ (h.lt hi (by simp only[oJ hk hc];exact hk)),h.inj⟩
theorem Mem.ne {w0:dK} {ρ:Env} {m:Nat->Nat} {bl:List ax} {w:ar} (h:Mem w0 ρ m bl w) {i j:Nat} {p q:ax} (hi:bl[i]?=some p) (hj:bl[j]?=some q) (hp:2<=bp ρ p.1) (hq:bp ρ q.1≠0) (hne:i≠j):m i≠m j:=λe=>by
 rcases h.inj i j p q hi hj e with h|h|h|h
 ·exact hne h
 ·omega
 ·omega
 ·exact hq h
def dX (n nb:Nat) (ρ:Env) (m:Nat->Nat) (tm:List V) (tmps:Array aF):Prop:=
 tm.length=tmps.size/\∀(i:Nat) (v:V),tm[i]?=some v->v.ok n nb ρ/\∃x,tmps[i]?=some x/\v.rel ρ m x
theorem dX.ext {n n' nb j5:Nat} {ρ ah:Env} {m m':Nat->Nat} {tm:List V} {tmps:Array aF} (h:dX n nb ρ m tm tmps) (ha:agree n ρ ah) (hn:n<=n') (hb:nb<=j5) (hm:∀b,b<nb->m' b=m b):dX n' j5 ah m' tm tmps:=
 ⟨h.1,λi v hv=>by obtain⟨h1,x,h2,h3⟩:=h.2 i v hv;exact⟨h1.ext ha hn hb,x,h2,h3.ext h1 ha hm⟩⟩
def qQ:List V->Nat->V->List V
 |[],_,_=>[]
 |_::r,0,v=>v::r
 |x::r,i+1,v=>x::qQ r i v
theorem RU:∀(l:List V) (i:Nat) (v:V),qQ l i v=l.set i v
 |[],_,_=>rfl
 |_::_,0,_=>rfl
 |_::r,i+1,v=>by simp[qQ,RU r i v]
def fr (tm:List V) (d:Option Tmp) (v:V):List V:=match d with|some d=>qQ tm d v|none=>tm
theorem dX.put {n nb:Nat} {ρ:Env} {m:Nat->Nat} {tm:List V} {a:Act} {v:V} {x:aF} (h:dX n nb ρ m tm a.tmps) (d:Option Tmp) (hv:v.ok n nb ρ) (hx:v.rel ρ m x):dX n nb ρ m (fr tm d v) (a.put d x).tmps:=by
 cases d with
 |none=>exact h
 |some d=>
  simp only[fr,Ej,RU]
  refine⟨by simp[h.1],λi u hu=>?_⟩
  rw[List.getElem?_set]at hu
  by_cases hd:d=i
  ·subst hd
   simp only[if_true]at hu
   split at hu
   ·rename_i hlt
    simp only[aQ]at hu
    subst hu
    exact⟨hv,x,by simp[<-h.1,hlt],hx⟩
   ·cases hu
  ·rw[if_neg hd]at hu
   obtain⟨h1,y,h2,h3⟩:=h.2 i u hu
   exact⟨h1,y,by rw[az3 (by omega)];exact h2,h3⟩
def BI:aF->Option A
 | .int k n=>some (.int k (.const n))
 | .bool b=>some (.bool (.lit b))
 | .string s=>cond (bB s.size 1000000) (some (.str (.const (ev s.data.toList)))) none
 |v=>cond v.oneCell' (some (.con v)) none
theorem Wd {v:aF} {a:A} (h:BI v=some a) (n nb:Nat) (ρ:Env) (m:Nat->Nat):a.ok n nb ρ/\a.den ρ m=v:=by
 unfold BI at h
 split at h
 ·simp only[aQ]at h;subst h;exact⟨bF.nd _ _ _,by simp[A.den,bF.const,aa.aW]⟩
 ·simp only[aQ]at h;subst h;exact⟨trivial,rfl⟩
 ·rename_i s
  cases hc:bB s.size 1000000 with
  |false=>simp[hc]at h
  |true=>
   simp only[hc,cond_true,aQ]at h
   subst h
   have hl:s.data.toList.length<=gk:=by
    have:=eC hc
    have h2:s.data.toList.length=s.size:=by simp
    unfold gk;omega
   refine⟨⟨aa.cT _ _,by rw[aa.aW];exact ra _,by rw[aa.aW];exact oW hl⟩,?_⟩
   simp[A.den,aa.aW,fm,bw]
 ·cases hc:v.oneCell' with
  |false=>simp[hc]at h
  |true=>simp only[hc,cond_true,aQ]at h;subst h;exact⟨hc,rfl⟩
def u3:List aF->Option (List A)
 |[]=>some []
 |v::r=>match BI v,u3 r with|some a,some l=>some (a::l)|_,_=>none
theorem u4:∀{vs:List aF} {l:List A},u3 vs=some l->∀(n nb:Nat) (ρ:Env) (m:Nat->Nat),(∀a∈l,A.ok n nb ρ a)/\l.map (A.den ρ m)=vs
 |[],l,h,n,nb,ρ,m=>by simp[u3]at h;subst h;simp
 |v::r,l,h,n,nb,ρ,m=>by
  simp only[u3]at h
  cases h1:BI v with
  |none=>simp[h1]at h
  |some a=>
   cases h2:u3 r with
   |none=>simp[h1,h2]at h
   |some bQ=>
    simp only[h1,h2,aQ]at h
    subst h
    have e1:=Wd h1 n nb ρ m
    have e2:=u4 h2 n nb ρ m
    exact⟨λa ha=>by rcases List.mem_cons.1 ha with rfl|ha;exact e1.1;exact e2.1 a ha,by simp[e1.2,e2.2]⟩
def IT:aF->V
 | .agg cs=>match u3 cs.toList with|some l=> .w (.agg l)|none=> .any
 | .tuple _=> .any
 |v=>match BI v with|some a=> .w (.one a)|none=> .any
theorem afX (v:aF) (n nb:Nat) (ρ:Env) (m:Nat->Nat):(IT v).ok n nb ρ/\(IT v).rel ρ m v:=by
 unfold IT
 split
 ·rename_i cs
  cases h:u3 cs.toList with
  |none=>exact⟨trivial,trivial⟩
  |some l=>have e:=u4 h n nb ρ m;exact⟨e.1,by simp[V.rel,W.den,e.2]⟩
 ·exact⟨trivial,trivial⟩
 ·cases h:BI v with
  |none=>exact⟨trivial,trivial⟩
  |some a=>have e:=Wd h n nb ρ m;exact⟨e.1,by simp[V.rel,W.den,e.2]⟩
def cg (tm:List V):om->V
 | .tmp t=>(tm[t]?).getD .any
 | .const v=>IT v
 | .global g=> .w (.one (.gptr g 0))
 | .func f=> .w (.one (.con (.func (.func f) #[] #[])))
theorem cC {n nb:Nat} {ρ:Env} {m:Nat->Nat} {tm:List V} {a:Act} (h:dX n nb ρ m tm a.tmps) (x:om):(cg tm x).ok n nb ρ/\(cg tm x).rel ρ m (a.eval x):=by
 cases x with
 |tmp t=>
  simp only[cg,Act.eval]
  cases ht:tm[t]? with
  |none=>exact⟨trivial,trivial⟩
  |some v=>
   obtain⟨h1,y,h2,h3⟩:=h.2 t v ht
   exact⟨h1,by simp only[rP];rw[show a.tmps.getD t undef=y by simp[h2]];exact h3⟩
 |const v=>exact afX v n nb ρ m
 |global g=>exact⟨trivial,rfl⟩
 |func f=>exact⟨rfl,rfl⟩
def iF (P:bH) (t:aX):Option Bool:=
 match P.underlying t with|some (.struct _)=>some true|some (.array _ _)=>some true|some _=>some false|none=>none
def eW (P:bH) (t:aX):Option Nat:=match P.info? t with|some i=>some i.size|none=>none
theorem pt {P:bH} {t:aX} {b:Bool} (h:iF P t=some b) (w:ar):(isAgg t).run P w= .ok b w:=by
 unfold iF at h
 cases hu:P.underlying t with
 |none=>simp[hu]at h
 |some d=>cases d<;>simp[hu]at h<;>subst h<;>simp[isAgg,eH hu]
theorem im {P:bH} {t:aX} {k:Nat} (h:eW P t=some k) (w:ar):(sizeOf t).run P w= .ok k w:=by
 unfold eW at h
 cases hi:P.info? t with
 |none=>simp[hi]at h
 |some i=>simp[hi]at h;subst h;simp[sizeOf,typeInfo,hi]
def BE (bl:List ax) (gl:ei):A->Option (List A)
 | .ptr b off=>match bl[b]? with|some (cs,_)=>cond (bV cs) (some (cs.drop off)) none|none=>none
 | .gptr g off=>match gl.find? (λp=>aG p.1 g)with|some (_,cs)=>some ((cs.drop off).map λp=> .int p.1 (.const p.2))|none=>none
 |_=>none
theorem iy (g o j:Nat):(⟨g,o,none⟩:Addr).add j=⟨g,o+j,none⟩:=by unfold Addr.add;split<;>simp_all
theorem Nd {w0:dK} {w:ar} {n:Nat} {ρ:Env} {m:Nat->Nat} {bl:List ax} {gl:ei} {p:A} {cs:List A} (hm:Mem w0 ρ m bl w) (hb:cK n bl.length ρ bl) (hg:fg gl w0) (h:BE bl gl p=some cs):
 ∃g o,p.den ρ m= .pointer (some ⟨g,o,none⟩)/\(∀a∈cs,A.ok n bl.length ρ a)/\∀j a,cs[j]?=some a->w.cell? ⟨g,o+j,none⟩=some (a.den ρ m):=by
 unfold BE at h
 split at h
 ·rename_i b off
  cases hbl:bl[b]? with
  |none=>simp[hbl]at h
  |some q=>
   obtain⟨C,t⟩:=q
   simp only[hbl]at h
   cases kK:bV C with
   |false=>simp[kK]at h
   |true=>
   simp only[kK,cond_true,aQ]at h
   subst h
   obtain⟨h1,_,r,_,h2⟩:=hm.eR b C t hbl kK
   refine⟨m b,off,rfl,λa ha=>hb _ (eh hbl) a (oo ha),λj a hj=>?_⟩
   rw[wv]at hj
   have hlt:off+j<C.length:=(List.getElem?_eq_some_iff.1 hj).1
   simp only[jW,h2,rR,qb,if_false,HK]
   rw[s0 (by simpa using hlt),nE,hj];rfl
 ·rename_i g off
  cases hf:gl.find? (λp=>aG p.1 g)with
  |none=>simp[hf]at h
  |some q=>
   obtain⟨ji,C⟩:=q
   simp only[hf,aQ]at h
   subst h
   have tF:ji=g:=by have:=Ta hf;exact bG this
   subst tF
   obtain⟨h1,t,wY,h2⟩:=hg ji C (Ed hf)
   refine⟨ji,off,rfl,λa ha=>?_,λj a hj=>?_⟩
   ·obtain⟨p,_,rfl⟩:=List.mem_map.1 ha;exact bF.nd _ _ _
   ·rw[nE,wv]at hj
    cases hq:C[off+j]? with
    |none=>simp[hq]at hj
    |some q=>
     simp only[hq,rO,aQ]at hj
     subst hj
     have:=hm.ext.cell ⟨ji,off+j,none⟩ h1
     rw[this]
     simp[jW,h2,hq,A.den,bF.const,aa.aW]
 ·cases h
def QP (P:bH) (bl:List ax) (gl:ei) (ty:aX) (p:A):M V:=
 match BE bl gl p,iF P ty,eW P ty with
 |some cs,some true,some k=>cond (bB k cs.length) (pure (.w (.agg (cs.take k)))) fail
 |some (a::_),some false,_=>pure (.w (.one a))
 |_,_,_=>fail
section
variable {S:Nat->List Int->List Int->Prop} {L:V->Env->Prop} {n:Nat} {ρ:Env} {m:Nat->Nat} {bl:List ax} {gl:ei} {w0:dK} {P:bH}
def lf (w0:dK) (m:Nat->Nat) (bl:List ax) (n:Nat) (ρ:Env) (run:ar->Result aF) (ah:Env) (n':Nat) (v:V):Prop:=
 v.ok n' bl.length ah/\∃val,v.rel ah m val/\∀w,Mem w0 ρ m bl w->run w= .ok val w
theorem aop (hb:cK n bl.length ρ bl) (hg:fg gl w0) (hex:∃w,Mem w0 ρ m bl w) (ty:aX) (p:A):aw S L (QP P bl gl ty p) n ρ (lf w0 m bl n ρ λw=>(oh ty (p.den ρ m)).run P w):=by
 obtain⟨uy,hx⟩:=hex
 unfold QP
 cases hc:BE bl gl p with
 |none=>exact aw.fail
 |some cs=>
  obtain⟨g,o,hp,bm,_⟩:=Nd hx hb hg hc
  have hcell:∀w,Mem w0 ρ m bl w->∀j a,cs[j]?=some a->w.cell? ⟨g,o+j,none⟩=some (a.den ρ m):=λw hw=>by
   obtain⟨ji,cm,xj,_,h'⟩:=Nd hw hb hg hc
   rw[hp]at xj
   simp only[aDW,aQ,Addr.mk.injEq,and_true]at xj
   obtain⟨rfl,rfl⟩:=xj
   exact h'
  cases ha:iF P ty with
  |none=>exact aw.fail
  |some b=>
   cases b with
   |true=>
    cases hs:eW P ty with
    |none=>exact aw.fail
    |some k=>
     refine dV λhk=>aw.pure ⟨λa h=>bm a (kv h),_,rfl,λw hw=>?_⟩
     have hk:k<=cs.length:=eC hk
     have hl:=LP (P:=P) w ⟨g,o,none⟩ ((cs.take k).map (A.den ρ m)) λj v hj=>by
      rw[iy]
      rw[nE]at hj
      cases hq:(cs.take k)[j]? with
      |none=>simp[hq]at hj
      |some a=>
       simp only[hq,rO,aQ]at hj
       subst hj
       refine hcell w hw j a ?_
       rw[og]at hq
       split at hq
       ·exact hq
       ·cases hq
     simp only[k8,m8,yq hk]at hl
     simp[oh,lO,hp,loadVar,pt ha,im hs,hl,W.den]
   |false=>
    cases cs with
    |nil=>exact aw.fail
    |cons a r=>
     refine aw.pure ⟨bm a (by simp),_,rfl,λw hw=>?_⟩
     have:=hcell w hw 0 a rfl
     simp only[mv]at this
     simp[oh,lO,hp,loadVar,pt ha,this,W.den]
def nX (k:dp):List A->Option (List bF)
 |[]=>some []
 | .int a6 x::r=>cond (decide (k=a6)) (match nX k r with|some l=>some (x::l)|none=>none) none
 |_::_=>none
theorem Zi {k:dp}:∀{cs:List A} {l:List bF},nX k cs=some l->cs=l.map (.int k)
 |[],l,h=>by simp[nX]at h;subst h;rfl
 | .int a6 x::r,l,h=>by
  simp only[nX]at h
  by_cases hk:k=a6
  ·subst hk
   simp only[decide_true,cond_true]at h
   cases h1:nX k r with
   |none=>simp[h1]at h
   |some bQ=>simp only[h1,aQ]at h;subst h;simp[Zi h1]
  ·simp[hk]at h
 | .bool _::_,_,h=>by simp[nX]at h
 | .ptr .. ::_,_,h=>by simp[nX]at h
 | .mU .. ::_,_,h=>by simp[nX]at h
 | .gptr .. ::_,_,h=>by simp[nX]at h
 | .slc .. ::_,_,h=>by simp[nX]at h
 | .con _::_,_,h=>by simp[nX]at h
 | .str _::_,_,h=>by simp[nX]at h
 | .rows .. ::_,_,h=>by simp[nX]at h
 | .sl .. ::_,_,h=>by simp[nX]at h
 | .ep .. ::_,_,h=>by simp[nX]at h
def De:List bF->Int
 |[]=>0
 |[x]=>x.lo
 |x::r=>min x.lo (De r)
def Db:List bF->Int
 |[]=>0
 |[x]=>x.hi
 |x::r=>max x.hi (Db r)
theorem ZV {n:Nat} {ρ:Env}:∀{l:List bF},(∀x∈l,x.ok n ρ)->∀x∈l,De l<=x.l.den ρ/\x.l.den ρ<=Db l
 |[],_,x,hx=>by simp at hx
 |[y],h,x,hx=>by
  simp at hx;subst hx
  have:=(h x (by simp)).2
  exact this
 |y::z::r,h,x,hx=>by
  have ih:=ZV (l:=z::r) (λx hx=>h x (dn _ hx))
  simp only[De,Db]
  rcases List.mem_cons.1 hx with rfl|hx
  ·have:=(h x (by simp)).2;omega
  ·have:=ih x hx;omega
def kindOf (P:bH) (ty:aX):Option dp:=match P.underlying ty with|some (.int k)=>some k|_=>none
def tU:List Int->Int
 |[]=>0
 |[x]=>x
 |x::r=>cond (decide (x<=tU r)) x (tU r)
def tT:List Int->Int
 |[]=>0
 |[x]=>x
 |x::r=>cond (decide (tT r<=x)) x (tT r)
theorem ZW:∀(l:List Int),∀z∈l,tU l<=z/\z<=tT l
 |[],_,h=>by cases h
 |[x],z,h=>by simp at h;subst h;simp[tU,tT]
 |x::y::r,z,h=>by
  unfold tU tT
  have ih:=ZW (y::r)
  rcases List.mem_cons.1 h with rfl|h
  ·refine⟨?_,?_⟩
   ·cases hc:decide (z<=tU (y::r))with
    |true=>simp
    |false=>simp at hc⊢;omega
   ·cases hc:decide (tT (y::r)<=z)with
    |true=>simp
    |false=>simp at hc⊢;omega
  ·have:=ih z h
   refine⟨?_,?_⟩
   ·cases hc:decide (x<=tU (y::r))with
    |true=>simp at hc⊢;omega
    |false=>simp;exact this.1
   ·cases hc:decide (tT (y::r)<=x)with
    |true=>simp at hc⊢;omega
    |false=>simp;exact this.2
def RS (P:bH) (bl:List ax) (ty:aX) (b off:Nat) (aU:bF):M V:=λn c=>
 match bl[b]?,kindOf P ty with
 |some (cs,_),some k=>match nX k ((cs.drop off).take (aU.hi.toNat+1))with
  |some l=>cond (aG l.length (aU.hi.toNat+1)&&decide (0<=aU.lo)&&bV cs) (.qP n (l.map (·.l)) aU.l (De l) (Db l) (c (.w (.one (.int k ⟨.var n,De l,Db l⟩))) (n+1))) .stuck
  |none=> .stuck
 |_,_=> .stuck
theorem auq (hb:cK n bl.length ρ bl) (ty:aX) (b off:Nat) {aU:bF} (F1:aU.ok n ρ):aw S L (RS P bl ty b off aU) n ρ (lf w0 m bl n ρ λw=>(oh ty ((A.mU b off aU).den ρ m)).run P w):=by
 intro adf c hk
 unfold RS at hk
 cases hbl:bl[b]? with
 |none=>simp[hbl,T.holds]at hk
 |some q=>
  obtain⟨cs,t⟩:=q
  cases gd:kindOf P ty with
  |none=>simp[hbl,gd,T.holds]at hk
  |some k=>
   cases hi:nX k ((cs.drop off).take (aU.hi.toNat+1))with
   |none=>simp[hbl,gd,hi,T.holds]at hk
   |some l=>
    cases hc:(aG l.length (aU.hi.toNat+1)&&decide (0<=aU.lo)&&bV cs)with
    |false=>simp[hbl,gd,hi,hc,T.holds]at hk
    |true=>
     simp only[hbl,gd,hi,hc,cond_true,T.holds]at hk
     simp only[aS,decide_eq_true_eq]at hc
     obtain⟨hc,hq⟩:=hc
     have hlen:=bG hc.1
     have e:=Zi hi
     have BC:=F1.2
     have hlt:(aU.l.den ρ).toNat<l.length:=by omega
     have alq:∀x∈l,x.ok n ρ:=λx hx=>by
      have:A.int k x∈(cs.drop off).take (aU.hi.toNat+1):=by rw[e];exact az4 hx
      exact hb _ (eh hbl) _ (oo (kv this))
     have hz:((l.map (·.l)).map (·.den ρ)).getD (aU.l.den ρ).toNat 0=(l[(aU.l.den ρ).toNat]).l.den ρ:=by
      simp[ae,hlt]
     have jO:=ZV alq _ (HL hlt)
     refine⟨_,n+1,_,oV _,agree.c6 _ _ _,(show lf w0 m bl n ρ _ (c6 ρ n (((l.map (·.l)).map (·.den ρ)).getD (aU.l.den ρ).toNat 0)) (n+1) (.w (.one (.int k ⟨.var n,De l,Db l⟩))) from⟨⟨aa.eV (s5 n),?_,?_⟩,_,rfl,?_⟩),hk _ (by rw[hz];exact jO.1) (by rw[hz];exact jO.2) rfl⟩
     ·simp only[aa.cE,jC,hz];exact jO.1
     ·simp only[aa.cE,jC,hz];exact jO.2
     ·intro w hw
      obtain⟨_,_,r,_,h2⟩:=hw.eR b cs t hbl hq
      have hu:iF P ty=some false:=by
       unfold kindOf at gd
       unfold iF
       cases hq:P.underlying ty with
       |none=>simp[hq]at gd
       |some d=>cases d<;>simp[hq]at gd<;>rfl
      have hcs:cs[off+(aU.l.den ρ).toNat]?=some (.int k (l[(aU.l.den ρ).toNat])):=by
       have h3:((cs.drop off).take (aU.hi.toNat+1))[(aU.l.den ρ).toNat]?=some (.int k (l[(aU.l.den ρ).toNat])):=by rw[e];simp[hlt]
       rw[og,if_pos (by omega),wv]at h3
       exact h3
      have hcell:w.cell? ⟨m b,off+(aU.l.den ρ).toNat,none⟩=some (.int k ((l[(aU.l.den ρ).toNat]).l.den ρ)):=by
       have ak8:off+(aU.l.den ρ).toNat<cs.length:=(List.getElem?_eq_some_iff.1 hcs).1
       simp only[jW,h2,rR,qb,if_false,HK]
       rw[s0 (by simpa using ak8),nE,hcs];rfl
      simp only[W.den,A.den,aa.cE,jC,hz];simp[oh,lO,loadVar,pt hu,hcell]
def RR (P:bH) (gl:ei) (ty:aX) (g off:Nat) (aU:bF):M V:=λn c=>
 match gl.find? (λp=>aG p.1 g),kindOf P ty with
 |some (_,cs),some k=>cond (((cs.drop off).take (aU.hi.toNat+1)).all (λp=>decide (p.1=k))&&aG ((cs.drop off).take (aU.hi.toNat+1)).length (aU.hi.toNat+1)&&decide (0<=aU.lo))
  (.qP n (((cs.drop off).take (aU.hi.toNat+1)).map λp=> .const p.2) aU.l (tU (((cs.drop off).take (aU.hi.toNat+1)).map (·.2))) (tT (((cs.drop off).take (aU.hi.toNat+1)).map (·.2)))
    (c (.w (.one (.int k ⟨.var n,tU (((cs.drop off).take (aU.hi.toNat+1)).map (·.2)),tT (((cs.drop off).take (aU.hi.toNat+1)).map (·.2))⟩))) (n+1))) .stuck
 |_,_=> .stuck
theorem aup (hg:fg gl w0) (ty:aX) (g off:Nat) {aU:bF} (F1:aU.ok n ρ):aw S L (RR P gl ty g off aU) n ρ (lf w0 m bl n ρ λw=>(oh ty ((A.BX g off aU).den ρ m)).run P w):=by
 intro adf c hk
 unfold RR at hk
 cases hf:gl.find? (λp=>aG p.1 g)with
 |none=>simp[hf,T.holds]at hk
 |some q=>
  obtain⟨ji,cs⟩:=q
  have tF:ji=g:=by have:=Ta hf;exact bG this
  subst tF
  cases gd:kindOf P ty with
  |none=>simp[hf,gd,T.holds]at hk
  |some k=>
   simp only[hf,gd]at hk
   generalize hC:(cs.drop off).take (aU.hi.toNat+1)=C at hk
   cases hc:(C.all (λp=>decide (p.1=k))&&aG C.length (aU.hi.toNat+1)&&decide (0<=aU.lo))with
   |false=>simp[hc,T.holds]at hk
   |true=>
    simp only[hc,cond_true,T.holds]at hk
    simp only[aS,decide_eq_true_eq]at hc
    obtain⟨⟨c1,c2⟩,c3⟩:=hc
    have c2:=bG c2
    have BC:=F1.2
    have hlt:(aU.l.den ρ).toNat<C.length:=by omega
    have hz:((C.map λp=>aa.const p.2).map (·.den ρ)).getD (aU.l.den ρ).toNat 0=(C[(aU.l.den ρ).toNat]).2:=by
     simp[ae,hlt,aa.aW]
    have jO:=ZW (C.map (·.2)) _ (az4 (HL hlt))
    refine⟨_,n+1,_,oV _,agree.c6 _ _ _,(show lf w0 m bl n ρ _ (c6 ρ n (((C.map λp=>aa.const p.2).map (·.den ρ)).getD (aU.l.den ρ).toNat 0)) (n+1) (.w (.one (.int k ⟨.var n,tU (C.map (·.2)),tT (C.map (·.2))⟩))) from⟨⟨aa.eV (s5 n),?_,?_⟩,_,rfl,?_⟩),hk _ (by rw[hz];exact jO.1) (by rw[hz];exact jO.2) rfl⟩
    ·simp only[aa.cE,jC,hz];exact jO.1
    ·simp only[aa.cE,jC,hz];exact jO.2
    ·intro w hw
     have hu:iF P ty=some false:=by
      unfold kindOf at gd
      unfold iF
      cases hq:P.underlying ty with
      |none=>simp[hq]at gd
      |some d=>cases d<;>simp[hq]at gd<;>rfl
     have jk:(C[(aU.l.den ρ).toNat]).1=k:=by simpa using List.all_eq_true.1 c1 _ (HL hlt)
     have hcs:cs[off+(aU.l.den ρ).toNat]?=some (C[(aU.l.den ρ).toNat]):=by
      have h3:C[(aU.l.den ρ).toNat]?=some (C[(aU.l.den ρ).toNat]):=kg hlt
      have h4:C[(aU.l.den ρ).toNat]?=cs[off+(aU.l.den ρ).toNat]?:=by rw[<-hC,og,if_pos (by omega),wv]
      rw[<-h4,h3]
     obtain⟨JA,t,wY,akl⟩:=hg ji cs (Ed hf)
     have hcell:w.cell? ⟨ji,off+(aU.l.den ρ).toNat,none⟩=some (.int k (C[(aU.l.den ρ).toNat]).2):=by
      rw[hw.ext.cell _ JA]
      simp only[jW,akl,rR,qb,if_false,HK]
      rw[nE,hcs,rO,jk]
     simp only[W.den,A.den,aa.cE,jC,hz];simp[oh,lO,loadVar,pt hu,hcell]
end
end Go.bo
namespace Go.bo
open M
abbrev eI:=cw->Option (List ax->List V->M V)
def Ez (P:bH) (o:Oper) (a:Act) (w:ar) (val:aF):Prop:=
 (execOp a.eval o).run P w= .ok (.value val) w∨
 ∃f args,(execOp a.eval o).run P w= .ok (.enter f args) w/\Calls P f args w λe n8=>e= .returned val/\w.Extends n8
def yD (P:bH) (f:cw) (args:Array aF) (w:ar) (val:aF):Prop:=
 (callFunc f args).run P w= .ok (.value val) w∨
 ((callFunc f args).run P w= .ok (.enter f args) w/\Calls P f args w λe n8=>e= .returned val/\w.Extends n8)
def eD (ρ:Env) (m:Nat->Nat):List V->List aF->Prop
 |[],[]=>True
 |v::r,x::s=>v.rel ρ m x/\eD ρ m r s
 |_,_=>False
def fS (S:Nat->List Int->List Int->Prop) (P:bH) (gl:ei) (w0:dK) (cal:eI):Prop:=
 ∀f g,cal f=some g->∀(L:V->Env->Prop) (n:Nat) (ρ:Env) (m:Nat->Nat) (bl:List ax) (vs:List V) (xs:List aF),cK n bl.length ρ bl->(∃w,Mem w0 ρ m bl w)->(∀v∈vs,v.ok n bl.length ρ)->eD ρ m vs xs->
  aw S L (g bl vs) n ρ λah n' v=>v.ok n' bl.length ah/\∃val,v.rel ah m val/\∀w,Mem w0 ρ m bl w->yD P f xs.toArray w val
def E3 (P:bH) (s:aX) (f:Nat):Option Field:=match P.underlying s with|some (.struct dY)=>dY[f]?|_=>none
def qh (P:bH) (t:aX):Option (Nat×aX):=match P.underlying t with|some (.array n e)=>some (n,e)|_=>none
def hU (P:bH) (t:aX):Option aX:=match P.underlying t with|some (.slice e)=>some e|_=>none
def KI (P:bH) (t:aX) (l:List A) (off:Nat):M V:=
 match iF P t,eW P t with
 |some true,some k=>pure (.w (.agg ((l.drop off).take k)))
 |some false,_=>match l[off]? with|some a=>pure (.w (.one a))|none=>fail
 |_,_=>fail
def Qk (P:bH) (t:aX) (x:V) (aU:bF):M V:=
 match x with
 | .w (.one (.ptr b off))=>match qh P t with
  |some (len,e)=>match eW P e with
   |some s=>match aU.l.dM with
    |some i=>cond (decide (0<=i)&&decide (i<len)) (pure (.w (.one (.ptr b (off+i.toNat*s))))) fail
    |none=>cond (aG s 1&&decide (0<=aU.lo)&&decide (aU.hi<len)) (pure (.w (.one (.mU b off aU)))) fail
   |none=>fail
  |none=>fail
 | .w (.one (.gptr g off))=>match qh P t with
  |some (len,e)=>match eW P e with
   |some s=>match aU.l.dM with
    |some i=>cond (decide (0<=i)&&decide (i<len)) (pure (.w (.one (.gptr g (off+i.toNat*s))))) fail
    |none=>cond (aG s 1) (bind (fy 74 [aU.l,.const len]) λ_=>pure (.w (.one (.BX g off ⟨aU.l,0,(len:Int)-1⟩)))) fail
   |none=>fail
  |none=>fail
 | .w (.one (.slc b off len _))=>match hU P t with
  |some e=>match eW P e with
   |some s=>match aU.l.dM with
    |some i=>cond (decide (0<=i)&&decide (i<len)) (pure (.w (.one (.ptr b (off+i.toNat*s))))) fail
    |none=>cond (aG s 1&&decide (0<=aU.lo)&&decide (aU.hi<len)) (pure (.w (.one (.mU b off aU)))) fail
   |none=>fail
  |none=>fail
 | .n2 b len _=>match hU P t with
  |some e=>match eW P e with
   |some s=>match aU.l.dM with
    |some i=>cond (decide (0<=i)&&decide (i<len)) (pure (.w (.one (.ptr b (i.toNat*s))))) fail
    |none=>fail
   |none=>fail
  |none=>fail
 |_=>fail
def vO:List V->Option (List A)
 |[]=>some []
 | .w (.one a)::r=>match vO r with|some l=>some (a::l)|none=>none
 |_::_=>none
def wU:List A->List A->Option bd
 |[],[]=>some (.lit true)
 | .int k x::r,.int a6 y::r'=>cond (decide (k=a6)) (match wU r r' with|some b=>some (.mkAnd (.mkEq x y) b)|none=>none) none
 |_,_=>none
def NL (P:bH) (t:aX) (x y:List A):Option bd:=
 match qh P t with
 |some (len,e)=>match kindOf P e,eW P e with
  |some _,some 1=>cond (aG x.length len&&aG y.length len&& !P.eqGuardType P.depth t) (wU x y) none
  |_,_=>none
 |none=>none
def BS (P:bH):Nat->List Field->Bool
 |_,[]=>true
 |i,f::r=>(f.name != "_")&&aG f.offset i&&BS P (i+1) r
noncomputable def qm (P:bH):List Field->List A->List A->M bd
 |[],[],[]=>pure (.lit true)
 |f::dY,.int k a::xs,.int a6 b::fE=>match kindOf P f.type with
  |some k2=>cond (decide (k=a6)) (bind (qm P dY xs fE) λr=>pure (.mkAnd (.mkEq a b) r)) fail
  |none=>fail
 |f::dY,.str a::xs,.str b::fE=>match P.underlying f.type with
  |some .string=>bind (eT 4 [a,b] 0 1) λl=>bind (qm P dY xs fE) λr=>pure (.mkAnd (.mkEq ⟨l,0,1⟩ (.const 1)) r)
  |_=>fail
 |_,_,_=>fail
noncomputable def I1 (P:bH) (g:aX->List A->List A->M bd):Nat->List Field->List A->List A->M bd
 |_,[],_,_=>pure (.lit true)
 |o,f::dY,x,y=>match eW P f.type with
  |some s=>cond ((f.name != "_")&&aG f.offset o) (bind (g f.type (x.take s) (y.take s)) λb=>bind (I1 P g (o+s) dY (x.drop s) (y.drop s)) λr=>pure (.mkAnd b r)) fail
  |none=>fail
noncomputable def BQ (P:bH):Nat->aX->List A->List A->M bd
 |0,_,_,_=>fail
 |d+1,t,x,y=>match P.underlying t with
  |some (.int k)=>match x,y with
   |[.int k1 a],[.int k2 b]=>cond (decide (k1=k2)) (pure (.mkEq a b)) fail
   |_,_=>fail
  |some .string=>match x,y with
   |[.str a],[.str b]=>bind (eT 4 [a,b] 0 1) λl=>pure (.mkEq ⟨l,0,1⟩ (.const 1))
   |_,_=>fail
  |some .bool=>match x,y with
   |[.bool a],[.bool b]=>pure (.mkIff a b)
   |_,_=>fail
  |some (.struct dY)=>cond (!P.stoodInHeld t) (I1 P (BQ P d) 0 dY.toList x y) fail
  |_=>fail
noncomputable def I2 (P:bH) (t:aX) (x y:List A):M bd:=
 match P.underlying t with
 |some (.struct dY)=>cond (BS P 0 dY.toList&& !P.stoodInHeld t&& !P.eqGuardType P.depth t) (cond (dY.toList.all λf=>match P.underlying f.type with|some (.int _)=>true|some .string=>true|_=>false) (qm P dY.toList x y) (BQ P 8 t x y))
  (cond (!P.eqGuardType P.depth t) (BQ P 8 t x y) fail)
 |_=>fail
noncomputable def R9 (op:BinOp) (a b:aa):M V:=
 match op with
 | .add=>bind (fy 3 [a,b]) λ_=>bind (eT 3 [a,b] 0 bM) λl=>pure (.w (.one (.str l)))
 | .eql=>bind (eT 4 [a,b] 0 1) λl=>pure (.w (.one (.bool (.mkEq ⟨l,0,1⟩ (.const 1)))))
 | .neq=>bind (eT 4 [a,b] 0 1) λl=>pure (.w (.one (.bool (.mkNot (.mkEq ⟨l,0,1⟩ (.const 1))))))
 | .lss=>bind (eT 5 [a,b] 0 1) λl=>pure (.w (.one (.bool (.mkEq ⟨l,0,1⟩ (.const 1)))))
 | .geq=>bind (eT 5 [a,b] 0 1) λl=>pure (.w (.one (.bool (.mkNot (.mkEq ⟨l,0,1⟩ (.const 1))))))
 |_=>fail
def abQ (s:aa):M V:=bind (eT 0 [s] 0 9223372036854775807) λl=>pure (.w (.one (.int .i64 ⟨l,0,9223372036854775807⟩)))
def abP (s i:aa):M V:=bind (fy 1 [s,i]) λ_=>bind (eT 1 [s,i] 0 255) λl=>pure (.w (.one (.int .u8 ⟨l,0,255⟩)))
noncomputable def Lf (s a b:aa):M V:=bind (fy 2 [s,a,b]) λ_=>bind (eT 2 [s,a,b] 0 bM) λl=>pure (.w (.one (.str l)))
def pe (v:V):Option aa:=match v with| .w (.one (.int _ a))=>some a.l|_=>none
noncomputable def Sa (tm:List V) (s:aa) (lo hi:Option om):M V:=
 match(match lo with|none=>some (aa.const 0)|some x=>pe (cg tm x))with
 |none=>fail
 |some a=>match hi with
  |none=>bind (eT 0 [s] 0 9223372036854775807) λb=>Lf s a b
  |some y=>match pe (cg tm y)with
   |some b=>Lf s a b
   |none=>fail
noncomputable def VP (P:bH) (op:BinOp) (t:aX) (x y:V):M V:=
 match x,y with
 | .w (.one (.int k a)),.w (.one (.int a6 b))=>bind (MS op k a a6 b) λr=>pure (.w (.one r))
 | .w (.agg a),.w (.agg b)=>match op,NL P t a b with
  | .eql,some e=>pure (.w (.one (.bool e)))
  | .neq,some e=>pure (.w (.one (.bool (.mkNot e))))
  | .eql,none=>bind (I2 P t a b) λe=>pure (.w (.one (.bool e)))
  | .neq,none=>bind (I2 P t a b) λe=>pure (.w (.one (.bool (.mkNot e))))
  |_,_=>fail
 | .w (.one (.str a)),.w (.one (.str b))=>R9 op a b
 | .w (.one (.bool a)),.w (.one (.bool b))=>match op,P.underlying t with
  | .eql,some .bool=>pure (.w (.one (.bool (.mkIff a b))))
  | .neq,some .bool=>pure (.w (.one (.bool (.mkNot (.mkIff a b)))))
  |_,_=>fail
 |_,_=>fail
def ab6 (op:UnOp) (x:V):M V:=
 match op,x with
 | .not,.w (.one (.bool b))=>pure (.w (.one (.bool (.mkNot b))))
 | .xor,.w (.one (.int k a))=>cond (!k.signed&&decide (0<=a.lo)&&decide (a.hi<two k)) (pure (.w (.one (.int k ⟨(aa.const (two k-1)).sub a.l,two k-1-a.hi,two k-1-a.lo⟩)))) fail
 | .neg,.w (.one (.int k a))=>bind (ux k ⟨a.l.smul (-1),-a.hi,-a.lo⟩) λr=>pure (.w (.one (.int k r)))
 |_,_=>fail
def We (P:bH) (src dst:aX) (x:V):M V:=
 match P.underlying src,P.underlying dst,x with
 |some _,some .string,.w (.one (.int _ a))=>match a.l.dM with
  |some c=>cond (bB (LZ c).size 1000) (pure (.w (.one (.str (.const (ev (LZ c).data.toList)))))) fail
  |none=>fail
 |_,_,_=>match P.underlying src,kindOf P dst,x with
 |some _,some k,.w (.one (.int _ a))=>bind (ux k a) λr=>pure (.w (.one (.int k r)))
 |_,_,_=>fail
def IS (v:V):Option Int:=match v with| .w (.one (.int _ a))=>a.l.dM|_=>none
def KB (tm:List V):Option om->Option (Option Int)
 |none=>some none
 |some x=>match IS (cg tm x)with|some c=>some (some c)|none=>none
def abE (P:bH) (t:aX) (x:V) (lo hi:Option Int):M V:=
 match x,qh P t with
 | .w (.one (.ptr b off)),some (n,e)=>match eW P e with
  |some s=>cond (decide (0<=lo.getD 0)&&decide (lo.getD 0<=hi.getD n)&&decide (hi.getD n<=n)&&decide (lo.getD 0<n)) (pure (.w (.one (.slc b (off+(lo.getD 0).toNat*s) ((hi.getD n).toNat-(lo.getD 0).toNat) (n-(lo.getD 0).toNat))))) fail
  |none=>fail
 | .w (.one (.slc b off len cap)),none=>match hU P t with
  |some e=>match eW P e with
   |some s=>cond (decide (0<=lo.getD 0)&&decide (lo.getD 0<=hi.getD len)&&decide (hi.getD len<=cap)&&decide (lo.getD 0<cap)) (pure (.w (.one (.slc b (off+(lo.getD 0).toNat*s) ((hi.getD len).toNat-(lo.getD 0).toNat) (cap-(lo.getD 0).toNat))))) fail
   |none=>fail
  |none=>fail
 |_,_=>fail
def Z8 (x:V):M V:=
 match x with
 | .w (.one (.ptr b o))=>pure (.w (.one (.ptr b o)))
 | .w (.one (.mU b o i))=>pure (.w (.one (.mU b o i)))
 | .w (.one (.gptr g o))=>pure (.w (.one (.gptr g o)))
 |_=>fail
def W.cells:W->List A
 | .one a=>[a]
 | .agg l=>l
def mr (P:bH) (t:aX):Option (List A):=
 match P.info? t with
 |some i=>match i.zero with
  |some z=>u3 z.cells.toList
  |none=>none
 |none=>none
def tx (place:Nat->Option (Nat×Nat)):List A->List (Nat×V)->Option (List A)
 |cells,[]=>some cells
 |cells,(i,.w u)::r=>match place i with
  |some (off,size)=>cond (aG u.cells.length size&&bB (off+size) cells.length) (tx place (cells.take off++u.cells++cells.drop (off+size)) r) none
  |none=>none
 |_,_::_=>none
def MZ (P:bH) (t:aX) (parts:List (Nat×V)):Option (List A):=
 match mr P t,P.underlying t with
 |some z,some (.array _ e)=>match eW P e with
  |some s=>tx (λi=>some (i*s,s)) z parts
  |none=>none
 |some z,some (.struct fields)=>match fields.toList.mapM (λf=>(P.info? f.type).map λi=>(f.offset,i.size))with
  |some places=>tx (places.toArray[·]?) z parts
  |none=>none
 |_,_=>none
noncomputable def Rr (P:bH) (cal:eI) (gl:ei) (bl:List ax) (tm:List V) (o:Oper):M V:=
 match o.op with
 | .move x| .assign x=>pure (cg tm x)
 | .load t x=>match cg tm x with
  | .w (.one (.mU b off aU))=>RS P bl t b off aU
  | .w (.one (.BX g off aU))=>RR P gl t g off aU
  | .w (.one p)=>QP P bl gl t p
  |_=>fail
 | .nilCheck x=>Z8 (cg tm x)
 | .pick c x y=>match cg tm c with
  | .w (.one (.bool (.lit v)))=>pure (cond v (cg tm x) (cg tm y))
  |_=>fail
 | .binOp op t x y _=>VP P op t (cg tm x) (cg tm y)
 | .unOp op _ x=>ab6 op (cg tm x)
 | .convert s d x=>We P s d (cg tm x)
 | .indexAddr t x aU=>match cg tm aU with
  | .w (.one (.int _ i))=>Qk P t (cg tm x) i
  |_=>fail
 | .index t x aU=>match cg tm x with
  | .w (.one (.str s))=>match P.underlying t,pe (cg tm aU)with
   |some .string,some i=>abP s i
   |_,_=>fail
  |_=>match cg tm x,IS (cg tm aU),qh P t with
   | .w (.agg l),some i,some (len,e)=>match eW P e with
    |some s=>cond (decide (0<=i)&&decide (i<len)) (KI P e l (i.toNat*s)) fail
    |none=>fail
   |_,_,_=>fail
 | .fieldAddr s x f=>match cg tm x,E3 P s f with
  | .w (.one (.ptr b off)),some fd=>match eW P fd.type with
   |some (_+1)=>pure (.w (.one (.ptr b (off+fd.offset))))
   |_=>fail
  |_,_=>fail
 | .field s x f=>match cg tm x,E3 P s f with
  | .w (.agg l),some fd=>KI P fd.type l fd.offset
  |_,_=>fail
 | .extract x i=>match cg tm x with
  | .fY l=>match l[i]? with|some u=>pure (.w u)|none=>fail
  |_=>fail
 | .slice t x lo hi none=>match cg tm x,P.underlying t with
  | .w (.one (.str s)),some .string=>Sa tm s lo hi
  |_,_=>match KB tm lo,KB tm hi with
   |some l,some h=>abE P t (cg tm x) l h
   |_,_=>fail
 | .call c=>match c.callee with
  | .value (.func f)=>match cal f with
   |some g=>g bl (c.args.toList.map (cg tm))
   |none=>fail
  | .builtin .len=>match c.args.toList,c.argTypes.toList with
   |[x],[t]=>match cg tm x,P.underlying t with
    | .w (.one (.str s)),some .string=>abQ s
    |_,_=>match cg tm x,hU P t with
     | .w (.one (.slc _ _ len _)),some _=>pure (.w (.one (.int .i64 (.const len))))
     | .n2 _ len _,some _=>pure (.w (.one (.int .i64 (.const len))))
     |_,_=>fail
   |_,_=>fail
  |_=>fail
 | .makeFunc (.func f) first iA=>match first.toList,vO (iA.toList.map (cg tm))with
  |[],some l=>pure (.oy f l)
  |_,_=>fail
 | .build t parts=>match MZ P t (parts.toList.map λp=>(p.1,cg tm p.2))with
  |some l=>pure (.w (.agg l))
  |none=>fail
 | .sliceToArrayPointer t x=>match cg tm x,qh P t with
  | .n2 b len _,some (k,_)=>cond (bB k len) (pure (.w (.one (.ptr b 0)))) fail
  | .w (.one (.slc b off len _)),some (k,_)=>cond (bB k len) (pure (.w (.one (.ptr b off)))) fail
  |_,_=>fail
 |_=>fail
section
variable {S:Nat->List Int->List Int->Prop} {L:V->Env->Prop} {n:Nat} {ρ:Env} {m:Nat->Nat} {bl:List ax} {gl:ei} {w0:dK} {P:bH} {tm:List V} {a:Act}
def ld (w0:dK) (m:Nat->Nat) (bl:List ax) (n:Nat) (ρ:Env) (P:bH) (o:Oper) (a:Act) (ah:Env) (n':Nat) (v:V):Prop:=
 v.ok n' bl.length ah/\∃val,v.rel ah m val/\∀w,Mem w0 ρ m bl w->Ez P o a w val
theorem ld.of_run {o:Oper} {s:Sem aF} {ah:Env} {n':Nat} {v:V} (he:execOp a.eval o=(do pure (kx (<-s)))) (h:lf w0 m bl n ρ (λw=>s.run P w) ah n' v):ld w0 m bl n ρ P o a ah n' v:=by
 obtain⟨h1,val,h2,h3⟩:=h
 exact⟨h1,val,h2,λw hw=> .inl (by rw[he];simp[h3 w hw])⟩
theorem W.IL {n nb:Nat} {ρ:Env} {m:Nat->Nat} (u:W) (hu:u.ok n nb ρ):(u.den ρ m).cells=(u.cells.map (A.den ρ m)).toArray:=by
 cases u with
 |one a=>
  have:=A.Kx (m:=m) hu
  simp only[W.den,W.cells,cI,eo]
  generalize A.den ρ m a=v at*
  cases v<;>first|rfl|simp[Value.oneCell']at this
 |agg l=>simp[W.den,W.cells,Value.cells]
theorem W.BF {n nb:Nat} {ρ:Env} {u:W} (hu:u.ok n nb ρ):∀a∈u.cells,A.ok n nb ρ a:=by
 cases u with
 |one a=>intro x hx;simp[W.cells]at hx;subst hx;exact hu
 |agg l=>exact hu
def Ig (n nb:Nat) (ρ:Env) (m:Nat->Nat):List (Nat×V)->List (Nat×aF)->Prop
 |[],[]=>True
 |p::r,q::s=>(p.1=q.1/\V.ok n nb ρ p.2/\V.rel ρ m p.2 q.2)/\Ig n nb ρ m r s
 |_,_=>False
theorem W5 (off:Nat):∀(src:List aF) (dst:Array aF) (k:Nat),off+k+src.length<=dst.size->
 ((src.zipIdx k).foldl (λcs (c,j)=>cs.setIfInBounds (off+j) c) dst)=(dst.toList.take (off+k)++src++dst.toList.drop (off+k+src.length)).toArray
 |[],dst,k,h=>by simp
 |c::src,dst,k,h=>by
  simp only[dv]at h
  rw[List.zipIdx_cons,List.foldl_cons,W5 off src _ (k+1) (by simp;omega)]
  congr 1
  simp only[Array.toList_setIfInBounds,dv]
  have h1:off+k<dst.toList.length:=by simp;omega
  rw[List.take_set,show off+(k+1)=off+k+1 by omega,List.drop_set_of_lt (by omega),List.take_add_one,kg h1]
  rw[show off+k+1+src.length=off+k+(src.length+1) by omega]
  simp only[Option.toList_some]
  rw[List.set_append_right _ _ (by simp;omega)]
  have hm:min (off+k) dst.size=off+k:=yq (by omega)
  simp[hm]
theorem I7 {n nb:Nat} {ρ:Env} {m:Nat->Nat} {place:Nat->Option (Nat×Nat)}:∀{parts:List (Nat×V)} {vals:List (Nat×aF)} {cells l:List A},tx place cells parts=some l->(∀a∈cells,A.ok n nb ρ a)->
 Ig n nb ρ m parts vals->(∀a∈l,A.ok n nb ρ a)/\acM place (cells.map (A.den ρ m)).toArray vals=some (l.map (A.den ρ m)).toArray
 |[],[],cells,l,h,hc,_=>by simp[tx]at h;subst h;exact⟨hc,rfl⟩
 |(i,.w u)::r,(zN,x)::s,cells,l,h,hc,⟨⟨e1,e2,bN⟩,hr⟩=>by
  simp only at e1;subst e1
  simp only[V.rel]at bN
  have bN:x=u.den ρ m:=bN
  subst bN
  simp only[tx]at h
  cases hp:place i with
  |none=>simp[hp]at h
  |some q=>
   obtain⟨off,size⟩:=q
   simp only[hp]at h
   cases hq:(aG u.cells.length size&&bB (off+size) cells.length)with
   |false=>simp[hq]at h
   |true=>
    simp only[hq,cond_true]at h
    simp only[aS]at hq
    have bq:=bG hq.1
    have bE:=eC hq.2
    have qw:=W.IL (m:=m) u e2
    obtain⟨g1,g2⟩:=I7 (m:=m) h (λa ha=>by
     rcases List.mem_append.1 ha with ha|ha
     ·rcases List.mem_append.1 ha with ha|ha
      ·exact hc a (kv ha)
      ·exact W.BF e2 a ha
     ·exact hc a (oo ha)) hr
    refine⟨g1,?_⟩
    simp only[acM,hp,qw,List.size_toArray,k8,bq]
    rw[if_neg (by simp;omega)]
    rw[<-g2]
    congr 1
    have:=W5 off (u.cells.map (A.den ρ m)) (cells.map (A.den ρ m)).toArray 0 (by simp;omega)
    simp only[mv]at this
    rw[<-Array.foldl_toList]
    simp only[Array.toList_zipIdx]
    rw[this]
    simp[yr,ys,bq]
 |(_,.fY _)::_,_,_,_,h,_,_=>by simp[tx]at h
 |(_,.any)::_,_,_,_,h,_,_=>by simp[tx]at h
 |[],_::_,_,_,_,_,hr=>hr.elim
 |(_,.w _)::_,[],_,_,_,_,hr=>hr.elim
theorem afe {n nb:Nat} {ρ:Env} {m:Nat->Nat} {t:aX} {parts:List (Nat×V)} {vals:List (Nat×aF)} {l:List A} (h:MZ P t parts=some l)
 (hr:Ig n nb ρ m parts vals):(∀a∈l,A.ok n nb ρ a)/\P.built t vals=some (l.map (A.den ρ m)).toArray:=by
 unfold MZ at h
 unfold Program.built
 cases hz:mr P t with
 |none=>simp[hz]at h
 |some z=>
  unfold mr at hz
  cases hi:P.info? t with
  |none=>simp[hi]at hz
  |some it=>
   simp only[hi]at hz
   cases hz0:it.zero with
   |none=>simp[hz0]at hz
   |some z0=>
    simp only[hz0]at hz
    have hzs:=u4 hz n nb ρ m
    have hz1:z0.cells=(z.map (A.den ρ m)).toArray:=by rw[hzs.2]
    cases hu:P.underlying t with
    |none=>simp[mr,hi,hz0,hz,hu]at h
    |some d=>
     cases d<;>try(simp[mr,hi,hz0,hz,hu]at h;done)
     case array len e=>
      simp only[mr,hi,hz0,hz,hu,eW]at h
      cases Pd:P.info? e with
      |none=>simp[Pd]at h
      |some aCG=>
       simp only[Pd]at h
       simp only[hz0,Pd,hz1]
       exact I7 h hzs.1 hr
     case struct fields=>
      simp only[mr,hi,hz0,hz,hu]at h
      cases hp:fields.toList.mapM (λf=>(P.info? f.type).map λi=>(f.offset,i.size))with
      |none=>simp[hp]at h
      |some places=>
       simp only[hp]at h
       simp only[hz0,hp,hz1]
       exact I7 h hzs.1 hr
theorem aaB {t:aX} {l:List A} {off:Nat} (hl:∀x∈l,A.ok n bl.length ρ x):aw S L (KI P t l off) n ρ (lf w0 m bl n ρ λw=>(part t (l.map (A.den ρ m)).toArray off).run P w):=by
 unfold KI
 cases h1:iF P t with
 |none=>exact aw.fail
 |some b=>
  cases b with
  |true=>
   cases h2:eW P t with
   |none=>exact aw.fail
   |some k=>
    refine aw.pure ⟨λx hx=>hl x (oo (kv hx)),_,rfl,λw _=>?_⟩
    simp[part,pt h1,im h2,W.den,yr,ys,az8]
    try congr 1
  |false=>
   cases h3:l[off]? with
   |none=>exact aw.fail
   |some x=>
    refine aw.pure ⟨hl x (eh h3),_,rfl,λw _=>?_⟩
    simp[part,pt h1,h3,W.den]
theorem r4 {t:aX} {len:Nat} {e:aX} (h:qh P t=some (len,e)):P.underlying t=some (.array len e):=by
 unfold qh at h
 cases hu:P.underlying t with
 |none=>simp[hu]at h
 |some d=>cases d<;>simp[hu]at h<;>simp[h]
theorem gg {t e:aX} (h:hU P t=some e):P.underlying t=some (.slice e):=by
 unfold hU at h
 cases hu:P.underlying t with
 |none=>simp[hu]at h
 |some d=>cases d<;>simp[hu]at h<;>simp[h]
theorem Qz {t:aX} {k:dp} (h:kindOf P t=some k):P.underlying t=some (.int k):=by
 unfold kindOf at h
 cases hu:P.underlying t with
 |none=>simp[hu]at h
 |some d=>cases d<;>simp[hu]at h<;>simp[h]
theorem NR {s:aX} {f:Nat} {fd:Field} (h:E3 P s f=some fd):∃dY,P.underlying s=some (.struct dY)/\dY[f]?=some fd:=by
 unfold E3 at h
 cases hu:P.underlying s with
 |none=>simp[hu]at h
 |some d=>cases d<;>simp[hu]at h<;>exact⟨_,rfl,h⟩
theorem amx {t:aX} {x:V} {k:dp} {aU:bF} {X:aF} (hx:x.ok n bl.length ρ) (bP:x.rel ρ m X) (hi:aU.ok n ρ):
 aw S L (Qk P t x aU) n ρ (lf w0 m bl n ρ λw=>(rS t X (.int k (aU.l.den ρ))).run P w):=by
 unfold Qk
 split
 ·rename_i b off
  simp only[V.rel,W.den,A.den]at bP;subst bP
  cases h1:qh P t with
  |none=>exact aw.fail
  |some q=>
   obtain⟨len,e⟩:=q
   cases h2:eW P e with
   |none=>simp only[h2];exact aw.fail
   |some s=>
    simp only[h2]
    cases h3:aU.l.dM with
    |some i=>
     refine dV λhc=>aw.pure ⟨hx,_,rfl,λw _=>?_⟩
     simp only[aS,decide_eq_true_eq]at hc
     simp[rS,asIntOf,eH (r4 h1),lO,aa.ia h3,hc,im h2,iy,W.den,A.den]
    |none=>
     refine dV λhc=>aw.pure ⟨?_,_,rfl,λw _=>?_⟩
     ·simp only[aS,decide_eq_true_eq]at hc
      exact⟨hx,hi,hc.1.2⟩
     ·simp only[aS,decide_eq_true_eq]at hc
      have hs:=bG hc.1.1
      subst hs
      have b1:=hi.2
      have c1:0<=aU.l.den ρ:=by omega
      have c2:aU.l.den ρ<len:=by omega
      simp[rS,asIntOf,eH (r4 h1),lO,c1,c2,im h2,iy,W.den,A.den]
 ·rename_i g off
  simp only[V.rel,W.den,A.den]at bP;subst bP
  cases h1:qh P t with
  |none=>exact aw.fail
  |some q=>
   obtain⟨len,e⟩:=q
   cases h2:eW P e with
   |none=>simp only[h2];exact aw.fail
   |some s=>
    simp only[h2]
    cases h3:aU.l.dM with
    |some i=>
     refine dV λhc=>aw.pure ⟨trivial,_,rfl,λw _=>?_⟩
     simp only[aS,decide_eq_true_eq]at hc
     simp[rS,asIntOf,eH (r4 h1),lO,aa.ia h3,hc,im h2,iy,W.den,A.den]
    |none=>
     refine dV λhc=>gM λhq=>aw.pure ⟨?_,_,rfl,λw _=>?_⟩
     ·simp only[cI,eo,aa.aW,ab,EV]at hq
      exact⟨⟨hi.1,by show(0:Int)<=_;exact hq.1,by show _<=((len:Int)-1);have:=hq.2;simp only;omega⟩,bX _⟩
     ·simp only[cI,eo,aa.aW,ab,EV]at hq
      have hs:=bG hc
      subst hs
      simp[rS,asIntOf,eH (r4 h1),lO,hq.1,hq.2,im h2,iy,W.den,A.den]
 ·rename_i b off len cap
  simp only[V.rel,W.den,A.den]at bP;subst bP
  cases h1:hU P t with
  |none=>exact aw.fail
  |some e=>
   cases h2:eW P e with
   |none=>simp only[h2];exact aw.fail
   |some s=>
    simp only[h2]
    cases h3:aU.l.dM with
    |some i=>
     refine dV λhc=>aw.pure ⟨hx,_,rfl,λw _=>?_⟩
     simp only[aS,decide_eq_true_eq]at hc
     simp[rS,asIntOf,eH (gg h1),lO,aa.ia h3,hc,im h2,iy,W.den,A.den]
    |none=>
     refine dV λhc=>aw.pure ⟨?_,_,rfl,λw _=>?_⟩
     ·simp only[aS,decide_eq_true_eq]at hc
      exact⟨hx,hi,hc.1.2⟩
     ·simp only[aS,decide_eq_true_eq]at hc
      have hs:=bG hc.1.1
      subst hs
      have b1:=hi.2
      have c1:0<=aU.l.den ρ:=by omega
      have c2:aU.l.den ρ<len:=by omega
      simp[rS,asIntOf,eH (gg h1),lO,c1,c2,im h2,iy,W.den,A.den]
 ·rename_i b len lo
  obtain⟨c,_,bP⟩:=bP
  subst bP
  cases h1:hU P t with
  |none=>exact aw.fail
  |some e=>
   cases h2:eW P e with
   |none=>simp only[h2];exact aw.fail
   |some s=>
    simp only[h2]
    cases h3:aU.l.dM with
    |some i=>
     refine dV λhc=>aw.pure ⟨hx,_,rfl,λw _=>?_⟩
     simp only[aS,decide_eq_true_eq]at hc
     simp[rS,asIntOf,eH (gg h1),lO,aa.ia h3,hc,im h2,iy,W.den,A.den]
    |none=>exact aw.fail
 ·exact aw.fail
theorem arh {vs:List V}:∀{l:List A} {xs:List aF},vO vs=some l->(∀v∈vs,V.ok n bl.length ρ v)->eD ρ m vs xs->(∀a∈l,A.ok n bl.length ρ a)/\xs=l.map (A.den ρ m):=by
 induction vs with
 |nil=>
  intro l xs h _ hr
  simp[vO]at h;subst h
  cases xs with
  |nil=>exact⟨λ_ h=>by simp at h,rfl⟩
  |cons _ _=>exact hr.elim
 |cons v r ih=>
  intro l xs h bm hr
  cases xs with
  |nil=>cases v<;>exact hr.elim
  |cons x s=>
   cases v with
   |w y=>
    cases y with
    |agg q=>simp[vO]at h
    |one a=>
     cases h1:vO r with
     |none=>simp[vO,h1]at h
     |some bQ=>
      simp only[vO,h1,aQ]at h
      subst h
      obtain⟨e1,e2⟩:=ih h1 (λv hv=>bm v (dn _ hv)) hr.2
      have h0:x=a.den ρ m:=hr.1
      exact⟨λb hb=>by rcases List.mem_cons.1 hb with rfl|hb;exact bm (.w (.one b)) (by simp);exact e1 b hb,by rw[h0,e2];rfl⟩
   |_=>simp[vO]at h
theorem agy {e:aX} {k:dp} (he:P.underlying e=some (.int k)) (d:Nat) (xs fE:Array aF) (w:ar):∀(l bQ:List A) (i:Nat) (b:bd),wU l bQ=some b->(∀x∈l,A.ok n bl.length ρ x)->(∀x∈bQ,A.ok n bl.length ρ x)->
 xs.toList.drop i=l.map (A.den ρ m)->fE.toList.drop i=bQ.map (A.den ρ m)->b.bk n/\(Op.eqItems (d+1) e 1 xs fE (List.range' i l.length)).run P w= .ok (b.den ρ) w:=by
 intro l
 induction l with
 |nil=>
  intro bQ i b h _ _ _ _
  cases bQ with
  |nil=>simp[wU]at h;subst h;exact⟨trivial,by simp[Op.eqItems,bd.den]⟩
  |cons y r'=>simp[wU]at h
 |cons x r ih=>
  intro bQ i b h hl tG hx hy
  cases bQ with
  |nil=>cases x<;>simp[wU]at h
  |cons y r'=>
   cases x<;>cases y<;>simp only[wU]at h<;>try(cases h;done)
   rename_i k1 x k2 y
   by_cases hk:k1=k2
   ·subst hk
    simp only[decide_true,cond_true]at h
    cases hr:wU r r' with
    |none=>simp[hr]at h
    |some cp=>
     simp only[hr,aQ]at h
     subst h
     have alx:x.ok n ρ:=hl (.int k1 x) (by simp)
     have aly:y.ok n ρ:=tG (.int k1 y) (by simp)
     have e1:=bd.rb alx aly
     have Ff:xs[i]?=some (.int k1 (x.l.den ρ)):=by
      have:=congrArg Ek hx
      simpa [A.den]using this
     have Fg:fE[i]?=some (.int k1 (y.l.den ρ)):=by
      have:=congrArg Ek hy
      simpa [A.den]using this
     have y1:xs.toList.drop (i+1)=r.map (A.den ρ m):=by
      have:=congrArg HM hx
      simpa using this
     have aM:fE.toList.drop (i+1)=r'.map (A.den ρ m):=by
      have:=congrArg HM hy
      simpa using this
     obtain⟨s2,r2⟩:=ih r' (i+1) cp hr (λz hz=>hl z (dn _ hz)) (λz hz=>tG z (dn _ hz)) y1 aM
     refine⟨bd.K6 e1.2 s2,?_⟩
     simp only[dv,List.range'_succ,Op.eqItems,gY]
     have Au:(part e xs (i*1)).run P w= .ok (.int k1 (x.l.den ρ)) w:=by simp[part,isAgg,eH he,Ff]
     have Av:(part e fE (i*1)).run P w= .ok (.int k1 (y.l.den ρ)) w:=by simp[part,isAgg,eH he,Fg]
     simp only[Au,Av,gH,run_equalIn_int w d e k1 k _ _ he,bd.IX,e1.1]
     by_cases hq:x.l.den ρ=y.l.den ρ
     ·simp[hq,r2]
     ·simp[hq]
   ·simp[hk]at h
theorem WC {t:aX} {x y:List A} {b:bd} (h:NL P t x y=some b) (hx:∀z∈x,A.ok n bl.length ρ z) (hy:∀z∈y,A.ok n bl.length ρ z):
 b.bk n/\P.eqGuardType P.depth t=false/\∀w,(L0 10000 t (.agg (x.map (A.den ρ m)).toArray) (.agg (y.map (A.den ρ m)).toArray)).run P w= .ok (b.den ρ) w:=by
 unfold NL at h
 cases h1:qh P t with
 |none=>simp[h1]at h
 |some q=>
  obtain⟨len,e⟩:=q
  simp only[h1]at h
  cases h2:kindOf P e with
  |none=>simp[h2]at h
  |some k=>
   cases h3:eW P e with
   |none=>simp[h2,h3]at h
   |some s=>
    match s,h3 with
    |0,h3=>simp[h2,h3]at h
    |s+2,h3=>simp[h2,h3]at h
    |1,h3=>
     simp only[h2,h3]at h
     cases hc:(aG x.length len&&aG y.length len&& !P.eqGuardType P.depth t)with
     |false=>simp[hc]at h
     |true=>
      simp only[hc,cond_true]at h
      simp only[aS,gW]at hc
      have hl:=bG hc.1.1
      have akR:∃i,P.info? e=some i/\P.cellsOf e=1:=by
       unfold eW at h3
       cases hq:P.info? e with
       |none=>simp[hq]at h3
       |some i=>simp[hq]at h3;exact⟨i,rfl,by simp[Program.cellsOf,hq,h3]⟩
      obtain⟨i,qA,cX⟩:=akR
      have hsp:=λw=>agy (P:=P) (bl:=bl) (n:=n) (ρ:=ρ) (m:=m) (Qz h2) 9998 (x.map (A.den ρ m)).toArray (y.map (A.den ρ m)).toArray w x y 0 b h hx hy (by simp) (by simp)
      refine⟨(hsp default).1,hc.2,λw=>?_⟩
      rw[show(10000:Nat)=9999+1 from rfl,run_equalIn_array w 9999 _ _ (r4 h1) qA,cX,List.range_eq_range',<-hl]
      exact(hsp w).2
theorem yS (l:List UInt8):(bw l).toList=l:=aD9 l
theorem qj (l:List UInt8):(bw l).size=l.length:=by simp[bw,aEa]
theorem VO (l bQ:List UInt8):(l==bQ)=decide ((if l=bQ then(1:Int)else 0)=1):=by
 by_cases h:l=bQ
 ·subst h;simp
 ·rw[if_neg h];simp[h]
theorem EK (p:Prop) [Decidable p]:(0:Int)<=(if p then 1 else 0)/\(if p then(1:Int)else 0)<=1:=by split<;>decide
theorem Zz (b:Bool):b=decide ((if b=true then(1:Int)else 0)=1):=by cases b<;>rfl
theorem auS {op:BinOp} {t:aX} {x y:om} {p q:aa} (hp:(A.str p).ok n bl.length ρ) (hq:(A.str q).ok n bl.length ρ):
 aw S L (R9 op p q) n ρ (lf w0 m bl n ρ λw=>(do eqGuard op t x y (.string (bw (U (p.den ρ)))) (.string (bw (U (q.den ρ))));binOp op t (.string (bw (U (p.den ρ)))) (.string (bw (U (q.den ρ)))):Sem aF).run P w):=by
 have b1:=EK (U (p.den ρ)=U (q.den ρ))
 have b2:=EK (dy (U (p.den ρ)) (U (q.den ρ))=true)
 unfold R9
 split
 ·refine gM λhc=>?_
  have hc:(U (p.den ρ)).length+(U (q.den ρ)).length<=gk:=hc
  have hl:(U (p.den ρ)++U (q.den ρ)).length<=gk:=by simpa using hc
  refine(fT (op:=3) (args:=[p,q]) (ra _) (oW hl)).bind λaE n1 l _ _ ⟨h1,h2⟩=>?_
  have h2:l.den aE=ev (U (p.den ρ)++U (q.den ρ)):=h2
  refine aw.pure ⟨⟨h1,by rw[h2];exact ra _,by rw[h2];exact oW hl⟩,_,rfl,λw _=>?_⟩
  have hr:=run_string_add_sum (P:=P) w (bw (U (p.den ρ))) (bw (U (q.den ρ))) (by rw[qj,qj];unfold gk at hc;omega)
  simp only[eqGuard,binOp_string_add,W.den,A.den,h2,fm]
  simp[hr]
  exact aEb _ _
 ·refine(fT (op:=4) (args:=[p,q]) b1.1 b1.2).bind λaE n1 l _ _ ⟨h1,h2⟩=>?_
  have h2:l.den aE=if U (p.den ρ)=U (q.den ρ)then 1 else 0:=h2
  have e:=bd.rb (n:=n1) (ρ:=aE) (a:=⟨l,0,1⟩) (b:= .const 1) ⟨h1,by simp only[h2];exact b1.1,by simp only[h2];exact b1.2⟩ (bF.nd _ _ _)
  refine aw.pure ⟨e.2,_,rfl,λw _=>?_⟩
  simp only[W.den,A.den,binOp_string_eql,yS]
  rw[e.1]
  simp only[h2,bF.const,aa.aW,VO]
  simp[eqGuard]
 ·refine(fT (op:=4) (args:=[p,q]) b1.1 b1.2).bind λaE n1 l _ _ ⟨h1,h2⟩=>?_
  have h2:l.den aE=if U (p.den ρ)=U (q.den ρ)then 1 else 0:=h2
  have e:=bd.rb (n:=n1) (ρ:=aE) (a:=⟨l,0,1⟩) (b:= .const 1) ⟨h1,by simp only[h2];exact b1.1,by simp only[h2];exact b1.2⟩ (bF.nd _ _ _)
  refine aw.pure ⟨bd.uo e.2,_,rfl,λw _=>?_⟩
  simp only[W.den,A.den,bd.tp,binOp_string_neq,yS]
  rw[e.1]
  simp only[h2,bF.const,aa.aW,VO]
  simp[eqGuard]
 ·refine(fT (op:=5) (args:=[p,q]) b2.1 b2.2).bind λaE n1 l _ _ ⟨h1,h2⟩=>?_
  have h2:l.den aE=if dy (U (p.den ρ)) (U (q.den ρ))=true then 1 else 0:=h2
  have e:=bd.rb (n:=n1) (ρ:=aE) (a:=⟨l,0,1⟩) (b:= .const 1) ⟨h1,by simp only[h2];exact b2.1,by simp only[h2];exact b2.2⟩ (bF.nd _ _ _)
  refine aw.pure ⟨e.2,_,rfl,λw _=>?_⟩
  simp only[W.den,A.den,binOp_string_lss,yS]
  rw[e.1]
  simp only[h2,bF.const,aa.aW]
  rw[<-Zz]
  simp[eqGuard]
 ·refine(fT (op:=5) (args:=[p,q]) b2.1 b2.2).bind λaE n1 l _ _ ⟨h1,h2⟩=>?_
  have h2:l.den aE=if dy (U (p.den ρ)) (U (q.den ρ))=true then 1 else 0:=h2
  have e:=bd.rb (n:=n1) (ρ:=aE) (a:=⟨l,0,1⟩) (b:= .const 1) ⟨h1,by simp only[h2];exact b2.1,by simp only[h2];exact b2.2⟩ (bF.nd _ _ _)
  refine aw.pure ⟨bd.uo e.2,_,rfl,λw _=>?_⟩
  simp only[W.den,A.den,bd.tp,binOp_string_geq,yS]
  rw[e.1]
  simp only[h2,bF.const,aa.aW]
  rw[<-Zz]
  simp[eqGuard]
 ·exact aw.fail
theorem auU {t ty:aX} {p:aa} (hu:P.underlying t=some .string) (hp:(A.str p).ok n bl.length ρ):
 aw S L (abQ p) n ρ (lf w0 m bl n ρ λw=>(El #[t] ty #[.string (bw (U (p.den ρ)))]).run P w):=by
 have hl:=tc hp.2.2
 unfold gk at hl
 refine(fT (op:=0) (args:=[p]) (rL _) (by show((U (p.den ρ)).length:Int)<=_;omega)).bind λaE n1 l _ _ ⟨h1,h2⟩=>?_
 have h2:l.den aE=((U (p.den ρ)).length:Int):=h2
 refine aw.pure ⟨⟨h1,by simp only[h2];omega,by simp only[h2];omega⟩,_,rfl,λw _=>?_⟩
 simp[El,eH hu,goInt,W.den,A.den,h2,qj]
theorem auT {t:aX} {k:dp} {p i:aa} (hu:P.underlying t=some .string) (hp:(A.str p).ok n bl.length ρ):
 aw S L (abP p i) n ρ (lf w0 m bl n ρ λw=>(Te t (.string (bw (U (p.den ρ)))) (.int k (i.den ρ))).run P w):=by
 refine gM λhc=>?_
 have hc:0<=i.den ρ/\i.den ρ<((U (p.den ρ)).length:Int):=hc
 have hlt:(i.den ρ).toNat<(U (p.den ρ)).length:=by omega
 have hb:=((U (p.den ρ)).getD (i.den ρ).toNat 0).toNat_lt
 refine(fT (op:=1) (args:=[p,i]) (rL _) (by show(((U (p.den ρ)).getD (i.den ρ).toNat 0).toNat:Int)<=_;omega)).bind λaE n1 l _ _ ⟨h1,h2⟩=>?_
 have h2:l.den aE=(((U (p.den ρ)).getD (i.den ρ).toNat 0).toNat:Int):=h2
 refine aw.pure ⟨⟨h1,by simp only[h2];omega,by simp only[h2];omega⟩,_,rfl,λw _=>?_⟩
 have e:(bw (U (p.den ρ)))[(i.den ρ).toNat]?=some ((U (p.den ρ)).getD (i.den ρ).toNat 0):=by
  rw[aEc _ _ (by rw[qj];exact hlt)]
  simp[bw,ae,hlt]
  rfl
 simp[Te,asIntOf,eH hu,hc.1,e,W.den,A.den,h2]
theorem auW {p a b:aa} (hp:(A.str p).ok n bl.length ρ):aw S L (Lf p a b) n ρ λah n' v=>v.ok n' bl.length ah/\v.rel ah m (.string ((bw (U (p.den ρ))).extract (a.den ρ).toNat (b.den ρ).toNat))/\0<=a.den ρ/\a.den ρ<=b.den ρ/\b.den ρ<=((U (p.den ρ)).length:Int):=by
 refine gM λhc=>?_
 have hc:0<=a.den ρ/\a.den ρ<=b.den ρ/\b.den ρ<=((U (p.den ρ)).length:Int):=hc
 have hl:=tc hp.2.2
 have hl2:(((U (p.den ρ)).drop (a.den ρ).toNat).take ((b.den ρ).toNat-(a.den ρ).toNat)).length<=gk:=by simp;omega
 refine(fT (op:=2) (args:=[p,a,b]) (ra _) (oW hl2)).bind λaE n1 l _ _ ⟨h1,h2⟩=>?_
 have h2:l.den aE=ev (((U (p.den ρ)).drop (a.den ρ).toNat).take ((b.den ρ).toNat-(a.den ρ).toNat)):=h2
 refine aw.pure ⟨⟨h1,by rw[h2];exact ra _,by rw[h2];exact oW hl2⟩,?_,hc⟩
 show _=_
 simp only[W.den,A.den,h2,fm]
 congr 1
 exact aEd _ _ _
theorem zS {v:V} {l:aa} {x:aF} (h:pe v=some l) (hr:v.rel ρ m x) (bm:v.ok n bl.length ρ):∃k,x= .int k (l.den ρ)/\l.bk n:=by
 unfold pe at h
 split at h
 ·rename_i k a
  simp only[aQ]at h;subst h
  exact⟨k,hr,bm.1⟩
 ·cases h
theorem qR {k:dp} {i:Int} {y:Nat} {u2:BoundsCode} (p1:0<=i) (bJ:i<=y) (w:ar):(HN (.int k i) y u2).run P w= .ok i.toNat w:=by
 simp[HN,asIntOf,p1,bJ]
theorem auV {t:aX} {p:aa} {lo hi:Option om} (hu:P.underlying t=some .string) (hp:(A.str p).ok n bl.length ρ) (ht:dX n bl.length ρ m tm a.tmps):
 aw S L (Sa tm p lo hi) n ρ (lf w0 m bl n ρ λw=>(q0 t (.string (bw (U (p.den ρ)))) (lo.map a.eval) (hi.map a.eval) none).run P w):=by
 unfold Sa
 split
 ·exact aw.fail
 ·rename_i la Ch
  have sw:∃f:Option aF,lo.map a.eval=f/\(f=none/\la.den ρ=0∨∃k,f=some (.int k (la.den ρ))):=by
   cases lo with
   |none=>simp only[aQ]at Ch;subst Ch;exact⟨none,rfl,.inl ⟨rfl,aa.aW _ _⟩⟩
   |some x=>
    obtain⟨k,hk,_⟩:=zS (m:=m) (bl:=bl) Ch (cC ht x).2 (cC ht x).1
    exact⟨_,rfl,.inr ⟨k,by rw[<-hk];rfl⟩⟩
  obtain⟨WS,e1,iP⟩:=sw
  have key:∀(lb:aa) (aE:Env) (n1:Nat),n<=n1->agree n ρ aE->(hi.map a.eval=none/\lb.den aE=((U (p.den ρ)).length:Int)∨∃k,hi.map a.eval=some (.int k (lb.den aE)))->la.bk n->
   aw S L (Lf p la lb) n1 aE (lf w0 m bl n ρ λw=>(q0 t (.string (bw (U (p.den ρ)))) (lo.map a.eval) (hi.map a.eval) none).run P w):=λlb aE n1 hn ha ai alP=>by
   have JM:(A.str p).ok n1 bl.length aE:=hp.ext ha hn (br _)
   have ep:p.den aE=p.den ρ:=aa.bR ha hp.1
   have NG:la.den aE=la.den ρ:=aa.bR ha alP
   refine(auW (m:=m) (bl:=bl) (a:=la) (b:=lb) JM).mono λbT en v _ _ ⟨bq,bE,b5,dm,ik⟩=>⟨bq,_,bE,λw _=>?_⟩
   rw[ep,NG]at*
   have o8:(k9 false (bw (U (p.den ρ))).size (bw (U (p.den ρ))).size WS (hi.map a.eval) none).run P w= .ok ((la.den ρ).toNat,(lb.den aE).toNat,(bw (U (p.den ρ))).size) w:=by
    rw[qj]
    rcases iP with⟨rfl,hz⟩|⟨k,rfl⟩<;>rcases ai with⟨h1,h2⟩|⟨k2,h1⟩
    ·rw[h1,hz,h2];simp[k9]
    ·rw[h1,hz];simp[k9,qR (P:=P) (by omega:0<=lb.den aE) ik]
    ·rw[h1,h2];simp[k9,qR (P:=P) (y:=(U (p.den ρ)).length) b5 (by omega)]
    ·rw[h1];simp[k9,qR (P:=P) (by omega:0<=lb.den aE) ik,qR (P:=P) (y:=(lb.den aE).toNat) b5 (by omega)]
   rw[e1]
   simp[q0,Tf,eH hu,o8]
  have Ci:la.bk n:=by
   cases lo with
   |none=>simp only[aQ]at Ch;subst Ch;exact aa.cT _ _
   |some x=>exact(zS (m:=m) (bl:=bl) Ch (cC ht x).2 (cC ht x).1).choose_spec.2
  cases hi with
  |none=>
   have hl:=tc hp.2.2
   unfold gk at hl
   exact(fT (op:=0) (args:=[p]) (rL _) (by show((U (p.den ρ)).length:Int)<=_;omega)).bind λaE n1 l hn ha ⟨h1,h2⟩=>key l aE n1 hn ha (.inl ⟨rfl,h2⟩) Ci
  |some y=>
   simp only
   cases hy:pe (cg tm y)with
   |none=>exact aw.fail
   |some b=>
    obtain⟨k,hk,_⟩:=zS (m:=m) (bl:=bl) hy (cC ht y).2 (cC ht y).1
    exact key b ρ n (br _) (agree.refl _ _) (.inr ⟨k,by rw[<-hk];rfl⟩) Ci
theorem Ic {xs:List om} (h:dX n bl.length ρ m tm a.tmps):eD ρ m (xs.map (cg tm)) (xs.map a.eval):=by
 induction xs with
 |nil=>trivial
 |cons x r ih=>exact⟨(cC h x).2,ih⟩
theorem RL {c:Call} {f:cw} (hc:c.callee= .value (.func f)) (o:Oper) (ho:o.op= .call c):execOp a.eval o=callFunc f (c.args.map a.eval):=by
 simp only[execOp,ho,resolve,hc,Act.eval,acN]
 simp[invoke,bind_pure_comp]
theorem NK {nb:Nat} {m:Nat->Nat}:∀(dY:List Field) (x y:List A) (i n:Nat) (ρ:Env),BS P i dY=true->(∀a∈x,A.ok n nb ρ a)->(∀a∈y,A.ok n nb ρ a)->
 aw S L (qm P dY x y) n ρ λah n' b=>b.bk n'/\∀(w:ar) (d:Nat) (xs fE:Array aF),xs.toList.drop i=x.map (A.den ρ m)->fE.toList.drop i=y.map (A.den ρ m)->(Em (d+1) xs fE dY).run P w= .ok (b.den ah) w
 |[],[],[],i,n,ρ,_,_,_=>aw.pure ⟨trivial,λw d xs fE _ _=>by simp[Em,bd.den]⟩
 |f::dY,x::xs,y::fE,i,n,ρ,hf,hx,hy=>by
  cases x with
  |int k a=>
   cases y with
   |int a6 b=>
    unfold BS at hf
    simp only[aS,bne_iff_ne,ne_eq]at hf
    obtain⟨⟨hn,ho⟩,hf⟩:=hf
    have ho:=bG ho
    unfold qm
    split
    ·rename_i k2 hk2
     have hu:=Qz hk2
     refine dV λhk=>?_
     have hk:k=a6:=by simpa using hk
     subst hk
     have GP:a.ok n ρ:=hx (.int k a) (by simp)
     have ob:b.ok n ρ:=hy (.int k b) (by simp)
     refine(NK (nb:=nb) (m:=m) dY xs fE (i+1) n ρ hf (λz hz=>hx z (dn _ hz)) (λz hz=>hy z (dn _ hz))).bind λah n' r qC fU ⟨r1,r2⟩=>aw.pure ?_
     have e1:=bd.rb (GP.agree fU qC) (ob.agree fU qC)
     refine⟨bd.K6 e1.2 r1,λw d nv nw Gt Gu=>?_⟩
     have Ff:nv[i]?=some (.int k (a.l.den ρ)):=by
      have:=congrArg Ek Gt
      simpa [A.den]using this
     have Fg:nw[i]?=some (.int k (b.l.den ρ)):=by
      have:=congrArg Ek Gu
      simpa [A.den]using this
     have y1:nv.toList.drop (i+1)=xs.map (A.den ρ m):=by
      have:=congrArg HM Gt
      simpa using this
     have aM:nw.toList.drop (i+1)=fE.map (A.den ρ m):=by
      have:=congrArg HM Gu
      simpa using this
     have Au:(part f.type nv f.offset).run P w= .ok (.int k (a.l.den ρ)) w:=by simp[part,isAgg,eH hu,ho,Ff]
     have Av:(part f.type nw f.offset).run P w= .ok (.int k (b.l.den ρ)) w:=by simp[part,isAgg,eH hu,ho,Fg]
     have NG:a.l.den ah=a.l.den ρ:=by
      have:=A.ki (m:=m) (m':=m) (hx (.int k a) (by simp)) fU (λ_ _=>rfl)
      simpa [A.den]using this
     have tu:b.l.den ah=b.l.den ρ:=by
      have:=A.ki (m:=m) (m':=m) (hy (.int k b) (by simp)) fU (λ_ _=>rfl)
      simpa [A.den]using this
     simp only[Em,ne_eq,hn,not_false_eq_true,if_true,gY,Au,Av,gH,run_equalIn_int w d f.type k k2 _ _ hu,bd.IX,e1.1,NG,tu]
     by_cases hq:a.l.den ρ=b.l.den ρ
     ·simp[hq,r2 w d nv nw y1 aM]
     ·simp[hq]
    ·exact aw.fail
   |_=>unfold qm;exact aw.fail
  |str a=>
   cases y with
   |str b=>
    unfold BS at hf
    simp only[aS,bne_iff_ne,ne_eq]at hf
    obtain⟨⟨hn,ho⟩,hf⟩:=hf
    have ho:=bG ho
    unfold qm
    split
    ·rename_i hu
     have b1:=EK (U (a.den ρ)=U (b.den ρ))
     refine(fT (op:=4) (args:=[a,b]) b1.1 b1.2).bind λaE n1 l fq zh ⟨h1,h2⟩=>?_
     have h2:l.den aE=if U (a.den ρ)=U (b.den ρ)then 1 else 0:=h2
     have hx1:∀z∈xs,A.ok n1 nb aE z:=λz hz=>(hx z (dn _ hz)).ext zh fq (br _)
     have JU:∀z∈fE,A.ok n1 nb aE z:=λz hz=>(hy z (dn _ hz)).ext zh fq (br _)
     have ol:(⟨l,0,1⟩:bF).ok n1 aE:=⟨h1,by simp only[h2];exact b1.1,by simp only[h2];exact b1.2⟩
     refine(NK (nb:=nb) (m:=m) dY xs fE (i+1) n1 aE hf hx1 JU).bind λah n' r qC fU ⟨r1,r2⟩=>aw.pure ?_
     have e1:=bd.rb (n:=n') (ρ:=ah) (a:=⟨l,0,1⟩) (b:= .const 1) (ol.agree fU qC) (bF.nd _ _ _)
     refine⟨bd.K6 e1.2 r1,λw d nv nw Gt Gu=>?_⟩
     have Ff:nv[i]?=some (.string (bw (U (a.den ρ)))):=by
      have:=congrArg Ek Gt
      simpa [A.den]using this
     have Fg:nw[i]?=some (.string (bw (U (b.den ρ)))):=by
      have:=congrArg Ek Gu
      simpa [A.den]using this
     have y1:nv.toList.drop (i+1)=xs.map (A.den aE m):=by
      have:=congrArg HM Gt
      rw[h8 (g:=A.den ρ m) λz hz=>A.ki (hx z (dn _ hz)) zh (λ_ _=>rfl)]
      simpa using this
     have aM:nw.toList.drop (i+1)=fE.map (A.den aE m):=by
      have:=congrArg HM Gu
      rw[h8 (g:=A.den ρ m) λz hz=>A.ki (hy z (dn _ hz)) zh (λ_ _=>rfl)]
      simpa using this
     have Au:(part f.type nv f.offset).run P w= .ok (.string (bw (U (a.den ρ)))) w:=by simp[part,isAgg,eH hu,ho,Ff]
     have Av:(part f.type nw f.offset).run P w= .ok (.string (bw (U (b.den ρ)))) w:=by simp[part,isAgg,eH hu,ho,Fg]
     have el:l.den ah=l.den aE:=aa.bR fU h1
     have e2:(bd.mkEq ⟨l,0,1⟩ (.const 1)).den ah=decide (U (a.den ρ)=U (b.den ρ)):=by
      rw[e1.1]
      simp only[bF.const,aa.aW,el,h2]
      by_cases hq:U (a.den ρ)=U (b.den ρ)<;>simp[hq]
     simp only[Em,ne_eq,hn,not_false_eq_true,if_true,gY,Au,Av,gH,run_equalIn_string w d f.type _ _ hu,bd.IX,e2,yS]
     by_cases hq:U (a.den ρ)=U (b.den ρ)
     ·simp[hq,r2 w d nv nw y1 aM]
     ·simp[hq]
    ·exact aw.fail
   |_=>unfold qm;exact aw.fail
  |_=>unfold qm;exact aw.fail
 |[],_::_,_,_,_,_,_,_,_=>by unfold qm;exact aw.fail
 |[],[],y::_,_,_,_,_,_,_=>by cases y<;>(unfold qm;exact aw.fail)
 |_::_,[],_,_,_,_,_,_,_=>by unfold qm;exact aw.fail
 |_::_,x::_,[],_,_,_,_,_,_=>by cases x<;>(unfold qm;exact aw.fail)
def EB (P:bH) (t:aX) (l:List aF) (v:aF):Prop:=(iF P t=some true/\v= .agg l.toArray)∨(iF P t=some false/\l=[v])
theorem aaC {t:aX} {xs:Array aF} {o s:Nat} (hs:eW P t=some s) {v:aF} (h:EB P t ((xs.toList.drop o).take s) v) (w:ar):(part t xs o).run P w= .ok v w:=by
 obtain⟨l⟩:=xs
 rcases h with⟨h1,rfl⟩|⟨h1,h2⟩
 ·simp[part,pt h1,im hs,az8]
 ·have h3:(⟨l⟩:Array aF)[o]?=some v:=by
   have h4:=congrArg Ek h2
   rw[<-HO]
   cases s with
   |zero=>simp at h2
   |succ s=>simpa [List.head?_take,List.head?_drop]using h4
  simp[part,pt h1,h3]
theorem WA {nb:Nat} {m:Nat->Nat} {g:aX->List A->List A->M bd} {D:Nat}
 (hg:∀(t:aX) (x y:List A) (n:Nat) (ρ:Env),(∀a∈x,A.ok n nb ρ a)->(∀a∈y,A.ok n nb ρ a)->aw S L (g t x y) n ρ λah n' b=>b.bk n'/\∃nv nw,EB P t (x.map (A.den ρ m)) nv/\EB P t (y.map (A.den ρ m)) nw/\∀w,(L0 D t nv nw).run P w= .ok (b.den ah) w):
 ∀(dY:List Field) (x y:List A) (o n:Nat) (ρ:Env),(∀a∈x,A.ok n nb ρ a)->(∀a∈y,A.ok n nb ρ a)->
 aw S L (I1 P g o dY x y) n ρ λah n' b=>b.bk n'/\∀(w:ar) (xs fE:Array aF),xs.toList.drop o=x.map (A.den ρ m)->fE.toList.drop o=y.map (A.den ρ m)->(Em D xs fE dY).run P w= .ok (b.den ah) w
 |[],x,y,o,n,ρ,_,_=>aw.pure ⟨trivial,λw xs fE _ _=>by simp[Em,bd.den]⟩
 |f::dY,x,y,o,n,ρ,hx,hy=>by
  unfold I1
  cases hs:eW P f.type with
  |none=>exact aw.fail
  |some s=>
   simp only
   refine dV λhc=>?_
   simp only[aS,bne_iff_ne,ne_eq]at hc
   obtain⟨hn,ho⟩:=hc
   have ho:=bG ho
   refine(hg f.type (x.take s) (y.take s) n ρ (λa ha=>hx a (kv ha)) (λa ha=>hy a (kv ha))).bind λaE n1 b fq dP ⟨b1,nv,nw,b2,b3,b4⟩=>?_
   refine(WA hg dY (x.drop s) (y.drop s) (o+s) n1 aE (λa ha=>(hx a (oo ha)).ext dP fq (br _)) (λa ha=>(hy a (oo ha)).ext dP fq (br _))).bind λbT en r eN dD ⟨r1,r2⟩=>aw.pure ⟨bd.K6 (b1.mono eN) r1,λw xs fE fk zL=>?_⟩
   have Au:(part f.type xs f.offset).run P w= .ok nv w:=aaC hs (by rw[ho,fk,<-yr];exact b2) w
   have Av:(part f.type fE f.offset).run P w= .ok nw w:=aaC hs (by rw[ho,zL,<-yr];exact b3) w
   have y1:xs.toList.drop (o+s)=(x.drop s).map (A.den aE m):=by
    rw[<-HP,fk,<-ys]
    exact(sF (λa ha=>hx a (oo ha)) dP (λ_ _=>rfl)).symm
   have aM:fE.toList.drop (o+s)=(y.drop s).map (A.den aE m):=by
    rw[<-HP,zL,<-ys]
    exact(sF (λa ha=>hy a (oo ha)) dP (λ_ _=>rfl)).symm
   have tu:b.den bT=b.den aE:=bd.bR dD b1
   simp only[Em,ne_eq,hn,not_false_eq_true,if_true,gY,Au,Av,gH,b4 w,bd.IX,tu]
   cases hq:b.den aE with
   |true=>simp[r2 w xs fE y1 aM]
   |false=>simp
theorem WB {nb:Nat} {m:Nat->Nat}:∀(d:Nat) (t:aX) (x y:List A) (n:Nat) (ρ:Env),(∀a∈x,A.ok n nb ρ a)->(∀a∈y,A.ok n nb ρ a)->∀D,d<=D->
 aw S L (BQ P d t x y) n ρ λah n' b=>b.bk n'/\∃nv nw,EB P t (x.map (A.den ρ m)) nv/\EB P t (y.map (A.den ρ m)) nw/\∀w,(L0 D t nv nw).run P w= .ok (b.den ah) w
 |0,t,x,y,n,ρ,_,_,_,_=>aw.fail
 |d+1,t,x,y,n,ρ,hx,hy,D,hD=>by
  obtain⟨E,rfl⟩:∃E,D=E+1:=⟨D-1,by omega⟩
  unfold BQ
  split
  ·rename_i k hu
   split
   ·rename_i k1 a k2 b
    refine dV λhk=>?_
    have hk:k1=k2:=by simpa using hk
    subst hk
    have GP:a.ok n ρ:=hx (.int k1 a) (by simp)
    have ob:b.ok n ρ:=hy (.int k1 b) (by simp)
    have e1:=bd.rb GP ob
    have fU:iF P t=some false:=by simp[iF,hu]
    refine aw.pure ⟨e1.2,_,_,.inr ⟨fU,rfl⟩,.inr ⟨fU,rfl⟩,λw=>?_⟩
    simp only[A.den]
    rw[run_equalIn_int w E t k1 k _ _ hu,e1.1]
    rfl
   ·exact aw.fail
  ·rename_i hu
   split
   ·rename_i a b
    have b1:=EK (U (a.den ρ)=U (b.den ρ))
    have fU:iF P t=some false:=by simp[iF,hu]
    refine(fT (op:=4) (args:=[a,b]) b1.1 b1.2).bind λaE n1 l fq zh ⟨h1,h2⟩=>aw.pure ?_
    have h2:l.den aE=if U (a.den ρ)=U (b.den ρ)then 1 else 0:=h2
    have ol:(⟨l,0,1⟩:bF).ok n1 aE:=⟨h1,by simp only[h2];exact b1.1,by simp only[h2];exact b1.2⟩
    have e1:=bd.rb (n:=n1) (ρ:=aE) (a:=⟨l,0,1⟩) (b:= .const 1) ol (bF.nd _ _ _)
    refine⟨e1.2,_,_,.inr ⟨fU,rfl⟩,.inr ⟨fU,rfl⟩,λw=>?_⟩
    simp only[A.den]
    rw[run_equalIn_string w E t _ _ hu,e1.1,yS,yS]
    simp only[bF.const,aa.aW,h2]
    by_cases hq:U (a.den ρ)=U (b.den ρ)
    ·simp[hq]
    ·simp[hq]
   ·exact aw.fail
  ·rename_i hu
   split
   ·rename_i a b
    have fU:iF P t=some false:=by simp[iF,hu]
    have GP:a.bk n:=hx (.bool a) (by simp)
    have ob:b.bk n:=hy (.bool b) (by simp)
    refine aw.pure ⟨bd.RO GP ob,_,_,.inr ⟨fU,rfl⟩,.inr ⟨fU,rfl⟩,λw=>?_⟩
    simp only[A.den]
    rw[run_equalIn_bool w E t _ _ hu,bd.Nv]
   ·exact aw.fail
  ·rename_i dY hu
   refine dV λhg=>?_
   have hg:P.stoodInHeld t=false:=by simpa using hg
   have fU:iF P t=some true:=by simp[iF,hu]
   refine(WA (m:=m) (D:=E) (λt x y n ρ h1 h2=>WB d t x y n ρ h1 h2 E (by omega)) dY.toList x y 0 n ρ hx hy).mono λah n' b _ _ ⟨h1,h2⟩=>⟨h1,_,_,.inl ⟨fU,rfl⟩,.inl ⟨fU,rfl⟩,λw=>?_⟩
   have hf:P.fieldsOf t=dY:=by simp[az9,hu]
   rw[run_equalIn_struct w E t _ _ (by rw[hf];exact hu) hg,hf]
   exact h2 w _ _ (by simp) (by simp)
  ·exact aw.fail
theorem WD {nb:Nat} {m:Nat->Nat} {t:aX} {x y:List A} (hx:∀a∈x,A.ok n nb ρ a) (hy:∀a∈y,A.ok n nb ρ a):
 aw S L (I2 P t x y) n ρ λah n' b=>b.bk n'/\P.eqGuardType P.depth t=false/\∀w,(L0 10000 t (.agg (x.map (A.den ρ m)).toArray) (.agg (y.map (A.den ρ m)).toArray)).run P w= .ok (b.den ah) w:=by
 unfold I2
 split
 ·rename_i dY hu
  have nh:iF P t=some true:=by simp[iF,hu]
  have deep:P.eqGuardType P.depth t=false->aw S L (BQ P 8 t x y) n ρ λah n' b=>b.bk n'/\P.eqGuardType P.depth t=false/\∀w,(L0 10000 t (.agg (x.map (A.den ρ m)).toArray) (.agg (y.map (A.den ρ m)).toArray)).run P w= .ok (b.den ah) w:=λhg=>
   (WB (m:=m) 8 t x y n ρ hx hy 10000 (by decide)).mono λah n' b _ _ ⟨h1,nv,nw,h2,h3,h4⟩=>⟨h1,hg,λw=>by
     rcases h2 with⟨_,rfl⟩|⟨h2,_⟩
     ·rcases h3 with⟨_,rfl⟩|⟨h3,_⟩
      ·exact h4 w
      ·rw[nh]at h3;cases h3
     ·rw[nh]at h2;cases h2⟩
  cases hg:(BS P 0 dY.toList&& !P.stoodInHeld t&& !P.eqGuardType P.depth t)with
  |true=>
   simp only[cond_true]
   simp only[aS,gW]at hg
   generalize (dY.toList.all λf=>match P.underlying f.type with|some (.int _)=>true|some .string=>true|_=>false)=flat
   cases flat with
   |true=>
    simp only[cond_true]
    refine(NK (nb:=nb) (m:=m) dY.toList x y 0 n ρ hg.1.1 hx hy).mono λah n' b _ _ ⟨h1,h2⟩=>⟨h1,hg.2,λw=>?_⟩
    have hf:P.fieldsOf t=dY:=by simp[az9,hu]
    rw[run_equalIn_struct w 9999 t _ _ (by rw[hf];exact hu) hg.1.2,hf]
    exact h2 w 9998 _ _ (by simp) (by simp)
   |false=>exact deep hg.2
  |false=>
   simp only[cond_false]
   refine dV λvf=>deep (by simpa using vf)
 ·exact aw.fail
theorem ats {cal:eI} (cQ:fS S P gl w0 cal) (hb:cK n bl.length ρ bl) (hg:fg gl w0) (hex:∃w,Mem w0 ρ m bl w) (ht:dX n bl.length ρ m tm a.tmps) (o:Oper):
 aw S L (Rr P cal gl bl tm o) n ρ (ld w0 m bl n ρ P o a):=by
 unfold Rr
 split
 case h_1 x h=>
  exact aw.pure ⟨(cC ht x).1,_,(cC ht x).2,λw _=> .inl (by simp[execOp,h])⟩
 case h_2 x h=>
  exact aw.pure ⟨(cC ht x).1,_,(cC ht x).2,λw _=> .inl (by simp[execOp,h])⟩
 case h_3 t x h=>
  have hx:=cC ht x
  have he:execOp a.eval o=(do pure (kx (<-oh t (a.eval x)))):=by simp only[execOp,h]
  split
  ·rename_i b off aU hv
   rw[hv]at hx
   have db:a.eval x=(A.mU b off aU).den ρ m:=hx.2
   rw[db]at he
   exact(auq hb t b off hx.1.2.1).mono λ_ _ _ _ _ hq=>ld.of_run he hq
  ·rename_i g off aU hv
   rw[hv]at hx
   have db:a.eval x=(A.BX g off aU).den ρ m:=hx.2
   rw[db]at he
   exact(aup hg t g off hx.1.1).mono λ_ _ _ _ _ hq=>ld.of_run he hq
  ·rename_i p _ _ hv
   rw[hv]at hx
   have db:a.eval x=p.den ρ m:=hx.2
   rw[db]at he
   exact(aop hb hg hex t p).mono λ_ _ _ _ _ hq=>ld.of_run he hq
  ·exact aw.fail
 case h_4 x h=>
  have hx:=cC ht x
  unfold Z8
  split<;>first
   |exact aw.fail
   |(rename_i hv
     rw[hv]at hx
     refine aw.pure ⟨hx.1,_,rfl,λw _=> .inl ?_⟩
     have db:=hx.2
     simp only[V.rel,W.den,A.den]at db
     simp[execOp,h,db,W.den,A.den])
 case h_5 c x y h=>
  have hc:=cC ht c
  split
  ·rename_i v hv
   rw[hv]at hc
   have e1:a.eval c= .bool v:=hc.2
   cases v with
   |true=>exact aw.pure ⟨(cC ht x).1,_,(cC ht x).2,λw _=> .inl (by simp[execOp,h,e1,asBool])⟩
   |false=>exact aw.pure ⟨(cC ht y).1,_,(cC ht y).2,λw _=> .inl (by simp[execOp,h,e1,asBool])⟩
  ·exact aw.fail
 case h_6 op t x y t' h=>
  have hx:=cC ht x
  have hy:=cC ht y
  unfold VP
  split
  ·rename_i k p a6 q nV iR
   rw[nV]at hx;rw[iR]at hy
   have e1:a.eval x= .int k (p.l.den ρ):=hx.2
   have e2:a.eval y= .int a6 (q.l.den ρ):=hy.2
   refine(ae3 (nb:=bl.length) (m:=m) P t hx.1 hy.1).bind λaE n1 r _ _ ⟨h1,h2⟩=>aw.pure ⟨h1,_,rfl,λw _=> .inl ?_⟩
   have hgd:(eqGuard op t x y (.int k (p.l.den ρ)) (.int a6 (q.l.den ρ))).run P w= .ok () w:=by cases op<;>simp[eqGuard]
   simp only[execOp,h,e1,e2]
   simp[hgd,h2,W.den]
  ·rename_i p q nV iR
   rw[nV]at hx;rw[iR]at hy
   have e1:a.eval x= .agg (p.map (A.den ρ m)).toArray:=hx.2
   have e2:a.eval y= .agg (q.map (A.den ρ m)).toArray:=hy.2
   split
   ·rename_i b heq
    obtain⟨s1,g1,r1⟩:=WC (m:=m) heq hx.1 hy.1
    refine aw.pure ⟨s1,_,rfl,λw _=> .inl ?_⟩
    simp only[execOp,h,e1,e2]
    simp[run_eqGuard_agg w .eql t x y _ _ g1,run_eql_struct,r1,W.den,A.den]
   ·rename_i b heq
    obtain⟨s1,g1,r1⟩:=WC (m:=m) heq hx.1 hy.1
    refine aw.pure ⟨bd.uo s1,_,rfl,λw _=> .inl ?_⟩
    simp only[execOp,h,e1,e2]
    simp[run_eqGuard_agg w .neq t x y _ _ g1,run_neq_struct,r1,W.den,A.den,bd.tp]
   ·rename_i heq
    refine(WD (m:=m) (t:=t) hx.1 hy.1).bind λah n' r _ _ ⟨r1,g1,r2⟩=>aw.pure ⟨r1,_,rfl,λw _=> .inl ?_⟩
    simp only[execOp,h,e1,e2]
    simp[run_eqGuard_agg w .eql t x y _ _ g1,run_eql_struct,r2,W.den,A.den]
   ·rename_i heq
    refine(WD (m:=m) (t:=t) hx.1 hy.1).bind λah n' r _ _ ⟨r1,g1,r2⟩=>aw.pure ⟨bd.uo r1,_,rfl,λw _=> .inl ?_⟩
    simp only[execOp,h,e1,e2]
    simp[run_eqGuard_agg w .neq t x y _ _ g1,run_neq_struct,r2,W.den,A.den,bd.tp]
   ·exact aw.fail
  ·rename_i p q nV iR
   rw[nV]at hx;rw[iR]at hy
   have e1:a.eval x= .string (bw (U (p.den ρ))):=hx.2
   have e2:a.eval y= .string (bw (U (q.den ρ))):=hy.2
   have he:execOp a.eval o=(do pure (kx (<-(do eqGuard op t x y (.string (bw (U (p.den ρ)))) (.string (bw (U (q.den ρ))));binOp op t (.string (bw (U (p.den ρ)))) (.string (bw (U (q.den ρ)))):Sem aF)))):=by simp only[execOp,h,e1,e2]
   exact(auS (op:=op) (t:=t) (x:=x) (y:=y) (w0:=w0) (m:=m) hx.1 hy.1).mono λ_ _ _ _ _ hq=>ld.of_run he hq
  ·rename_i p q nV iR
   rw[nV]at hx;rw[iR]at hy
   have e1:a.eval x= .bool (p.den ρ):=hx.2
   have e2:a.eval y= .bool (q.den ρ):=hy.2
   have hgd:(eqGuard op t x y (.bool (p.den ρ)) (.bool (q.den ρ))).run P=λw=> .ok () w:=by funext w;cases op<;>simp[eqGuard]
   split
   ·rename_i hu
    refine aw.pure ⟨bd.RO hx.1 hy.1,_,rfl,λw _=> .inl ?_⟩
    simp only[execOp,h,e1,e2]
    simp[hgd,run_eql_bool w t _ _ hu,W.den,A.den,bd.Nv]
   ·rename_i hu
    refine aw.pure ⟨bd.uo (bd.RO hx.1 hy.1),_,rfl,λw _=> .inl ?_⟩
    simp only[execOp,h,e1,e2]
    simp[hgd,run_neq_bool w t _ _ hu,W.den,A.den,bd.Nv,bd.tp]
   ·exact aw.fail
  ·exact aw.fail
 case h_7 op t x h=>
  have hx:=cC ht x
  unfold ab6
  split
  ·rename_i b hv
   rw[hv]at hx
   have e1:a.eval x= .bool (b.den ρ):=hx.2
   refine aw.pure ⟨bd.uo hx.1,_,rfl,λw _=> .inl ?_⟩
   simp[execOp,h,e1,Op.unary,W.den,A.den,bd.tp]
  ·rename_i k p hv
   rw[hv]at hx
   have e1:a.eval x= .int k (p.l.den ρ):=hx.2
   refine dV λhc=>?_
   simp only[aS,gW,decide_eq_true_eq]at hc
   have hp:=hx.1
   have VY:=bF.ok.agree (n':=n) hp (agree.refl n ρ) (br _)
   have b2:=VY.2
   have e2:((aa.const (two k-1)).sub p.l).den ρ=two k-1-p.l.den ρ:=by rw[aa.mA,aa.aW]
   refine aw.pure ⟨⟨aa.ya (aa.cT _ _) VY.1,by simp only[e2];omega,by simp only[e2];omega⟩,_,rfl,λw _=> .inl ?_⟩
   have key:k.wrap (p9 k.bits (if k.signed=true then-1 else k.max)^^^p9 k.bits (p.l.den ρ)).toNat=two k-1-p.l.den ρ:=by
    have hk:=hc.1.1
    obtain⟨X,bP⟩:=Ei (show 0<=p.l.den ρ by omega)
    have hlt:X<2^k.bits:=by
     have:(X:Int)<2^k.bits:=by rw[<-uv,<-bP];omega
     exact_mod_cast this
    have hall:(p9 k.bits (if k.signed=true then-1 else k.max))=BitVec.allOnes k.bits:=by
     cases k<;>simp[HI]at hk<;>rfl
    rw[hall,BitVec.allOnes_xor,BitVec.toNat_not,bP,LV]
    have bN:((X:Int)% ((2^k.bits:Nat):Int)).toNat=X:=by
     rw[yt (by omega) (by exact_mod_cast hlt)];rfl
    rw[bN,Lq]
    have ai:half k=0:=by simp[half,hk]
    have h2:two k=((2^k.bits:Nat):Int):=by rw[uv];simp
    rw[ai,h2,Int.add_zero,Int.sub_zero,yt (by omega) (by omega)]
    omega
   simp only[execOp,h,e1,Op.unary,LY,W.den,A.den,e2]
   simp at key
   simp[key]
  ·rename_i k p hv
   rw[hv]at hx
   have e1:a.eval x= .int k (p.l.den ρ):=hx.2
   have b2:=bF.ok.agree (n':=n) hx.1 (agree.refl n ρ) (br _)
   have b3:=b2.2
   have e2:(p.l.smul (-1)).den ρ=-p.l.den ρ:=by rw[aa.ll];omega
   refine(yi (k:=k) (x:=⟨p.l.smul (-1),-p.hi,-p.lo⟩) ⟨aa.vY b2.1,by simp only[e2];omega,by simp only[e2];omega⟩).bind λaE n1 r _ _ ⟨h1,h2⟩=>aw.pure ⟨h1,_,rfl,λw _=> .inl ?_⟩
   simp only[e2]at h2
   simp[execOp,h,e1,Op.unary,Op.intArith,W.den,A.den,h2]
  ·exact aw.fail
 case h_8 s d x h=>
  have hx:=cC ht x
  unfold We
  split
  ·rename_i a6 p hu hk hv
   rw[hv]at hx
   have e1:a.eval x= .int a6 (p.l.den ρ):=hx.2
   split
   ·rename_i c hc
    refine dV λhsz=>?_
    have hl:(LZ c).data.toList.length<=gk:=by
     have:=eC hsz
     have h2:(LZ c).data.toList.length=(LZ c).size:=by simp
     unfold gk;omega
    refine aw.pure ⟨⟨aa.cT _ _,by rw[aa.aW];exact ra _,by rw[aa.aW];exact oW hl⟩,_,rfl,λw _=> .inl ?_⟩
    simp[execOp,h,e1,convert,eH hu,eH hk,Conv.intToString,W.den,A.den,aa.aW,fm,bw,aa.ia hc]
   ·exact aw.fail
  ·split
   rotate_left
   ·exact aw.fail
   rename_i k a6 p hu hk hv
   rw[hv]at hx
   have e1:a.eval x= .int a6 (p.l.den ρ):=hx.2
   refine(yi (k:=k) hx.1).bind λaE n1 r _ _ ⟨h1,h2⟩=>aw.pure ⟨h1,_,rfl,λw _=> .inl ?_⟩
   simp[execOp,h,e1,convert,eH hu,eH (Qz hk),Conv.intToInt,W.den,A.den,h2]
 case h_9 t x aU h=>
  have hx:=cC ht x
  have hi:=cC ht aU
  split
  ·rename_i k i hv
   rw[hv]at hi
   have e1:a.eval aU= .int k (i.l.den ρ):=hi.2
   have he:execOp a.eval o=(do pure (kx (<-rS t (a.eval x) (.int k (i.l.den ρ))))):=by simp only[execOp,h,e1]
   exact(amx hx.1 hx.2 hi.1).mono λ_ _ _ _ _ hq=>ld.of_run he hq
  ·exact aw.fail
 case h_10 t x aU h=>
  have hx:=cC ht x
  have hi:=cC ht aU
  split
  ·rename_i s hv
   rw[hv]at hx
   have e1:a.eval x= .string (bw (U (s.den ρ))):=hx.2
   split
   ·rename_i i hu xc
    obtain⟨k,hk,_⟩:=zS (m:=m) (bl:=bl) xc hi.2 hi.1
    have he:execOp a.eval o=(do pure (kx (<-Te t (.string (bw (U (s.den ρ)))) (.int k (i.den ρ))))):=by simp only[execOp,h,e1,hk]
    exact(auT (w0:=w0) (m:=m) hu hx.1).mono λ_ _ _ _ _ hq=>ld.of_run he hq
   ·exact aw.fail
  split
  ·rename_i l i len e hv xc B7
   rw[hv]at hx
   have e1:a.eval x= .agg (l.map (A.den ρ m)).toArray:=hx.2
   have e2:∃k,a.eval aU= .int k i:=by
    unfold IS at xc
    split at xc
    ·rename_i k p iR
     rw[iR]at hi
     have:a.eval aU= .int k (p.l.den ρ):=hi.2
     exact⟨k,by rw[this,aa.ia xc]⟩
    ·cases xc
   obtain⟨k,e2⟩:=e2
   split
   ·rename_i s hs
    refine dV λhc=>?_
    simp only[aS,decide_eq_true_eq]at hc
    refine(aaB (w0:=w0) (m:=m) (bl:=bl) hx.1).mono λaE n1 v _ _ ⟨bq,val,bE,b5⟩=>⟨bq,val,bE,λw hw=> .inl ?_⟩
    have:=b5 w hw
    simp[execOp,h,e1,e2,Te,asIntOf,eH (r4 B7),hc,im hs,this]
   ·exact aw.fail
  ·exact aw.fail
 case h_11 s x f h=>
  have hx:=cC ht x
  split
  ·rename_i b off fd hv hf
   rw[hv]at hx
   have e1:a.eval x= .pointer (some ⟨m b,off,none⟩):=hx.2
   obtain⟨dY,hu,FQ⟩:=NR hf
   split
   ·rename_i k hs
    refine aw.pure ⟨hx.1,_,rfl,λw _=> .inl ?_⟩
    simp[execOp,h,e1,acC,eH hu,FQ,lO,fieldPlace,im hs,iy,W.den,A.den]
   ·exact aw.fail
  ·exact aw.fail
 case h_12 s x f h=>
  have hx:=cC ht x
  split
  ·rename_i l fd hv hf
   rw[hv]at hx
   have e1:a.eval x= .agg (l.map (A.den ρ m)).toArray:=hx.2
   obtain⟨dY,hu,FQ⟩:=NR hf
   refine(aaB (w0:=w0) (m:=m) (bl:=bl) hx.1).mono λaE n1 v _ _ ⟨bq,val,bE,b5⟩=>⟨bq,val,bE,λw hw=> .inl ?_⟩
   have:=b5 w hw
   simp[execOp,h,e1,Instr.field,asAgg,eH hu,FQ,this]
  ·exact aw.fail
 case h_13 x i h=>
  have hx:=cC ht x
  split
  ·rename_i l hv
   rw[hv]at hx
   have e1:a.eval x= .tuple (l.map (W.den ρ m)).toArray:=hx.2
   split
   ·rename_i u hu
    refine aw.pure ⟨hx.1 u (eh hu),_,rfl,λw _=> .inl ?_⟩
    simp[execOp,h,e1,acB,hu]
   ·exact aw.fail
  ·exact aw.fail
 case h_14 t x lo hi h=>
  have hx:=cC ht x
  split
  ·rename_i s hv hu
   rw[hv]at hx
   have e1:a.eval x= .string (bw (U (s.den ρ))):=hx.2
   have he:execOp a.eval o=(do pure (kx (<-q0 t (.string (bw (U (s.den ρ)))) (lo.map a.eval) (hi.map a.eval) none))):=by simp only[execOp,h,e1];rfl
   exact(auV (w0:=w0) (m:=m) hu hx.1 ht).mono λ_ _ _ _ _ hq=>ld.of_run he hq
  have key:∀(y:Option om) (c:Option Int),KB tm y=some c->∃f:Int->aF,(∀c,∃k,f c= .int k c)/\y.map a.eval=c.map f:=by
   intro y c hy
   unfold KB at hy
   cases y with
   |none=>simp at hy;subst hy;exact⟨λc=> .int .i64 c,λc=>⟨_,rfl⟩,rfl⟩
   |some y=>
    simp only at hy
    have hi:=cC ht y
    unfold IS at hy
    split at hy
    ·rename_i c' hq
     split at hq
     ·rename_i k p iR
      simp only[aQ]at hy;subst hy
      rw[iR]at hi
      have:a.eval y= .int k (p.l.den ρ):=hi.2
      exact⟨λc=> .int k c,λc=>⟨_,rfl⟩,by simp[this,aa.ia hq]⟩
     ·cases hq
    ·cases hy
  split
  ·rename_i l ai h1 h2
   obtain⟨WS,oB,wW⟩:=key lo l h1
   obtain⟨aA8,I6,WI⟩:=key hi ai h2
   unfold abE
   split
   ·rename_i b off Am e hv B7
    rw[hv]at hx
    have e1:a.eval x= .pointer (some ⟨m b,off,none⟩):=hx.2
    split
    ·rename_i s hs
     refine dV λhc=>?_
     simp only[aS,decide_eq_true_eq]at hc
     refine aw.pure ⟨hx.1,_,rfl,λw _=> .inl ?_⟩
     have hb1:(k9 false Am Am (lo.map a.eval) (hi.map a.eval) none).run P w= .ok ((l.getD 0).toNat,(ai.getD Am).toNat,Am) w:=by
      rw[wW,WI]
      have c1:∀(k:dp) (i:Int) (y:Nat) (u2:BoundsCode),0<=i->i<=y->(HN (.int k i) y u2).run P w= .ok i.toNat w:=λk i y u2 p1 bJ=>by
       simp[HN,asIntOf,p1,bJ]
      cases l with
      |none=>
       cases ai with
       |none=>simp[k9]
       |some h'=>
        obtain⟨a6,j4⟩:=I6 h'
        simp only[Tg,rP]at hc
        simp[k9,j4,c1 a6 h' Am _ (by omega) (by omega)]
      |some bQ=>
       obtain⟨k1,jk⟩:=oB bQ
       cases ai with
       |none=>
        simp only[Tg,rP]at hc
        simp[k9,jk,c1 k1 bQ Am _ (by omega) (by omega)]
       |some h'=>
        obtain⟨a6,j4⟩:=I6 h'
        simp only[rP]at hc
        simp[k9,j4,jk,c1 a6 h' Am _ (by omega) (by omega),c1 k1 bQ h'.toNat _ (by omega) (by omega)]
     simp only[execOp,h,e1,acO,q0]
     simp[eH (r4 B7),lO,hb1,im hs,iy,W.den,A.den]
     intro hq
     have h3:=hc.2
     omega
    ·exact aw.fail
   ·rename_i b off len cap hv B7
    rw[hv]at hx
    have e1:a.eval x= .slice (some ⟨m b,off,none⟩) len cap:=hx.2
    split
    ·rename_i e qD
     split
     ·rename_i s hs
      refine dV λhc=>?_
      simp only[aS,decide_eq_true_eq]at hc
      refine aw.pure ⟨hx.1,_,rfl,λw _=> .inl ?_⟩
      have hb1:(k9 true len cap (lo.map a.eval) (hi.map a.eval) none).run P w= .ok ((l.getD 0).toNat,(ai.getD len).toNat,cap) w:=by
       rw[wW,WI]
       have c1:∀(k:dp) (i:Int) (y:Nat) (u2:BoundsCode),0<=i->i<=y->(HN (.int k i) y u2).run P w= .ok i.toNat w:=λk i y u2 p1 bJ=>by
        simp[HN,asIntOf,p1,bJ]
       cases l with
       |none=>
        cases ai with
        |none=>simp[k9]
        |some h'=>
         obtain⟨a6,j4⟩:=I6 h'
         simp only[Tg,rP]at hc
         simp[k9,j4,c1 a6 h' cap _ (by omega) (by omega)]
       |some bQ=>
        obtain⟨k1,jk⟩:=oB bQ
        cases ai with
        |none=>
         simp only[Tg,rP]at hc
         simp[k9,jk,c1 k1 bQ len _ (by omega) (by omega)]
        |some h'=>
         obtain⟨a6,j4⟩:=I6 h'
         simp only[rP]at hc
         simp[k9,j4,jk,c1 a6 h' cap _ (by omega) (by omega),c1 k1 bQ h'.toNat _ (by omega) (by omega)]
      simp only[execOp,h,e1,acO,q0]
      simp[eH (gg qD),Tf,hb1,im hs,iy,W.den,A.den]
      intro hq
      have h3:=hc.2
      omega
     ·exact aw.fail
    ·exact aw.fail
   ·exact aw.fail
  ·exact aw.fail
 case h_15 c h=>
  split
  ·rename_i f hc
   split
   ·rename_i g O7
    have oC:∀v∈c.args.toList.map (cg tm),V.ok n bl.length ρ v:=λv hv=>by
     obtain⟨x,_,rfl⟩:=List.mem_map.1 hv
     exact(cC ht x).1
    refine(cQ f g O7 L n ρ m bl _ _ hb hex oC (Ic (xs:=c.args.toList) ht)).mono λaE n1 v _ _ ⟨bq,val,bE,b5⟩=>⟨bq,val,bE,λw hw=>?_⟩
    have he:=RL (a:=a) hc o h
    have ha:(c.args.toList.map a.eval).toArray=c.args.map a.eval:=by
     rw[<-s7]
    have dm:=b5 w hw
    rw[ha]at dm
    rcases dm with dm|⟨dm,ik⟩
    ·exact .inl (by rw[he];exact dm)
    ·exact .inr ⟨f,_,by rw[he];exact dm,ik⟩
   ·exact aw.fail
  ·rename_i hc
   split
   ·rename_i x t fk l8
    have hx:=cC ht x
    split
    ·rename_i s hv hu
     rw[hv]at hx
     have e1:a.eval x= .string (bw (U (s.den ρ))):=hx.2
     have a1:c.args=#[x]:=by rw[<-jF (xs:=c.args),fk]
     have a2:c.argTypes=#[t]:=by rw[<-jF (xs:=c.argTypes),l8]
     have he:execOp a.eval o=(do pure (kx (<-El #[t] o.type #[.string (bw (U (s.den ρ)))]))):=by
      simp[execOp,h,resolve,hc,a1,a2,e1,invoke,builtin]
     exact(auU (w0:=w0) (m:=m) hu hx.1).mono λ_ _ _ _ _ hq=>ld.of_run he hq
    split
    ·rename_i b off len cap e hv hs
     rw[hv]at hx
     have e1:a.eval x= .slice (some ⟨m b,off,none⟩) len cap:=hx.2
     refine aw.pure ⟨bF.nd _ _ _,_,rfl,λw _=> .inl ?_⟩
     have a1:c.args=#[x]:=by rw[<-jF (xs:=c.args),fk]
     have a2:c.argTypes=#[t]:=by rw[<-jF (xs:=c.argTypes),l8]
     simp[execOp,h,resolve,hc,a1,a2,e1,invoke,builtin,El,eH (gg hs),goInt,W.den,A.den,bF.const,aa.aW]
    ·rename_i b len lo e hv hs
     rw[hv]at hx
     obtain⟨mz,_,e1⟩:=hx.2
     refine aw.pure ⟨bF.nd _ _ _,_,rfl,λw _=> .inl ?_⟩
     have a1:c.args=#[x]:=by rw[<-jF (xs:=c.args),fk]
     have a2:c.argTypes=#[t]:=by rw[<-jF (xs:=c.argTypes),l8]
     simp[execOp,h,resolve,hc,a1,a2,e1,invoke,builtin,El,eH (gg hs),goInt,W.den,A.den,bF.const,aa.aW]
    ·exact aw.fail
   ·exact aw.fail
  ·exact aw.fail
 case h_16 f first iA h=>
  split
  ·rename_i l hf hl
   obtain⟨g1,g2⟩:=arh (m:=m) hl (λv hv=>by obtain⟨x,_,rfl⟩:=List.mem_map.1 hv;exact(cC ht x).1) (Ic (xs:=iA.toList) ht)
   have Yg:first=#[]:=by rw[<-jF (xs:=first),hf]
   have Ca:iA.map a.eval=(l.map (A.den ρ m)).toArray:=by rw[<-g2,<-s7]
   refine aw.pure ⟨g1,_,rfl,λw _=> .inl ?_⟩
   simp only[execOp,h,Ca,Yg]
   simp[Instr.makeFunc]
  ·exact aw.fail
 case h_17 t parts h=>
  split
  ·rename_i l hl
   obtain⟨g1,g2⟩:=afe (n:=n) (nb:=bl.length) (ρ:=ρ) (m:=m) (vals:=(parts.map λ(i,x)=>(i,a.eval x)).toList) hl (by
    rw[s7]
    generalize parts.toList=cx
    induction cx with
    |nil=>exact trivial
    |cons p r ih=>exact⟨⟨rfl,cC ht p.2⟩,ih⟩)
   refine aw.pure ⟨g1,_,rfl,λw _=> .inl ?_⟩
   simp only[execOp,h]
   simp[run_build w t _ _ g2,W.den]
  ·exact aw.fail
 case h_18 t x h=>
  have hx:=cC ht x
  split
  ·rename_i b len lo k e hv ha
   rw[hv]at hx
   refine dV λhc=>aw.pure ⟨hx.1,_,rfl,λw _=> .inl ?_⟩
   obtain⟨c,hc1,hc2⟩:=hx.2
   have hle:¬len<k:=by have:=eC hc;omega
   simp only[execOp,h]
   rw[hc2]
   simp[acP,eH (r4 ha),hle,W.den,A.den]
  ·rename_i b off len cap k e hv ha
   rw[hv]at hx
   refine dV λhc=>aw.pure ⟨by simpa [V.ok,W.ok,A.ok]using hx.1,_,rfl,λw _=> .inl ?_⟩
   have hle:¬len<k:=by have:=eC hc;omega
   have e1:a.eval x=_:=hx.2
   simp only[execOp,h]
   rw[e1]
   simp[acP,eH (r4 ha),hle,W.den,A.den]
  ·exact aw.fail
 case h_19=>exact aw.fail
end
end Go.bo
namespace Go.bo
open M
noncomputable def IJ (c:aB) (code i:aa) (j:Nat):M A:=
 match c with
 | .int k lo hi=>bind (eT 21 [code,i,.const j] lo hi) λl=>pure (.int k ⟨l,lo,hi⟩)
 | .str=>bind (eT 21 [code,i,.const j] 0 bM) λl=>pure (.str l)
 | .bool=>bind (eT 21 [code,i,.const j] 0 1) λl=>pure (.bool (.mkEq ⟨l,0,1⟩ (.const 1)))
noncomputable def IK (code i:aa):Nat->List aB->M (List A)
 |_,[]=>pure []
 |j,c::r=>bind (IJ c code i j) λa=>bind (IK code i (j+1) r) λl=>pure (a::l)
noncomputable def RF (c:aB) (code:aa):Nat->aa->M (List A)
 |0,_=>pure []
 |q+1,i=>bind (fy 21 [code,i]) λ_=>bind (IJ c code i 0) λa=>bind (RF c code q (i.add (.const 1))) λl=>pure (a::l)
noncomputable def NJ (P:bH) (bl:List ax) (t:aX) (b a7:Nat) (o i:aa) (j:Nat):M V:=
 match bl[b]? with
 |some ([.rows sh off code cap kind],_)=>cond (cf 0 kind&&aG a7 sh.length&&aa.beq o off) (bind (fy 21 [code,i]) λ_=>match iF P t,eW P t with
  |some true,some k=>cond (bB (j+k) sh.length) (bind (IK code i j ((sh.drop j).take k)) λl=>pure (.w (.agg l))) (match sh,j with
   |[c],0=>bind (RF c code k i) λl=>pure (.w (.agg l))
   |_,_=>fail)
  |some false,_=>match sh[j]? with
   |some c=>bind (IJ c code i j) λa=>pure (.w (.one a))
   |none=>fail
  |_,_=>fail) fail
 |_=>fail
def RY (P:bH) (t:aX) (b a7:Nat) (o ro len:aa) (aU:aa):M V:=
 match hU P t with
 |some e=>match eW P e with
  |some s=>cond (aG s a7) (bind (fy 30 [aU,len]) λ_=>pure (.w (.one (.ep b a7 o (ro.add aU) 0)))) fail
  |none=>fail
 |none=>fail
def Bt (op:Nat) (ls:List aa):M Unit:=λn k=> .qi op ls (k () n)
def R1 (P:bH) (t:aX) (b a7:Nat) (o ro len cap:aa) (x y:aa):M V:=
 match hU P t with
 |some e=>match eW P e with
  |some s=>cond (aG s a7) (bind (fy 32 [x,y,len]) λ_=>match x.dM with
   |some 0=>pure (.w (.one (.sl b a7 o ro y cap)))
   |_=>bind (Bt 68 [len,cap]) λ_=>bind (eT 33 [ro,x,cap] 0 9223372036854775808) λr=>pure (.w (.one (.sl b a7 o r (y.sub x) (cap.sub x))))) fail
  |none=>fail
 |none=>fail
def wO (tm:List V) (d:aa):Option om->Option aa
 |none=>some d
 |some x=>pe (cg tm x)
def IF:List aB->Bool
 |[.int .u8 lo hi]=>decide (lo=0)&&decide (hi=255)
 |_=>false
noncomputable def R0 (bl:List ax) (b a7:Nat) (o ro len:aa):M V:=
 match bl[b]? with
 |some ([.rows sh off code cap kind],_)=>cond (cf 0 kind&&aG a7 1&&aa.beq o off&&IF sh) (bind (fy 35 [code,ro,ro.add len]) λ_=>bind (eT 34 [code,ro,ro.add len] 0 bM) λl=>pure (.w (.one (.str l)))) fail
 |_=>fail
def IC {α:Type} (b:bd) (x y:M α):M α:=λn k=>match b with
 | .lit v=>cond v (x n k) (y n k)
 |b=> .nM b (x n k) (y n k)
def ZU (k:dp) (x y:bF):M V:=IC (.mkLt y x) (pure (.w (.one (.int k y)))) (pure (.w (.one (.int k x))))
def ZR (k:dp) (x y:bF):M V:=IC (.mkLt x y) (pure (.w (.one (.int k y)))) (pure (.w (.one (.int k x))))
def na:List A->Option (List Bool)
 |[]=>some []
 | .bool (.lit b)::r=>match na r with|some l=>some (b::l)|none=>none
 |_::_=>none
def vn:Nat->List Bool->List UInt8
 |_,[]=>[]
 |i,b::r=>cond b (mu i::vn (i+1) r) (vn (i+1) r)
def RQ (bl:List ax) (b off:Nat) (aU:bF):M V:=
 match bl[b]? with
 |some (cs,_)=>match na ((cs.drop off).take (aU.hi.toNat+1))with
  |some l=>cond (aG l.length (aU.hi.toNat+1)&&bB aU.hi.toNat 255&&decide (0<=aU.lo)&&bV cs) (bind (eT 43 [.const (ev (vn 0 l)),aU.l] 0 1) λr=>pure (.w (.one (.bool (.mkEq ⟨r,0,1⟩ (.const 1)))))) fail
  |none=>fail
 |none=>fail
noncomputable def RG (P:bH) (bl:List ax) (tm:List V) (o:Oper):Option (M V):=
 match o.op with
 | .load t x=>match cg tm x with
  | .w (.one (.ep b a7 o i j))=>some (NJ P bl t b a7 o i j)
  | .w (.one (.mU b off aU))=>match P.underlying t with
   |some .bool=>some (RQ bl b off aU)
   |_=>none
  |_=>none
 | .nilCheck x=>match cg tm x with
  | .w (.one (.ep b a7 o i j))=>some (pure (.w (.one (.ep b a7 o i j))))
  |_=>none
 | .indexAddr t x aU=>match cg tm x,cg tm aU with
  | .w (.one (.sl b a7 o ro len cap)),.w (.one (.int _ i))=>some (RY P t b a7 o ro len i.l)
  |_,_=>none
 | .sliceToArrayPointer t x=>match cg tm x,qh P t with
  | .w (.one (.sl b a7 o ro len cap)),some (k,_)=>some (cond (cf 0 k) (bind (fy 30 [.const ((k:Int)-1),len]) λ_=>pure (.w (.one (.ep b a7 o ro 0)))) fail)
  |_,_=>none
 | .fieldAddr s x f=>match cg tm x,E3 P s f with
  | .w (.one (.ep b a7 o i j)),some fd=>match eW P fd.type with
   |some (_+1)=>some (pure (.w (.one (.ep b a7 o i (j+fd.offset)))))
   |_=>none
  |_,_=>none
 | .slice t x lo hi none=>match cg tm x with
  | .w (.one (.sl b a7 o ro len cap))=>match wO tm (.const 0) lo,wO tm len hi with
   |some p,some q=>some (R1 P t b a7 o ro len cap p q)
   |_,_=>none
  |_=>none
 | .convert s d x=>match cg tm x,hU P s,P.underlying d with
  | .w (.one (.sl b a7 o ro len cap)),some e,some .string=>match P.underlying e with
   |some (.int .u8)=>some (R0 bl b a7 o ro len)
   |_=>none
  |_,_,_=>none
 | .call c=>match c.callee with
  | .builtin .len=>match c.args.toList,c.argTypes.toList with
   |[x],[t]=>match cg tm x,hU P t with
    | .w (.one (.sl b a7 o ro len cap)),some _=>some (pure (.w (.one (.int .i64 ⟨len,0,9223372036854775807⟩))))
    |_,_=>none
   |_,_=>none
  | .builtin .min=>match c.args.toList with
   |[x,y]=>match cg tm x,cg tm y with
    | .w (.one (.int k p)),.w (.one (.int a6 q))=>cond (decide (k=a6)) (some (ZU k p q)) none
    |_,_=>none
   |_=>none
  | .builtin .max=>match c.args.toList with
   |[x,y]=>match cg tm x,cg tm y with
    | .w (.one (.int k p)),.w (.one (.int a6 q))=>cond (decide (k=a6)) (some (ZR k p q)) none
    |_,_=>none
   |_=>none
  |_=>none
 | .binOp op t x y _=>match hU P t,cg tm x,cg tm y with
  |some _,.w (.one (.sl b a7 o ro len cap)),.w (.one (.con (.slice none 0 0)))=>match op with
   | .eql=>some (bind (Bt 53 [cap,len]) λ_=>pure (.w (.one (.bool (.lt cap (.const 0))))))
   | .neq=>some (bind (Bt 53 [cap,len]) λ_=>pure (.w (.one (.bool (.mkNot (.lt cap (.const 0)))))))
   |_=>none
  |_,_,_=>none
 |_=>none
def It (bl:List ax) (b off:Nat):Option (List aB×aa×Nat):=
 match bl[b]? with
 |some ([.rows sh o code cap kind],_)=>match cap.dM with
  |some c=>cond (aG off 0&&cf 0 kind&&aa.beq o (.const 0)&&decide (0<=c)) (some (sh,code,c.toNat)) none
  |none=>none
 |_=>none
noncomputable def Ip (code:aa) (sh:List aB):Nat->Nat->M (List A)
 |_,0=>pure []
 |i,k+1=>bind (IK code (.const i) 0 sh) λa=>bind (Ip code sh (i+1) k) λl=>pure (a++l)
def R2 (P:bH) (t:aX) (b a7:Nat) (o ro len cap:aa) (x y z:aa):M V:=
 match hU P t with
 |some e=>match eW P e with
  |some s=>cond (aG s a7) (bind (cond (aa.beq z len) (fy 78 [x,y,z,cap]) (fy 64 [x,y,z,len])) λ_=>bind (eT 33 [ro,x,z] 0 9223372036854775808) λr=>pure (.w (.one (.sl b a7 o r (y.sub x) (z.sub x))))) fail
  |none=>fail
 |none=>fail
noncomputable def K0 (P:bH) (bl:List ax) (tm:List V) (o:Oper):Option (M V):=
 match o.op with
 | .indexAddr t x aU=>match cg tm x,cg tm aU with
  | .w (.one (.ptr b off)),.w (.one (.int _ i))=>match It bl b off,qh P t with
   |some (sh,code,c),some (len,e)=>match eW P e with
    |some s=>cond (aG s sh.length&&aG len c) (some (bind (fy 30 [i.l,.const len]) λ_=>pure (.w (.one (.ep b s (.const 0) i.l 0))))) none
    |none=>none
   |_,_=>none
  |_,_=>none
 | .load t x=>match cg tm x with
  | .w (.one (.ptr b off))=>match It bl b off,iF P t,eW P t with
   |some (sh,code,c),some true,some k=>cond (aG k (c*sh.length)) (some (bind (fy 31 [code,.const c]) λ_=>bind (Ip code sh 0 c) λl=>pure (.w (.agg l)))) none
   |_,_,_=>none
  |_=>none
 | .slice t x lo (some hi) (some dR)=>match cg tm x with
  | .w (.one (.sl b a7 cm ro len cap))=>match wO tm (.const 0) lo,pe (cg tm hi),pe (cg tm dR)with
   |some p,some q,some r=>some (R2 P t b a7 cm ro len cap p q r)
   |_,_,_=>none
  |_=>none
 | .call c=>match c.callee with
  | .builtin .len=>match c.args.toList,c.argTypes.toList with
   |[x],[t]=>match cg tm x,hU P t with
    | .w (.one (.con (.slice none 0 0))),some _=>some (pure (.w (.one (.int .i64 (.const 0)))))
    |_,_=>none
   |_,_=>none
  |_=>none
 |_=>none
noncomputable def I0 (cal:eI) (bl:List ax) (tm:List V) (o:Oper):Option (M V):=
 match o.op with
 | .call c=>match c.callee with
  | .value (.tmp x)=>match cg tm (.tmp x)with
   | .w (.one (.con (.func (.func f) I4 I5)))=>cond (aG I4.size 0&&aG I5.size 0) ((cal f).map λg=>g bl (c.args.toList.map (cg tm))) none
   |_=>none
  |_=>none
 |_=>none
noncomputable def vR (P:bH) (cal:eI) (gl:ei) (bl:List ax) (tm:List V) (o:Oper):M V:=
 match RG P bl tm o with
 |some x=>x
 |none=>match K0 P bl tm o with
  |some x=>x
  |none=>match I0 cal bl tm o with
   |some x=>x
   |none=>Rr P cal gl bl tm o
theorem lg.get {cells:Array aF} {off:Nat} {sh:List aB} {rows:List (List Int)} (h:lg cells off sh rows) {i j:Nat} {row:List Int} {v:aF} (hi:rows[i]?=some row) (hj:(de sh row)[j]?=some v):cells[off+i*sh.length+j]?=some v:=by
 obtain⟨h1,pre,post,h2,h3⟩:=h
 have h4:=N0 h1 hi hj
 rw[<-HO,h2,List.append_assoc,A6 (by omega),s0]
 ·rw[show off+i*sh.length+j-pre.length=i*sh.length+j by omega];exact h4
 ·have:=(List.getElem?_eq_some_iff.1 h4).1;omega
section
variable {S:Nat->List Int->List Int->Prop} {L:V->Env->Prop} {n:Nat} {ρ:Env} {m:Nat->Nat} {bl:List ax} {gl:ei} {w0:dK} {P:bH} {tm:List V} {a:Act}
theorem VZ {α:Type} {b:bd} {x y:M α} {R:Env->Nat->α->Prop} (h1:b.den ρ=true->aw S L x n ρ R) (h2:b.den ρ=false->aw S L y n ρ R):aw S L (IC b x y) n ρ R:=by
 intro A k hk
 unfold IC at hk
 cases hb:b.den ρ with
 |true=>
  cases b with
  |lit v=>simp only[bd.den]at hb;subst hb;exact h1 rfl A k hk
  |_=>exact h1 hb A k (hk.1 hb)
 |false=>
  cases b with
  |lit v=>simp only[bd.den]at hb;subst hb;exact h2 rfl A k hk
  |_=>exact h2 hb A k (hk.2 hb)
theorem Nb {nb:Nat} {c:aB} {code i:aa} {j:Nat} {z:Int} {row:List Int} (hrow:(af (code.den ρ))[(i.den ρ).toNat]?=some row) (hz:row[j]?=some z) (h1:c.eL.1<=z) (h2:z<=c.eL.2):
 aw S L (IJ c code i j) n ρ λah n' x=>x.ok n' nb ah/\x.den ah m=c.val z:=by
 have hf:au 21 ([code,i,aa.const (j:Nat)].map (·.den ρ))=z:=by
  simp only[cI,eo,aa.aW,au,gu]
  simp[ae,hrow,hz]
 cases c with
 |int k lo hi=>
  refine(fT (by rw[hf];exact h1) (by rw[hf];exact h2)).bind λaE n1 l _ _ ⟨g1,g2⟩=>aw.pure ⟨⟨g1,?_,?_⟩,?_⟩
  ·rw[g2,hf];exact h1
  ·rw[g2,hf];exact h2
  ·simp only[A.den,aB.val];rw[g2,hf]
 |str=>
  refine(fT (by rw[hf];exact h1) (by rw[hf];exact h2)).bind λaE n1 l _ _ ⟨g1,g2⟩=>aw.pure ⟨⟨g1,?_,?_⟩,?_⟩
  ·rw[g2,hf];exact h1
  ·rw[g2,hf];exact h2
  ·simp only[A.den,aB.val];rw[g2,hf]
 |bool=>
  refine(fT (by rw[hf];exact h1) (by rw[hf];exact h2)).bind λaE n1 l _ _ ⟨g1,g2⟩=>aw.pure ?_
  have bm:bF.ok n1 aE ⟨l,0,1⟩:=⟨g1,by simp only;rw[g2,hf];exact h1,by simp only;rw[g2,hf];exact h2⟩
  have e:=bd.rb bm (bF.nd n1 aE 1)
  refine⟨e.2,?_⟩
  simp only[A.den,aB.val]
  rw[e.1]
  simp only[bF.const,aa.aW]
  rw[g2,hf]
theorem Nf {nb:Nat} {sh:List aB} {row:List Int} (bm:cl sh row):∀{r:List aB} {n:Nat} {ρ:Env} {code i:aa} {j:Nat},code.bk n->i.bk n->(af (code.den ρ))[(i.den ρ).toNat]?=some row->(∀(x:Nat) (c:aB),r[x]?=some c->sh[j+x]?=some c)->
 aw S L (IK code i j r) n ρ λah n' l=>(∀a∈l,A.ok n' nb ah a)/\l.length=r.length/\∀(x:Nat) (a:A),l[x]?=some a->(de sh row)[j+x]?=some (a.den ah m)
 |[],n,ρ,code,i,j,_,_,_,_=>aw.pure ⟨λ_ h=>by simp at h,rfl,λx a h=>by simp at h⟩
 |c::r,n,ρ,code,i,j,Gi,Gj,hrow,hr=>by
  have h0:=hr 0 c rfl
  obtain⟨z,h1,h2,h3,h4⟩:=bm.get h0
  refine(Nb (nb:=nb) (m:=m) hrow h1 h2 h3).bind λaE n1 y hn ha ⟨g1,g2⟩=>?_
  refine(Nf (nb:=nb) (r:=r) (n:=n1) (ρ:=aE) (code:=code) (i:=i) (j:=j+1) bm (Gi.mono hn) (Gj.mono hn) (by rw[aa.bR ha Gi,aa.bR ha Gj];exact hrow) (λx c hx=>by
   have:=hr (x+1) c (by simpa using hx)
   rw[show j+1+x=j+(x+1) by omega];exact this)).bind λbT en l eN dD ⟨k1,k2,k3⟩=>aw.pure ⟨λb hb=>?_,by simp[k2],λx b hb=>?_⟩
  ·rcases List.mem_cons.1 hb with rfl|hb
   ·exact g1.ext dD eN (br _)
   ·exact k1 b hb
  ·cases x with
   |zero=>
    simp only[rQ,aQ]at hb
    subst hb
    rw[A.ki g1 dD (λ_ _=>rfl),g2];exact h4
   |succ x=>
    have:=k3 x b (by simpa using hb)
    rw[show j+(x+1)=j+1+x by omega];exact this
theorem abe {nb:Nat} {c:aB} {code:aa}:∀{q n:Nat} {ρ:Env} {i:aa},(∀row∈af (code.den ρ),cl [c] row)->code.bk n->i.bk n->
 aw S L (RF c code q i) n ρ λah n' l=>(∀a∈l,A.ok n' nb ah a)/\l.length=q/\∀(x:Nat) (a:A),l[x]?=some a->∃row,(af (code.den ρ))[(i.den ρ).toNat+x]?=some row/\(de [c] row)[0]?=some (a.den ah m)
 |0,n,ρ,i,_,_,_=>aw.pure ⟨λ_ h=>by simp at h,rfl,λx a h=>by simp at h⟩
 |q+1,n,ρ,i,jx,Gi,Gj=>by
  refine gM λhk=>?_
  simp only[cI,eo,ab]at hk
  have hlt:(i.den ρ).toNat<(af (code.den ρ)).length:=by omega
  have hrow:(af (code.den ρ))[(i.den ρ).toNat]?=some (af (code.den ρ))[(i.den ρ).toNat]:=kg hlt
  have bm:=jx _ (HL hlt)
  generalize (af (code.den ρ))[(i.den ρ).toNat]=row at hrow bm
  obtain⟨z,h1,h2,h3,h4⟩:=bm.get (show([c]:List aB)[0]?=some c from rfl)
  refine(Nb (nb:=nb) (m:=m) hrow h1 h2 h3).bind λaE n1 y hn ha ⟨g1,g2⟩=>?_
  have gO:=aa.bR ha Gi
  have hid:=aa.bR ha Gj
  refine(abe (nb:=nb) (q:=q) (n:=n1) (ρ:=aE) (i:=i.add (.const 1)) (by rw[gO];exact jx) (Gi.mono hn) (aa.um (Gj.mono hn) (aa.cT _ _))).bind λbT en l eN dD ⟨k1,k2,k3⟩=>aw.pure ⟨λb hb=>?_,by simp[k2],λx b hb=>?_⟩
  ·rcases List.mem_cons.1 hb with rfl|hb
   ·exact g1.ext dD eN (br _)
   ·exact k1 b hb
  ·cases x with
   |zero=>
    simp only[rQ,aQ]at hb
    subst hb
    exact⟨row,by simpa using hrow,by rw[A.ki g1 dD (λ_ _=>rfl),g2];exact h4⟩
   |succ x=>
    obtain⟨AO,r1,r2⟩:=k3 x b (by simpa using hb)
    rw[gO,aa.den_add,aa.aW,hid]at r1
    exact⟨AO,by rw[<-r1];congr 1;omega,r2⟩
theorem agx (hb:cK n bl.length ρ bl) (hex:∃w,Mem w0 ρ m bl w) (t:aX) {b a7:Nat} {o i:aa} {j:Nat} (hx:(A.ep b a7 o i j).ok n bl.length ρ):
 aw S L (NJ P bl t b a7 o i j) n ρ (lf w0 m bl n ρ λw=>(oh t ((A.ep b a7 o i j).den ρ m)).run P w):=by
 obtain⟨uy,rr⟩:=hex
 unfold NJ
 split
 ·rename_i sh off code cap kind t' hbl
  refine dV λhc=>gM λhk=>?_
  simp only[aS]at hc
  obtain⟨⟨c1,c2⟩,c3⟩:=hc
  have c1:0<kind:=eC c1
  have c2:=bG c2
  have c3:=aa.beq_eq c3
  subst c3
  have zE:(A.rows sh o code cap kind).ok n bl.length ρ:=hb _ (eh hbl) _ (by simp)
  simp only[cI,eo,ab]at hk
  have hlt:(i.den ρ).toNat<(af (code.den ρ)).length:=by omega
  have hrow:(af (code.den ρ))[(i.den ρ).toNat]?=some (af (code.den ρ))[(i.den ρ).toNat]:=kg hlt
  generalize (af (code.den ρ))[(i.den ρ).toNat]=row at hrow
  have c0:0<=cap.den ρ:=by
   rcases jX (cap.den ρ) 0 with h|h
   ·have:=(rr.rws b sh o code cap kind t' hbl (by omega)).1 h
    rw[this]at hlt;simp at hlt
   ·exact h
  have lu:∀w,Mem w0 ρ m bl w->cl sh row/\∀(x:Nat) (v:aF),(de sh row)[x]?=some v->w.cell? ⟨m b,(o.den ρ).toNat+(i.den ρ).toNat*a7+x,none⟩=some v:=λw hw=>by
   obtain⟨_,cells,iZ,fz,g1,⟨g2,g3⟩,_⟩:=(hw.rws b sh o code cap kind t' hbl (by omega)).2 c0
   refine⟨g3.1 _ (eh hrow),λx v hv=>?_⟩
   have:=g3.get hrow hv
   simp only[jW,g1,rR,qb,if_false]
   rw[c2];exact this
  have jx:=(lu uy rr).1
  cases nh:iF P t with
  |none=>exact aw.fail
  |some Br=>
   cases Br with
   |true=>
    cases hs:eW P t with
    |none=>exact aw.fail
    |some k=>
     simp only
     cases hk2:bB (j+k) sh.length with
     |false=>
      simp only[cond_false]
      split
      ·rename_i c _
       have hall:∀row∈af (code.den ρ),cl [c] row:=by
        obtain⟨_,cells,iZ,fz,g1,⟨g2,g3⟩,_⟩:=(rr.rws b [c] o code cap kind t' hbl (by omega)).2 c0
        exact g3.1
       refine(abe (nb:=bl.length) (m:=m) (q:=k) (i:=i) hall zE.1.2.1 hx.2.1.2).bind λaE n1 l hn ha ⟨g1,g2,g3⟩=>aw.pure ⟨g1,_,rfl,λw hw=>?_⟩
       have hl:=LP (P:=P) w ⟨m b,(o.den ρ).toNat+(i.den ρ).toNat*a7+0,none⟩ (l.map (A.den aE m)) λx v hj=>by
        rw[iy]
        rw[nE]at hj
        cases hq:l[x]? with
        |none=>simp[hq]at hj
        |some y=>
         simp only[hq,rO,aQ]at hj
         subst hj
         obtain⟨AO,r1,r2⟩:=g3 x y hq
         obtain⟨_,cells,iZ,fz,e1,⟨e2,bN⟩,_⟩:=(hw.rws b [c] o code cap kind t' hbl (by omega)).2 c0
         have:=bN.get r1 r2
         simp only[jW,e1,rR,qb,if_false]
         simp only[dv,fM]at c2 this
         rw[c2]
         rw[<-this];congr 1;omega
       simp only[k8,g2,mv]at hl
       simp[oh,lO,A.den,loadVar,pt nh,im hs,hl,W.den]
      ·exact aw.fail
     |true=>
     simp only[cond_true]
     have hk2:=eC hk2
     refine(Nf (nb:=bl.length) (m:=m) (r:=(sh.drop j).take k) jx zE.1.2.1 hx.2.1.2 hrow (λx c Gv=>by
      rw[og]at Gv
      split at Gv
      ·rw[wv]at Gv;exact Gv
      ·cases Gv)).bind λaE n1 l hn ha ⟨g1,g2,g3⟩=>aw.pure ⟨g1,_,rfl,λw hw=>?_⟩
     have hl:=LP (P:=P) w ⟨m b,(o.den ρ).toNat+(i.den ρ).toNat*a7+j,none⟩ (l.map (A.den aE m)) λx v hj=>by
      rw[iy]
      rw[nE]at hj
      cases hq:l[x]? with
      |none=>simp[hq]at hj
      |some y=>
       simp only[hq,rO,aQ]at hj
       subst hj
       rw[Eo]
       exact(lu w hw).2 (j+x) _ (g3 x y hq)
     simp only[k8,g2,m8,List.length_drop,yq (show k<=sh.length-j by omega)]at hl
     simp[oh,lO,A.den,loadVar,pt nh,im hs,hl,W.den]
   |false=>
    cases hc:sh[j]? with
    |none=>simp only;exact aw.fail
    |some c=>
     simp only
     obtain⟨z,h1,h2,h3,h4⟩:=jx.get hc
     refine(Nb (nb:=bl.length) (m:=m) hrow h1 h2 h3).bind λaE n1 y hn ha ⟨g1,g2⟩=>aw.pure ⟨g1,_,rfl,λw hw=>?_⟩
     have:=(lu w hw).2 j _ h4
     have PJ:(A.ep b a7 o i j).den ρ m= .pointer (some ⟨m b,(o.den ρ).toNat+(i.den ρ).toNat*a7+j,none⟩):=rfl
     simp[oh,lO,PJ,loadVar,pt nh,this,W.den,g2]
 ·exact aw.fail
theorem p4 {b a7:Nat} {o ro len cap:aa} (hx:(A.sl b a7 o ro len cap).ok n bl.length ρ):∃p,(A.sl b a7 o ro len cap).den ρ m= .slice p (len.den ρ).toNat (if cap.den ρ<0 then 0 else(cap.den ρ).toNat)/\(cap.den ρ<0->p=none)/\(0<=cap.den ρ->p=some ⟨m b,(o.den ρ).toNat+(ro.den ρ).toNat*a7,none⟩):=by
 obtain⟨_,_,_,_,h3,_⟩:=hx
 simp only[A.den]
 by_cases hc:cap.den ρ<0
 ·rw[if_pos hc,if_pos hc,h3 hc]
  exact⟨none,rfl,λ_=>rfl,λh=>by omega⟩
 ·rw[if_neg hc,if_neg hc]
  exact⟨_,rfl,λh=>absurd h hc,λ_=>rfl⟩
theorem auC {t:aX} {b a7:Nat} {o ro len cap aU:aa} {k:dp} (hx:(A.sl b a7 o ro len cap).ok n bl.length ρ) (hi:aU.bk n):
 aw S L (RY P t b a7 o ro len aU) n ρ (lf w0 m bl n ρ λw=>(rS t ((A.sl b a7 o ro len cap).den ρ m) (.int k (aU.den ρ))).run P w):=by
 unfold RY
 cases h1:hU P t with
 |none=>exact aw.fail
 |some e=>
  cases h2:eW P e with
  |none=>simp only[h2];exact aw.fail
  |some s=>
   simp only[h2]
   refine dV λhs=>gM λhk=>aw.pure ?_
   have hs:=bG hs
   subst hs
   simp only[cI,eo,ab]at hk
   obtain⟨x1,⟨x2,gF,gq,gG⟩,⟨gV,ka,lH,lI⟩,mq,fQ,hV⟩:=hx
   have c0:¬(cap.den ρ<0):=λh=>by have:=fQ h;omega
   refine⟨⟨x1,⟨x2,aa.um gF hi⟩,gV,by rw[aa.den_add];omega⟩,_,rfl,λw _=>?_⟩
   have c2:aU.den ρ<((len.den ρ).toNat:Int):=by omega
   have e1:(ro.den ρ+aU.den ρ).toNat=(ro.den ρ).toNat+(aU.den ρ).toNat:=by omega
   simp only[A.den,if_neg c0,W.den,aa.den_add,e1]
   simp[-aAm,rS,asIntOf,eH (gg h1),hk.1,c2,im h2,iy,s8,Eo]
theorem MV {d:aa} {y:Option om} {l:aa} (h:wO tm d y=some l) (ht:dX n bl.length ρ m tm a.tmps):(y=none/\l=d)∨∃k,y.map a.eval=some (.int k (l.den ρ))/\l.bk n:=by
 cases y with
 |none=>exact .inl ⟨rfl,by simpa [wO]using h.symm⟩
 |some x=>
  obtain⟨k,hk,h2⟩:=zS (m:=m) (bl:=bl) h (cC ht x).2 (cC ht x).1
  exact .inr ⟨k,by rw[<-hk];rfl,h2⟩
theorem Iu {op:Nat} {ls:List aa} (h:ab op (ls.map (·.den ρ))):aw S L (Bt op ls) n ρ λah n' _=>ah=ρ/\n'=n:=λA k hk=>⟨ρ,n,(),br _,agree.refl _ _,⟨rfl,rfl⟩,hk h⟩
theorem auF {t:aX} {b a7:Nat} {o ro len cap p q:aa} {lo hi:Option om} (hx:(A.sl b a7 o ro len cap).ok n bl.length ρ) (ht:dX n bl.length ρ m tm a.tmps) (hp:wO tm (.const 0) lo=some p) (hq:wO tm len hi=some q):
 aw S L (R1 P t b a7 o ro len cap p q) n ρ (lf w0 m bl n ρ λw=>(q0 t ((A.sl b a7 o ro len cap).den ρ m) (lo.map a.eval) (hi.map a.eval) none).run P w):=by
 unfold R1
 cases h1:hU P t with
 |none=>exact aw.fail
 |some e=>
  cases h2:eW P e with
  |none=>simp only[h2];exact aw.fail
  |some s=>
   simp only[h2]
   refine dV λhs=>gM λhk=>?_
   have hs:=bG hs
   subst hs
   simp only[cI,eo,ab]at hk
   obtain⟨k1,k2,k3⟩:=hk
   have iS:=hx
   obtain⟨x1,⟨x2,gF,gq,gG⟩,⟨gV,ka,lH,lI⟩,⟨mq,kT⟩,fQ,hV⟩:=hx
   have hsp:=MV hp ht
   have JR:=MV hq ht
   have AR:p.bk n:=by rcases hsp with⟨_,rfl⟩|⟨_,_,h⟩;exact aa.cT _ _;exact h
   have DD:q.bk n:=by rcases JR with⟨_,rfl⟩|⟨_,_,h⟩;exact gq;exact h
   obtain⟨ptr,e1,e2,bN⟩:=p4 (m:=m) iS
   have o8:∀w,(k9 true (len.den ρ).toNat (if cap.den ρ<0 then 0 else(cap.den ρ).toNat) (lo.map a.eval) (hi.map a.eval) none).run P w= .ok ((p.den ρ).toNat,(q.den ρ).toNat,(if cap.den ρ<0 then 0 else(cap.den ρ).toNat)) w:=λw=>by
    have hle:(len.den ρ)<=((if cap.den ρ<0 then 0 else(cap.den ρ).toNat:Nat):Int):=by
     split
     ·rename_i h;rw[fQ h];simp
     ·rename_i h;have:=hV (by omega);omega
    generalize (if cap.den ρ<0 then 0 else(cap.den ρ).toNat)=C at hle
    rcases hsp with⟨rfl,rfl⟩|⟨Kc,xj,_⟩<;>rcases JR with⟨rfl,rfl⟩|⟨anh,hq',_⟩
    ·simp[k9,aa.aW]
    ·rw[hq'];simp[k9,aa.aW,qR (P:=P) (by omega:0<=q.den ρ) (by omega:q.den ρ<=(C:Int))]
    ·rw[xj];simp[k9,qR (P:=P) (y:=(q.den ρ).toNat) k1 (by omega)]
    ·rw[xj,hq'];simp[k9,qR (P:=P) (by omega:0<=q.den ρ) (by omega:q.den ρ<=(C:Int)),qR (P:=P) (y:=(q.den ρ).toNat) k1 (by omega)]
   have hL:∀(w:ar) (r:Int),r=(if p.den ρ=cap.den ρ then ro.den ρ else ro.den ρ+p.den ρ)->
    (q0 t ((A.sl b s o ro len cap).den ρ m) (lo.map a.eval) (hi.map a.eval) none).run P w= .ok (if cap.den ρ-p.den ρ<0 then .slice none 0 0 else .slice (some ⟨m b,(o.den ρ).toNat+r.toNat*s,none⟩) (q.den ρ-p.den ρ).toNat (cap.den ρ-p.den ρ).toNat) w:=λw r hr=>by
    rw[e1]
    have fi:(q.den ρ).toNat-(p.den ρ).toNat=(q.den ρ-p.den ρ).toNat:=by omega
    simp only[q0,gY,eH (gg h1),gH,Tf,o8 w,im h2,iw,fi]
    by_cases hc:cap.den ρ<0
    ·have hl:=fQ hc
     have Ge:p.den ρ=0:=by omega
     rw[if_pos hc,e2 hc,if_pos (by omega)]
     have:q.den ρ=0:=by omega
     simp[Ge,this,hc]
    ·rw[if_neg hc,bN (by omega)]
     have dw:=hV (by omega)
     have X5:¬(cap.den ρ-p.den ρ<0):=by omega
     rw[if_neg X5]
     have o5:(cap.den ρ).toNat-(p.den ρ).toNat=(cap.den ρ-p.den ρ).toNat:=by omega
     rw[o5]
     by_cases Gf:p.den ρ=cap.den ρ
     ·rw[if_pos Gf]at hr
      have h7:(cap.den ρ).toNat=(p.den ρ).toNat:=by omega
      rw[if_pos h7,hr]
     ·rw[if_neg Gf]at hr
      have h7:¬(cap.den ρ).toNat=(p.den ρ).toNat:=by omega
      rw[if_neg h7,hr]
      have jh:(ro.den ρ+p.den ρ).toNat=(ro.den ρ).toNat+(p.den ρ).toNat:=by omega
      rw[jh,s8,<-Eo]
      simp[iy]
   split
   ·rename_i h0
    have Ge:=aa.ia h0 (ρ:=ρ)
    refine aw.pure ⟨⟨x1,⟨x2,gF,DD,gG⟩,⟨gV,ka,by omega,by omega⟩,⟨mq,kT⟩,λh=>?_,λh=>?_⟩,_,rfl,λw _=>?_⟩
    ·have:=fQ h;omega
    ·have:=hV h;omega
    ·have hr:=hL w (ro.den ρ) (by rw[Ge];split<;>omega)
     rw[Ge]at hr
     simp only[Int.sub_zero]at hr
     simp only[W.den,A.den]at hr⊢
     exact hr
   ·have hb1:(0:Int)<=au 33 ([ro,p,cap].map (·.den ρ)):=by
     simp only[cI,eo,au];split<;>omega
    have hb2:au 33 ([ro,p,cap].map (·.den ρ))<=9223372036854775808:=by
     simp only[cI,eo,au]
     by_cases hc:cap.den ρ<0
     ·have:=fQ hc;split<;>omega
     ·have:=hV (by omega);split<;>omega
    refine(Iu (op:=68) (ls:=[len,cap]) (show len.den ρ<=cap.den ρ∨len.den ρ=0 from by
     by_cases hc:cap.den ρ<0
     ·exact .inr (fQ hc)
     ·exact .inl (hV (by omega)))).bind λb8 n0 _ _ _ ⟨zM,nT⟩=>?_
    have zM:=zM.symm;have nT:=nT.symm
    subst zM;subst nT
    refine(fT hb1 hb2).bind λaE n1 r hn ha ⟨g1,g2⟩=>aw.pure ?_
    simp only[cI,eo,au]at g2
    have a1:=aa.bR ha x2;have a2:=aa.bR ha DD;have a3:=aa.bR ha AR;have a4:=aa.bR ha gG
    refine⟨⟨x1,⟨x2.mono hn,g1,aa.ya (DD.mono hn) (AR.mono hn),aa.ya (gG.mono hn) (AR.mono hn)⟩,?_⟩,_,rfl,λw _=>?_⟩
    ·rw[aa.mA,aa.mA,a1,a2,a3,a4,g2]
     refine⟨⟨gV,?_,by omega,by omega⟩,⟨?_,?_⟩,λh=>?_,λh=>?_⟩
     ·split<;>omega
     ·by_cases hc:cap.den ρ<0
      ·have:=fQ hc;omega
      ·have:=hV (by omega);omega
     ·split<;>omega
     ·by_cases hc:cap.den ρ<0
      ·have:=fQ hc;omega
      ·have:=hV (by omega);omega
     ·by_cases hc:cap.den ρ<0
      ·have:=fQ hc;omega
      ·have:=hV (by omega);omega
    ·refine(hL w (r.den aE) g2).trans ?_
     simp only[W.den,A.den,aa.mA,a1,a2,a3,a4]
theorem auD (hb:cK n bl.length ρ bl) (hex:∃w,Mem w0 ρ m bl w) {src dst e:aX} (hs:P.underlying src=some (.slice e)) (he:P.underlying e=some (.int .u8)) (hd:P.underlying dst=some .string) {b a7:Nat} {o ro len cap:aa} (hx:(A.sl b a7 o ro len cap).ok n bl.length ρ):
 aw S L (R0 bl b a7 o ro len) n ρ (lf w0 m bl n ρ λw=>(convert src dst ((A.sl b a7 o ro len cap).den ρ m)).run P w):=by
 obtain⟨uy,rr⟩:=hex
 unfold R0
 split
 ·rename_i sh off code gL kind t' hbl
  refine dV λhc=>gM λhk=>?_
  simp only[aS]at hc
  obtain⟨⟨⟨c1,c2⟩,c3⟩,c4⟩:=hc
  have c1:0<kind:=eC c1
  have c2:=bG c2
  have c3:=aa.beq_eq c3
  subst c3;subst c2
  simp only[cI,eo,ab,aa.den_add]at hk
  obtain⟨ptr,e1,e2,bN⟩:=p4 (m:=m) hx
  obtain⟨x1,⟨x2,gF,gq,gG⟩,⟨gV,ka,lH,lI⟩,⟨mq,kT⟩,fQ,hV⟩:=hx
  generalize hR:af (code.den ρ)=rows at hk
  have nk:gL.den ρ<0->rows=[]:=λh=>by rw[<-hR];exact(rr.rws b sh o code gL kind t' hbl (by omega)).1 h
  have fk:(((rows.drop (ro.den ρ).toNat).take (len.den ρ).toNat).map λrow=>row.getD 0 0).length=(len.den ρ).toNat:=by
   simp;omega
  have hf:au 34 ([code,ro,ro.add len].map (·.den ρ))=ev ((((rows.drop (ro.den ρ).toNat).take (len.den ρ).toNat).map λrow=>row.getD 0 0).map λz=>mu z.toNat):=by
   simp only[cI,eo,au,aa.den_add,hR]
   have:(ro.den ρ+len.den ρ).toNat-(ro.den ρ).toNat=(len.den ρ).toNat:=by omega
   rw[this,k7];rfl
  generalize bP:(((rows.drop (ro.den ρ).toNat).take (len.den ρ).toNat).map λrow=>row.getD 0 0)=xs at fk hf
  have hl:(xs.map λz=>mu z.toNat).length<=gk:=by
   have:(xs.map λz=>mu z.toNat).length=(len.den ρ).toNat:=by simp[fk]
   unfold gk;omega
  refine(fT (by rw[hf];exact ra _) (by rw[hf];exact oW hl)).bind λaE n1 l _ _ ⟨g1,g2⟩=>aw.pure ⟨⟨g1,by rw[g2,hf];exact ra _,by rw[g2,hf];exact oW hl⟩,_,rfl,λw hw=>?_⟩
  have mI:(W.one (A.str l)).den aE m= .string (strOfNums xs):=by
   simp only[W.den,A.den,g2,hf,fm]
   rfl
  rw[mI]
  show(convert src dst ((A.sl b 1 o ro len cap).den ρ m)).run P w=_
  rw[e1]
  by_cases c0:cap.den ρ<0
  ·have hl0:=fQ c0
   rw[e2 c0,if_pos c0]
   have Y0:xs=[]:=uL (by rw[fk,hl0];rfl)
   rw[Y0,run_convert_bytes_nil w src e hs he _ _ dst hd]
   rfl
  ·rw[bN (by omega),if_neg c0]
   by_cases FI:gL.den ρ<0
   ·have pc:=nk FI
    have hl0:len.den ρ=0:=by rw[pc]at hk;simp at hk;omega
    have Y0:xs=[]:=uL (by rw[fk,hl0];rfl)
    exact run_convert_bytes_arg w src e hs he (m b) _ _ _ xs fk (λi hi=>by rw[hl0]at hi;simp at hi) dst hd
   ·obtain⟨_,cells,iZ,fz,k1,⟨k2,k3⟩,_⟩:=(hw.rws b sh o code gL kind t' hbl (by omega)).2 (by omega)
    refine run_convert_bytes_arg w src e hs he (m b) _ _ _ xs fk (λi hi=>?_) dst hd
    have hlt:(ro.den ρ).toNat+i<rows.length:=by omega
    have hrow:(af (code.den ρ))[(ro.den ρ).toNat+i]?=some rows[(ro.den ρ).toNat+i]:=by rw[hR];exact kg hlt
    have ig:∃lo hi,sh=[.int .u8 lo hi]:=by
     unfold IF at c4
     split at c4
     ·exact⟨_,_,rfl⟩
     ·cases c4
    obtain⟨lo,cX,rfl⟩:=ig
    have zE:=k3.1 _ (eh hrow)
    obtain⟨z,bq,_,_,dm⟩:=zE.get (j:=0) (c:= .int .u8 lo cX) rfl
    have:=k3.get hrow dm
    have hz:xs.getD i 0=z:=by
     rw[<-bP]
     have:i<(len.den ρ).toNat:=hi
     simp[ae,og,this,hlt,bq]
    simp only[jW,k1,rR,qb,if_false,hz]
    simp only[dv,fM,mv,pB,Eg]at this
    rw[show(o.den ρ).toNat+(ro.den ρ).toNat*1+i=(o.den ρ).toNat+((ro.den ρ).toNat+i) by omega]
    exact this
 ·exact aw.fail
theorem ape {k:dp} {x y:bF} {t:aX} {ts:Array aX} (hx:x.ok n ρ) (hy:y.ok n ρ):aw S L (ZU k x y) n ρ (lf w0 m bl n ρ λw=>(Tn ts t #[.int k (x.l.den ρ),.int k (y.l.den ρ)]).run P w):=by
 have e:=bd.IY hy hx
 have hr:∀w,(Tn ts t #[.int k (x.l.den ρ),.int k (y.l.den ρ)]).run P w= .ok (.int k (if y.l.den ρ<x.l.den ρ then y.l.den ρ else x.l.den ρ)) w:=λw=>by
  simp[Tn,Builtin.min2]
 refine VZ (λhb=>aw.pure ⟨hy,_,rfl,λw _=>?_⟩) λhb=>aw.pure ⟨hx,_,rfl,λw _=>?_⟩
 ·rw[e.1]at hb
  simp only[hr,if_pos (of_decide_eq_true hb)];rfl
 ·rw[e.1]at hb
  simp only[hr,if_neg (of_decide_eq_false hb)];rfl
theorem apc {k:dp} {x y:bF} {t:aX} {ts:Array aX} (hx:x.ok n ρ) (hy:y.ok n ρ):aw S L (ZR k x y) n ρ (lf w0 m bl n ρ λw=>(To ts t #[.int k (x.l.den ρ),.int k (y.l.den ρ)]).run P w):=by
 have e:=bd.IY hx hy
 have hr:∀w,(To ts t #[.int k (x.l.den ρ),.int k (y.l.den ρ)]).run P w= .ok (.int k (if x.l.den ρ<y.l.den ρ then y.l.den ρ else x.l.den ρ)) w:=λw=>by
  simp[To,Builtin.max2]
 refine VZ (λhb=>aw.pure ⟨hy,_,rfl,λw _=>?_⟩) λhb=>aw.pure ⟨hx,_,rfl,λw _=>?_⟩
 ·rw[e.1]at hb
  simp only[hr,if_pos (of_decide_eq_true hb)];rfl
 ·rw[e.1]at hb
  simp only[hr,if_neg (of_decide_eq_false hb)];rfl
theorem VX:∀{cs:List A} {l:List Bool},na cs=some l->cs=l.map λb=>A.bool (.lit b)
 |[],l,h=>by simp[na]at h;subst h;rfl
 | .bool (.lit b)::r,l,h=>by
  simp only[na]at h
  cases hr:na r with
  |none=>simp[hr]at h
  |some bQ=>
   simp only[hr,aQ]at h
   subst h
   simp[VX hr]
 | .bool (.eq ..)::_,_,h| .bool (.lt ..)::_,_,h| .bool (.le ..)::_,_,h| .bool (.not ..)::_,_,h| .bool (.and ..)::_,_,h| .bool (.iff ..)::_,_,h=>by simp[na]at h
 | .int .. ::_,_,h=>by simp[na]at h
 | .ptr .. ::_,_,h=>by simp[na]at h
 | .mU .. ::_,_,h=>by simp[na]at h
 | .gptr .. ::_,_,h=>by simp[na]at h
 | .slc .. ::_,_,h=>by simp[na]at h
 | .con _::_,_,h=>by simp[na]at h
 | .str _::_,_,h=>by simp[na]at h
 | .rows .. ::_,_,h=>by simp[na]at h
 | .sl .. ::_,_,h=>by simp[na]at h
 | .ep .. ::_,_,h=>by simp[na]at h
theorem Y5:∀(l:List Bool) (s:Nat),s+l.length<=256->∀i:Nat,i<256->(mu i∈vn s l↔s<=i/\l[i-s]?=some true)
 |[],s,_,i,_=>by simp[vn]
 |b::r,s,h,i,hi=>by
  simp only[dv]at h
  have ih:=Y5 r (s+1) (by omega) i hi
  have hne:s≠i->mu i≠mu s:=λhne he=>by
   have:=congrArg UInt8.toNat he
   simp at this;omega
  have key:(s+1<=i/\r[i-(s+1)]?=some true)↔(s<i/\(b::r)[i-s]?=some true):=by
   constructor
   ·rintro⟨h1,h2⟩
    refine⟨h1,?_⟩
    rw[show i-s=(i-(s+1))+1 by omega];simpa using h2
   ·rintro⟨h1,h2⟩
    refine⟨h1,?_⟩
    rw[show i-s=(i-(s+1))+1 by omega]at h2;simpa using h2
  unfold vn
  cases b with
  |true=>
   simp only[cond_true,oT,ih,key]
   by_cases he:s=i
   ·subst he;simp
   ·constructor
    ·rintro(h1|h1)
     ·exact absurd h1 (hne he)
     ·exact⟨by omega,h1.2⟩
    ·rintro⟨h1,h2⟩;exact .inr ⟨by omega,h2⟩
  |false=>
   simp only[cond_false,ih,key]
   by_cases he:s=i
   ·subst he;simp
   ·constructor
    ·rintro⟨h1,h2⟩;exact⟨by omega,h2⟩
    ·rintro⟨h1,h2⟩;exact⟨by omega,h2⟩
theorem auo (hb:cK n bl.length ρ bl) {ty:aX} (hu:P.underlying ty=some .bool) (b off:Nat) {aU:bF} (F1:aU.ok n ρ):aw S L (RQ bl b off aU) n ρ (lf w0 m bl n ρ λw=>(oh ty ((A.mU b off aU).den ρ m)).run P w):=by
 unfold RQ
 cases hbl:bl[b]? with
 |none=>exact aw.fail
 |some q=>
  obtain⟨cs,t⟩:=q
  simp only
  cases hi:na ((cs.drop off).take (aU.hi.toNat+1))with
  |none=>exact aw.fail
  |some l=>
   refine dV λhc=>?_
   simp only[aS,decide_eq_true_eq]at hc
   obtain⟨⟨⟨hc1,hc2⟩,aCh⟩,hq⟩:=hc
   have hlen:=bG hc1
   have Fj:=eC hc2
   have e:=VX hi
   have BC:=F1.2
   have hlt:(aU.l.den ρ).toNat<l.length:=by omega
   have gP:ev (vn 0 l)=(aa.const (ev (vn 0 l))).den ρ:=(aa.aW _ _).symm
   have hf:au 43 ([aa.const (ev (vn 0 l)),aU.l].map (·.den ρ))=if l[(aU.l.den ρ).toNat]=true then 1 else 0:=by
    simp only[cI,eo,au,aa.aW,fm]
    have:=Y5 l 0 (by omega) (aU.l.den ρ).toNat (by omega)
    simp only[Nat.sub_zero,gX,true_and,kg hlt,aQ]at this
    simp only[this]
   have b1:=EK (l[(aU.l.den ρ).toNat]=true)
   refine(fT (by rw[hf];exact b1.1) (by rw[hf];exact b1.2)).bind λaE n1 r hn ha ⟨g1,g2⟩=>?_
   rw[hf]at g2
   have e2:=bd.rb (n:=n1) (ρ:=aE) (a:=⟨r,0,1⟩) (b:= .const 1) ⟨g1,by simp only[g2];exact b1.1,by simp only[g2];exact b1.2⟩ (bF.nd _ _ _)
   refine aw.pure ⟨e2.2,_,rfl,λw hw=>?_⟩
   obtain⟨_,_,AQ,_,h2⟩:=hw.eR b cs t hbl hq
   have hcs:cs[off+(aU.l.den ρ).toNat]?=some (.bool (.lit l[(aU.l.den ρ).toNat])):=by
    have h1:((cs.drop off).take (aU.hi.toNat+1))[(aU.l.den ρ).toNat]?=some (.bool (.lit l[(aU.l.den ρ).toNat])):=by rw[e];simp[hlt]
    rw[og]at h1
    split at h1
    ·rw[wv]at h1;exact h1
    ·cases h1
   have akn:=(List.getElem?_eq_some_iff.1 hcs).1
   have hcell:w.cell? ⟨m b,off+(aU.l.den ρ).toNat,none⟩=some (.bool l[(aU.l.den ρ).toNat]):=by
    simp only[jW,h2,rR,qb,if_false,HK]
    rw[s0 (by simpa using akn),nE,hcs];rfl
   have nh:iF P ty=some false:=by unfold iF;rw[hu]
   have PJ:(A.mU b off aU).den ρ m= .pointer (some ⟨m b,off+(aU.l.den ρ).toNat,none⟩):=rfl
   simp only[W.den,A.den]
   rw[e2.1]
   simp only[g2,bF.const,aa.aW]
   have akg:decide ((if l[(aU.l.den ρ).toNat]=true then(1:Int)else 0)=1)=l[(aU.l.den ρ).toNat]:=by
    cases l[(aU.l.den ρ).toNat]<;>rfl
   rw[akg]
   have alz:=PJ
   simp only[A.den]at alz
   simp[oh,lO,loadVar,pt nh,hcell]
theorem aub (w:ar) {t e:aX} (hu:P.underlying t=some (.slice e)) (p:Option Addr) (l c:Nat):(binOp .eql t (.slice p l c) (.slice none 0 0)).run P w= .ok (.bool p.isNone) w:=by
 have h:binOp .eql t (.slice p l c) (.slice none 0 0)=(do pure (.bool (<-Op.equal t (.slice p l c) (.slice none 0 0)))):=rfl
 rw[h]
 simp only[gY,run_equal_slice_nil w t e p l c hu,gH,iw]
theorem aue (w:ar) {t e:aX} (hu:P.underlying t=some (.slice e)) (p:Option Addr) (l c:Nat):(binOp .neq t (.slice p l c) (.slice none 0 0)).run P w= .ok (.bool !p.isNone) w:=by
 have h:binOp .neq t (.slice p l c) (.slice none 0 0)=(do pure (.bool (!(<-Op.equal t (.slice p l c) (.slice none 0 0))))):=rfl
 rw[h]
 simp only[gY,run_equal_slice_nil w t e p l c hu,gH,iw]
theorem VK {b off:Nat} {sh:List aB} {code:aa} {c:Nat} (h:It bl b off=some (sh,code,c)):off=0/\∃cap kind t,bl[b]?=some ([.rows sh (.const 0) code cap kind],t)/\0<kind/\∀ρ,cap.den ρ=(c:Int):=by
 unfold It at h
 split at h
 ·rename_i eK o code' cap kind t hbl
  split at h
  ·rename_i q hq
   cases hc:(aG off 0&&cf 0 kind&&aa.beq o (.const 0)&&decide (0<=q))with
   |false=>rw[hc]at h;cases h
   |true=>
    rw[hc]at h
    simp only[cond_true,aQ,cA]at h
    obtain⟨rfl,rfl,rfl⟩:=h
    simp only[aS,decide_eq_true_eq]at hc
    obtain⟨⟨⟨c1,c2⟩,c3⟩,c4⟩:=hc
    have c3:=aa.beq_eq c3
    subst c3
    exact⟨bG c1,cap,kind,t,hbl,eC c2,λρ=>by rw[aa.ia hq];omega⟩
  ·cases h
 ·cases h
theorem VF {nb:Nat} {sh:List aB}:∀{k i:Nat} {n:Nat} {ρ:Env} {code:aa},code.bk n->(∀row∈af (code.den ρ),cl sh row)->(af (code.den ρ)).length=i+k->
 aw S L (Ip code sh i k) n ρ λah n' l=>(∀a∈l,A.ok n' nb ah a)/\l.length=k*sh.length/\∀(x:Nat) (a:A),l[x]?=some a->(bf sh (af (code.den ρ)))[i*sh.length+x]?=some (a.den ah m)
 |0,i,n,ρ,code,_,_,_=>aw.pure ⟨λ_ h=>by simp at h,by simp,λx a h=>by simp at h⟩
 |k+1,i,n,ρ,code,hs,jx,hl=>by
  unfold Ip
  have hlt:i<(af (code.den ρ)).length:=by omega
  have hrow:(af (code.den ρ))[i]?=some (af (code.den ρ))[i]:=kg hlt
  generalize (af (code.den ρ))[i]=row at hrow
  refine(Nf (nb:=nb) (m:=m) (r:=sh) (j:=0) (i:= .const (i:Nat)) (code:=code) (jx row (eh hrow)) hs (aa.cT _ _) (by rw[aa.aW,gu];exact hrow) (λx c hx=>by rw[pB];exact hx)).bind λaE n1 l1 fq dP ⟨g1,g2,g3⟩=>?_
  have e1:code.den aE=code.den ρ:=aa.bR dP hs
  refine(VF (nb:=nb) (k:=k) (i:=i+1) (code:=code) (hs.mono fq) (by rw[e1];exact jx) (by rw[e1];omega)).bind λbT en l2 eN dD ⟨k1,k2,k3⟩=>aw.pure ⟨λa ha=>?_,by rw[dN,g2,k2,s6];omega,λx a hx=>?_⟩
  ·rcases List.mem_append.1 ha with ha|ha
   ·exact(g1 a ha).ext dD eN (br _)
   ·exact k1 a ha
  ·rw[List.getElem?_append]at hx
   split at hx
   ·rename_i hlt
    have:=g3 x a hx
    rw[pB]at this
    rw[A.ki (g1 a (eh hx)) dD (λ_ _=>rfl)]
    exact N0 jx hrow this
   ·rename_i ec
    have:=k3 (x-l1.length) a hx
    rw[e1,g2]at this
    rw[g2]at ec
    rw[show i*sh.length+x=(i+1)*sh.length+(x-sh.length) by rw[s6];omega]
    exact this
theorem afL {α:Type} {p q r len cap:aa} {f:Unit->M α} {R:Env->Nat->α->Prop} (cH:cap.den ρ<0->len.den ρ=0) (dw:0<=cap.den ρ->len.den ρ<=cap.den ρ) (h:(0<=p.den ρ/\p.den ρ<=q.den ρ/\q.den ρ<=r.den ρ/\r.den ρ<=cap.den ρ)->aw S L (f ()) n ρ R):
 aw S L (bind (cond (aa.beq r len) (fy 78 [p,q,r,cap]) (fy 64 [p,q,r,len])) f) n ρ R:=by
 cases aa.beq r len with
 |true=>exact gM λhk=>h hk
 |false=>
  refine gM λhk=>h ?_
  have hk:0<=p.den ρ/\p.den ρ<=q.den ρ/\q.den ρ<=r.den ρ/\r.den ρ<=len.den ρ/\0<len.den ρ:=hk
  have hc:0<=cap.den ρ:=by
   rcases jX (cap.den ρ) 0 with h|h
   ·have:=cH h;omega
   ·exact h
  have:=dw hc
  omega
theorem auE {t:aX} {b a7:Nat} {o ro len cap p q r:aa} {lo:Option om} {hi dR:om} (hx:(A.sl b a7 o ro len cap).ok n bl.length ρ) (ht:dX n bl.length ρ m tm a.tmps) (hp:wO tm (.const 0) lo=some p) (hq:pe (cg tm hi)=some q) (hr:pe (cg tm dR)=some r):
 aw S L (R2 P t b a7 o ro len cap p q r) n ρ (lf w0 m bl n ρ λw=>(q0 t ((A.sl b a7 o ro len cap).den ρ m) (lo.map a.eval) (some (a.eval hi)) (some (a.eval dR))).run P w):=by
 unfold R2
 cases h1:hU P t with
 |none=>exact aw.fail
 |some e=>
  cases h2:eW P e with
  |none=>simp only[h2];exact aw.fail
  |some s=>
   simp only[h2]
   refine dV λhs=>afL (λh=>hx.2.2.2.2.1 h) (λh=>hx.2.2.2.2.2 h) λhk=>?_
   have hs:=bG hs
   subst hs
   obtain⟨k1,k2,k3,k4⟩:=hk
   have iS:=hx
   obtain⟨x1,⟨x2,gF,gq,gG⟩,⟨gV,ka,lH,lI⟩,⟨mq,kT⟩,fQ,hV⟩:=hx
   have hsp:=MV hp ht
   have AR:p.bk n:=by rcases hsp with⟨_,rfl⟩|⟨_,_,h⟩;exact aa.cT _ _;exact h
   obtain⟨anh,hq',DD⟩:=zS (m:=m) (bl:=bl) hq (cC ht hi).2 (cC ht hi).1
   obtain⟨aCI,iE,abw⟩:=zS (m:=m) (bl:=bl) hr (cC ht dR).2 (cC ht dR).1
   obtain⟨ptr,e1,e2,bN⟩:=p4 (m:=m) iS
   have hc:¬(cap.den ρ<0):=by omega
   have dw:=hV (by omega)
   have BL:=e1
   rw[if_neg hc,bN (by omega)]at BL
   have hf:au 33 ([ro,p,r].map (·.den ρ))=(if p.den ρ=r.den ρ then ro.den ρ else ro.den ρ+p.den ρ):=rfl
   refine(fT (by rw[hf];split<;>omega) (by rw[hf];split<;>omega)).bind λaE n1 AQ hn ha ⟨g1,g2⟩=>aw.pure ?_
   rw[hf]at g2
   have a1:=aa.bR ha x2;have a2:=aa.bR ha DD;have a3:=aa.bR ha AR;have a4:=aa.bR ha abw
   refine⟨⟨x1,⟨x2.mono hn,g1,aa.ya (DD.mono hn) (AR.mono hn),aa.ya (abw.mono hn) (AR.mono hn)⟩,?_⟩,_,rfl,λw _=>?_⟩
   ·rw[aa.mA,aa.mA,a1,a2,a3,a4,g2]
    refine⟨⟨gV,?_,by omega,by omega⟩,⟨by omega,?_⟩,λh=>by omega,λh=>by omega⟩
    ·split<;>omega
    ·split<;>omega
   ·rw[BL]
    have o8:(k9 true (len.den ρ).toNat (cap.den ρ).toNat (lo.map a.eval) (some (a.eval hi)) (some (a.eval dR))).run P w= .ok ((p.den ρ).toNat,(q.den ρ).toNat,(r.den ρ).toNat) w:=by
     rw[hq',iE]
     rcases hsp with⟨rfl,rfl⟩|⟨Kc,xj,_⟩
     ·simp[k9,aa.aW,qR (P:=P) (y:=(cap.den ρ).toNat) (by omega:0<=r.den ρ) (by omega),qR (P:=P) (y:=(r.den ρ).toNat) (by omega:0<=q.den ρ) (by omega)]
     ·rw[xj]
      simp[k9,qR (P:=P) (y:=(cap.den ρ).toNat) (by omega:0<=r.den ρ) (by omega),qR (P:=P) (y:=(r.den ρ).toNat) (by omega:0<=q.den ρ) (by omega),qR (P:=P) (y:=(q.den ρ).toNat) k1 (by omega)]
    have fi:(q.den ρ).toNat-(p.den ρ).toNat=(q.den ρ-p.den ρ).toNat:=by omega
    have o5:(r.den ρ).toNat-(p.den ρ).toNat=(r.den ρ-p.den ρ).toNat:=by omega
    simp only[q0,gY,eH (gg h1),gH,Tf,o8,im h2,iw,fi,o5,W.den,A.den,aa.mA,a1,a2,a3,a4,g2]
    rw[if_neg (show ¬(r.den ρ-p.den ρ<0) by omega)]
    by_cases Gf:p.den ρ=r.den ρ
    ·rw[if_pos Gf,if_pos (by omega)]
    ·rw[if_neg Gf,if_neg (by omega)]
     have jh:(ro.den ρ+p.den ρ).toNat=(ro.den ρ).toNat+(p.den ρ).toNat:=by omega
     rw[jh,s8,<-Eo]
     simp[iy]
theorem atZ (hb:cK n bl.length ρ bl) (hex:∃w,Mem w0 ρ m bl w) (ht:dX n bl.length ρ m tm a.tmps) (o:Oper) {q:M V} (hq:K0 P bl tm o=some q):aw S L q n ρ (ld w0 m bl n ρ P o a):=by
 obtain⟨uy,rr⟩:=hex
 unfold K0 at hq
 split at hq
 ·rename_i t x aU h
  have hx:=cC ht x
  have hi:=cC ht aU
  split at hq
  ·rename_i b off k i hv zG
   rw[hv]at hx;rw[zG]at hi
   split at hq
   ·rename_i sh code c len e zi B7
    split at hq
    ·rename_i s hs
     cases hc:(aG s sh.length&&aG len c)with
     |false=>rw[hc]at hq;cases hq
     |true=>
      rw[hc]at hq
      simp only[cond_true,aQ]at hq
      subst hq
      simp only[aS]at hc
      have c2:=bG hc.2
      subst c2
      obtain⟨rfl,cap,kind,bY,hbl,hk,c0⟩:=VK zi
      refine gM λJD=>aw.pure ?_
      simp only[cI,eo,ab,aa.aW]at JD
      have db:a.eval x= .pointer (some ⟨m b,0,none⟩):=hx.2
      have Ph:a.eval aU= .int k (i.l.den ρ):=hi.2
      have Pj:bF.ok n ρ i:=hi.1
      have np:b<bl.length:=hx.1
      refine⟨⟨np,⟨aa.cT _ _,Pj.1⟩,by rw[aa.aW];omega,JD.1⟩,_,rfl,λw _=> .inl ?_⟩
      have c1:i.l.den ρ<((len:Nat):Int):=JD.2
      simp[execOp,h,db,Ph,rS,asIntOf,eH (r4 B7),lO,JD.1,c1,im hs,iy,W.den,A.den,aa.aW]
    ·cases hq
   ·cases hq
  ·cases hq
 ·rename_i t x h
  have hx:=cC ht x
  split at hq
  ·rename_i b off hv
   rw[hv]at hx
   split at hq
   ·rename_i sh code c k zi nh hs
    cases hc:(aG k (c*sh.length))with
    |false=>rw[hc]at hq;cases hq
    |true=>
     rw[hc]at hq
     simp only[cond_true,aQ]at hq
     subst hq
     have hc:=bG hc
     subst hc
     obtain⟨rfl,cap,kind,bY,hbl,hk,c0⟩:=VK zi
     refine gM λzw=>?_
     simp only[cI,eo,ab,aa.aW]at zw
     have e7:(A.rows sh (.const 0) code cap kind).ok n bl.length ρ:=hb _ (eh hbl) _ (by simp)
     have lu:∀w,Mem w0 ρ m bl w->∃cells t' fz,w.heap[m b]?=some (.cells cells t' fz)/\lg cells 0 sh (af (code.den ρ)):=λw hw=>by
      obtain⟨_,cells,iZ,fz,g1,⟨g2,g3⟩,_⟩:=(hw.rws b sh (.const 0) code cap kind bY hbl (by omega)).2 (by rw[c0];omega)
      rw[aa.aW]at g3
      exact⟨cells,iZ,fz,g1,g3⟩
     obtain⟨_,_,_,_,alJ⟩:=lu uy rr
     refine(VF (nb:=bl.length) (m:=m) (k:=c) (i:=0) e7.1.2.1 alJ.1 (by omega)).bind λaE n1 l hn ha ⟨g1,g2,g3⟩=>aw.pure ⟨g1,_,rfl,λw hw=> .inl ?_⟩
     obtain⟨cells,iZ,fz,bq,bE⟩:=lu w hw
     have hl:=LP (P:=P) w ⟨m b,0,none⟩ (l.map (A.den aE m)) λx v hj=>by
      rw[iy]
      rw[nE]at hj
      cases hq:l[x]? with
      |none=>simp[hq]at hj
      |some y=>
       simp only[hq,rO,aQ]at hj
       subst hj
       have h3:=g3 x y hq
       rw[Nat.zero_mul,pB]at h3
       simp only[jW,bq,rR,qb,if_false]
       obtain⟨_,pre,post,p1,bJ⟩:=bE
       have ie:pre=[]:=uL bJ
       subst ie
       have hlt:=(List.getElem?_eq_some_iff.1 h3).1
       rw[<-HO,p1,List.nil_append,s0 (by omega),pB]
       exact h3
     simp only[k8,g2]at hl
     have db:a.eval x= .pointer (some ⟨m b,0,none⟩):=hx.2
     simp[execOp,h,db,oh,lO,loadVar,pt nh,im hs,hl,W.den]
   ·cases hq
  ·cases hq
 ·rename_i t x lo hi dR h
  have hx:=cC ht x
  split at hq
  ·rename_i b a7 off ro len cap hv
   rw[hv]at hx
   have db:a.eval x=(A.sl b a7 off ro len cap).den ρ m:=hx.2
   have he:execOp a.eval o=(do pure (kx (<-q0 t ((A.sl b a7 off ro len cap).den ρ m) (lo.map a.eval) (some (a.eval hi)) (some (a.eval dR))))):=by simp only[execOp,h,db];rfl
   split at hq
   ·rename_i p q' r hp hq' hr
    cases hq
    exact(auE hx.1 ht hp hq' hr).mono λ_ _ _ _ _ hq=>ld.of_run he hq
   ·cases hq
  ·cases hq
 ·rename_i c h
  split at hq
  ·rename_i hc
   split at hq
   ·rename_i x t fk l8
    have hx:=cC ht x
    split at hq
    ·rename_i e hv hs
     cases hq
     rw[hv]at hx
     have db:a.eval x= .slice none 0 0:=hx.2
     have a1:c.args=#[x]:=by rw[<-jF (xs:=c.args),fk]
     have a2:c.argTypes=#[t]:=by rw[<-jF (xs:=c.argTypes),l8]
     refine aw.pure ⟨bF.nd _ _ _,_,rfl,λw _=> .inl ?_⟩
     simp[execOp,h,resolve,hc,a1,a2,db,invoke,builtin,El,eH (gg hs),goInt,W.den,A.den,bF.const,aa.aW]
    ·cases hq
   ·cases hq
  ·cases hq
 ·cases hq
theorem Rs {cal:eI} (cQ:fS S P gl w0 cal) (hb:cK n bl.length ρ bl) (hg:fg gl w0) (hex:∃w,Mem w0 ρ m bl w) (ht:dX n bl.length ρ m tm a.tmps) (o:Oper):
 aw S L (vR P cal gl bl tm o) n ρ (ld w0 m bl n ρ P o a):=by
 unfold vR
 cases hq:RG P bl tm o with
 |none=>
  simp only
  cases pT:K0 P bl tm o with
  |some q=>exact atZ hb hex ht o pT
  |none=>
  simp only
  cases hd:I0 cal bl tm o with
  |none=>exact ats cQ hb hg hex ht o
  |some q=>
   simp only
   unfold I0 at hd
   split at hd
   ·rename_i c ho
    split at hd
    ·rename_i x hc
     split at hd
     ·rename_i f I4 I5 hv
      cases hz:(aG I4.size 0&&aG I5.size 0)with
      |false=>rw[hz]at hd;cases hd
      |true=>
       rw[hz]at hd
       simp only[cond_true,Option.map_eq_some_iff]at hd
       obtain⟨g,O7,rfl⟩:=hd
       simp only[aS,Nat.beq_eq]at hz
       have aZ:I4=#[]:=wy hz.1
       have e1:I5=#[]:=wy hz.2
       subst aZ e1
       have hx:=cC ht (.tmp x)
       rw[hv]at hx
       have db:a.eval (.tmp x)= .func (.func f) #[] #[]:=hx.2
       have oC:∀v∈c.args.toList.map (cg tm),V.ok n bl.length ρ v:=λv hv=>by
        obtain⟨x,_,rfl⟩:=List.mem_map.1 hv
        exact(cC ht x).1
       have he:execOp a.eval o=callFunc f (c.args.map a.eval):=by
        simp only[execOp,ho,resolve,hc,db,acN]
        simp[invoke,bind_pure_comp]
       refine(cQ f g O7 L n ρ m bl _ _ hb hex oC (Ic (xs:=c.args.toList) ht)).mono λaE n1 v _ _ ⟨bq,val,bE,b5⟩=>⟨bq,val,bE,λw hw=>?_⟩
       have ha:(c.args.toList.map a.eval).toArray=c.args.map a.eval:=by
        rw[<-s7]
       have dm:=b5 w hw
       rw[ha]at dm
       rcases dm with dm|⟨dm,ik⟩
       ·exact .inl (by rw[he];exact dm)
       ·exact .inr ⟨f,_,by rw[he];exact dm,ik⟩
     ·cases hd
    ·cases hd
   ·cases hd
 |some q=>
  simp only
  unfold RG at hq
  split at hq
  case h_1 t x h=>
   have hx:=cC ht x
   split at hq
   ·rename_i b a7 off i j hv
    cases hq
    rw[hv]at hx
    have db:a.eval x=(A.ep b a7 off i j).den ρ m:=hx.2
    have he:execOp a.eval o=(do pure (kx (<-oh t ((A.ep b a7 off i j).den ρ m)))):=by simp only[execOp,h,db]
    exact(agx hb hex t hx.1).mono λ_ _ _ _ _ hq=>ld.of_run he hq
   ·rename_i b off aU hv
    split at hq
    ·rename_i hu
     cases hq
     rw[hv]at hx
     have db:a.eval x=(A.mU b off aU).den ρ m:=hx.2
     have he:execOp a.eval o=(do pure (kx (<-oh t ((A.mU b off aU).den ρ m)))):=by simp only[execOp,h,db]
     exact(auo hb hu b off hx.1.2.1).mono λ_ _ _ _ _ hq=>ld.of_run he hq
    ·cases hq
   ·cases hq
  case h_2 x h=>
   have hx:=cC ht x
   split at hq
   ·rename_i b a7 off i j hv
    cases hq
    rw[hv]at hx
    refine aw.pure ⟨hx.1,_,rfl,λw _=> .inl ?_⟩
    have db:=hx.2
    simp only[V.rel,W.den,A.den]at db
    simp[execOp,h,db,W.den,A.den]
   ·cases hq
  case h_3 t x aU h=>
   have hx:=cC ht x
   have hi:=cC ht aU
   split at hq
   ·rename_i b a7 off ro len cap k i hv zG
    cases hq
    rw[hv]at hx
    rw[zG]at hi
    have db:a.eval x=(A.sl b a7 off ro len cap).den ρ m:=hx.2
    have Ph:a.eval aU= .int k (i.l.den ρ):=hi.2
    have he:execOp a.eval o=(do pure (kx (<-rS t ((A.sl b a7 off ro len cap).den ρ m) (.int k (i.l.den ρ))))):=by simp only[execOp,h,db,Ph]
    have Pj:bF.ok n ρ i:=hi.1
    exact(auC hx.1 Pj.1).mono λ_ _ _ _ _ hq=>ld.of_run he hq
   ·cases hq
  case h_4 t x h=>
   have hx:=cC ht x
   split at hq
   ·rename_i b a7 off ro len cap k e hv ha
    cases hq
    rw[hv]at hx
    refine dV λhc=>gM λhk=>?_
    have hc:0<k:=eC hc
    simp only[cI,eo,aa.aW,ab]at hk
    have bm:A.ok n bl.length ρ (.sl b a7 off ro len cap):=hx.1
    obtain⟨h1,⟨h2,h3,h4,h5⟩,h6⟩:=bm
    have c0:¬cap.den ρ<0:=λzy=>by have:=h6.2.2.1 zy;omega
    refine aw.pure ⟨⟨h1,⟨h2,h3⟩,h6.1.1,h6.1.2.1⟩,_,rfl,λw _=> .inl ?_⟩
    have db:a.eval x=(A.sl b a7 off ro len cap).den ρ m:=hx.2
    have hle:¬(len.den ρ).toNat<k:=by omega
    simp only[execOp,h]
    rw[db]
    simp only[A.den,if_neg c0]
    simp[acP,eH (r4 ha),hle,W.den,A.den]
   ·cases hq
  case h_5 s x f h=>
   have hx:=cC ht x
   split at hq
   ·rename_i b a7 off i j fd hv hf
    rw[hv]at hx
    obtain⟨dY,hu,FQ⟩:=NR hf
    split at hq
    ·rename_i k hs
     cases hq
     refine aw.pure ⟨hx.1,_,rfl,λw _=> .inl ?_⟩
     have db:=hx.2
     simp only[V.rel,W.den,A.den]at db
     simp[execOp,h,db,acC,eH hu,FQ,lO,fieldPlace,im hs,iy,W.den,A.den,Eo]
    ·cases hq
   ·cases hq
  case h_6 t x lo hi h=>
   have hx:=cC ht x
   split at hq
   ·rename_i b a7 off ro len cap hv
    rw[hv]at hx
    have db:a.eval x=(A.sl b a7 off ro len cap).den ρ m:=hx.2
    have he:execOp a.eval o=(do pure (kx (<-q0 t ((A.sl b a7 off ro len cap).den ρ m) (lo.map a.eval) (hi.map a.eval) none))):=by simp only[execOp,h,db];rfl
    split at hq
    ·rename_i p q' hp hq'
     cases hq
     exact(auF hx.1 ht hp hq').mono λ_ _ _ _ _ hq=>ld.of_run he hq
    ·cases hq
   ·cases hq
  case h_7 s d x h=>
   have hx:=cC ht x
   split at hq
   ·rename_i b a7 off ro len cap e hv hs hd
    split at hq
    ·rename_i aky
     cases hq
     rw[hv]at hx
     have db:a.eval x=(A.sl b a7 off ro len cap).den ρ m:=hx.2
     have he:execOp a.eval o=(do pure (kx (<-convert s d ((A.sl b a7 off ro len cap).den ρ m)))):=by simp only[execOp,h,db]
     exact(auD hb hex (gg hs) aky hd hx.1).mono λ_ _ _ _ _ hq=>ld.of_run he hq
    ·cases hq
   ·cases hq
  case h_8 c h=>
   split at hq
   ·rename_i hc
    split at hq
    ·rename_i x t fk l8
     have hx:=cC ht x
     split at hq
     ·rename_i b a7 off ro len cap e hv hs
      cases hq
      rw[hv]at hx
      have db:a.eval x=(A.sl b a7 off ro len cap).den ρ m:=hx.2
      have np:(A.sl b a7 off ro len cap).ok n bl.length ρ:=hx.1
      obtain⟨ptr,e1,_,_⟩:=p4 (m:=m) np
      rw[e1]at db
      obtain⟨x1,⟨x2,gF,gq,gG⟩,⟨gV,ka,lH,lI⟩,_⟩:=np
      have a1:c.args=#[x]:=by rw[<-jF (xs:=c.args),fk]
      have a2:c.argTypes=#[t]:=by rw[<-jF (xs:=c.argTypes),l8]
      refine aw.pure ⟨⟨gq,lH,lI⟩,_,rfl,λw _=> .inl ?_⟩
      have fi:((len.den ρ).toNat:Int)=len.den ρ:=by omega
      simp[-aAm,execOp,h,resolve,hc,a1,a2,db,invoke,builtin,El,eH (gg hs),goInt,W.den,A.den,fi]
     ·cases hq
    ·cases hq
   ·rename_i hc
    split at hq
    ·rename_i x y fk
     have hx:=cC ht x
     have hy:=cC ht y
     split at hq
     ·rename_i k p a6 q' nV iR
      by_cases jN:k=a6
      ·subst jN
       simp only[decide_true,cond_true]at hq
       cases hq
       rw[nV]at hx;rw[iR]at hy
       have e1:a.eval x= .int k (p.l.den ρ):=hx.2
       have e2:a.eval y= .int k (q'.l.den ρ):=hy.2
       have a1:c.args=#[x,y]:=by rw[<-jF (xs:=c.args),fk]
       have he:execOp a.eval o=(do pure (kx (<-Tn c.argTypes o.type #[.int k (p.l.den ρ),.int k (q'.l.den ρ)]))):=by
        simp[execOp,h,resolve,hc,a1,e1,e2,invoke,builtin]
       exact(ape hx.1 hy.1).mono λ_ _ _ _ _ hq=>ld.of_run he hq
      ·simp[jN]at hq
     ·cases hq
    ·cases hq
   ·rename_i hc
    split at hq
    ·rename_i x y fk
     have hx:=cC ht x
     have hy:=cC ht y
     split at hq
     ·rename_i k p a6 q' nV iR
      by_cases jN:k=a6
      ·subst jN
       simp only[decide_true,cond_true]at hq
       cases hq
       rw[nV]at hx;rw[iR]at hy
       have e1:a.eval x= .int k (p.l.den ρ):=hx.2
       have e2:a.eval y= .int k (q'.l.den ρ):=hy.2
       have a1:c.args=#[x,y]:=by rw[<-jF (xs:=c.args),fk]
       have he:execOp a.eval o=(do pure (kx (<-To c.argTypes o.type #[.int k (p.l.den ρ),.int k (q'.l.den ρ)]))):=by
        simp[execOp,h,resolve,hc,a1,e1,e2,invoke,builtin]
       exact(apc hx.1 hy.1).mono λ_ _ _ _ _ hq=>ld.of_run he hq
      ·simp[jN]at hq
     ·cases hq
    ·cases hq
   ·cases hq
  case h_9 op t x y fJ h=>
   have hx:=cC ht x
   have hy:=cC ht y
   split at hq
   ·rename_i e b a7 cm ro len cap hs nV iR
    rw[nV]at hx;rw[iR]at hy
    have db:a.eval x=(A.sl b a7 cm ro len cap).den ρ m:=hx.2
    have sA:a.eval y= .slice none 0 0:=hy.2
    have np:(A.sl b a7 cm ro len cap).ok n bl.length ρ:=hx.1
    obtain⟨ptr,e1,e2,bN⟩:=p4 (m:=m) np
    rw[e1]at db
    obtain⟨x1,⟨x2,gF,gq,gG⟩,_,_,fQ,_⟩:=np
    have has:ab 53 ([cap,len].map (·.den ρ)):=fQ
    have hp:ptr.isNone=decide (cap.den ρ<0):=by
     rcases jX (cap.den ρ) 0 with h0|h0
     ·rw[e2 h0,decide_eq_true h0];rfl
     ·rw[bN h0,decide_eq_false (by omega)];rfl
    split at hq
    ·cases hq
     refine(Iu has).bind λaE n1 _ _ _ ⟨oE,hn⟩=>?_
     have oE:=oE.symm
     have hn:=hn.symm
     subst oE hn
     refine aw.pure ⟨⟨gG,aa.cT _ _⟩,_,rfl,λw _=> .inl ?_⟩
     have FU:eqGuard .eql t x y (.slice ptr (len.den ρ).toNat (if cap.den ρ<0 then 0 else(cap.den ρ).toNat)) (.slice none 0 0)=A7 ():=rfl
     have he:execOp a.eval o=(do pure (kx (<-binOp .eql t (.slice ptr (len.den ρ).toNat (if cap.den ρ<0 then 0 else(cap.den ρ).toNat)) (.slice none 0 0)))):=by
      simp only[execOp,h,db,sA,FU,pure_bind]
     simp only[he,gY,aub w (gg hs),gH,iw,hp]
     simp[W.den,A.den,bd.den,aa.aW]
    ·cases hq
     refine(Iu has).bind λaE n1 _ _ _ ⟨oE,hn⟩=>?_
     have oE:=oE.symm
     have hn:=hn.symm
     subst oE hn
     refine aw.pure ⟨bd.uo ⟨gG,aa.cT _ _⟩,_,rfl,λw _=> .inl ?_⟩
     have FU:eqGuard .neq t x y (.slice ptr (len.den ρ).toNat (if cap.den ρ<0 then 0 else(cap.den ρ).toNat)) (.slice none 0 0)=A7 ():=rfl
     have he:execOp a.eval o=(do pure (kx (<-binOp .neq t (.slice ptr (len.den ρ).toNat (if cap.den ρ<0 then 0 else(cap.den ρ).toNat)) (.slice none 0 0)))):=by
      simp only[execOp,h,db,sA,FU,pure_bind]
     simp only[he,gY,aue w (gg hs),gH,iw,hp]
     simp[W.den,A.den,bd.den,bd.tp,aa.aW]
    ·cases hq
   ·cases hq
  case h_10=>cases hq
end
end Go.bo
namespace Go.bo
def Wo (ops:Array Oper) (n:Nat):Bool:=
 (cU n).all λi=>match ops[i]? with
   |none=>false
   |some jQ=>(jQ.after.all λe=> !Th .any e||cf e.on i)&&(match jQ.op with| .select .. =>false|_=>true)&&
    (cU n).all λj=>aG i j||match ops[j]? with
      |none=>false
      |some dS=>match dS.dst with
       |none=>true
       |some d=>(!(jQ.looksAt ops).contains d||wx .any ops i j||wx .any ops j i)&& !(match jQ.dst with|some d'=>aG d' d|none=>false)
def O2 (size n:Nat):Array Bool:=((cU size).map λi=>cf i n).toArray
def BT (o:Oper):Bool:=match o.op with| .move _| .assign _| .extract _ _=>true|_=>false
def sb (ops:Array Oper) (i:Nat):Bool:=match ops[i]? with|some o=>BT o|none=>false
def fH (o:Oper):Bool:=match o.op,o.guard,o.dst with| .alloc _,none,some _=>true|_,_,_=>false
def qf (ops:Array Oper) (i:Nat):Bool:=match ops[i]? with|some o=>fH o|none=>false
def Z7 (ops:Array Oper) (n:Nat):Bool:=
 (cU n).all λi=> !qf ops i||match ops[i]? with
   |some jQ=>match jQ.dst with
    |some d=>(cU n).all λj=>match ops[j]? with|some dS=> !(dS.looksAt ops).contains d|none=>true
    |none=>false
   |none=>false
def abD (ops:Array Oper) (n:Nat):Bool:=
 (cU n).all λi=>sb ops i||(cU (n+1)).any λj=>cf i j&&wx .any ops j i&&(aG j n|| !sb ops j)
def agQ (ops:Array Oper) (n:Nat):Bool:=
 (cU n).all λi=> !sb ops i||(cU ops.size).all λj=>cf j n||wx .any ops j i||(match ops[i]?,ops[j]? with|some jQ,some dS=>jQ.apart ops dS|_,_=>false)
def DJ (ops:Array Oper) (n:Nat):Bool:=
 LN ops&&agQ ops n&&Z7 ops n&&Wo ops n&&bB n ops.size&&(aG n ops.size||(abD ops n&&aAa .any ops n))&&aAb .any ops (ops.size-n) n (O2 ops.size n)
def calm (Q:Exit->Act->ar->Prop):Exit->Act->ar->Prop
 | .panic _,_,_=>False
 |e,a,w=>Q e a w
theorem qk {a b:Nat} (h:cf a b=true):a<b:=eC h
theorem ao1 {a b:Nat} (h:a<b):cf a b=true:=Nat.ble_eq_true_of_le h
section
variable {P:bH} {ops:Array Oper} {C:ar->Prop}
def tf (P:bH) (ops:Array Oper) (C:ar->Prop) (o:Oper) (v:aF) (a:Act):Prop:=
 (uK o (yielded ops a.tmps)=true/\∀w,C w->Ez P o a w v)∨(uK o (yielded ops a.tmps)=false/\v=undef)
def yB (P:bH) (ops:Array Oper) (C:ar->Prop) (F:Act->Prop):List Oper->Act->Prop
 |[],a=>F a
 |o::r,a=>cond (fH o) (yB P ops C F r a) (∃v,tf P ops C o v a/\yB P ops C F r (a.put o.dst v))
theorem Rt {Q:Act->Prop}:∀(l:List Oper) (a:Act),yB P ops C Q l a->∃(as:Nat->Act) (vs:Nat->aF),as 0=a/\(∀i o,l[i]?=some o->(fH o=false->tf P ops C o (vs i) (as i)/\as (i+1)=(as i).put o.dst (vs i))/\(fH o=true->as (i+1)=as i))/\Q (as l.length)
 |[],a,h=>⟨λ_=>a,λ_=>undef,rfl,λi o hi=>by simp at hi,h⟩
 |o::r,a,h=>by
  unfold yB at h
  cases dZ:fH o with
  |true=>
   simp only[dZ,cond_true]at h
   obtain⟨as,vs,aZ,hs,zb⟩:=Rt r _ h
   refine⟨λi=>match i with|0=>a|i+1=>as i,λi=>match i with|0=>undef|i+1=>vs i,rfl,λi cm hi=>?_,zb⟩
   cases i with
   |zero=>
    simp at hi;subst hi
    exact⟨λh1=>by(rw[dZ]at h1;cases h1),λ_=>aZ⟩
   |succ i=>
    simp at hi
    exact hs i cm hi
  |false=>
   simp only[dZ,cond_false]at h
   obtain⟨v,hy,h2⟩:=h
   obtain⟨as,vs,aZ,hs,zb⟩:=Rt r _ h2
   refine⟨λi=>match i with|0=>a|i+1=>as i,λi=>match i with|0=>v|i+1=>vs i,rfl,λi cm hi=>?_,zb⟩
   cases i with
   |zero=>
    simp at hi;subst hi
    exact⟨λ_=>⟨hy,aZ⟩,λh1=>by(rw[dZ]at h1;cases h1)⟩
   |succ i=>
    simp at hi
    exact hs i cm hi
theorem aci {Q:Exit->Act->ar->Prop} {md:acR}:∀(f:Nat) (listed:Array Bool) (a:Act) (w:ar),wpAny P md ops Q f listed a w->wpAny P md ops Q (f+1) listed a w
 |0,_,_,_,h=>⟨λ_=>h.2,λi hi=>by rw[h.1]at hi;cases hi⟩
 |f+1,_,_,_,h=>⟨h.1,λi hi=>wpOp_mono (λdi w' h'=>aci f _ di w' h') (h.2 i hi)⟩
theorem ach {Q:Exit->Act->ar->Prop} {md:acR} {listed:Array Bool} {a:Act} {w:ar} {f kC:Nat} (h:wpAny P md ops Q f listed a w) (hle:f<=kC):wpAny P md ops Q kC listed a w:=by
 induction hle with
 |refl=>exact h
 |step _ ih=>exact aci _ _ _ _ ih
theorem Wf {α:Type} {p q:α->Bool}:∀{l:List α},(∀x∈l,q x=true->p x=true)->(∃x∈l,p x=true/\q x=false)->l.countP q<l.countP p
 |[],_,⟨x,hx,_⟩=>by simp at hx
 |y::r,h1,⟨x,hx,h2,h3⟩=>by
  have hle:r.countP q<=r.countP p:=List.countP_mono_left λz hz=>h1 z (dn _ hz)
  rw[aAc,aAc]
  rcases List.mem_cons.1 hx with rfl|hx
  ·simp[h2,h3];omega
  ·have ih:=Wf (l:=r) (λz hz=>h1 z (dn _ hz)) ⟨x,hx,h2,h3⟩
   have:=h1 y (by simp)
   cases hq:q y<;>cases hp:p y<;>simp[hq,hp]at this⊢<;>omega
theorem tq {n i:Nat} {jQ:Oper} (h:Wo ops n=true) (hi:i<n) (ho:ops[i]?=some jQ):
 (∀e∈jQ.after,Th .any e=true->e.on<i)/\(∀cs b,jQ.op≠ .select cs b)/\
 ∀j dS d,j<n->j≠i->ops[j]?=some dS->dS.dst=some d->jQ.dst≠some d/\(d∈jQ.looksAt ops->wx .any ops i j=true∨wx .any ops j i=true):=by
 have h1:=List.all_eq_true.1 h i (List.mem_range.2 hi)
 simp only[ho,aS]at h1
 obtain⟨⟨h1,h2⟩,h3⟩:=h1
 refine⟨λe he hb=>?_,λcs b hc=>by simp[hc]at h2,λj dS d hj hne rn hd=>?_⟩
 ·have:=Array.all_eq_true_iff_forall_mem.1 h1 e he
  simp only[hb,Ec,sX]at this
  exact qk this
 ·have h4:=List.all_eq_true.1 h3 j (List.mem_range.2 hj)
  have h5:aG i j=false:=by cases hb:aG i j with|false=>rfl|true=>exact absurd (bG hb).symm hne
  simp only[h5,sX,rn,hd,aS]at h4
  refine⟨λakv=>?_,λlu=>?_⟩
  ·have:=h4.2
   simp[akv]at this
  ·have:=h4.1
   have hc:(jQ.looksAt ops).contains d=true:=by simpa using lu
   simp only[hc,Ec,sX,sZ]at this
   exact this
theorem aen {a b:Act} (h1:a.defers=b.defers) (h2:∀t:Nat,a.tmps[t]?=b.tmps[t]?):a=b:=by
 cases a;cases b
 simp only at h1 h2
 rw[h1,aAd h2]
theorem uf {a:Act} {o:Option Tmp} {v:aF} {t:Nat} (h:o≠some t):(a.put o v).tmps[t]?=a.tmps[t]?:=by
 cases o with
 |none=>rfl
 |some d=>simp only[Ej];rw[az3 (λe=>h (by rw[e]))]
theorem put_defers (a:Act) (o:Option Tmp) (v:aF):(a.put o v).defers=a.defers:=by cases o<;>rfl
theorem At (a:Act) (o:Option Tmp) (v:aF):(a.put o v).tmps.size=a.tmps.size:=by cases o<;>simp[Ej]
theorem agO {o:Oper} {a:Act} {v:aF} {w:ar} (hf:BT o=true) (hC:C w) (h:tf P ops C o v a):Yields P ops o v a:=by
 rcases h with⟨h1,h2⟩|h
 ·refine .inl ⟨h1,λw'=>?_⟩
  have h3:=h2 w hC
  unfold Ez at h3
  unfold BT at hf
  split at hf
  ·rename_i x ho
   simp only[execOp,ho,iw]at h3⊢
   rcases h3 with h3|⟨f,args,h3,_⟩
   ·simp only[aAe,aAf,and_true]at h3;rw[h3]
   ·simp at h3
  ·rename_i x ho
   simp only[execOp,ho,iw]at h3⊢
   rcases h3 with h3|⟨f,args,h3,_⟩
   ·simp only[aAe,aAf,and_true]at h3;rw[h3]
   ·simp at h3
  ·rename_i x i ho
   simp only[execOp,ho,gY]at h3⊢
   unfold acB at h3⊢
   cases hx:a.eval x<;>simp only[hx]at h3⊢<;>try(simp[aAg]at h3;done)
   rename_i vs
   cases hv:vs[i]? with
   |none=>simp[hv,aAg]at h3
   |some u=>simp[hv]at h3;simp[h3]
  ·cases hf
 ·exact .inr h
theorem auz {n:Nat} {listed:Array Bool} (hs:abD ops n=true) (hc:aAa .any ops n=true) (hn:n<ops.size) (inv:HeadInv .any ops n listed):
 ∀(d i:Nat),n-i=d->i<n->sb ops i=false->listed.getD i false=false->∀t,n<=t->t∉rT .any ops listed:=by
 intro d
 induction d using Nat.strongRecOn with
 |_ d ih=>
  intro i hd hi iP qE t ht hr
  obtain⟨_,aan,PH,hall⟩:=mem_ready.1 hr
  have al1:t<ops.size:=(Array.getElem?_eq_some_iff.1 PH).1
  by_cases al2:t=n
  ·subst al2
   have h1:=List.all_eq_true.1 hs i (List.mem_range.2 hi)
   simp only[iP,sX]at h1
   obtain⟨j,hj,pQ⟩:=List.any_eq_true.1 h1
   simp only[aS,sZ]at pQ
   obtain⟨⟨Yk,F2⟩,Pl⟩:=pQ
   have Yk:=qk Yk
   obtain⟨dS,rn,e,he,hb,JL⟩:=Bb F2
   have aCn:j<=t:=by have:=List.mem_range.1 hj;omega
   by_cases Yn:j=t
   ·subst Yn
    have:dS=aan:=hZ (rn.symm.trans PH)
    subst this
    have h2:=hall e he hb
    rw[JL,qE]at h2
    cases h2
   ·cases hl:listed.getD j false with
    |true=>
     have h2:=inv.closed j dS rn hl e he hb
     rw[JL,qE]at h2
     cases h2
    |false=>
     have akG:sb ops j=false:=by
      rcases Pl with h3|h3
      ·exact absurd (bG h3) Yn
      ·simpa using h3
     exact ih (t-j) (by omega) j rfl (by omega) akG hl t (br _) hr
  ·have h1:=List.all_eq_true.1 hc t (List.mem_range.2 al1)
   simp only[sZ,decide_eq_true_eq]at h1
   rcases h1 with h1|h1
   ·omega
   ·obtain⟨cm,hH,e,he,hb,JL⟩:=Bb h1
    have:cm=aan:=hZ (hH.symm.trans PH)
    subst this
    have h2:=hall e he hb
    rw[JL,Bc (inv.tail (t-1) (by omega) (by omega))]at h2
    cases h2
theorem agN {o:Oper} (h:BT o=true):fH o=false:=by
 unfold BT at h
 unfold fH
 cases ho:o.op<;>simp only[ho]at h⊢<;>cases h
theorem apx {n i j:Nat} {jQ dS:Oper} {d:Tmp} (h:Z7 ops n=true) (hi:i<n) (ho:ops[i]?=some jQ) (dZ:fH jQ=true) (hd:jQ.dst=some d) (hj:j<n) (rn:ops[j]?=some dS):d∉dS.looksAt ops:=by
 have h1:=List.all_eq_true.1 h i (List.mem_range.2 hi)
 have ha:qf ops i=true:=by simp[qf,ho,dZ]
 simp only[ha,Ec,sX,ho,hd]at h1
 have h2:=List.all_eq_true.1 h1 j (List.mem_range.2 hj)
 simp only[rn,gW]at h2
 intro hm
 have:(dS.looksAt ops).contains d=true:=by simpa using hm
 rw[this]at h2;cases h2
theorem ayi {Q:Exit->Act->ar->Prop} {o:Oper} {i:Nat} {v:aF} {a:Act} {w:ar} {K:Act->ar->Prop} (hi:ops[i]?=some o) (hC:C w) (hy:tf P ops C o v a) (h:∀w',w.Extends w'->K (a.put o.dst v) w'):wpOp P ops Q i K a w:=by
 unfold wpOp
 simp only[hi]
 rcases hy with⟨h1,h2⟩|⟨h1,h2⟩
 ·rw[if_pos h1]
  refine .inl ?_
  unfold mw
  rcases h2 w hC with h3|⟨f,args,h3,h4⟩
  ·rw[h3];exact h w (oi w)
  ·rw[h3]
   refine h4.mono λe n8 ⟨he,hx⟩=>?_
   subst he
   exact h n8 hx
 ·rw[if_neg (by simp[h1]),<-h2]
  exact h w (oi w)
theorem tf.of_same {o:Oper} {v:aF} {a di:Act} (hy:tf P ops C o v a) (he:execOp di.eval o=execOp a.eval o) (hw:uK o (yielded ops di.tmps)=uK o (yielded ops a.tmps)):tf P ops C o v di:=by
 unfold tf Ez at*
 rw[he,hw]
 exact hy
structure Vs (ops:Array Oper) (n:Nat) (S:Nat->Prop) (a an b:Act) (fu:Nat->Nat):Prop where
 d:b.defers=a.defers
 a7:b.tmps.size=a.tmps.size
 q:∀t:Nat,(∃j o,j<n/\S j/\ops[j]?=some o/\fH o=false/\o.dst=some t)->b.tmps[t]?=an.tmps[t]?
 al:∀(t:Nat) j o,j<n->S j->ops[j]?=some o->fH o=true->o.dst=some t->t<b.tmps.size->b.tmps[t]?=some (.pointer (some ⟨fu j,0,none⟩))
 no:∀t:Nat,(∀j o,j<n->S j->ops[j]?=some o->o.dst≠some t)->b.tmps[t]?=a.tmps[t]?
structure Fin (ops:Array Oper) (n:Nat) (an b:Act) (fu:Nat->Nat):Prop where
 d:b.defers=an.defers
 a7:b.tmps.size=an.tmps.size
 al:∀(t:Nat) j o,j<n->ops[j]?=some o->fH o=true->o.dst=some t->t<b.tmps.size->b.tmps[t]?=some (.pointer (some ⟨fu j,0,none⟩))
 no:∀t:Nat,(∀j o,j<n->ops[j]?=some o->fH o=true->o.dst≠some t)->b.tmps[t]?=an.tmps[t]?
def wE (ops:Array Oper) (n:Nat) (S:Nat->Prop) (Z:Nat->Obj) (fu:Nat->Nat) (a7:Nat) (w:ar):Prop:=
 (∀j,j<n->S j->qf ops j=true->a7<=fu j/\w.heap[fu j]?=some (Z j))/\∀i j,i<n->j<n->S i->S j->qf ops i=true->qf ops j=true->fu i=fu j->i=j
theorem wE.grow {n:Nat} {S:Nat->Prop} {Z:Nat->Obj} {fu:Nat->Nat} {a7:Nat} {w w':ar} (h:wE ops n S Z fu a7 w) (he:w.Extends w'):wE ops n S Z fu a7 w':=
 ⟨λj h1 h2 h3=>by
  obtain⟨h4,h5⟩:=h.1 j h1 h2 h3
  exact⟨h4,by rw[he.block _ (Array.getElem?_eq_some_iff.1 h5).1];exact h5⟩,h.2⟩
theorem ayj {Q:Exit->Act->ar->Prop} {a:Act} {w:ar} {l:List Oper} (n:Nat) (Z:Nat->Obj) (hm:P.follows .mixedOrders=true) (hB:DJ l.toArray n=true) (hC:∀w',w.drew.Extends w'->C w')
 (zd:∀j o,j<n->l.toArray[j]?=some o->fH o=true->∀(b:Act) w',(execOp b.eval o).run P w'= .ok (.value (.pointer (some ⟨w'.heap.size,0,none⟩))) (w'.alloc (Z j)))
 (h:yB P l.toArray C (λan=>∀fu b w',Fin l.toArray n an b fu->w.drew.Extends w'->wE l.toArray n (λ_=>True) Z fu w.drew.heap.size w'->wpList P l.toArray (calm Q) (l.drop n) b w') (l.take n) a):wpAny P .any l.toArray (calm Q) l.toArray.size (uG l.toArray.size false) a {w with drawn:=w.drawn+1}:=by
 simp only[DJ,aS]at hB
 obtain⟨⟨⟨⟨⟨⟨alm,akI⟩,nj⟩,tE⟩,hle⟩,YS⟩,alR⟩:=hB
 have hle:n<=l.length:=by simpa using eC hle
 obtain⟨as,vs,aZ,hs,bI⟩:=Rt _ _ h
 have hlen:(l.take n).length=n:=by simp;omega
 rw[hlen]at bI
 have hop:∀i,i<n->∃o,l.toArray[i]?=some o/\(fH o=false->tf P l.toArray C o (vs i) (as i)/\as (i+1)=(as i).put o.dst (vs i))/\(fH o=true->as (i+1)=as i):=λi hi=>by
  have hlt:i<l.length:=by omega
  have h1:(l.take n)[i]?=some l[i]:=by rw[og,if_pos hi,kg hlt]
  have h2:=hs i _ h1
  exact⟨l[i],by simp[hlt],h2⟩
 have FM:∀i,i<=n->(as i).defers=a.defers/\(as i).tmps.size=a.tmps.size:=by
  intro i
  induction i with
  |zero=>intro _;rw[aZ];exact⟨rfl,rfl⟩
  |succ i ih=>
   intro hi
   obtain⟨o,ho,h1,h2⟩:=hop i (by omega)
   cases dZ:fH o with
   |true=>rw[h2 dZ];exact ih (by omega)
   |false=>rw[(h1 dZ).2,put_defers,At];exact ih (by omega)
 have XD:∀i,i<=n->∀t:Nat,(∀j o,j<i->l.toArray[j]?=some o->fH o=false->o.dst≠some t)->(as i).tmps[t]?=a.tmps[t]?:=by
  intro i
  induction i with
  |zero=>intro _ t _;rw[aZ]
  |succ i ih=>
   intro hi t hno
   obtain⟨o,ho,h1,h2⟩:=hop i (by omega)
   have Y9:=ih (by omega) t λj o hj=>hno j o (by omega)
   cases dZ:fH o with
   |true=>rw[h2 dZ];exact Y9
   |false=>rw[(h1 dZ).2,uf (hno i o (by omega) ho dZ)];exact Y9
 have XC:∀(d i:Nat),i+d=n->∀t:Nat,(∃j o,j<i/\l.toArray[j]?=some o/\o.dst=some t)->(as n).tmps[t]?=(as i).tmps[t]?:=by
  intro d
  induction d with
  |zero=>intro i hi t _;rw[show i=n by omega]
  |succ d ih=>
   intro i hi t hj
   obtain⟨o,ho,h1,h2⟩:=hop i (by omega)
   rw[ih (i+1) (by omega) t (by obtain⟨j,o,h1,h2⟩:=hj;exact⟨j,o,by omega,h2⟩)]
   cases dZ:fH o with
   |true=>rw[h2 dZ]
   |false=>
    rw[(h1 dZ).2]
    obtain⟨j,dS,F2,pQ,Pl⟩:=hj
    exact uf ((tq tE (show i<n by omega) ho).2.2 j dS t (by omega) (by omega) pQ Pl).1
 have hsz:l.toArray.size=l.length:=by simp
 have main:∀(f:Nat) (listed:Array Bool) (b:Act) (w1:ar) (fu:Nat->Nat),HeadInv .any l.toArray n listed->w.drew.Extends w1->
  Vs l.toArray n (λj=>listed.getD j false=true) a (as n) b fu->wE l.toArray n (λj=>listed.getD j false=true) Z fu w.drew.heap.size w1->
  (cU n).countP (λi=> !listed.getD i false)+(l.length-n)<=f->wpAny P .any l.toArray (calm Q) f listed b w1:=by
  intro f
  have done:∀(listed:Array Bool) (b:Act) (w1:ar) (fu:Nat->Nat),HeadInv .any l.toArray n listed->w.drew.Extends w1->
   Vs l.toArray n (λj=>listed.getD j false=true) a (as n) b fu->wE l.toArray n (λj=>listed.getD j false=true) Z fu w.drew.heap.size w1->(∀i,i<n->listed.getD i false=true)->
   wpAny P .any l.toArray (calm Q) (l.drop n).length listed b w1:=by
   intro listed b w1 fu inv rj kF sd hall
   have hl:listed=O2 l.toArray.size n:=by
    apply aAd
    intro i
    unfold O2
    simp only[HK,nE]
    rcases od i l.length with hi|hi
    ·rw[List.getElem?_range (by simpa using hi)]
     have cX:i<listed.size:=by rw[inv.size];simpa using hi
     rcases od i n with cN|cN
     ·have:=hall i cN
      simp[cX]at this
      simp[cX,this,ao1 cN]
     ·have:=inv.tail i cN (by simpa using hi)
      simp[cX]at this
      have hb:cf i n=false:=by cases hq:cf i n with|false=>rfl|true=>have:=qk hq;omega
      simp[cX,this,hb]
    ·have h1:listed.size<=i:=by rw[inv.size];simpa using hi
     have h2:(cU l.toArray.size)[i]?=none:=by simp;omega
     rw[h2,Hz h1];rfl
   have JR:aAb .any l.toArray (l.drop n).length n listed=true:=by rw[hl];simpa using alR
   refine wpAny_of_seq (P:=P) (md:= .any) (Q':=calm Q) (l.drop n) n listed b w1 (λj=>by simp[wv]) JR (bI fu b w1 ?_ rj ?_)
   ·refine⟨kF.d.trans (FM n (br _)).1.symm,kF.a7.trans (FM n (br _)).2.symm,λt j o h1 h3 h4 h5=>kF.al t j o h1 (hall j h1) h3 h4 h5,λt hno=>?_⟩
    by_cases hq:∃j o,j<n/\l.toArray[j]?=some o/\fH o=false/\o.dst=some t
    ·obtain⟨j,o,h1,h2,h3,h4⟩:=hq
     exact kF.q t ⟨j,o,h1,hall j h1,h2,h3,h4⟩
    ·have hq':∀j o,j<n->l.toArray[j]?=some o->fH o=false->o.dst≠some t:=λj o h1 h2 h3 h4=>hq ⟨j,o,h1,h2,h3,h4⟩
     rw[kF.no t λj o h1 _ h3=>(by
      cases dZ:fH o with
      |true=>exact hno j o h1 h3 dZ
      |false=>exact hq' j o h1 h3 dZ),XD n (br _) t hq']
   ·exact⟨λj h1 _ h3=>sd.1 j h1 (hall j h1) h3,λi j h1 h2 _ _ h5 h6=>sd.2 i j h1 h2 (hall i h1) (hall j h2) h5 h6⟩
  have VE:∀(listed:Array Bool),(cU n).countP (λi=> !listed.getD i false)=0->∀i,i<n->listed.getD i false=true:=λlisted hc i hi=>by
   cases hq:listed.getD i false with
   |true=>rfl
   |false=>
    have:0<(cU n).countP (λi=> !listed.getD i false):=List.countP_pos_iff.2 ⟨i,List.mem_range.2 hi,by simp[hq]⟩
    omega
  induction f with
  |zero=>
   intro listed b w1 fu inv rj kF sd hf
   have:=done listed b w1 fu inv rj kF sd (VE listed (by omega))
   exact ach this (by simp;omega)
  |succ f ih=>
   intro listed b w1 fu inv rj kF sd hf
   by_cases ako:(cU n).countP (λi=> !listed.getD i false)=0
   ·exact ach (done listed b w1 fu inv rj kF sd (VE listed ako)) (by simp;omega)
   ·
    have gj:∃i,i<n/\listed.getD i false=false:=by
     have h1:0<(cU n).countP (λi=> !listed.getD i false):=by omega
     obtain⟨i,hi,hq⟩:=List.countP_pos_iff.1 h1
     exact⟨i,List.mem_range.1 hi,by simpa using hq⟩
    have hne:rT .any l.toArray listed≠[]:=by
     have key:∀k,∀i,i<=k->i<n->listed.getD i false=false->rT .any l.toArray listed≠[]:=by
      intro k
      induction k with
      |zero=>
       intro i Pf cN hq nk
       obtain⟨o,ho,_,_⟩:=hop i cN
       have hlt:i<listed.size:=by rw[inv.size];exact(Array.getElem?_eq_some_iff.1 ho).1
       have:i∈rT .any l.toArray listed:=mem_ready.2 ⟨getD_in hlt hq,o,ho,λe he hb=>by have:=(tq tE cN ho).1 e he hb;omega⟩
       rw[nk]at this;cases this
      |succ k Ql=>
       intro i Pf cN hq nk
       obtain⟨o,ho,_,_⟩:=hop i cN
       have hlt:i<listed.size:=by rw[inv.size];exact(Array.getElem?_eq_some_iff.1 ho).1
       have:i∈rT .any l.toArray listed:=mem_ready.2 ⟨getD_in hlt hq,o,ho,λe he hb=>by
        have h1:=(tq tE cN ho).1 e he hb
        cases pT:listed.getD e.on false with
        |true=>rfl
        |false=>exact absurd nk (Ql e.on (by omega) (by omega) pT)⟩
       rw[nk]at this;cases this
     obtain⟨i,hi,hq⟩:=gj
     exact key i i (br _) hi hq
    have dc:∀i,i∈rT .any l.toArray listed->∀j,(listed.setIfInBounds i true).getD j false=true↔(j=i∨listed.getD j false=true):=λi hi j=>by
     obtain⟨qE,jQ,zA,hall⟩:=mem_ready.1 hi
     have hlt:i<listed.size:=by rw[inv.size];exact(Array.getElem?_eq_some_iff.1 zA).1
     by_cases hj:i=j
     ·subst hj;simp[hlt]
     ·rw[getD_set_ne false hj]
      exact⟨.inr,λh=>h.resolve_left (λe=>hj e.symm)⟩
    have Yx:∀i,i∈rT .any l.toArray listed->i<n->(cU n).countP (λj=> !(listed.setIfInBounds i true).getD j false)+(l.length-n)<=f:=λi hi cN=>by
     obtain⟨qE,_⟩:=mem_ready.1 hi
     have:(cU n).countP (λj=> !(listed.setIfInBounds i true).getD j false)<(cU n).countP (λj=> !listed.getD j false):=by
      refine Wf (λj _ hj=>?_) ⟨i,List.mem_range.2 cN,?_,?_⟩
      ·cases hq:listed.getD j false with
       |false=>rfl
       |true=>rw[(dc i hi j).2 (.inr hq)]at hj;cases hj
      ·simp only[Bc qE];rfl
      ·simp only[(dc i hi i).2 (.inl rfl)];rfl
     omega
    have step:∀i,i∈rT .any l.toArray listed->i<n->∀o,l.toArray[i]?=some o->fH o=false->tf P l.toArray C o (vs i) b/\∀w',w1.Extends w'->wpAny P .any l.toArray (calm Q) f (listed.setIfInBounds i true) (b.put o.dst (vs i)) w':=by
     intro i hi cN o ho dZ
     obtain⟨qE,jQ,zA,hall⟩:=mem_ready.1 hi
     have:o=jQ:=hZ (ho.symm.trans zA)
     subst this
     obtain⟨cm,hH,Qf,_⟩:=hop i cN
     have:cm=o:=hZ (hH.symm.trans ho)
     subst this
     obtain⟨hy,he⟩:=Qf dZ
     have xd:=tq tE cN ho
     have YU:∀t:Nat,t∈cm.looksAt l.toArray->b.tmps[t]?=(as i).tmps[t]?:=λt ht=>by
      by_cases hw:∃j dS,j<i/\l.toArray[j]?=some dS/\fH dS=false/\dS.dst=some t
      ·obtain⟨j,dS,h1,h2,Fi,h3⟩:=hw
       rw[<-XC (n-i) i (by omega) t ⟨j,dS,h1,h2,h3⟩]
       refine kF.q t ⟨j,dS,by omega,?_,h2,Fi,h3⟩
       rcases(xd.2.2 j dS t (by omega) (by omega) h2 h3).2 ht with h4|h4
       ·obtain⟨Q6,PF,e,sm,sn,vd⟩:=Bb h4
        have:Q6=cm:=hZ (PF.symm.trans ho)
        subst this
        have:=hall e sm sn
        rwa [vd]at this
       ·obtain⟨Dj,Gd,e,sm,sn,vd⟩:=Bb h4
        have:Dj=dS:=hZ (Gd.symm.trans h2)
        subst this
        have:=(tq tE (show j<n by omega) h2).1 e sm sn
        omega
      ·rw[XD i (by omega) t λj dS h1 h2 Fi h3=>hw ⟨j,dS,h1,h2,Fi,h3⟩]
       refine kF.no t λj dS h1 hl h2 h3=>?_
       cases XQ:fH dS with
       |true=>exact apx nj h1 h2 XQ h3 cN ho ht
       |false=>
        by_cases kH:j=i
        ·subst kH
         rw[Bc qE]at hl;cases hl
        ·rcases(xd.2.2 j dS t h1 kH h2 h3).2 ht with h4|h4
         ·obtain⟨Q6,PF,e,sm,sn,vd⟩:=Bb h4
          have:Q6=cm:=hZ (PF.symm.trans ho)
          subst this
          have:=xd.1 e sm sn
          exact hw ⟨j,dS,by omega,h2,XQ,h3⟩
         ·obtain⟨Dj,Gd,e,sm,sn,vd⟩:=Bb h4
          have:Dj=dS:=hZ (Gd.symm.trans h2)
          subst this
          have:=inv.closed j Dj h2 hl e sm sn
          rw[vd,Bc qE]at this;cases this
     have akC:∀x∈cm.op.operands,b.eval x=(as i).eval x:=λx hx=>by
      cases x with
      |tmp t=>
       have:=YU t (List.mem_append_left _ (List.mem_filterMap.2 ⟨.tmp t,by simpa using hx,rfl⟩))
       simp only[Act.eval]
       simp[this]
      |_=>rfl
     have hex:execOp b.eval cm=execOp (as i).eval cm:=execOp_congr cm xd.2.1 akC
     have zJ:uK cm (yielded l.toArray b.tmps)=uK cm (yielded l.toArray (as i).tmps):=by
      unfold uK
      cases hg:cm.guard with
      |none=>rfl
      |some N8=>
       obtain⟨g,want⟩:=N8
       have:yielded l.toArray b.tmps g=yielded l.toArray (as i).tmps g:=by
        unfold yielded
        cases ht:(l.toArray[g]?).bind (·.dst)with
        |none=>rfl
        |some t=>
         have:=YU t (List.mem_append_right _ (by simp only[hg,ht];simp))
         simp[this]
       simp only[this]
     refine⟨hy.of_same hex zJ,λw' tK=>?_⟩
     refine ih _ _ _ fu (inv.set hi cN) (rj.trans tK) ⟨(put_defers _ _ _).trans kF.d,(At _ _ _).trans kF.a7,?_,?_,?_⟩ (wE.grow (w:=w1) ⟨λj h1 h2 h3=>?_,λi1 dk h1 h2 h3 h4 h5 h6=>?_⟩ tK) (Yx i hi cN)
     ·rintro t ⟨j,dS,h1,h2,h3,w3,h4⟩
      by_cases ht:cm.dst=some t
      ·have e1:(as n).tmps[t]?=(as (i+1)).tmps[t]?:=XC (n-(i+1)) (i+1) (by omega) t ⟨i,cm,by omega,ho,ht⟩
       rw[e1,he,ht]
       simp only[Ej]
       have YP:b.tmps.size=(as i).tmps.size:=kF.a7.trans (FM i (by omega)).2.symm
       rcases od t b.tmps.size with h5|h5
       ·simp[h5,YP▸h5]
       ·rw[Hz (by simpa using h5),Hz (by rw[Array.size_setIfInBounds,<-YP];exact h5)]
      ·rw[uf ht]
       rcases(dc i hi j).1 h2 with rfl|h5
       ·have:dS=cm:=hZ (h3.symm.trans ho)
        subst this
        exact absurd h4 ht
       ·exact kF.q t ⟨j,dS,h1,h5,h3,w3,h4⟩
     ·intro t j dS h1 h2 h3 h4 h5 h6
      rcases(dc i hi j).1 h2 with rfl|h7
      ·have:dS=cm:=hZ (h3.symm.trans ho)
       subst this
       rw[dZ]at h4;cases h4
      ·have kH:j≠i:=λe=>by subst e;rw[Bc qE]at h7;cases h7
       have ht:cm.dst≠some t:=(xd.2.2 j dS t h1 kH h3 h5).1
       rw[uf ht]
       rw[At]at h6
       exact kF.al t j dS h1 h7 h3 h4 h5 h6
     ·intro t hno
      have ht:cm.dst≠some t:=hno i cm cN ((dc i hi i).2 (.inl rfl)) ho
      rw[uf ht]
      exact kF.no t λj dS h1 h2 h3=>hno j dS h1 ((dc i hi j).2 (.inr h2)) h3
     ·rcases(dc i hi j).1 h2 with rfl|h7
      ·simp[qf,ho,dZ]at h3
      ·exact sd.1 j h1 h7 h3
     ·have k1:listed.getD i1 false=true:=by
       rcases(dc i hi i1).1 h3 with rfl|h7
       ·simp[qf,ho,dZ]at h5
       ·exact h7
      have k2:listed.getD dk false=true:=by
       rcases(dc i hi dk).1 h4 with rfl|h7
       ·simp[qf,ho,dZ]at h6
       ·exact h7
      exact sd.2 i1 dk h1 h2 k1 k2 h5 h6
    by_cases iP:∃i,i∈rT .any l.toArray listed/\i<n/\sb l.toArray i=true
    ·obtain⟨i,hi,cN,ni⟩:=iP
     obtain⟨o,ho,_,_⟩:=hop i cN
     obtain⟨qE,jQ,zA,hall⟩:=mem_ready.1 hi
     have Yh:BT o=true:=by unfold sb at ni;simpa [ho]using ni
     have dZ:fH o=false:=agN Yh
     obtain⟨xp,PB⟩:=step i hi cN o ho dZ
     refine wpAny_first ho (Region.noSelect_spec alm) (λc di w' hq=>hq.elim) f listed b w1 (λj dS rn kH akW akU=>?_) hi (agO Yh (hC w1 rj) xp) (PB w1 (oi w1))
     have Gc:wx .any l.toArray j i=false:=by
      cases hq:wx .any l.toArray j i with
      |false=>rfl
      |true=>
       obtain⟨Dj,Gd,e,sm,sn,vd⟩:=Bb hq
       have:Dj=dS:=hZ (Gd.symm.trans rn)
       subst this
       exact absurd vd (akU e sm sn)
     have YC:j<n->wx .any l.toArray i j=false:=λxh=>by
      cases hq:wx .any l.toArray i j with
      |false=>rfl
      |true=>
       obtain⟨cm,hH,e,sm,sn,vd⟩:=Bb hq
       have:cm=jQ:=hZ (hH.symm.trans zA)
       subst this
       have:=hall e sm sn
       rw[vd,Bc akW]at this;cases this
     by_cases xh:j<n
     ·have d1:=(tq tE cN ho).2.2 j dS
      have d2:=(tq tE xh rn).2.2 i o
      simp only[Oper.apart,aS]
      constructor
      ·cases hd:o.dst with
       |none=>rfl
       |some d=>
        have:=d2 d cN (λe=>kH e.symm) ho hd
        simp only[aS,gW,bne_iff_ne,ne_eq]
        refine⟨?_,this.1⟩
        cases hc:(dS.looksAt l.toArray).contains d with
        |false=>rfl
        |true=>
         rcases this.2 (by simpa using hc)with h1|h1
         ·rw[Gc]at h1;cases h1
         ·rw[YC xh]at h1;cases h1
      ·cases hd:dS.dst with
       |none=>rfl
       |some d=>
        have:=d1 d xh kH rn hd
        simp only[gW]
        cases hc:(o.looksAt l.toArray).contains d with
        |false=>rfl
        |true=>
         rcases this.2 (by simpa using hc)with h1|h1
         ·rw[YC xh]at h1;cases h1
         ·rw[Gc]at h1;cases h1
     ·have h1:=List.all_eq_true.1 akI i (List.mem_range.2 cN)
      simp only[ni,Ec,sX]at h1
      have h2:=List.all_eq_true.1 h1 j (List.mem_range.2 (Array.getElem?_eq_some_iff.1 rn).1)
      have hb:cf j n=false:=by cases hq:cf j n with|false=>rfl|true=>exact absurd (qk hq) xh
      simp only[hb,Gc,sX,ho,rn]at h2
      exact h2
    ·
     have PC:∃i,i<n/\sb l.toArray i=false/\listed.getD i false=false:=by
      have key:∀k,∀i,i<=k->i<n->listed.getD i false=false->∃i,i<n/\sb l.toArray i=false/\listed.getD i false=false:=by
       intro k
       induction k with
       |zero=>
        intro i Pf cN hq
        cases iC:sb l.toArray i with
        |false=>exact⟨i,cN,iC,hq⟩
        |true=>
         obtain⟨o,ho,_,_⟩:=hop i cN
         have hlt:i<listed.size:=by rw[inv.size];exact(Array.getElem?_eq_some_iff.1 ho).1
         exact absurd ⟨i,mem_ready.2 ⟨getD_in hlt hq,o,ho,λe he hb=>by have:=(tq tE cN ho).1 e he hb;omega⟩,cN,iC⟩ iP
       |succ k Ql=>
        intro i Pf cN hq
        cases iC:sb l.toArray i with
        |false=>exact⟨i,cN,iC,hq⟩
        |true=>
         obtain⟨o,ho,_,_⟩:=hop i cN
         have hlt:i<listed.size:=by rw[inv.size];exact(Array.getElem?_eq_some_iff.1 ho).1
         by_cases X7:∀e∈o.after,Th .any e=true->listed.getD e.on false=true
         ·exact absurd ⟨i,mem_ready.2 ⟨getD_in hlt hq,o,ho,X7⟩,cN,iC⟩ iP
         ·have hex:∃e,e∈o.after/\Th .any e=true/\¬listed.getD e.on false=true:=by
           apply acT
           intro hno
           exact X7 λe he hb=>acT λpT=>hno ⟨e,he,hb,pT⟩
          obtain⟨e,he,hb,pT⟩:=hex
          have h1:=(tq tE cN ho).1 e he hb
          exact Ql e.on (by omega) (by omega) (by simpa using pT)
      obtain⟨i,hi,hq⟩:=gj
      exact key i i (br _) hi hq
     refine⟨λh0=>absurd h0 hne,λi hi=>?_⟩
     have cN:i<n:=by
      rcases od i n with h1|h1
      ·exact h1
      ·exfalso
       obtain⟨_,jQ,zA,_⟩:=mem_ready.1 hi
       have aCm:i<l.toArray.size:=(Array.getElem?_eq_some_iff.1 zA).1
       simp only[sZ,aS]at YS
       rcases YS with h2|⟨h2,h3⟩
       ·have:=bG h2;omega
       ·obtain⟨i0,nS,Cf,xl⟩:=PC
        exact auz h2 h3 (by omega) inv (n-i0) i0 rfl nS Cf xl i h1 hi
     obtain⟨o,ho,_,_⟩:=hop i cN
     cases dZ:fH o with
     |false=>
      obtain⟨xp,PB⟩:=step i hi cN o ho dZ
      exact ayi ho (hC w1 rj) xp PB
     |true=>
      obtain⟨qE,_⟩:=mem_ready.1 hi
      have hgd:o.guard=none/\∃d,o.dst=some d:=by
       unfold fH at dZ
       split at dZ
       ·rename_i h1 h2 h3;exact⟨h2,_,h3⟩
       ·cases dZ
      obtain⟨hgd,d,hd⟩:=hgd
      have xd:=tq tE cN ho
      unfold wpOp
      simp only[ho]
      rw[if_pos (by simp[uK,hgd])]
      refine .inl ?_
      unfold mw
      rw[zd i o cN ho dZ b w1]
      show wpAny P .any l.toArray (calm Q) f (listed.setIfInBounds i true) (b.put o.dst _) _
      have Qj:∀j,j<n->listed.getD j false=true->qf l.toArray j=true->fu j<w1.heap.size:=λj h1 h2 h3=>(Array.getElem?_eq_some_iff.1 (sd.1 j h1 h2 h3).2).1
      refine ih _ _ _ (λj=>if j=i then w1.heap.size else fu j) (inv.set hi cN) (rj.alloc _) ⟨(put_defers _ _ _).trans kF.d,(At _ _ _).trans kF.a7,?_,?_,?_⟩ ⟨λj h1 h2 h3=>?_,λi1 dk h1 h2 h3 h4 h5 h6 h7=>?_⟩ (Yx i hi cN)
      ·rintro t ⟨j,dS,h1,h2,h3,w3,h4⟩
       rcases(dc i hi j).1 h2 with rfl|h5
       ·have:dS=o:=hZ (h3.symm.trans ho)
        subst this
        rw[dZ]at w3;cases w3
       ·have kH:j≠i:=λe=>by subst e;rw[Bc qE]at h5;cases h5
        rw[uf (xd.2.2 j dS t h1 kH h3 h4).1]
        exact kF.q t ⟨j,dS,h1,h5,h3,w3,h4⟩
      ·intro t j dS h1 h2 h3 h4 h5 h6
       rcases(dc i hi j).1 h2 with rfl|h7
       ·have:dS=o:=hZ (h3.symm.trans ho)
        subst this
        rw[h5]
        simp only[if_true]
        rw[At]at h6
        simp[Ej,h6]
       ·have kH:j≠i:=λe=>by subst e;rw[Bc qE]at h7;cases h7
        rw[uf (xd.2.2 j dS t h1 kH h3 h5).1]
        rw[At]at h6
        rw[if_neg kH]
        exact kF.al t j dS h1 h7 h3 h4 h5 h6
      ·intro t hno
       rw[uf (hno i o cN ((dc i hi i).2 (.inl rfl)) ho)]
       exact kF.no t λj dS h1 h2 h3=>hno j dS h1 ((dc i hi j).2 (.inr h2)) h3
      ·show w.drew.heap.size<=(if j=i then w1.heap.size else fu j)/\(w1.alloc (Z i)).heap[(if j=i then w1.heap.size else fu j)]?=some (Z j)
       by_cases kH:j=i
       ·subst kH
        rw[if_pos rfl]
        exact⟨rj.size,heap_alloc_new w1 (Z j)⟩
       ·rw[if_neg kH]
        have h7:=((dc i hi j).1 h2).resolve_left kH
        obtain⟨bD,bg⟩:=sd.1 j h1 h7 h3
        exact⟨bD,by rw[heap_alloc_old w1 _ (Qj j h1 h7 h3)];exact bg⟩
      ·change (if i1=i then w1.heap.size else fu i1)=(if dk=i then w1.heap.size else fu dk)at h7
       by_cases bD:i1=i<;>by_cases bg:dk=i
       ·rw[bD,bg]
       ·rw[if_pos bD,if_neg bg]at h7
        have:=Qj dk h2 (((dc i hi dk).1 h4).resolve_left bg) h6
        omega
       ·rw[if_neg bD,if_pos bg]at h7
        have:=Qj i1 h1 (((dc i hi i1).1 h3).resolve_left bD) h5
        omega
       ·rw[if_neg bD,if_neg bg]at h7
        exact sd.2 i1 dk h1 h2 (((dc i hi i1).1 h3).resolve_left bD) (((dc i hi dk).1 h4).resolve_left bg) h5 h6 h7
 have amG:HeadInv .any l.toArray n (uG l.toArray.size false):=
  ⟨by simp,λj dS _ hl=>(by rw[getD_replicate_false]at hl;cases hl),λt _ ht=>getD_in (by simpa using ht) (getD_replicate_false _ _)⟩
 have Kt:∀j,¬(uG l.toArray.size false).getD j false=true:=λj h=>by rw[getD_replicate_false]at h;cases h
 refine main l.toArray.size _ a _ (λ_=>0) amG (oi w.drew) ⟨rfl,rfl,λt ⟨j,o,_,h2,_⟩=>absurd h2 (Kt j),λt j o _ h2=>absurd h2 (Kt j),λ_ _=>rfl⟩ ⟨λj _ h2=>absurd h2 (Kt j),λi j _ _ h3=>absurd h3 (Kt i)⟩ ?_
 have:(cU n).countP (λi=> !(uG l.toArray.size false).getD i false)<=n:=by
  have:=List.countP_le_length (p:=λi=> !(uG l.toArray.size false).getD i false) (l:=cU n)
  simpa using this
 omega
end
end Go.bo
namespace Go.bo
open M
inductive X where
 |normal
 |exit (id:Nat)
 |ret
def X.to:X->Exit
 |normal=> .normal
 |exit id=> .exit id
 |ret=> .ret
abbrev gi:=Nat->List V->List ax->T
abbrev q3:=X->gi
abbrev RK:=Nat->V->List ax->T
abbrev js:=cw->Nat->List V->List ax->RK->T
structure c7 where
 fl:List Nat
 ints:List (Nat×Int×Int)
 cells:List (Nat×Nat×Int×Int)
 pG:List Nat:=[]
 o0:List (Nat×List aB×aX):=[]
 RH:List (Nat×List aB×Nat):=[]
 lE:List (Nat×List aB):=[]
def df:List ax->Nat->ax->List ax
 |[],_,_=>[]
 |_::r,0,b=>b::r
 |x::r,i+1,b=>x::df r i b
theorem iX:∀(l:List ax) (i:Nat) (b:ax),df l i b=l.set i b
 |[],_,_=>rfl
 |_::_,0,_=>rfl
 |_::r,i+1,b=>by simp[df,iX r i b]
def atx (cal:eI) (dyn:Bool) (o:Oper):Bool:=
 match o.op with
 | .alloc _| .box _ _| .store _ _ _| .buildSlice _ _ _| .makeSlice _ _ _=>false
 | .call c=>match c.callee with
  | .value (.func f)=>(cal f).isSome
  | .value (.tmp _)=>dyn
  | .builtin .append=>false
  | .builtin .clear=>false
  | .builtin .copy=>false
  |_=>true
 |_=>true
def G7 (z:List A) (len:Nat):List A:=(cU (len*z.length)).map λi=>(z[i% z.length]?).getD (.con undef)
def MY (P:bH) (t:aX) (len:Nat) (parts:List (Nat×V)):Option (List A×aX):=
 match hU P t with
 |some e=>match eW P e,mr P e with
  |some s,some z=>cond (aG z.length s&&cf 0 s&&bB (len*s) 16777216) (match tx (λi=>some (i*s,s)) (G7 z len) parts with|some cs=>some (cs,e)|none=>none) none
  |_,_=>none
 |none=>none
def sr (bl:List ax) (b off k:Nat):Option (List A):=
 match bl[b]? with
 |some (cs,_)=>cond (bB (off+k) cs.length&&bV cs) (some ((cs.drop off).take k)) none
 |none=>none
def Jf (i:TypeInfo) (e:aX) (z:List A) (d:Option Tmp) (eJ m1 len:Nat) (olds news:List A) (n:Nat) (tm:List V) (bl:List ax) (k:gi):T:=
 cond (bB (eJ+len) 1000000&&bB (Builtin.nextslicecap (eJ+len) m1*i.bytes) 281474976710656&&cf m1 (eJ+len)&&cf 0 len&&aG z.length i.size&&cf 0 i.size&&bV (olds++news)&&bV (olds++news++z))
  (.both (k n (fr tm d (.w (.one (.slc bl.length 0 (eJ+len) (eJ+len))))) (bl++[(olds++news,(e,false))]))
    (k n (fr tm d (.n2 bl.length (eJ+len) (eJ+len+1))) (bl++[(olds++news++z,(e,true))]))) .stuck
def Qr:V->Bool
 | .w (.one (.con (.slice none 0 0)))=>true
 |_=>false
def MM (P:bH) (d:Option Tmp) (t t':aX) (s x:V) (n:Nat) (tm:List V) (bl:List ax) (k:gi):T:=
 match x,hU P t with
 | .w (.one (.slc cp gT mO _)),some e=>match P.info? e,mr P e with
  |some i,some z=>match sr bl cp gT (mO*i.size)with
   |some news=>cond (!(aG t t')) .stuck <| cond (Qr s) (Jf i e z d 0 0 mO [] news n tm bl k) <| match s with
    | .w (.one (.slc b off len cap))=>match sr bl b off (len*i.size)with
     |some olds=>Jf i e z d len cap mO olds news n tm bl k
     |none=> .stuck
    | .n2 b len lo=>match bl[b]? with
     |some (cs,ty)=>cond (bB (len+mO) lo&&bB ((len+mO)*i.size) cs.length&&cf 0 (mO*i.size)&&bV cs&&bV (cs.take (len*i.size)++news++cs.drop (len*i.size+news.length))) (k n (fr tm d (.n2 b (len+mO) lo)) (df bl b (cs.take (len*i.size)++news++cs.drop (len*i.size+news.length),ty))) .stuck
     |none=> .stuck
    |_=> .stuck
   |none=> .stuck
  |_,_=> .stuck
 |_,_=> .stuck
def mm (sh:List aB):Bool:=bB sh.length 100&&cf 0 sh.length&&sh.all λc=>match c with
 | .int _ lo hi=>decide (-18446744073709551616<=lo)&&decide (hi<=18446744073709551616)
 |_=>true
def zQ (e:bd):M aa:=λn k=> .ind n e (k (.var n) (n+1))
def Na (c:aB) (a:A):M aa:=
 match c,a with
 | .int k lo hi,.int a6 x=>cond (decide (k=a6)&&decide (lo<=x.lo)&&decide (x.hi<=hi)) (pure x.l) fail
 | .str,.str l=>pure l
 | .bool,.bool e=>match e with
  | .lit v=>pure (.const (cond v 1 0))
  |e=>zQ e
 |_,_=>fail
def vV:List aB->List A->M (List aa)
 |[],[]=>pure []
 |c::sh,a::r=>bind (Na c a) λl=>bind (vV sh r) λls=>pure (l::ls)
 |_,_=>fail
noncomputable def wM (sh:List aB):List (List A)->aa->M aa
 |[],c=>pure c
 |row::rs,c=>bind (vV sh row) λls=>bind (eT 23 (c::ls) 0 bK) λc'=>wM sh rs c'
def nc (w:Nat):Nat->List A->List (List A)
 |0,_=>[]
 |k+1,l=>l.take w::nc w k (l.drop w)
noncomputable def Ld (P:bH) (oP:aX) (sh:List aB) (bl:List ax) (x:V) (base:aa):M (aa×aa):=
 match x with
 | .w (.one (.slc b off len _))=>match sr bl b off (len*sh.length),hU P oP with
  |some cs,some _=>bind (fy 23 [base,.const len]) λ_=>bind (wM sh (nc sh.length len cs) base) λc=>pure (c,.const len)
  |_,_=>fail
 | .w (.one (.sl b a7 o ro len _))=>match bl[b]?,hU P oP with
  |some ([.rows eK off code dL kind],_),some _=>cond (cf 0 kind&&nu sh eK&&aa.beq o off&&aG a7 sh.length) (bind (fy 22 [code,ro,ro.add len]) λ_=>bind (fy 23 [base,len]) λ_=>bind (eT 22 [code,ro,ro.add len] 0 bK) λs=>bind (eT 24 [base,s] 0 bK) λc=>pure (c,len)) fail
  |_,_=>fail
 | .w (.one (.str l))=>match P.underlying oP with
  |some .string=>cond (IF sh) (bind (eT 0 [l] 0 9223372036854775807) λlen=>bind (fy 23 [base,len]) λ_=>bind (eT 27 [l] 0 bK) λs=>bind (eT 24 [base,s] 0 bK) λc=>pure (c,len)) fail
  |_=>fail
 | .w (.one (.con (.slice none 0 0)))=>match hU P oP with
  |some _=>bind (fy 23 [base,.const 0]) λ_=>pure (base,.const 0)
  |none=>fail
 |_=>fail
def auu (bl:List ax):V->Option (List aB)
 | .w (.one (.sl b _ _ _ _ _))=>match bl[b]? with
  |some ([.rows sh _ _ _ _],_)=>some sh
  |_=>none
 |_=>none
def Lb:List A->Option (List aB)
 |[]=>some []
 | .int k _::r=>(Lb r).map (.int k k.min k.max::·)
 | .str _::r=>(Lb r).map (.str::·)
 | .bool _::r=>(Lb r).map (.bool::·)
 |_=>none
def auv (bl:List ax) (s x:V) (z:List A):Option (List aB):=match auu bl x with
 |some sh=>some sh
 |none=>match s,x with
  | .w (.one (.slc ..)),.w (.one (.slc ..))=>Lb z
  |_,_=>none
def SY:V->Bool
 | .w (.one (.sl _ _ _ _ len cap))=>match len.dM,cap.dM with|some l,some c=>decide (l=0)&&decide (c=0)|_,_=>false
 | .w (.one (.slc _ _ len cap))=>aG len 0&&aG cap 0
 | .w (.one (.con (.slice none 0 0)))=>true
 |_=>false
noncomputable def Fb (kd:Nat) (e:aX) (d:Option Tmp) (sh:List aB) (code len:aa) (n:Nat) (tm:List V) (bl:List ax) (k:gi):T:=
 .p7 n (-1) 9223372036854775807 (k (n+1) (fr tm d (.w (.one (.sl bl.length sh.length (.const 0) (.const 0) len (.var n))))) (bl++[([.rows sh (.const 0) code (.var n) kd],(e,false))]))
noncomputable def BY (e:aX) (d:Option Tmp) (sh:List aB) (code len:aa) (n:Nat) (tm:List V) (bl:List ax) (k:gi):T:=
 .p7 n (-1) 9223372036854775807 (k (n+1) (fr tm d (.w (.one (.sl bl.length sh.length (.const 0) (.const 0) len (.var n))))) (bl++[([.rows sh (.const 0) code (.var n) 2],(e,false))]))
noncomputable def W6 (P:bH) (oP e:aX) (d:Option Tmp) (sh:List aB) (s x:V) (n:Nat) (tm:List V) (bl:List ax) (k:gi):T:=
 Ld P oP sh bl x (.const 0) n λp n'=>match p.2.dM with
  |some 0=>k n' (fr tm d s) bl
  |some _=>BY e d sh p.1 p.2 n' tm bl k
  |none=> .nM (.le p.2 (.const 0)) (k n' (fr tm d s) bl) (BY e d sh p.1 p.2 n' tm bl k)
def BW (sh:List aB) (i:TypeInfo) (z:List A):Bool:=mm sh&&aG i.size sh.length&&aG z.length sh.length&&bB i.bytes 131072
noncomputable def MN (P:bH) (d:Option Tmp) (t t':aX) (s x:V) (n:Nat) (tm:List V) (bl:List ax) (k:gi):Option T:=
 match hU P t with
 |none=>none
 |some e=>match P.info? e,mr P e with
  |some i,some z=>match SY s with
   |true=>match auv bl s x z with
    |some sh=>cond (BW sh i z) (some (W6 P t' e d sh s x n tm bl k)) none
    |none=>none
   |false=>match s with
    | .w (.one (.sl b _ o ro len cap))=>match bl[b]? with
     |some ([.rows sh off code dL kind],bY)=>cond (BW sh i z&&aG kind 2&&aa.beq o (.const 0)&&aa.beq off (.const 0)&&aa.beq ro (.const 0)&&aa.beq cap dL&&aG bY.1 e)
      (some (.nO 31 [code,len] (Ld P t' sh bl x code n λp n'=>BY e d sh p.1 (len.add p.2) n' tm (df bl b ([.rows sh off code dL 0],bY)) k))) none
     |_=>none
    |_=>none
  |_,_=>none
noncomputable def R7 (P:bH) (o:Oper) (n:Nat) (tm:List V) (bl:List ax) (k:gi):Option T:=
 match o.op with
 | .call c=>match c.callee with
  | .builtin .append=>match c.args.toList,c.argTypes.toList with
   |[s,x],[t,t']=>MN P o.dst t t' (cg tm s) (cg tm x) n tm bl k
   |_,_=>none
  |_=>none
 |_=>none
def gK:List aB:=[.int .u8 0 255]
def J2 (fn:Func):Bool:=fn.name== "internal/bytealg.MakeNoZero" &&fn.body.isNone&&fn.origin== ""
noncomputable def uu (P:bH) (o:Oper) (n:Nat) (tm:List V) (bl:List ax) (k:gi):Option T:=
 match o.op with
 | .store t p x=>match cg tm p,cg tm x with
  | .w (.one (.ep b a7 cm i j)),.w u=>match bl[b]?,eW P t with
   |some ([.rows sh off code cap kind],bY),some s=>cond (bB 2 kind&&aG a7 sh.length&&aa.beq cm off&&aG u.cells.length s&&cf 0 s&&bB (j+s) sh.length&&mm sh)
    (some (fy 21 [code,i] n λ_ n=>Bt 67 [code,i,.const sh.length] n λ_ n=>vV ((sh.drop j).take s) u.cells n λls n=>eT 42 (code::i:: .const j::ls) 0 bK n λcode' n=>k n (fr tm o.dst (.fY [])) (df bl b ([.rows sh off code' cap kind],bY)))) none
   |_,_=>none
  |_,_=>none
 | .convert s d x=>match cg tm x with
  | .w (.one (.str l))=>match P.underlying s,hU P d with
   |some .string,some e=>match P.underlying e with
    |some (.int .u8)=>some (eT 27 [l] 0 bK n λcode n=>eT 0 [l] 0 9223372036854775807 n λlen n=>Fb 3 e o.dst gK code len n tm bl k)
    |_=>none
   |_,_=>none
  | .w (.one (.slc b 0 len cap))=>match bl[b]?,hU P d with
   |some (C,t),some e=>match P.underlying e with
    |some (.int .u8)=>cond (aG s d&&bV C&& !t.2&&aG C.length len&&aG cap len&&bB len 1000000)
     (some (wM gK (nc 1 len C) (.const 0) n λcode n=>k n (fr tm o.dst (.w (.one (.sl b 1 (.const 0) (.const 0) (.const len) (.const len))))) (df bl b ([.rows gK (.const 0) code (.const len) 3],t)))) none
    |_=>none
   |_,_=>none
  |_=>none
 | .makeSlice t x y=>match hU P t,pe (cg tm x),pe (cg tm y)with
  |some e,some mP,some mf=>match P.info? e with
   |some i=>match i.zero with
    |some (.int .u8 z)=>cond (aG i.size 1&&bB i.bytes 1024&&decide (z=0)) (some (.nO 49 [mP,mf] (eT 26 [mP,.const 0] 0 bK n λcode n=>Fb 2 e o.dst gK code mP n tm bl k))) none
    |_=>none
   |none=>none
  |_,_,_=>none
 | .call c=>match c.callee with
  | .value (.func f)=>match P.funcs[f]?,c.args.toList with
   |some fn,[x]=>match cg tm x,fn.resultTypes.toList with
    | .w (.one (.int .i64 y)),[t]=>match hU P t with
     |some e=>match P.underlying e with
      |some (.int .u8)=>cond (J2 fn) (some (.nO 26 [y.l] (.p7 n 0 bK (.qi 31 [.var n,y.l] (.p7 (n+1) 0 9223372036854775807 (.qi 79 [y.l,.var (n+1)]
       (k (n+2) (fr tm o.dst (.w (.one (.sl bl.length 1 (.const 0) (.const 0) y.l (.var (n+1)))))) (bl++[([.rows gK (.const 0) (.var n) (.var (n+1)) 2],(e,false))]))))))))
       none
      |_=>none
     |none=>none
    |_,_=>none
   |_,_=>none
  |_=>none
 |_=>none
noncomputable def R8 (P:bH) (o:Oper) (n:Nat) (tm:List V) (bl:List ax) (k:gi):Option T:=
 match o.op with
 | .call c=>match c.callee with
  | .builtin .clear=>match c.args.toList,c.argTypes.toList with
   |[x],[t]=>match cg tm x,hU P t with
    | .w (.one (.sl b a7 cm ro len cap)),some e=>match bl[b]?,mr P e with
     |some ([.rows sh off code dL kind],bY),some z=>cond (bB 2 kind&&aa.beq cm off&&aG a7 sh.length&&mm sh&&aG z.length sh.length)
      (some (fy 65 [code,ro,len] n λ_ n=>vV sh z n λls n=>eT 61 (code::ro::len::ls) 0 bK n λcode' n=>k n (fr tm o.dst (.fY [])) (df bl b ([.rows sh off code' dL kind],bY)))) none
     |_,_=>none
    |_,_=>none
   |_,_=>none
  | .builtin .copy=>match c.args.toList,c.argTypes.toList with
   |[x,y],[t,t']=>match cg tm x,cg tm y,hU P t with
    | .w (.one (.sl b a7 cm ro len cap)),.w (.one (.sl b2 Sb o2 fP jl BD)),some e=>match bl[b]?,bl[b2]?,eW P e with
     |some ([.rows sh off code dL kind],bY),some ([.rows RV Q4 gy u1 vH],_),some s=>cond (bB 2 kind&&cf 0 vH&&aa.beq cm off&&aa.beq o2 Q4&&nu sh RV&&aG a7 sh.length&&aG Sb sh.length&&aG s sh.length&&mm sh)
      (some (fy 80 [code,ro,len] n λ_ n=>fy 22 [gy,fP,fP.add jl] n λ_ n=>eT 62 [jl,len] 0 9223372036854775807 n λq n=>eT 22 [gy,fP,fP.add q] 0 bK n λsrc n=>eT 63 [code,ro,src] 0 bK n λcode' n=>k n (fr tm o.dst (.w (.one (.int .i64 ⟨q,0,9223372036854775807⟩)))) (df bl b ([.rows sh off code' dL kind],bY)))) none
     |_,_,_=>none
    | .w (.one (.sl ..)),.w (.one (.con (.slice none 0 0))),some e=>match eW P e with
     |some _=>some (k n (fr tm o.dst (.w (.one (.int .i64 ⟨.const 0,0,0⟩)))) bl)
     |none=>none
    |_,_,_=>none
   |_,_=>none
  |_=>none
 |_=>none
def Ng:V->Option (Nat×List A)
 | .oy f iA=>some (f,iA)
 | .w (.one (.con (.func (.func f) a b)))=>cond (aG a.size 0&&aG b.size 0) (some (f,[])) none
 |_=>none
noncomputable def R6 (P:bH) (gl:ei) (cal:eI) (inl:js) (o:Oper) (n:Nat) (tm:List V) (bl:List ax) (k:gi):T:=
 match o.op with
 | .alloc t=>match mr P t with
  |some cs=>cond (bV cs) (k n (fr tm o.dst (.w (.one (.ptr bl.length 0)))) (bl++[(cs,(t,false))])) .stuck
  |none=> .stuck
 | .box t x=>match cg tm x with
  | .w u=>cond (bV u.cells) (k n (fr tm o.dst (.w (.one (.ptr bl.length 0)))) (bl++[(u.cells,(t,false))])) .stuck
  |_=> .stuck
 | .buildSlice t len parts=>match MY P t len (parts.toList.map λp=>(p.1,cg tm p.2))with
  |some (cs,e)=>cond (bV cs) (k n (fr tm o.dst (.w (.one (.slc bl.length 0 len len)))) (bl++[(cs,(e,false))])) .stuck
  |none=> .stuck
 | .store t p x=>match cg tm p,cg tm x with
  | .w (.one (.ptr b off)),.w u=>match bl[b]?,eW P t with
   |some (cs,bY),some s=>cond (aG u.cells.length s&&bB (off+s) cs.length&&cf 0 s&&bV cs&&bV (cs.take off++u.cells++cs.drop (off+s))) (k n (fr tm o.dst (.fY [])) (df bl b (cs.take off++u.cells++cs.drop (off+s),bY))) .stuck
   |_,_=> .stuck
  |_,_=> .stuck
 | .call c=>match c.callee with
  | .value (.func f)=>match cal f with
   |some _=>vR P cal gl bl tm o n λv n'=>k n' (fr tm o.dst v) bl
   |none=>inl f n (c.args.toList.map (cg tm)) bl λn' v a8=>k n' (fr tm o.dst v) a8
  | .value (.tmp x)=>match I0 cal bl tm o with
   |some _=>vR P cal gl bl tm o n λv n'=>k n' (fr tm o.dst v) bl
   |none=>match Ng (cg tm (.tmp x))with
   |some (f,iA)=>inl f n (c.args.toList.map (cg tm)++iA.map λy=>V.w (.one y)) bl λn' v a8=>k n' (fr tm o.dst v) a8
   |none=> .stuck
  | .builtin .append=>match c.args.toList,c.argTypes.toList with
   |[s,x],[t,t']=>MM P o.dst t t' (cg tm s) (cg tm x) n tm bl k
   |_,_=> .stuck
  |_=>vR P cal gl bl tm o n λv n'=>k n' (fr tm o.dst v) bl
 |_=>vR P cal gl bl tm o n λv n'=>k n' (fr tm o.dst v) bl
noncomputable def Le (P:bH) (gl:ei) (cal:eI) (inl:js) (o:Oper) (n:Nat) (tm:List V) (bl:List ax) (k:gi):T:=
 match R7 P o n tm bl k with
 |some t=>t
 |none=>match uu P o n tm bl k with
  |some t=>t
  |none=>match R8 P o n tm bl k with
   |some t=>t
   |none=>R6 P gl cal inl o n tm bl k
def q8:bd->Bool->Option (aa×Option Int×Option Int)
 | .le p q,true=>match p.dM,q.dM with|some c,none=>some (q,some c,none)|none,some c=>some (p,none,some c)|_,_=>none
 | .le p q,false=>match p.dM,q.dM with|some c,none=>some (q,none,some (c-1))|none,some c=>some (p,some (c+1),none)|_,_=>none
 | .lt p q,true=>match p.dM,q.dM with|some c,none=>some (q,some (c+1),none)|none,some c=>some (p,none,some (c-1))|_,_=>none
 | .lt p q,false=>match p.dM,q.dM with|some c,none=>some (q,none,some c)|none,some c=>some (p,some c,none)|_,_=>none
 | .not b,v=>q8 b (!v)
 |_,_=>none
def Da (a:Int):Option Int->Int
 |some b=>cond (decide (a<=b)) b a
 |none=>a
def GJ (a:Int):Option Int->Int
 |some b=>cond (decide (b<=a)) b a
 |none=>a
def IU (b:bd) (v:Bool) (r:Option (aa×Option Int×Option Int)):V->V
 | .w (.one (.bool e))=> .w (.one (.bool (cond (bd.beq e b) (.lit v) e)))
 | .w (.one (.int k x))=>match r with
  |some (l,lo,hi)=> .w (.one (.int k (cond (aa.beq x.l l) (cond (decide (Da x.lo lo=GJ x.hi hi)) (.const (Da x.lo lo)) ⟨x.l,Da x.lo lo,GJ x.hi hi⟩) x)))
  |none=> .w (.one (.int k x))
 |u=>u
def qS (b:bd) (v:Bool) (l:List V):List V:=l.map (IU b v (q8 b v))
def y8 (ops:Array Oper) (tm:List V) (o:Oper) (yes no:List V->T):T:=
 match o.guard with
 |none=>yes tm
 |some (g,want)=>match(ops[g]?).bind (·.dst)with
  |none=> .stuck
  |some d=>match tm[d]? with
   |some (.w (.one (.bool b)))=>match b with
    | .lit v=>cond (v==want) (yes tm) (no tm)
    |b=> .nM b (cond want (yes (qS b true tm)) (no (qS b true tm))) (cond want (no (qS b false tm)) (yes (qS b false tm)))
   |some (.fY [])=>no tm
   |_=> .stuck
noncomputable def Dk (P:bH) (gl:ei) (cal:eI) (inl:js) (ops:Array Oper):List Oper->Nat->List V->List ax->gi->T
 |[],n,tm,bl,k=>k n tm bl
 |o::r,n,tm,bl,k=>y8 ops tm o (λtm=>Le P gl cal inl o n tm bl λn' ch a8=>Dk P gl cal inl ops r n' ch a8 k) (λtm=>Dk P gl cal inl ops r n (fr tm o.dst (.fY [])) bl k)
def MI (g:Nat->T):List Nat->T
 |[]=> .stuck
 |[i]=>g i
 |i::r=> .both (g i) (MI g r)
noncomputable def Cc (P:bH) (gl:ei) (cal:eI) (ops:Array Oper):List Oper->Nat->List V->List ax->(Nat->List V->T)->T
 |[],n,tm,bl,k=>k n tm
 |o::r,n,tm,bl,k=>cond (fH o) (Cc P gl cal ops r n tm bl k) (y8 ops tm o (λtm=>vR P cal gl bl tm o n λv n'=>Cc P gl cal ops r n' (fr tm o.dst v) bl k) (λtm=>Cc P gl cal ops r n (fr tm o.dst (.fY [])) bl k))
def EE (P:bH):List Oper->Nat->List V->List ax->gi->T
 |[],n,tm,bl,k=>k n tm bl
 |o::r,n,tm,bl,k=>cond (fH o) (match o.op with
  | .alloc t=>match mr P t with
   |some cs=>cond (bV cs) (EE P r n (fr tm o.dst (.w (.one (.ptr bl.length 0)))) (bl++[(cs,(t,false))]) k) .stuck
   |none=> .stuck
  |_=> .stuck) (EE P r n tm bl k)
def LI (P:bH) (l:List Oper):Bool:=l.all λo=> !fH o||(match o.op with| .alloc t=>(mr P t).isSome|_=>false)
def Cd (cal:eI) (dyn:Bool) (ops:Array Oper):List Tmp->List Oper->Nat
 |_,[]=>0
 |ds,o::r=>cond ((o.looksAt ops).any ds.contains) 0 <| cond (fH o) (Cd cal dyn ops (match o.dst with|some d=>d::ds|none=>ds) r+1) <| cond (atx cal dyn o) (Cd cal dyn ops ds r+1) 0
def FO (P:bH) (cal:eI) (ops:Array Oper):Nat:=
 cond (DJ ops (Cd cal false ops [] ops.toList)&&LI P (ops.toList.take (Cd cal false ops [] ops.toList))) (Cd cal false ops [] ops.toList) (Cd cal true ops [] ops.toList)
def BR:Code->Option Nat
 | .region id _ _=>some id
 | .seq a b=>match BR a with|some i=>some i|none=>BR b
 | .block _ c| .loop c| .scope c=>BR c
 | .cond _ a b=>match BR a with|some i=>some i|none=>BR b
 |_=>none
def Nk:aF->aF->Bool
 | .pointer none,.pointer none=>true
 | .slice none 0 0,.slice none 0 0=>true
 | .func (.func f) a b,.func (.func kC) di cp=>aG f kC&&aG a.size 0&&aG b.size 0&&aG di.size 0&&aG cp.size 0
 |_,_=>false
def A.beq:A->A->Bool
 | .int k x,.int a6 y=>decide (k=a6)&&aa.beq x.l y.l&&x.lo==y.lo&&x.hi==y.hi
 | .bool a,.bool b=>bd.beq a b
 | .con a,.con b=>Nk a b
 | .ptr b o,.ptr cp cm=>aG b cp&&aG o cm
 | .gptr b o,.gptr cp cm=>aG b cp&&aG o cm
 | .slc b o l c,.slc cp cm bQ c'=>aG b cp&&aG o cm&&aG l bQ&&aG c c'
 | .str a,.str b=>aa.beq a b
 | .rows sh o c q k,.rows eK cm c' q' a6=>nu sh eK&&aa.beq o cm&&aa.beq c c'&&aa.beq q q'&&aG k a6
 | .sl b z o r l c,.sl cp SU cm r' bQ c'=>aG b cp&&aG z SU&&aa.beq o cm&&aa.beq r r'&&aa.beq l bQ&&aa.beq c c'
 | .ep b z o i j,.ep cp SU cm zN Qu=>aG b cp&&aG z SU&&aa.beq o cm&&aa.beq i zN&&aG j Qu
 |_,_=>false
def ow:List A->List A->Bool
 |[],[]=>true
 |a::r,b::s=>A.beq a b&&ow r s
 |_,_=>false
def V.beq:V->V->Bool
 | .w (.one a),.w (.one b)=>A.beq a b
 | .w (.agg l),.w (.agg bQ)=>ow l bQ
 | .fY [],.fY []=>true
 | .oy f l,.oy kC bQ=>aG f kC&&ow l bQ
 |_,_=>false
def wV (i:Nat):List (Nat×Int×Int)->Option (Int×Int)
 |[]=>none
 |(j,lo,hi)::r=>cond (aG i j) (some (lo,hi)) (wV i r)
noncomputable def hs (fl:List Nat) (ints:List (Nat×Int×Int)):Nat->Nat->List V->Option (List V×List aa×List (Int×Int))
 |_,_,[]=>some ([],[],[])
 |i,s,v::r=>cond (fl.any (aG i)) (match hs fl ints (i+1) s r with|some (t,l,b)=>some (v::t,l,b)|none=>none)
  (match wV i ints with
  |some (lo,hi)=>match v with
   | .w (.one (.int k x))=>cond (decide (lo<=x.lo)&&decide (x.hi<=hi)) (match hs fl ints (i+1) (s+1) r with|some (t,l,b)=>some (.w (.one (.int k ⟨.var s,lo,hi⟩))::t,x.l::l,(lo,hi)::b)|none=>none) none
   | .w (.one (.str x))=>(match hs fl ints (i+1) (s+1) r with|some (t,l,b)=>some (.w (.one (.str (.var s)))::t,x::l,(0,bM)::b)|none=>none)
   |_=>none
  |none=>match hs fl ints (i+1) s r with|some (t,l,b)=>some (.any::t,l,b)|none=>none)
noncomputable def jH (lo hi:Int) (s:Nat):A->Option (A×aa×(Int×Int))
 | .int k x=>cond (decide (lo<=x.lo)&&decide (x.hi<=hi)) (some (.int k ⟨.var s,lo,hi⟩,x.l,(lo,hi))) none
 | .str x=>some (.str (.var s),x,(0,bM))
 | .rows sh off code cap k=>some (.rows sh off (.var s) cap k,code,(0,bK))
 |_=>none
noncomputable def ha (ints:List (Nat×Int×Int)):Nat->Nat->List A->Option (List A×List aa×List (Int×Int))
 |_,_,[]=>some ([],[],[])
 |i,s,v::r=>match wV i ints with
  |some (lo,hi)=>match jH lo hi s v with
   |some (a,x,eL)=>match ha ints (i+1) (s+1) r with|some (t,l,b)=>some (a::t,x::l,eL::b)|none=>none
   |none=>none
  |none=>match ha ints (i+1) s r with|some (t,l,b)=>some (v::t,l,b)|none=>none
def cellsOf (b:Nat):List (Nat×Nat×Int×Int)->List (Nat×Int×Int)
 |[]=>[]
 |(cp,c,q)::r=>cond (aG b cp) ((c,q)::cellsOf b r) (cellsOf b r)
noncomputable def hb (cells:List (Nat×Nat×Int×Int)):Nat->Nat->List ax->Option (List ax×List aa×List (Int×Int))
 |_,_,[]=>some ([],[],[])
 |i,s,(cs,ty)::r=>match ha (cellsOf i cells) 0 s cs with
  |some (c,l,b)=>match hb cells (i+1) (s+l.length) r with
   |some (t,bQ,cp)=>some ((c,ty)::t,l++bQ,b++cp)
   |none=>none
  |none=>none
def lZ:List V->List V->Bool
 |[],[]=>true
 | .any::r,_::s=>lZ r s
 |v::r,u::s=>V.beq v u&&lZ r s
 |_,_=>false
def lY:List ax->List ax->Bool
 |[],[]=>true
 |(c,t)::r,(c',t')::s=>ow c c'&&aG t.1 t'.1&&(t.2==t'.2)&&lY r s
 |_,_=>false
def eZ:ax:=([.rows [] (.const 0) (.const 0) (.const 0) 0],(0,false))
def gN (N:Nat):Nat->List ax->List ax
 |_,[]=>[]
 |i,p::r=>cond (cf i N&&bV p.1) p eZ::gN N (i+1) r
def Jx (N:Nat) (tm:List V) (bl:List ax) (o:Oper):Bool:=match o.op with
 | .move _| .assign _| .extract _ _| .fieldAddr .. =>true
 | .load _ p=>match cg tm p with
  | .w (.one (.ptr b _))=>cf b N&&(match bl[b]? with|some p=>bV p.1|none=>false)
  |_=>false
 | .slice _ x _ _ _=>match cg tm x with| .w (.one (.sl ..))=>true|_=>false
 |_=>false
def Zj (o:Oper):Bool:=match o.op with| .store .. =>true|_=>false
def Ye (N:Nat) (tm:List V) (bl:List ax) (ops:Array Oper) (listed:Array Bool):Option Nat:=
 cond (LN ops) ((rT .any ops listed).find? λi=>(match ops[i]? with|some o=>Jx N tm bl o|none=>false)&&aAh .any ops listed i) none
def apE (ops:Array Oper) (tm:List V) (o:Oper):Bool:=match o.guard with
 |some (g,want)=>match(ops[g]?).bind (·.dst)with
  |some d=>match tm[d]? with
   |some (.w (.one (.bool (.lit v))))=> !(v==want)
   |some (.fY [])=>true
   |_=>false
  |none=>false
 |none=>false
def aae (tm:List V) (ops:Array Oper) (listed:Array Bool):Option Nat:=
 cond (LN ops) ((rT .any ops listed).find? λi=>(match ops[i]? with|some o=>apE ops tm o|none=>false)&&aAh .any ops listed i) none
def preB:List ax->List ax->Bool
 |(c,t)::r,(c',t')::s=>ow c c'&&aG t.1 t'.1&&(t.2==t'.2)&&preB r s
 |[],_=>true
 |_,_=>false
noncomputable def uW (P:bH) (gl:ei) (cal:eI) (inl:js) (ops:Array Oper) (N:Nat) (BA:List ax):Nat->Array Bool->Nat->List V->List ax->gi->T
 |0,listed,n,tm,bl,k=>match rT .any ops listed with
  |[]=>k n tm bl
  |_=> .stuck
 |f+1,listed,n,tm,bl,k=>match rT .any ops listed with
  |[]=>k n tm bl
  |l=>match Ye N tm bl ops listed with
   |some i=>match ops[i]? with
    |none=> .stuck
    |some o=>y8 ops tm o (λtm=>vR P cal gl (gN N 0 bl) tm o n λv n'=>uW P gl cal inl ops N BA f (listed.setIfInBounds i true) n' (fr tm o.dst v) bl k) (λtm=>uW P gl cal inl ops N BA f (listed.setIfInBounds i true) n (fr tm o.dst (.fY [])) bl k)
   |none=>match aae tm ops listed with
    |some i=>match ops[i]? with
     |none=> .stuck
     |some o=>y8 ops tm o (λ_=> .stuck) (λtm=>uW P gl cal inl ops N BA f (listed.setIfInBounds i true) n (fr tm o.dst (.fY [])) bl k)
    |none=>MI (λi=>match ops[i]? with
    |none=> .stuck
    |some o=>y8 ops tm o (λtm=>Le P gl cal inl o n tm bl λn' ch a8=>cond (preB BA (gN N 0 a8)) (uW P gl cal inl ops N BA f (listed.setIfInBounds i true) n' ch a8 k) .stuck) (λtm=>uW P gl cal inl ops N BA f (listed.setIfInBounds i true) n (fr tm o.dst (.fY [])) bl k)) l
def FP (ops:Array Oper) (bl:List ax):Nat:=cond (ops.toList.any Zj) 0 bl.length
def ZJ (o:Oper):Bool:=match o.op with| .move _| .assign _| .extract _ _| .fieldAddr .. | .load .. | .slice .. =>true|_=>false
def RA (body:Nat->List V->List ax->q3->T):Nat->Nat->List V->List ax->q3->T
 |0,_,_,_,_=> .stuck
 |r+1,n,tm,bl,k=>body n tm bl λx n' ch a8=>match x with
  | .normal=>RA body r n' ch a8 k
  |x=>k x n' ch a8
def th (lo:Nat):List (Nat×List aB×aX)->List V->List ax->List Nat->Option (List aa×List Nat)
 |[],_,_,used=>some ([],used)
 |(s,sh,e)::r,tm,bl,used=>match tm[s]? with
  |some (.w (.one (.con (.slice none 0 0))))=>match th lo r tm bl used with
   |some (l,u)=>some (.const 0:: .const 0:: .const (-1)::l,u)
   |none=>none
  |some (.w (.one (.sl b a7 o ro len cap)))=>match bl[b]? with
   |some ([.rows eK off code dL kind],t)=>cond (nu sh eK&&aG kind 2&&aa.beq o (.const 0)&&aa.beq off (.const 0)&&aa.beq ro (.const 0)&&aa.beq cap dL&&aG t.1 e&&aG a7 sh.length&&bB lo b&& !(used.any (aG b)))
    (match th lo r tm bl (b::used)with
    |some (l,u)=>some (code::len::cap::l,u)
    |none=>none) none
   |_=>none
  |_=>none
def ma:List Nat->List ax->List ax
 |[],bl=>bl
 |b::r,bl=>match bl[b]? with
  |some ([.rows sh off code cap _],t)=>ma r (df bl b ([.rows sh off code cap 0],t))
  |_=>ma r bl
def y6:List (Nat×Int×Int)->List V->M (List V)
 |[],tm=>pure tm
 |(s,lo,hi)::r,tm=>match tm[s]? with
  |some (.w (.one (.int k x)))=>cond (decide (lo<=x.lo)&&decide (x.hi<=hi)) (y6 r tm) (bind (fy 39 [x.l,.const lo,.const hi]) λ_=>y6 r (qQ tm s (.w (.one (.int k ⟨x.l,lo,hi⟩)))))
  |_=>y6 r tm
def EM (tm:List V):List Nat->M (List aa)
 |[]=>pure []
 |s::r=>match tm[s]? with
  |some (.w (.one (.bool e)))=>bind (match e with| .lit v=>pure (.const (cond v 1 0))|e=>zQ e) λl=>bind (EM tm r) λls=>pure (l::ls)
  |_=>fail
def sq:List Nat->Nat->List V->List V
 |[],_,tm=>tm
 |s::r,v,tm=>sq r (v+1) (qQ tm s (.w (.one (.bool (.eq (.var v) (.const 1))))))
def qy:List (Nat×List aB×aX)->Nat->List V->List ax->List V×List ax
 |[],_,tm,bl=>(tm,bl)
 |(s,sh,e)::r,v,tm,bl=>qy r (v+3) (qQ tm s (.w (.one (.sl bl.length sh.length (.const 0) (.const 0) (.var (v+1)) (.var (v+2)))))) (bl++[([.rows sh (.const 0) (.var v) (.var (v+2)) 2],(e,false))])
def IB (l:List Nat):List (Int×Int):=l.map λ_=>(0,1)
noncomputable def yP (l:List (Nat×List aB×aX)):List (Int×Int):=l.flatMap λ_=>[(0,bK),(0,9223372036854775807),(-1,9223372036854775807)]
noncomputable def Hc:List (Nat×List aB×Nat)->List ax->M (List ax)
 |[],bl=>pure bl
 |(b,sh,c)::r,bl=>match bl[b]? with
  |some (C,t)=>cond (bV C) (cond (!t.2&&aG C.length (c*sh.length)&&mm sh&&bB c 1000000) (bind (wM sh (nc sh.length c C) (.const 0)) λcode=>Hc r (df bl b ([.rows sh (.const 0) code (.const c) 2],t))) fail) (Hc r bl)
  |none=>fail
def AJ:List (Nat×List aB)->List V->List ax->Option (List aa)
 |[],_,_=>some []
 |(s,sh)::r,tm,bl=>match tm[s]? with
  |some (.w (.one (.con (.slice none 0 0))))=>match AJ r tm bl with
   |some l=>some (.const 0:: .const 0:: .const (-1)::l)
   |none=>none
  |some (.w (.one (.sl b a7 o ro len cap)))=>match bl[b]? with
   |some ([.rows eK off code dL kind],t)=>cond (nu sh eK&&aG kind 1&&aa.beq o off&&aa.beq ro (.const 0)&&aa.beq cap dL&&aG a7 sh.length)
    (match AJ r tm bl with
    |some l=>some (code::len::cap::l)
    |none=>none) none
   |_=>none
  |_=>none
def Ks:Nat->M Unit
 |0=>pure ()
 |k+1=>λn Bf=> .nat n (Ks k (n+1) Bf)
def headD:List (Nat×List aB)->Nat->Nat->List V->List ax->List V×List ax
 |[],_,_,tm,bl=>(tm,bl)
 |(s,sh)::r,v,u,tm,bl=>headD r (v+3) (u+1) (qQ tm s (.w (.one (.sl bl.length sh.length (.var u) (.const 0) (.var (v+1)) (.var (v+2)))))) (bl++[([.rows sh (.var u) (.var v) (.var (v+2)) 1],(0,false))])
noncomputable def AI (l:List (Nat×List aB)):List (Int×Int):=l.flatMap λ_=>[(0,bK),(0,9223372036854775807),(-1,9223372036854775807)]
noncomputable def QQ (li:c7) (body:Nat->List V->List ax->q3->T) (n:Nat) (tm:List V) (bl:List ax) (k:q3):T:=
 Hc li.RH bl n λbl n=>y6 li.ints tm n λtm n=>EM tm li.pG n λlb n=>match hs li.fl li.ints 0 (n+1) tm,th 0 li.o0 tm bl [],AJ li.lE tm bl with
 |some (kQ,l1,b1),some (la,us),some jP=>match hb li.cells 0 (n+1+l1.length) (ma us bl)with
  |none=> .stuck
  |some (er,l2,b2)=>cond (!(lZ kQ kQ&&lY er er)) .stuck <| .loop n (l1++l2++(lb++la++jP)) (n+1) (b1++b2++(IB li.pG++yP li.o0++AI li.lE))
   (Ks li.lE.length (n+1+l1.length+l2.length+(lb++la++jP).length) λ_ N=>
   let d:=headD li.lE (n+1+l1.length+l2.length+(lb++la).length) (n+1+l1.length+l2.length+(lb++la++jP).length) (sq li.pG (n+1+l1.length+l2.length) kQ) er
   let e:=qy li.o0 (n+1+l1.length+l2.length+lb.length) d.1 d.2
   body N e.1 e.2 λx n' ch a8=>match x with
   | .normal=>y6 li.ints ch n' λch n'=>EM ch li.pG n' λZu n'=>match hs li.fl li.ints 0 (n+1) ch,th bl.length li.o0 ch a8 [],AJ li.lE ch a8 with
    |some (wa,v1,_),some (QD,_),some ZK=>match hb li.cells 0 (n+1+v1.length) (a8.take bl.length)with
     |none=> .stuck
     |some (nL,v2,_)=>cond (lZ kQ wa&&lY er nL) (.again n (v1++v2++(Zu++QD++ZK))) .stuck
    |_,_,_=> .stuck
   |x=>k x n' ch a8)
 |_,_,_=> .stuck
noncomputable def lV (P:bH) (gl:ei) (cal:eI) (inl:js) (li:Nat->Option c7) (rounds:Nat):Code->Nat->List V->List ax->q3->T
 | .skip,n,tm,bl,k=>k .normal n tm bl
 | .region _ ops draw,n,tm,bl,k=>cond draw
  (let h:=FO P cal ops
   cond (DJ ops h&&LI P (ops.toList.take h)) (Cc P gl cal ops (ops.toList.take h) n tm bl λn' ch=>EE P (ops.toList.take h) n' ch bl λn' ch a8=>Dk P gl cal inl ops (ops.toList.drop h) n' ch a8 (k .normal)) (cond (bB (ops.toList.filter λo=> !ZJ o).length 12) (uW P gl cal inl ops (FP ops bl) (gN (FP ops bl) 0 bl) ops.size (uG ops.size false) n tm bl (k .normal)) .stuck))
  (Dk P gl cal inl ops ops.toList n tm bl (k .normal))
 | .seq a b,n,tm,bl,k=>lV P gl cal inl li rounds a n tm bl λx n' ch a8=>match x with
  | .normal=>lV P gl cal inl li rounds b n' ch a8 k
  |x=>k x n' ch a8
 | .cond c a b,n,tm,bl,k=>match cg tm c with
  | .w (.one (.bool e))=>match e with
   | .lit v=>cond v (lV P gl cal inl li rounds a n tm bl k) (lV P gl cal inl li rounds b n tm bl k)
   |e=> .nM e (lV P gl cal inl li rounds a n (qS e true tm) bl k) (lV P gl cal inl li rounds b n (qS e false tm) bl k)
  |_=> .stuck
 | .block id c,n,tm,bl,k=>lV P gl cal inl li rounds c n tm bl λx n' ch a8=>match x with
  | .exit xq=>cond (aG xq id) (k .normal n' ch a8) (k (.exit xq) n' ch a8)
  |x=>k x n' ch a8
 | .loop c,n,tm,bl,k=>match(BR c).bind li with
  |some l=>QQ l (λn tm bl k=>lV P gl cal inl li rounds c n tm bl k) n tm bl k
  |none=>RA (λn tm bl k=>lV P gl cal inl li rounds c n tm bl k) rounds n tm bl k
 | .exit id,n,tm,bl,k=>k (.exit id) n tm bl
 | .ret,n,tm,bl,k=>k .ret n tm bl
 |_,_,_,_,_=> .stuck
def Ha (P:bH) (gl:ei) (bl:List ax) (tm:List V):ResultVar->Option W
 | .tmp t=>match tm[t]? with|some (.w u)=>some u|_=>none
 | .cell a t=>match tm[a]? with
  |some (.w (.one p))=>match BE bl gl p,iF P t,eW P t with
   |some cs,some true,some k=>cond (bB k cs.length) (some (.agg (cs.take k))) none
   |some (x::_),some false,_=>some (.one x)
   |_,_,_=>none
  |_=>none
def AL (P:bH) (gl:ei) (bl:List ax) (tm:List V):List ResultVar->Option (List W)
 |[]=>some []
 |r::s=>match Ha P gl bl tm r,AL P gl bl tm s with|some u,some l=>some (u::l)|_,_=>none
def Q9 (tm:List V):List ResultVar->Option V
 |[.tmp t]=>match tm[t]? with
  |some (.oy f c)=>some (.oy f c)
  |some (.n2 b l lo)=>some (.n2 b l lo)
  |_=>none
 |_=>none
def G8 (P:bH) (gl:ei) (fn:Func) (n:Nat) (tm:List V) (bl:List ax) (k:RK):T:=
 match AL P gl bl tm fn.results.toList with
 |some [u]=>k n (.w u) bl
 |some l=>k n (.fY l) bl
 |none=>match Q9 tm fn.results.toList with
  |some v=>k n v bl
  |none=> .stuck
def Dy:Nat->List V
 |0=>[]
 |n+1=> .fY []::Dy n
noncomputable def IA (P:bH) (gl:ei) (cal:eI) (inl:js) (li:cw->Nat->Option c7) (rounds:Nat):js:=
 λf n vs bl k=>match P.funcs[f]? with
  |none=> .stuck
  |some fn=>match fn.body with
   |none=> .stuck
   |some c=>cond (!(fn.name== "runtime.NumGoroutine")&&bB vs.length fn.ntmps) (lV P gl cal inl (li f) rounds c n (vs++Dy (fn.ntmps-vs.length)) bl λx n' ch a8=>match x with
    | .exit _=> .stuck
    |_=>G8 P gl fn n' ch a8 k) .stuck
noncomputable def II (P:bH) (gl:ei) (cal:eI) (li:cw->Nat->Option c7) (rounds:Nat):Nat->js
 |0=>λ_ _ _ _ _=> .stuck
 |d+1=>IA P gl cal (II P gl cal li rounds d) li rounds
abbrev kz:=cw->Option (Nat->List V->List ax->RK->T)
noncomputable def Rb (bc:kz) (inl:js):js:=λf n vs bl k=>match bc f with
 |some g=>g n vs bl k
 |none=>inl f n vs bl k
noncomputable def wP (bc:kz) (P:bH) (gl:ei) (cal:eI) (li:cw->Nat->Option c7) (rounds:Nat):Nat->js
 |0=>λ_ _ _ _ _=> .stuck
 |d+1=>IA P gl cal (Rb bc (wP bc P gl cal li rounds d)) li rounds
end Go.bo
