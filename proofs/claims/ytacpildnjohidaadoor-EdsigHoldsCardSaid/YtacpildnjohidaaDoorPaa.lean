/- Texts as numbers. -/
import GoSem.ClaimData
import GoSem.Op.String
import Derived.WalkKit
import Derived.Laws.StructEq
import Derived.ChangeKeysEq
import Derived.Laws.Tables
import Derived.Laws.Strings2
import Derived.Laws.Concat
import Derived.Laws.Cover1
import Derived.Laws.Cover3
import Derived.Laws.BytesArg
import Derived.StillTail
import Derived.OrdersHeld
import Derived.Laws.CopyRow
import Derived.Deep.LoopGhost
open Array renaming toArray_toList->lN,toList_map->zG,replicate->Bb,eq_empty_of_size_eq_zero->CN,getElem?_toList->Ns,getElem?_eq_none->RT,getElem?_setIfInBounds_ne->aBr,ext_getElem?->aBD
open BitVec renaming ofInt->uX,toNat_ofInt->RO
open Bool renaming and_eq_true->bw,not_eq_true'->gn,not_true->je,not_eq_false'->kj,false_eq_true->ym,or_eq_true->CJ,false_or->Hc,true_and->aBj
open ByteArray renaming size->aIU
open Classical renaming byContradiction->Zm,choose_spec->aiO,choose->aA6
open Function renaming comp->Nh
open Go renaming World->aC,Value->aV,TypeId->bp,Program->bV,FuncId->dt,IntKind->dO,run_underlying->fx,Operand->rC,getD_both->He,run_loadCells_list->RJ
open Go.Act renaming put->JQ
open Go.Builtin renaming len_->JT,min_->ZC,max_->ZD
open Go.ByteArray renaming toList_mk->aIT,mk_append_mk->aIV,getElem?_lt'->aIW,extract_mk->aIX
open Go.Deferred renaming ofValue->ai3
open Go.Instr renaming sliceBounds->pG,sureAddr->qb,loadAt->ss,sliceAt->ue,indexAt->wK,sliceBound->Nr,index->Zu,slice->Zv,extract->aiT,fieldAt->aiU,fill->ai2,arrayAt->ai4
open Go.IntKind renaming max->pF,signed->No,bits->aiZ,wrap->aBi
open Go.Next renaming value->nJ
open Go.Next.value renaming injEq->aBF
open Go.Op renaming eqFields->JU,intBits->RQ,equalIn->RS
open Go.Oper renaming wp->qc
open Go.Program renaming fieldsOf->aBy
open Go.Region renaming ready->yn,wanted->Bd,waitsFor->CM,waitsFor_spec->Hd,noSelect->RF,binds->Zx,Mode->ai5,chainB->aBA,seqB->aBB,free->aBH
open Go.Result renaming andThen_ok->jv,andThen->aBG
open Go.Result.ok renaming injEq->aBE
open Go.Sem renaming run_bind->jg,run_pure->kk
open Go.Utf8 renaming encode->RR
open Go.Value.pointer renaming injEq->aIF
open Go.World renaming cell?->o3
open Go.World.Extends renaming refl->sT
open Int renaming le_refl->cW,mul_comm->kR,lt_or_le->od,emod_eq_of_lt->p9,eq_ofNat_of_zero_le->sn,le_of_lt->so,toNat_natCast->sq,emod_nonneg->ud,emod_lt_of_pos->zw,mul_assoc->CF,mul_le_mul_of_nonneg_left->EO,dvd_of_emod_eq_zero->G5,natCast_nonneg->JJ,mul_add->JK,ediv_nonneg->Zr,mul_le_mul->Zt,mul_nonneg->aiW,mul_ediv_add_emod->aiY,ofNat_sub->ai0,mul_emod_right->ai1,ediv_le_ediv->aBh,ediv_le_self->aBn,fdiv_eq_ediv_of_nonneg->aBo,tdiv_eq_ediv_of_nonneg->aBp,tmod_eq_emod_of_nonneg->aBq,ofNat_toNat->aBL
open List renaming getD->U,map_cons->c5,mem_cons_of_mem->eB,mem_of_getElem?->e8,replicate->e9,map_nil->fD,length_append->fQ,range->fY,length_cons->jS,map_congr_left->kD,mem_of_mem_take->oc,mem_cons->pD,map_map->p8,getElem?_eq_getElem->qJ,length_nil->qL,length_map->qM,mem_of_mem_drop->rD,getElem?_map->sr,length_take->su,getElem?_take->tw,flatMap_cons->uY,getElem?_cons_zero->wJ,getElem?_append_left->zB,eq_nil_of_length_eq_zero->zI,drop_drop->A9,getElem?_drop->CL,mem_of_find?_eq_some->Ha,getElem?_append_right->JL,map_take->JN,map_drop->JO,getElem_mem->JR,head?->JS,map_id->Ng,getElem?_toArray->Np,tail->Nq,find?_some->RG,mem_map_of_mem->aBs,take_drop->aBx,countP_cons->aBC
open Nat renaming beq->aM,le_refl->bO,eq_of_beq_eq_true->bR,ble->cK,blt->dP,le_of_ble_eq_true->fP,le_trans->oE,add_zero->pE,log2->rB,le_succ->tx,pow_succ->yq,zero_add->yk,mul_comm->zy,lt_succ_self->zE,succ_mul->zF,add_mul->zH,mul_one->Ba,pow_add->CH,min_eq_left->EM,add_assoc->G6,two_pow_pos->G7,lt_of_lt_of_le->G8,lt_or_ge->JP,min->JV,div_div_eq_div_mul->Nb,pow_le_pow_right->Nd,zero_le->Nf,div_add_mod->RB,mul_assoc->RE,mul_div_cancel_left->aiP,one_le_two_pow->aiQ,testBit_mul_two_pow->aBk,lt_log2_self->aBl,or_lt_two_pow->aBm
open Option renaming isSome_none->yl,map_some->zA,getD_some->EL,getD_none->Zw,map_none->aBz
open Option.some renaming injEq->bb,inj->jd
open Prod.mk renaming injEq->eW
open Pure renaming pure->RI
open UInt8 renaming ofNat->zz
set_option linter.unusedVariables false
set_option linter.unusedSimpArgs false
namespace Go.ch
def qV:List UInt8->Nat
 |[]=>0
 |b::r=>(b.toNat+1)+257*qV r
def Ew:Nat->Nat->List UInt8
 |0,_=>[]
 |f+1,n=>match n with
  |0=>[]
  |k+1=>zz (k% 257)::Ew f ((k+1)/257)
theorem Ud (b:UInt8) (r:List UInt8):qV (b::r)=(b.toNat+1)+257*qV r:=rfl
theorem ale (b:UInt8) (r:List UInt8):qV (b::r)=(b.toNat+257*qV r)+1:=by rw[Ud];omega
theorem ahB:∀(l:List UInt8) (f:Nat),l.length<=f->Ew f (qV l)=l
 |[],0,_=>rfl
 |[],f+1,_=>rfl
 |b::r,0,h=>by simp at h
 |b::r,f+1,h=>by
  have hb:=b.toNat_lt
  rw[ale]
  show zz ((b.toNat+257*qV r)% 257)::Ew f ((b.toNat+257*qV r+1)/257)=b::r
  have aw:(b.toNat+257*qV r)% 257=b.toNat:=by omega
  have aD:(b.toNat+257*qV r+1)/257=qV r:=by omega
  rw[aw,aD,ahB r f (by simpa using h)]
  simp
theorem ahC:∀(f n k:Nat),n<257^k->(Ew f n).length<=k
 |0,_,_,_=>by simp[Ew]
 |f+1,0,k,_=>by simp[Ew]
 |f+1,n+1,0,h=>by simp at h
 |f+1,n+1,k+1,h=>by
  have:(n+1)/257<257^k:=by rw[Nat.div_lt_iff_lt_mul (by decide)];rw[yq]at h;exact h
  have ih:=ahC f ((n+1)/257) k this
  simp only[Ew,jS]
  omega
theorem acJ:∀(l:List UInt8),qV l<257^l.length
 |[]=>by simp[qV]
 |b::r=>by
  have ih:=acJ r
  have hb:=b.toNat_lt
  unfold qV
  rw[jS,yq]
  omega
theorem acI:∀(l:List UInt8),l.length<=qV l
 |[]=>by simp
 |b::r=>by
  have ih:=acI r
  unfold qV
  rw[jS]
  omega
theorem acK:∀(l:List UInt8),0<l.length->2^(l.length-1)<=qV l
 |[b],_=>by rw[Ud];show 1<=_;omega
 |b::c::r,_=>by
  have ih:=acK (c::r) (by simp)
  rw[Ud b]
  simp only[jS,Nat.add_sub_cancel]at ih⊢
  rw[yq]
  omega
def bx (z:Int):List UInt8:=Ew (rB z.toNat+1) z.toNat
def j7 (l:List UInt8):Int:=qV l
theorem AT (l:List UInt8):bx (j7 l)=l:=by
 unfold bx j7
 rw[sq]
 apply ahB
 by_cases h:l.length=0
 ·omega
 ·have h1:=acK l (by omega)
  have h2:qV l≠0:=by have:=acI l;omega
  have h3:=(Nat.le_log2 h2).2 h1
  omega
theorem yE (l:List UInt8):0<=j7 l:=JJ _
theorem ajX (k:Nat):∃H:Int,(∀l:List UInt8,l.length<=k->j7 l<=H)/\∀z:Int,z<=H->(bx z).length<=k:=by
 refine⟨(257^k:Nat)-1,λl h=>?_,λz h=>?_⟩
 ·have h1:=acJ l
  have h2:257^l.length<=257^k:=Nd (by decide) h
  unfold j7
  omega
 ·unfold bx
  apply ahC
  have:=Nat.pow_pos (n:=k) (show 0<257 by decide)
  omega
def nX:Nat:=140737488351232
theorem SI:∃H:Int,(∀l:List UInt8,l.length<=nX->j7 l<=H)/\∀z:Int,z<=H->(bx z).length<=nX:=ajX nX
noncomputable def qR:Int:=aA6 SI
theorem wO {l:List UInt8} (h:l.length<=nX):j7 l<=qR:=(aiO SI).1 l h
theorem J2 {z:Int} (h:z<=qR):(bx z).length<=nX:=(aiO SI).2 z h
theorem SJ:0<=qR:=by have:=wO (l:=[]) (by simp);exact this
def xv (l:List UInt8):List UInt8:=cond (cK l.length 1000000) l []
theorem arp (l:List UInt8):0<=j7 (xv l)/\j7 (xv l)<=qR:=by
 refine⟨yE _,wO ?_⟩
 unfold xv
 cases h:cK l.length 1000000 with
 |true=>have:=fP h;simp only[cond_true];unfold nX;omega
 |false=>simp
def dY (l:List UInt8):ByteArray:=⟨l.toArray⟩
def Bf (z:Int):Nat:=if 0<=z then 2*z.toNat else 2*(-z).toNat-1
def EA (n:Nat):Int:=if n% 2=0 then((n/2:Nat):Int)else-(((n+1)/2:Nat):Int)
theorem aze (z:Int):EA (Bf z)=z:=by
 unfold Bf EA
 split
 ·rw[if_pos (by omega)];omega
 ·rw[if_neg (by omega)];omega
def lc:List Nat->Nat
 |[]=>0
 |x::r=>2^x*(2*lc r+1)
def tt:Nat->Nat->Nat
 |0,_=>0
 |f+1,n=>if n% 2=0 then tt f (n/2)+1 else 0
theorem aij (k:Nat):∀(x f:Nat),x<f->tt f (2^x*(2*k+1))=x
 |0,f+1,_=>by
  unfold tt
  rw[if_neg (by rw[Nat.pow_zero,Nat.one_mul];omega)]
 |x+1,f+1,h=>by
  unfold tt
  have e:2^(x+1)*(2*k+1)=2*(2^x*(2*k+1)):=by rw[yq,zy (2^x) 2,RE]
  rw[e,if_pos (by omega),aiP _ (by decide),aij k x f (by omega)]
def bN:Nat->Nat->List Nat
 |0,_=>[]
 |f+1,n=>if n=0 then []else tt n n::bN f (n/2^tt n n/2)
theorem ar1 (x:Nat):x<2^x:=Nat.lt_two_pow_self
theorem WX:∀l:List Nat,l.length<=lc l
 |[]=>bO _
 |x::r=>by
  have ih:=WX r
  unfold lc
  have h1:1<=2^x:=aiQ
  have h2:2*lc r+1<=2^x*(2*lc r+1):=Nat.le_mul_of_pos_left _ h1
  rw[jS]
  omega
theorem WZ:∀(l:List Nat) (f:Nat),l.length<=f->bN f (lc l)=l
 |[],0,_=>rfl
 |[],f+1,_=>by simp[bN,lc]
 |x::r,0,h=>by simp at h
 |x::r,f+1,h=>by
  have h1:1<=2^x:=aiQ
  have h2:2^x<=2^x*(2*lc r+1):=Nat.le_mul_of_pos_right _ (by omega)
  have h3:=ar1 x
  have hz:lc (x::r)≠0:=by
   have hl:lc (x::r)=2^x*(2*lc r+1):=rfl
   omega
  have aA:tt (lc (x::r)) (lc (x::r))=x:=by
   show tt (2^x*(2*lc r+1)) (2^x*(2*lc r+1))=x
   exact aij _ _ _ (by omega)
  unfold bN
  rw[if_neg hz,aA]
  have e:lc (x::r)/2^x/2=lc r:=by
   have hl:lc (x::r)=2^x*(2*lc r+1):=rfl
   rw[hl,aiP _ (by omega)]
   omega
  rw[e,WZ r f (by simpa using h)]
theorem WW (X:Nat):∀k:Nat,∃B,∀l:List Nat,l.length<=k->(∀x∈l,x<=X)->lc l<=B
 |0=>⟨0,λl h _=>by
  have:l=[]:=List.length_eq_zero_iff.1 (by omega)
  subst this;exact bO _⟩
 |k+1=>by
  obtain⟨B,ea⟩:=WW X k
  refine⟨2^X*(2*B+1),λl h hx=>?_⟩
  cases l with
  |nil=>exact Nf _
  |cons x r=>
   unfold lc
   have h1:=ea r (by simpa using h) λy hy=>hx y (eB _ hy)
   exact Nat.mul_le_mul (Nd (by decide) (hx x (by simp))) (by omega)
def rc (l:List (List Int)):Int:=(lc (l.map λrow=>lc (row.map Bf)):Nat)
def ak (z:Int):List (List Int):=(bN z.toNat z.toNat).map λn=>(bN n n).map EA
theorem ar7 (l:List Int):(l.map Bf).map EA=l:=by
 rw[p8]
 conv=>rhs;rw[<-Ng l]
 exact kD λz _=>aze z
theorem kh (l:List (List Int)):ak (rc l)=l:=by
 unfold ak rc
 rw[sq,WZ _ _ (WX _),p8]
 conv=>rhs;rw[<-Ng l]
 refine kD λrow _=>?_
 simp only[Nh,id]
 rw[WZ _ _ (WX _),ar7]
theorem jR (l:List (List Int)):0<=rc l:=JJ _
def Yd (row:List Int):Prop:=row.length<=100/\∀z∈row,-18446744073709551616-qR<=z/\z<=18446744073709551616+qR
theorem aap:∃H:Int,∀l:List (List Int),l.length<=maxLen->(∀row∈l,Yd row)->rc l<=H:=by
 obtain⟨B,ea⟩:=WW (2*(18446744073709551616+qR).toNat) 100
 obtain⟨C,jq⟩:=WW B maxLen
 refine⟨(C:Nat),λl h hr=>?_⟩
 unfold rc
 have:=jq (l.map λrow=>lc (row.map Bf)) (by simpa using h) λx hx=>by
  obtain⟨row,kb,rfl⟩:=List.mem_map.1 hx
  refine ea _ (by simpa using(hr row kb).1) λy hy=>?_
  obtain⟨z,hz,rfl⟩:=List.mem_map.1 hy
  have h1:=(hr row kb).2 z hz
  have h2:=SJ
  unfold Bf
  split<;>omega
 omega
noncomputable def bU:Int:=aA6 aap
theorem uh {l:List (List Int)} (h:l.length<=maxLen) (hr:∀row∈l,Yd row):rc l<=bU:=aiO aap l h hr
inductive aN where
 |int (k:dO) (lo hi:Int)
 |str
 |bool
def aN.beq:aN->aN->Bool
 |int k lo hi,int bD Qq q2=>decide (k=bD)&&decide (lo=Qq)&&decide (hi=q2)
 |str,str=>true
 |bool,bool=>true
 |_,_=>false
theorem aN.beq_eq:∀{a b:aN},aN.beq a b=true->a=b
 |int k lo hi,int bD Qq q2,h=>by
  simp only[aN.beq,bw,decide_eq_true_eq]at h
  rw[h.1.1,h.1.2,h.2]
 |str,str,_=>rfl
 |bool,bool,_=>rfl
 |int ..,str,h=>by cases h
 |int ..,bool,h=>by cases h
 |str,int ..,h=>by cases h
 |str,bool,h=>by cases h
 |bool,int ..,h=>by cases h
 |bool,str,h=>by cases h
def tp:List aN->List aN->Bool
 |[],[]=>true
 |a::r,b::s=>aN.beq a b&&tp r s
 |_,_=>false
theorem Ex:∀{a b:List aN},tp a b=true->a=b
 |[],[],_=>rfl
 |a::r,b::s,h=>by
  simp only[tp,bw]at h
  rw[aN.beq_eq h.1,Ex h.2]
 |[],_::_,h=>by cases h
 |_::_,[],h=>by cases h
noncomputable def aN.ga:aN->Int×Int
 |int _ lo hi=>(lo,hi)
 |str=>(0,qR)
 |bool=>(0,1)
def aN.val:aN->Int->aV
 |int k _ _,z=> .int k z
 |str,z=> .string (dY (bx z))
 |bool,z=> .bool (decide (z=1))
def bE:Nat->List Int->Int
 |0,[s]=>(bx s).length
 |1,[s,i]=>((bx s).getD i.toNat 0).toNat
 |2,[s,a,b]=>j7 (((bx s).drop a.toNat).take (b.toNat-a.toNat))
 |3,[s,t]=>j7 (bx s++bx t)
 |4,[s,t]=>if bx s=bx t then 1 else 0
 |5,[s,t]=>if Op.bytesLess (bx s) (bx t)=true then 1 else 0
 |20,[c]=>(ak c).length
 |21,[c,i,j]=>((ak c).getD i.toNat []).getD j.toNat 0
 |22,[c,a,b]=>rc (((ak c).drop a.toNat).take (b.toNat-a.toNat))
 |23,c::row=>rc (ak c++[row])
 |24,[c,e]=>rc (ak c++ak e)
 |25,c::i::row=>rc ((ak c).set i.toNat row)
 |26,n::row=>rc (e9 n.toNat row)
 |27,[s]=>rc ((bx s).map λb=>[(b.toNat:Int)])
 |34,[c,a,b]=>j7 ((((ak c).drop a.toNat).take (b.toNat-a.toNat)).map λrow=>zz (row.getD 0 0).toNat)
 |37,[x,y]=>x*2^y.toNat
 |38,[x,y]=>x% y
 |76,[x,y]=>x/y
 |33,[r,a,c]=>if a=c then r else r+a
 |29,[c,i,j,v]=>rc ((ak c).set i.toNat (((ak c).getD i.toNat []).set j.toNat v))
 |42,c::i::j::vs=>rc ((ak c).set i.toNat (((ak c).getD i.toNat []).take j.toNat++vs++((ak c).getD i.toNat []).drop (j.toNat+vs.length)))
 |43,[s,i]=>if zz i.toNat∈bx s then 1 else 0
 |61,c::a::k::row=>rc ((ak c).take a.toNat++e9 k.toNat row++(ak c).drop (a.toNat+k.toNat))
 |62,[a,b]=>min a b
 |63,[c,a,s]=>rc ((ak c).take a.toNat++ak s++(ak c).drop (a.toNat+(ak s).length))
 |28,[c]=>j7 ((ak c).map λrow=>zz (row.getD 0 0).toNat)
 |_,_=>0
noncomputable def Kq:Nat->List Int->Prop
 |70,[l,c]=>c∣l
 |71,z::_=>(ak z).length<=1000000000
 |72,z::_=>64∣(ak z).length/\(ak z).length<=1000001000
 |73,z::_=>128∣(ak z).length/\(ak z).length<=1000001000
 |74,[i,l]=>0<=i/\i<l
 |78,[x,y,z,c]=>0<=x/\x<=y/\y<=z/\z<=c
 |79,[l,c]=>l<=c
 |75,l=>∀z∈l,(ak z).length<=100000000
 |77,[x]=>0<=x
 |80,[c,a,k]=>0<=a/\0<=k/\a+k<=(ak c).length
 |81,l=>(bx (l.getD 5 0)).length<=1000000000
 |_,_=>False
def ar:Nat->List Int->Prop
 |1,[s,i]=>0<=i/\i<(bx s).length
 |2,[s,a,b]=>0<=a/\a<=b/\b<=(bx s).length
 |3,[s,t]=>(bx s).length+(bx t).length<=nX
 |21,[c,i]=>0<=i/\i<(ak c).length
 |30,[i,n]=>0<=i/\i<n
 |31,[c,n]=>n=(ak c).length
 |32,[a,b,n]=>0<=a/\a<=b/\b<=n
 |22,[c,a,b]=>0<=a/\a<=b/\b<=(ak c).length
 |35,[c,a,b]=>(0<=a/\a<=b/\b<=(ak c).length)/\b-a<=140737488351232
 |36,[y]=>0<y
 |39,[x,l,h]=>l<=x/\x<=h
 |40,[a,b]=>0<=a->0<=b
 |41,[s]=>(bx s).length<=4294967280
 |44,[w,s]=>bx w=[]∨(bx s).length<=4294967280
 |23,[c,k]=>(ak c).length+k<=1073741824
 |26,[n]=>0<=n/\n<=1073741824
 |48,r::_=>(ak r).length<=1099511627776
 |50,s::_=>(bx s).length<=1073741824
 |49,[l,c]=>0<=l/\l<=c/\c<=1073741824
 |64,[p,q,r,l]=>0<=p/\p<=q/\q<=r/\r<=l/\0<l
 |65,[c,a,k]=>0<=a/\0<k/\a+k<=(ak c).length
 |66,r::_=>(ak r).length<=1000000
 |68,[l,c]=>l<=c∨l=0
 |67,[c,i,k]=>((ak c).getD i.toNat []).length=k.toNat
 |53,[c,l]=>c<0->l=0
 |52,[c,a,b]=>0<=a/\a<b/\b<=(ak c).length/\(ak c).length<=1073741824
 |51,[c,i,r]=>(0<=i/\i<=(ak c).length)/\(ak r).length=1/\(ak c).length+1<=1073741824
 |op,l=>Kq op l
end Go.ch
namespace Go.ch
abbrev Env:=Nat->Int
def dm (ρ:Env) (n:Nat) (z:Int):Env:=λi=>cond (aM i n) z (ρ i)
def bL (ρ:Env):Nat->List Int->Env
 |_,[]=>ρ
 |n,z::zs=>bL (dm ρ n z) (n+1) zs
def agree (n:Nat) (ρ aa:Env):Prop:=∀i,i<n->aa i=ρ i
theorem agree.refl (n:Nat) (ρ:Env):agree n ρ ρ:=λ_ _=>rfl
theorem agree.trans {n n':Nat} {ρ aa ys:Env} (h:agree n ρ aa) (bd:agree n' aa ys) (hn:n<=n'):agree n ρ ys:=
 λi hi=>(bd i (by omega)).trans (h i hi)
theorem agree.mono {n n':Nat} {ρ aa:Env} (h:agree n' ρ aa) (hn:n<=n'):agree n ρ aa:=λi hi=>h i (by omega)
theorem nG (ρ:Env) (n:Nat) (z:Int):dm ρ n z n=z:=by simp[dm]
theorem YV (ρ:Env) {n i:Nat} (z:Int) (h:i≠n):dm ρ n z i=ρ i:=by
 unfold dm
 cases hb:aM i n with
 |false=>rfl
 |true=>exact absurd (bR hb) h
theorem agree.dm (n:Nat) (ρ:Env) (z:Int):agree n ρ (dm ρ n z):=λi hi=>YV ρ z (by omega)
theorem agree.bL:∀(zs:List Int) (n:Nat) (ρ:Env),agree n ρ (bL ρ n zs)
 |[],n,ρ=>agree.refl n ρ
 |z::zs,n,ρ=>(agree.dm n ρ z).trans (agree.bL zs (n+1) _) (by omega)
structure I where
 c:Int
 ts:List (Int×Nat)
def jW (ρ:Env):List (Int×Nat)->Int
 |[]=>0
 |(k,i)::r=>k*ρ i+jW ρ r
def I.den (ρ:Env) (l:I):Int:=jW ρ l.ts+l.c
def Gj (k:Int) (i:Nat):List (Int×Nat)->List (Int×Nat)
 |[]=>[(k,i)]
 |(bD,j)::r=>cond (dP i j) ((k,i)::(bD,j)::r) (cond (aM i j) (cond (k+bD==0) r ((k+bD,i)::r)) ((bD,j)::Gj k i r))
def Hq:List (Int×Nat)->List (Int×Nat)->List (Int×Nat)
 |[],l=>l
 |(k,i)::r,l=>Gj k i (Hq r l)
def Ey (m:Int):List (Int×Nat)->List (Int×Nat)
 |[]=>[]
 |(k,i)::r=>(m*k,i)::Ey m r
theorem acY (ρ:Env) (k:Int) (i:Nat):∀l,jW ρ (Gj k i l)=k*ρ i+jW ρ l
 |[]=>rfl
 |(bD,j)::r=>by
  unfold Gj
  cases h1:dP i j with
  |true=>rfl
  |false=>
   cases h2:aM i j with
   |true=>
    have e:i=j:=bR h2
    subst e
    cases h3:(k+bD==0)with
    |true=>
     have h3:k+bD=0:=by simpa using h3
     simp only[cond_true,cond_false,jW]
     rw[<-Int.add_assoc,<-Int.add_mul,h3];simp
    |false=>simp only[cond_true,cond_false,jW];rw[Int.add_mul];omega
   |false=>simp only[cond_false,jW,acY ρ k i r];omega
theorem acW (ρ:Env):∀l l',jW ρ (Hq l l')=jW ρ l+jW ρ l'
 |[],l'=>by simp[Hq,jW]
 |(k,i)::r,l'=>by simp only[Hq,acY,jW,acW ρ r l'];omega
theorem acZ (ρ:Env) (m:Int):∀l,jW ρ (Ey m l)=m*jW ρ l
 |[]=>by simp[Ey,jW]
 |(k,i)::r=>by simp only[Ey,jW,acZ ρ m r];rw[JK,CF]
def uL (n:Nat) (l:List (Int×Nat)):Prop:=∀t∈l,t.2<n
theorem uL.mono {n n':Nat} {l} (h:uL n l) (hn:n<=n'):uL n' l:=λt aA=>G8 (h t aA) hn
theorem ahO {n:Nat} {k:Int} {i:Nat} (hi:i<n):∀{l},uL n l->uL n (Gj k i l)
 |[],_=>by intro t aA;simp[Gj]at aA;subst aA;exact hi
 |(bD,j)::r,h=>by
  have hr:uL n r:=λt aA=>h t (eB _ aA)
  have aK:j<n:=h (bD,j) (by simp)
  have ih:=ahO (k:=k) hi hr
  unfold Gj
  intro t aA
  cases h1:dP i j<;>cases h2:aM i j<;>cases h3:(k+bD==0)<;>simp only[h1,h2,h3,cond_true,cond_false,pD]at aA<;>
   first
   |(rcases aA with rfl|aA<;>first|exact hi|exact aK|(exact hr t aA)|(exact ih t aA)|(rcases aA with rfl|aA<;>first|exact aK|exact hr t aA))
   |exact hr t aA
theorem ahN {n:Nat}:∀{l l'},uL n l->uL n l'->uL n (Hq l l')
 |[],_,_,bd=>bd
 |(k,i)::r,_,h,bd=>ahO (k:=k) (i:=i) (h (k,i) (by simp)) (ahN (l:=r) (λt aA=>h t (eB _ aA)) bd)
theorem ahP {n:Nat} {m:Int}:∀{l},uL n l->uL n (Ey m l)
 |[],_=>λt aA=>by simp[Ey]at aA
 |(k,i)::r,h=>by
  intro t aA
  simp only[Ey,pD]at aA
  rcases aA with rfl|aA
  ·exact h (k,i) (by simp)
  ·exact ahP (λt aA=>h t (eB _ aA)) t aA
theorem acX {n:Nat} {ρ aa:Env} (h:agree n ρ aa):∀{l},uL n l->jW aa l=jW ρ l
 |[],_=>rfl
 |(k,i)::r,hs=>by
  simp only[jW,h i (hs (k,i) (by simp)),acX h (l:=r) (λt aA=>hs t (eB _ aA))]
namespace I
def const (c:Int):I:=⟨c,[]⟩
def var (n:Nat):I:=⟨0,[(1,n)]⟩
def add (a b:I):I:=⟨a.c+b.c,Hq a.ts b.ts⟩
def smul (m:Int) (a:I):I:=cond (m==0) ⟨0,[]⟩ ⟨m*a.c,Ey m a.ts⟩
def sub (a b:I):I:=a.add (b.smul (-1))
def eN (a:I):Option Int:=match a.ts with|[]=>some a.c|_=>none
def bG (n:Nat) (a:I):Prop:=uL n a.ts
def Hw:List (Int×Nat)->List (Int×Nat)->Bool
 |[],[]=>true
 |(k,i)::r,(bD,D2)::r'=>k==bD&&aM i D2&&Hw r r'
 |_,_=>false
def beq (a b:I):Bool:=a.c==b.c&&Hw a.ts b.ts
theorem abY:∀{a b},Hw a b=true->a=b
 |[],[],_=>rfl
 |(k,i)::r,(bD,D2)::r',h=>by
  simp only[Hw,bw,beq_iff_eq]at h
  obtain⟨⟨h1,h2⟩,h3⟩:=h
  rw[h1,bR h2,abY h3]
 |[],_::_,h=>by simp[Hw]at h
 |_::_,[],h=>by simp[Hw]at h
theorem beq_eq {a b:I} (h:beq a b=true):a=b:=by
 simp only[beq,bw,beq_iff_eq]at h
 cases a;cases b
 simp only at h
 rw[h.1,abY h.2]
theorem br (ρ:Env) (c:Int):(const c).den ρ=c:=by simp[const,den,jW]
theorem cS (ρ:Env) (n:Nat):(var n).den ρ=ρ n:=by simp[var,den,jW]
theorem den_add (ρ:Env) (a b:I):(a.add b).den ρ=a.den ρ+b.den ρ:=by simp only[add,den,acW];omega
theorem nO (ρ:Env) (m:Int) (a:I):(a.smul m).den ρ=m*a.den ρ:=by
 unfold smul
 cases h:(m==0)with
 |true=>have h:m=0:=by simpa using h
        subst h;simp[den,jW]
 |false=>simp only[cond_false,den,acZ,JK]
theorem lP (ρ:Env) (a b:I):(a.sub b).den ρ=a.den ρ-b.den ρ:=by simp only[sub,den_add,nO];omega
theorem km {ρ:Env} {a:I} {c:Int} (h:a.eN=some c):a.den ρ=c:=by
 unfold eN at h
 cases ha:a.ts with
 |nil=>simp[ha]at h;simp[den,ha,jW,h]
 |cons x r=>simp[ha]at h
theorem dd (n:Nat) (c:Int):(const c).bG n:=λt aA=>by simp[const]at aA
theorem fW {n i:Nat} (h:i<n):(var i).bG n:=λt aA=>by simp[var]at aA;subst aA;exact h
theorem xQ {n:Nat} {a b:I} (ha:a.bG n) (hb:b.bG n):(a.add b).bG n:=ahN ha hb
theorem wg {n:Nat} {m:Int} {a:I} (ha:a.bG n):(a.smul m).bG n:=by
 unfold smul
 cases(m==0)with
 |true=>exactλt aA=>by simp at aA
 |false=>exact ahP ha
theorem wh {n:Nat} {a b:I} (ha:a.bG n) (hb:b.bG n):(a.sub b).bG n:=xQ ha (wg hb)
theorem bG.mono {n n':Nat} {a:I} (h:a.bG n) (hn:n<=n'):a.bG n':=uL.mono h hn
theorem b5 {n:Nat} {ρ aa:Env} (h:agree n ρ aa) {a:I} (ha:a.bG n):a.den aa=a.den ρ:=by simp only[den,acX h ha]
end I
structure bQ where
 l:I
 lo:Int
 hi:Int
def bQ.ok (n:Nat) (ρ:Env) (x:bQ):Prop:=x.l.bG n/\x.lo<=x.l.den ρ/\x.l.den ρ<=x.hi
theorem bQ.ok.agree {n n':Nat} {ρ aa:Env} {x:bQ} (h:x.ok n ρ) (ha:agree n ρ aa) (hn:n<=n'):x.ok n' aa:=
 ⟨h.1.mono hn,by rw[I.b5 ha h.1];exact h.2.1,by rw[I.b5 ha h.1];exact h.2.2⟩
def bQ.const (c:Int):bQ:=⟨.const c,c,c⟩
theorem bQ.qW (n:Nat) (ρ:Env) (c:Int):(bQ.const c).ok n ρ:=⟨I.dd n c,by simp[bQ.const,I.br],by simp[bQ.const,I.br]⟩
inductive bC where
 |lit (b:Bool)
 |eq (a b:I)
 |lt (a b:I)
 |le (a b:I)
 |not (a:bC)
 |and (a b:bC)
 |iff (a b:bC)
namespace bC
def den (ρ:Env):bC->Bool
 |lit b=>b
 |eq a b=>decide (a.den ρ=b.den ρ)
 |lt a b=>decide (a.den ρ<b.den ρ)
 |le a b=>decide (a.den ρ<=b.den ρ)
 |not a=> !a.den ρ
 |and a b=>a.den ρ&&b.den ρ
 |iff a b=>a.den ρ==b.den ρ
def bG (n:Nat):bC->Prop
 |lit _=>True
 |eq a b|lt a b|le a b=>a.bG n/\b.bG n
 |not a=>a.bG n
 |and a b=>a.bG n/\b.bG n
 |iff a b=>a.bG n/\b.bG n
theorem bG.mono {n n':Nat} (hn:n<=n'):∀{b:bC},b.bG n->b.bG n'
 |lit _,_=>trivial
 |eq _ _,h|lt _ _,h|le _ _,h=>⟨h.1.mono hn,h.2.mono hn⟩
 |not a,h=>bG.mono (b:=a) hn h
 |and a b,h=>⟨bG.mono (b:=a) hn h.1,bG.mono (b:=b) hn h.2⟩
 |iff a b,h=>⟨bG.mono (b:=a) hn h.1,bG.mono (b:=b) hn h.2⟩
theorem b5 {n:Nat} {ρ aa:Env} (ha:agree n ρ aa):∀{b:bC},b.bG n->b.den aa=b.den ρ
 |lit _,_=>rfl
 |eq _ _,h|lt _ _,h|le _ _,h=>by simp only[den,I.b5 ha h.1,I.b5 ha h.2]
 |not a,h=>by simp only[den,b5 (b:=a) ha h]
 |and a b,h=>by simp only[den,b5 (b:=a) ha h.1,b5 (b:=b) ha h.2]
 |iff a b,h=>by simp only[den,b5 (b:=a) ha h.1,b5 (b:=b) ha h.2]
def beq:bC->bC->Bool
 |lit a,lit b=>a==b
 |eq a b,eq c d|lt a b,lt c d|le a b,le c d=>I.beq a c&&I.beq b d
 |not a,not b=>beq a b
 |and a b,and c d|iff a b,iff c d=>beq a c&&beq b d
 |_,_=>false
theorem beq_eq:∀{a b:bC},beq a b=true->a=b
 |lit a,b,h=>by cases b<;>simp[beq]at h;rw[h]
 |eq a b,c,h=>by cases c<;>simp[beq]at h;rw[I.beq_eq h.1,I.beq_eq h.2]
 |lt a b,c,h=>by cases c<;>simp[beq]at h;rw[I.beq_eq h.1,I.beq_eq h.2]
 |le a b,c,h=>by cases c<;>simp[beq]at h;rw[I.beq_eq h.1,I.beq_eq h.2]
 |not a,c,h=>by cases c<;>simp[beq]at h;rw[beq_eq h]
 |and a b,c,h=>by cases c<;>simp[beq]at h;rw[beq_eq h.1,beq_eq h.2]
 |iff a b,c,h=>by cases c<;>simp[beq]at h;rw[beq_eq h.1,beq_eq h.2]
def mkNot:bC->bC
 |lit b=>lit (!b)
 |not a=>a
 |a=>not a
def mkAnd:bC->bC->bC
 |lit true,b=>b
 |lit false,_=>lit false
 |a,lit true=>a
 |a,lit false=>cond true (lit false) a
 |a,b=>and a b
def mkIff (a b:bC):bC:=
 match a with
 |lit true=>b
 |lit false=>mkNot b
 |_=>match b with
  |lit true=>a
  |lit false=>mkNot a
  |_=>cond (beq a b) (lit true) (iff a b)
theorem Ac (ρ:Env) (a:bC):(mkNot a).den ρ= !a.den ρ:=by cases a<;>simp[mkNot,den]
theorem AU {n:Nat} {a:bC} (h:a.bG n):(mkNot a).bG n:=by cases a<;>exact h
theorem O1 (ρ:Env) (a b:bC):(mkAnd a b).den ρ=(a.den ρ&&b.den ρ):=by
 unfold mkAnd;split<;>simp[den]
theorem Ra {n:Nat} {a b:bC} (ha:a.bG n) (hb:b.bG n):(mkAnd a b).bG n:=by
 unfold mkAnd;split<;>first|exact hb|exact ha|trivial|exact⟨ha,hb⟩
theorem Uv (ρ:Env) (a b:bC):(mkIff a b).den ρ=(a.den ρ==b.den ρ):=by
 unfold mkIff
 split
 ·simp[den]
 ·rw[Ac];simp[den]
 ·split
  ·simp[den]
  ·rw[Ac];simp[den]
  ·cases h:beq a b with
   |true=>have:=beq_eq h;subst this;simp[den]
   |false=>rfl
theorem Yt {n:Nat} {a b:bC} (ha:a.bG n) (hb:b.bG n):(mkIff a b).bG n:=by
 unfold mkIff
 split
 ·exact hb
 ·exact AU hb
 ·split
  ·exact ha
  ·exact AU ha
  ·cases beq a b with
   |true=>trivial
   |false=>exact⟨ha,hb⟩
def H7 (d:I) (f:Int->Bool) (e:bC):bC:=match d.eN with|some c=>lit (f c)|none=>e
def mkLt (a b:bQ):bC:=cond (decide (a.hi<b.lo)) (lit true) (cond (decide (b.hi<=a.lo)) (lit false) (H7 (a.l.sub b.l) (λc=>decide (c<0)) (lt a.l b.l)))
def mkLe (a b:bQ):bC:=cond (decide (a.hi<=b.lo)) (lit true) (cond (decide (b.hi<a.lo)) (lit false) (H7 (a.l.sub b.l) (λc=>decide (c<=0)) (le a.l b.l)))
def mkEq (a b:bQ):bC:=cond (decide (a.hi<b.lo)) (lit false) (cond (decide (b.hi<a.lo)) (lit false) (cond (a.lo==a.hi&&b.lo==b.hi&&a.lo==b.lo) (lit true) (cond (I.beq a.l b.l) (lit true) (H7 (a.l.sub b.l) (λc=>decide (c=0)) (eq a.l b.l)))))
theorem Uu {n:Nat} {ρ:Env} {d:I} {f:Int->Bool} {e:bC} (h:e.den ρ=f (d.den ρ)) (hs:e.bG n):(H7 d f e).den ρ=e.den ρ/\(H7 d f e).bG n:=by
 unfold H7
 split
 ·rename_i c hc
  exact⟨by rw[h,I.km hc];rfl,trivial⟩
 ·exact⟨rfl,hs⟩
theorem O2 {n:Nat} {ρ:Env} {a b:bQ} (ha:a.ok n ρ) (hb:b.ok n ρ):(mkLt a b).den ρ=decide (a.l.den ρ<b.l.den ρ)/\(mkLt a b).bG n:=by
 have h1:=ha.2;have h2:=hb.2
 unfold mkLt
 by_cases c1:a.hi<b.lo
 ·simp only[decide_eq_true c1,cond_true,den,bG,and_true];symm;simp;omega
 ·by_cases bK:b.hi<=a.lo
  ·simp only[decide_eq_false c1,decide_eq_true bK,cond_true,cond_false,den,bG,and_true];symm;simp;omega
  ·simp only[decide_eq_false c1,decide_eq_false bK,cond_false]
   have:=Uu (n:=n) (ρ:=ρ) (d:=a.l.sub b.l) (f:=λc=>decide (c<0)) (e:=lt a.l b.l) (by simp only[den,I.lP];congr 1;simp;omega) ⟨ha.1,hb.1⟩
   exact⟨this.1,this.2⟩
theorem ac0 {n:Nat} {ρ:Env} {a b:bQ} (ha:a.ok n ρ) (hb:b.ok n ρ):(mkLe a b).den ρ=decide (a.l.den ρ<=b.l.den ρ)/\(mkLe a b).bG n:=by
 have h1:=ha.2;have h2:=hb.2
 unfold mkLe
 by_cases c1:a.hi<=b.lo
 ·simp only[decide_eq_true c1,cond_true,den,bG,and_true];symm;simp;omega
 ·by_cases bK:b.hi<a.lo
  ·simp only[decide_eq_false c1,decide_eq_true bK,cond_true,cond_false,den,bG,and_true];symm;simp;omega
  ·simp only[decide_eq_false c1,decide_eq_false bK,cond_false]
   have:=Uu (n:=n) (ρ:=ρ) (d:=a.l.sub b.l) (f:=λc=>decide (c<=0)) (e:=le a.l b.l) (by simp only[den,I.lP];congr 1;simp;omega) ⟨ha.1,hb.1⟩
   exact⟨this.1,this.2⟩
theorem xd {n:Nat} {ρ:Env} {a b:bQ} (ha:a.ok n ρ) (hb:b.ok n ρ):(mkEq a b).den ρ=decide (a.l.den ρ=b.l.den ρ)/\(mkEq a b).bG n:=by
 have h1:=ha.2;have h2:=hb.2
 unfold mkEq
 by_cases c1:a.hi<b.lo
 ·simp only[decide_eq_true c1,cond_true,den,bG,and_true];symm;simp;omega
 ·by_cases bK:b.hi<a.lo
  ·simp only[decide_eq_false c1,decide_eq_true bK,cond_true,cond_false,den,bG,and_true];symm;simp;omega
  ·cases cy:(a.lo==a.hi&&b.lo==b.hi&&a.lo==b.lo)with
   |true=>
    simp only[bw,beq_iff_eq]at cy
    simp only[decide_eq_false c1,decide_eq_false bK,cond_false,cond_true,den,bG,and_true];symm;simp;omega
   |false=>
    cases c3:I.beq a.l b.l with
    |true=>simp only[decide_eq_false c1,decide_eq_false bK,cond_false,cond_true,den,bG,and_true,I.beq_eq c3];simp
    |false=>
     simp only[decide_eq_false c1,decide_eq_false bK,cond_false]
     have:=Uu (n:=n) (ρ:=ρ) (d:=a.l.sub b.l) (f:=λc=>decide (c=0)) (e:=eq a.l b.l) (by simp only[den,I.lP];congr 1;simp;omega) ⟨ha.1,hb.1⟩
     exact⟨this.1,this.2⟩
end bC
end Go.ch
namespace Go.ch
inductive A where
 |int (k:dO) (x:bQ)
 |bool (b:bC)
 |ptr (b off:Nat)
 |rk (b off:Nat) (bj:bQ)
 |gptr (g off:Nat)
 |Ib (g off:Nat) (bj:bQ)
 |slc (b off len cap:Nat)
 |con (v:aV)
 |str (l:I)
 |rows (sh:List aN) (off code cap:I) (kind:Nat)
 |sl (b bz:Nat) (o ro len cap:I)
 |ep (b bz:Nat) (o i:I) (j:Nat)
inductive W where
 |one (a:A)
 |agg (l:List A)
inductive V where
 |w (x:W)
 |iU (l:List W)
 |any
 |sN (b len lo:Nat)
 |s6 (f:Nat) (kH:List A)
def eL (op:BinOp) (k:dO) (x y:Int):Int:=
 match op with
 | .and=>k.wrap (uX k.bits x&&&uX k.bits y).toNat
 | .or=>k.wrap (uX k.bits x|||uX k.bits y).toNat
 | .xor=>k.wrap (uX k.bits x^^^uX k.bits y).toNat
 | .andNot=>k.wrap (uX k.bits x&&&~~~(uX k.bits y)).toNat
 |_=>0
inductive T where
 |stuck
 |leaf (v:V)
 |div (n:Nat) (x:I) (d lo hi:Int) (r:T)
 |mul (n:Nat) (x y:I) (lo hi:Int) (r:T)
 |bit (n:Nat) (op:BinOp) (k:dO) (x y:I) (r:T)
 |shr (n:Nat) (x y:I) (lo hi:Int) (r:T)
 |AW (n:Nat) (cs:List I) (bj:I) (lo hi:Int) (r:T)
 |uq (b:bC) (t e:T)
 |call (id:Nat) (args:List I) (n:Nat) (bds:List (Int×Int)) (r:T)
 |loop (ly:Nat) (init:List I) (n:Nat) (bds:List (Int×Int)) (r:T)
 |again (ly:Nat) (vals:List I)
 |both (a b:T)
 |fn (n:Nat) (op:Nat) (args:List I) (lo hi:Int) (r:T)
 |s5 (op:Nat) (args:List I) (r:T)
 |uQ (n:Nat) (lo hi:Int) (r:T)
 |nat (n:Nat) (r:T)
 |w2 (op:Nat) (args:List I) (r:T)
 |ind (n:Nat) (b:bC) (r:T)
def j6:List (Int×Int)->(List Int->Prop)->Prop
 |[],P=>P []
 |(l,h)::b,P=>∀r:Int,l<=r->r<=h->j6 b (λrs=>P (r::rs))
def af:List (Int×Int)->List Int->Prop
 |[],[]=>True
 |(l,h)::b,r::rs=>l<=r/\r<=h/\af b rs
 |_,_=>False
theorem oG:∀{b:List (Int×Int)} {P:List Int->Prop} {rs:List Int},j6 b P->af b rs->P rs
 |[],_,[],h,_=>h
 |(l,u)::b,P,r::rs,h,hi=>oG (b:=b) (P:=λrs=>P (r::rs)) (h r hi.1 hi.2.1) hi.2.2
 |[],_,_::_,_,hi=>hi.elim
 |(_,_)::_,_,[],_,hi=>hi.elim
abbrev e2:=Nat->List Int->Prop
def e2.set (A:e2) (ly:Nat) (p:List Int->Prop):e2:=λi=>cond (aM i ly) p (A i)
def T.holds (S:Nat->List Int->List Int->Prop) (L:V->Env->Prop):T->e2->Env->Prop
 |stuck,_,_=>False
 |leaf v,_,ρ=>L v ρ
 |div n x d lo hi r,A,ρ=>∀q:Int,lo<=q->q<=hi->0<=x.den ρ-d*q->x.den ρ-d*q<d->r.holds S L A (dm ρ n q)
 |mul n x y lo hi r,A,ρ=>∀p:Int,lo<=p->p<=hi->p=x.den ρ*y.den ρ->r.holds S L A (dm ρ n p)
 |bit n op k x y r,A,ρ=>∀z:Int,0<=z->z<=k.max->z=eL op k (x.den ρ) (y.den ρ)->r.holds S L A (dm ρ n z)
 |shr n x y lo hi r,A,ρ=>∀z:Int,lo<=z->z<=hi->z=x.den ρ/2^(y.den ρ).toNat->r.holds S L A (dm ρ n z)
 |AW n cs bj lo hi r,A,ρ=>∀z:Int,lo<=z->z<=hi->z=(cs.map (·.den ρ)).getD (bj.den ρ).toNat 0->r.holds S L A (dm ρ n z)
 |uq b t e,A,ρ=>(b.den ρ=true->t.holds S L A ρ)/\(b.den ρ=false->e.holds S L A ρ)
 |call id args n bds r,A,ρ=>j6 bds λrs=>S id (args.map (·.den ρ)) rs->r.holds S L A (bL ρ n rs)
 |loop ly init n bds r,A,ρ=>∃(mZ:List Int->Prop) (pH:List Int->Nat),mZ (init.map (·.den ρ))/\
  j6 bds λzs=>mZ zs->r.holds S L (A.set ly λvs=>mZ vs/\pH vs<pH zs) (bL ρ n zs)
 |again ly vals,A,ρ=>A ly (vals.map (·.den ρ))
 |both a b,A,ρ=>a.holds S L A ρ/\b.holds S L A ρ
 |fn n op args lo hi r,A,ρ=>∀z:Int,lo<=z->z<=hi->z=bE op (args.map (·.den ρ))->r.holds S L A (dm ρ n z)
 |s5 op args r,A,ρ=>ar op (args.map (·.den ρ))/\r.holds S L A ρ
 |uQ n lo hi r,A,ρ=>∀z:Int,lo<=z->z<=hi->r.holds S L A (dm ρ n z)
 |nat n r,A,ρ=>∀z:Int,0<=z->r.holds S L A (dm ρ n z)
 |w2 op args r,A,ρ=>ar op (args.map (·.den ρ))->r.holds S L A ρ
 |ind n b r,A,ρ=>∀z:Int,0<=z->z<=1->b.den ρ=decide (z=1)->r.holds S L A (dm ρ n z)
abbrev M (α:Type):=Nat->(α->Nat->T)->T
namespace M
variable {α β:Type}
def pure (a:α):M α:=λn k=>k a n
def bind (x:M α) (f:α->M β):M β:=λn k=>x n λa n'=>f a n' k
def fail:M α:=λ_ _=> .stuck
def az (S:Nat->List Int->List Int->Prop) (L:V->Env->Prop) (x:M α) (n:Nat) (ρ:Env) (R:Env->Nat->α->Prop):Prop:=
 ∀A k,(x n k).holds S L A ρ->∃aa n' a,n<=n'/\agree n ρ aa/\R aa n' a/\(k a n').holds S L A aa
variable {S:Nat->List Int->List Int->Prop} {L:V->Env->Prop} {n:Nat} {ρ:Env}
theorem az.pure {a:α} {R:Env->Nat->α->Prop} (h:R ρ n a):az S L (M.pure a) n ρ R:=
 λ_ _ ab=>⟨ρ,n,a,bO _,agree.refl _ _,h,ab⟩
theorem az.fail {R:Env->Nat->α->Prop}:az S L (M.fail:M α) n ρ R:=λ_ _ ab=>ab.elim
theorem az.bind {x:M α} {f:α->M β} {R:Env->Nat->α->Prop} {R':Env->Nat->β->Prop} (hx:az S L x n ρ R)
 (hf:∀aa n' a,n<=n'->agree n ρ aa->R aa n' a->az S L (f a) n' aa R'):az S L (M.bind x f) n ρ R':=by
 intro A k ab
 obtain⟨aa,n',a,hn,ha,hR,om⟩:=hx A _ ab
 obtain⟨ys,IU,b,At,oi,vq,ao7⟩:=hf aa n' a hn ha hR A k om
 exact⟨ys,IU,b,oE hn At,ha.trans oi hn,vq,ao7⟩
theorem az.mono {x:M α} {R R':Env->Nat->α->Prop} (hx:az S L x n ρ R) (h:∀aa n' a,n<=n'->agree n ρ aa->R aa n' a->R' aa n' a):az S L x n ρ R':=by
 intro A k ab
 obtain⟨aa,n',a,hn,ha,hR,om⟩:=hx A k ab
 exact⟨aa,n',a,hn,ha,h _ _ _ hn ha hR,om⟩
end M
open M
section
variable {S:Nat->List Int->List Int->Prop} {L:V->Env->Prop} {n:Nat} {ρ:Env}
def E9:List I->Option (List Int)
 |[]=>some []
 |l::r=>match l.eN,E9 r with|some c,some s=>some (c::s)|_,_=>none
theorem TJ {ρ:Env}:∀{l:List I} {cs:List Int},E9 l=some cs->l.map (·.den ρ)=cs
 |[],cs,h=>by simp[E9]at h;subst h;rfl
 |l::r,cs,h=>by
  simp only[E9]at h
  cases h1:l.eN with
  |none=>simp[h1]at h
  |some c=>
   cases h2:E9 r with
   |none=>simp[h1,h2]at h
   |some s=>
    simp only[h1,h2,bb]at h
    subst h
    simp only[c5,I.km h1,TJ h2]
def fV (op:Nat) (args:List I) (lo hi:Int):M I:=λn k=>match cK op 5,E9 args with
 |true,some cs=>k (.const (bE op cs)) n
 |_,_=> .fn n op args lo hi (k (.var n) (n+1))
def OX:Nat->List Int->Bool
 |1,[s,i]=>decide (0<=i)&&decide (i<(bx s).length)
 |2,[s,a,b]=>decide (0<=a)&&decide (a<=b)&&decide (b<=(bx s).length)
 |3,[s,t]=>cK ((bx s).length+(bx t).length) 1000000
 |30,[i,n]=>decide (0<=i)&&decide (i<n)
 |32,[a,b,n]=>decide (0<=a)&&decide (a<=b)&&decide (b<=n)
 |39,[x,l,h]=>decide (l<=x)&&decide (x<=h)
 |_,_=>false
theorem alI {op:Nat} {cs:List Int} (h:OX op cs=true):ar op cs:=by
 unfold OX at h
 split at h
 ·simp only[bw,decide_eq_true_eq]at h;exact h
 ·simp only[bw,decide_eq_true_eq]at h;exact⟨h.1.1,h.1.2,h.2⟩
 ·have h:=fP h
  show _<=nX
  unfold nX;omega
 ·simp only[bw,decide_eq_true_eq]at h;exact h
 ·simp only[bw,decide_eq_true_eq]at h;exact⟨h.1.1,h.1.2,h.2⟩
 ·simp only[bw,decide_eq_true_eq]at h;exact h
 ·cases h
def gS (op:Nat) (args:List I):M Unit:=λn k=>match E9 args with
 |some cs=>cond (OX op cs) (k () n) (.s5 op args (k () n))
 |none=> .s5 op args (k () n)
theorem iP {op:Nat} {args:List I} {lo hi:Int} (h1:lo<=bE op (args.map (·.den ρ))) (h2:bE op (args.map (·.den ρ))<=hi):
 az S L (fV op args lo hi) n ρ λaa n' l=>l.bG n'/\l.den aa=bE op (args.map (·.den ρ)):=by
 intro A k ab
 unfold fV at ab
 split at ab
 ·rename_i cs _ db
  exact⟨_,n,_,bO _,agree.refl _ _,⟨I.dd _ _,by rw[I.br,TJ db]⟩,ab⟩
 ·exact⟨_,n+1,_,tx _,agree.dm _ _ _,⟨I.fW (zE n),by simp[I.cS,nG]⟩,ab _ h1 h2 rfl⟩
theorem jL {op:Nat} {args:List I} {α:Type} {x:M α} {R:Env->Nat->α->Prop} (h:ar op (args.map (·.den ρ))->az S L x n ρ R):az S L (bind (gS op args) λ_=>x) n ρ R:=by
 intro A k ab
 unfold M.bind gS at ab
 split at ab
 ·rename_i cs db
  cases hb:OX op cs with
  |true=>
   rw[hb]at ab
   exact h (by rw[TJ db];exact alI hb) A k ab
  |false=>
   rw[hb]at ab
   exact h ab.1 A k ab.2
 ·exact h ab.1 A k ab.2
def Ae (x:bQ) (d:Int):M bQ:=λn k=>
 cond (d==1) (k x n) <| cond (x.lo/d==x.hi/d) (k (.const (x.lo/d)) n) (.div n x.l d (x.lo/d) (x.hi/d) (k ⟨.var n,x.lo/d,x.hi/d⟩ (n+1)))
theorem Dm {x:bQ} {d:Int} (hd:0<d) (hx:x.ok n ρ):az S L (Ae x d) n ρ λaa n' q=>q.ok n' aa/\q.l.den aa=x.l.den ρ/d/\(q.lo=x.lo/d/\q.hi=x.hi/d):=by
 intro A k ab
 have h1:=aBh hd hx.2.1
 have h2:=aBh hd hx.2.2
 unfold Ae at ab
 cases Ve:(d==1)with
 |true=>
  have e:d=1:=by simpa using Ve
  subst e
  simp only[Ve,cond_true]at ab
  exact⟨ρ,n,x,bO _,agree.refl _ _,⟨hx,by simp,by simp,by simp⟩,ab⟩
 |false=>
 simp only[Ve,cond_false]at ab
 cases hc:(x.lo/d==x.hi/d)with
 |true=>
  simp only[hc,cond_true]at ab
  have hc:x.lo/d=x.hi/d:=by simpa using hc
  exact⟨ρ,n,_,bO _,agree.refl _ _,⟨bQ.qW _ _ _,by simp only[bQ.const,I.br];omega,rfl,hc⟩,ab⟩
 |false=>
  simp only[hc,cond_false,T.holds]at ab
  have hm:=ud (x.l.den ρ) (show d≠0 by omega)
  have BN:=zw (x.l.den ρ) hd
  have he:=aiY (x.l.den ρ) d
  refine⟨_,n+1,_,tx _,agree.dm _ _ _,⟨⟨I.fW (zE n),?_,?_⟩,?_,rfl,rfl⟩,ab (x.l.den ρ/d) h1 h2 (by omega) (by omega)⟩<;>
   simp only[I.cS,nG]<;>omega
def Xd (x:bQ) (d:Int):M bQ:=
 bind (Ae x d) λq=>pure ⟨x.l.sub (q.l.smul d),cond (q.lo==q.hi) (x.lo-d*q.lo) 0,cond (q.lo==q.hi) (x.hi-d*q.lo) (d-1)⟩
theorem agc {x:bQ} {d:Int} (hd:0<d) (hx:x.ok n ρ):az S L (Xd x d) n ρ λaa n' q=>q.ok n' aa/\q.l.den aa=x.l.den ρ% d:=by
 refine(Dm hd hx).bind λaa n' q hn ha ⟨ah,he,yU,aFt⟩=>az.pure ?_
 have pg:=hx.agree ha hn
 have hm:=ud (x.l.den ρ) (show d≠0 by omega)
 have BN:=zw (x.l.den ρ) hd
 have aoI:=aiY (x.l.den ρ) d
 have yQ:(x.l.sub (q.l.smul d)).den aa=x.l.den ρ% d:=by
  rw[I.lP,I.nO,I.b5 ha hx.1,he];omega
 refine⟨⟨I.wh pg.1 (I.wg ah.1),?_,?_⟩,yQ⟩
 ·cases hc:(q.lo==q.hi)with
  |true=>
   have hc:q.lo=q.hi:=by simpa using hc
   have:q.l.den aa=q.lo:=by have:=ah.2;omega
   simp only[cond_true,I.lP,I.nO,this];have:=pg.2.1;omega
  |false=>simp only[cond_false,yQ];omega
 ·cases hc:(q.lo==q.hi)with
  |true=>
   have hc:q.lo=q.hi:=by simpa using hc
   have:q.l.den aa=q.lo:=by have:=ah.2;omega
   simp only[cond_true,I.lP,I.nO,this];have:=pg.2.2;omega
  |false=>simp only[cond_false,yQ];omega
def two (k:dO):Int:=match k with| .i8| .u8=>256| .i16| .u16=>65536| .i32| .u32=>4294967296| .i64| .u64=>18446744073709551616
theorem AZ (k:dO):two k=(2:Int)^k.bits:=by cases k<;>rfl
def half (k:dO):Int:=cond k.signed (two k/2) 0
theorem Rs (k:dO) (x:Int):k.wrap x=(x+half k)% two k-half k:=by
 cases k<;>simp only[aBi,No,aiZ,half,two,cond_true,cond_false,aBj,Bool.false_and]<;>
  simp<;>(try split)<;>omega
def A1 (k:dO) (x:bQ):M bQ:=
 cond (decide (-half k<=x.lo)&&decide (x.hi<two k-half k)) (pure x)
  (bind (Xd ⟨x.l.add (.const (half k)),x.lo+half k,x.hi+half k⟩ (two k)) λr=>pure ⟨r.l.add (.const (-half k)),r.lo-half k,r.hi-half k⟩)
theorem EB {k:dO} {x:bQ} (hx:x.ok n ρ):az S L (A1 k x) n ρ λaa n' q=>q.ok n' aa/\q.l.den aa=k.wrap (x.l.den ρ):=by
 have aA:0<two k:=by cases k<;>decide
 unfold A1
 cases hc:(decide (-half k<=x.lo)&&decide (x.hi<two k-half k))with
 |true=>
  simp only[bw,decide_eq_true_eq]at hc
  refine az.pure ⟨hx,?_⟩
  have h1:=hx.2
  rw[Rs,p9 (by omega) (by omega)];omega
 |false=>
  refine(agc (x:=⟨x.l.add (.const (half k)),x.lo+half k,x.hi+half k⟩) aA ⟨I.xQ hx.1 (I.dd _ _),?_,?_⟩).bind λaa n' r hn ha ⟨hr,he⟩=>az.pure ?_
  ·rw[I.den_add,I.br];have:=hx.2.1;simp only;omega
  ·rw[I.den_add,I.br];have:=hx.2.2;simp only;omega
  ·have e:(r.l.add (.const (-half k))).den aa=k.wrap (x.l.den ρ):=by
    rw[I.den_add,I.br,he,I.den_add,I.br,Rs];omega
   refine⟨⟨I.xQ hr.1 (I.dd _ _),?_,?_⟩,e⟩<;>simp only[I.den_add,I.br]<;>have:=hr.2<;>omega
def mulM (x y:bQ):M bQ:=λn k=>
 match x.l.eN,y.l.eN with
 |some c,_=>cond (decide (0<=c)) (k ⟨y.l.smul c,c*y.lo,c*y.hi⟩ n) .stuck
 |none,some c=>cond (decide (0<=c)) (k ⟨x.l.smul c,c*x.lo,c*x.hi⟩ n) .stuck
 |none,none=>cond (decide (0<=x.lo)&&decide (0<=y.lo)) (.mul n x.l y.l (x.lo*y.lo) (x.hi*y.hi) (k ⟨.var n,x.lo*y.lo,x.hi*y.hi⟩ (n+1))) .stuck
theorem Xg {x y:bQ} (hx:x.ok n ρ) (hy:y.ok n ρ):az S L (mulM x y) n ρ λaa n' q=>q.ok n' aa/\q.l.den aa=x.l.den ρ*y.l.den ρ:=by
 intro A k ab
 unfold mulM at ab
 cases h1:x.l.eN with
 |some c=>
  simp only[h1]at ab
  by_cases hc:0<=c
  ·simp only[decide_eq_true hc,cond_true]at ab
   refine⟨ρ,n,_,bO _,agree.refl _ _,⟨⟨I.wg hy.1,?_,?_⟩,?_⟩,ab⟩
   ·simp only[I.nO];exact EO hy.2.1 hc
   ·simp only[I.nO];exact EO hy.2.2 hc
   ·simp only[I.nO,I.km h1]
  ·simp only[decide_eq_false hc,cond_false,T.holds]at ab
 |none=>
  cases h2:y.l.eN with
  |some c=>
   simp only[h1,h2]at ab
   by_cases hc:0<=c
   ·simp only[decide_eq_true hc,cond_true]at ab
    refine⟨ρ,n,_,bO _,agree.refl _ _,⟨⟨I.wg hx.1,?_,?_⟩,?_⟩,ab⟩
    ·simp only[I.nO];exact EO hx.2.1 hc
    ·simp only[I.nO];exact EO hx.2.2 hc
    ·simp only[I.nO,I.km h2];exact kR _ _
   ·simp only[decide_eq_false hc,cond_false,T.holds]at ab
  |none=>
   simp only[h1,h2]at ab
   cases hc:(decide (0<=x.lo)&&decide (0<=y.lo))with
   |false=>simp only[hc,cond_false,T.holds]at ab
   |true=>
    simp only[hc,cond_true,T.holds]at ab
    simp only[bw,decide_eq_true_eq]at hc
    have b2:x.lo*y.lo<=x.l.den ρ*y.l.den ρ:=Zt hx.2.1 hy.2.1 hc.2 (by have:=hx.2.1;omega)
    have a2:x.l.den ρ*y.l.den ρ<=x.hi*y.hi:=Zt hx.2.2 hy.2.2 (by have:=hy.2.1;omega) (by have:=hx.2;omega)
    refine⟨_,n+1,_,tx _,agree.dm _ _ _,⟨⟨I.fW (zE n),?_,?_⟩,?_⟩,ab _ b2 a2 rfl⟩<;>simp only[I.cS,nG]<;>assumption
def Hx (op:BinOp) (k:dO) (x y:bQ):M bQ:=λn c=>
 cond k.signed .stuck (.bit n op k x.l y.l (c ⟨.var n,0,k.max⟩ (n+1)))
theorem azt {k:dO} (ab:k.signed=false) (x:Int):0<=k.wrap x/\k.wrap x<=k.max:=by
 cases k<;>simp[No]at ab<;>simp[aBi,No,aiZ,pF]<;>omega
theorem ak2 {k:dO} (ab:k.signed=false) (op:BinOp) (x y:Int):0<=eL op k x y/\eL op k x y<=k.max:=by
 unfold eL
 split
 iterate 4 exact azt ab _
 cases k<;>simp[No]at ab<;>simp[pF,No,aiZ]
theorem N7 {op:BinOp} {k:dO} {x y:bQ}:az S L (Hx op k x y) n ρ λaa n' q=>q.ok n' aa/\q.l.den aa=eL op k (x.l.den ρ) (y.l.den ρ):=by
 intro A c ab
 unfold Hx at ab
 cases hs:k.signed with
 |true=>simp only[hs,cond_true,T.holds]at ab
 |false=>
  simp only[hs,cond_false,T.holds]at ab
  have hb:=ak2 hs op (x.l.den ρ) (y.l.den ρ)
  refine⟨_,n+1,_,tx _,agree.dm _ _ _,⟨⟨I.fW (zE n),?_,?_⟩,?_⟩,ab _ hb.1 hb.2 rfl⟩<;>simp only[I.cS,nG]<;>first|exact hb.1|exact hb.2
def Qr (c:Int):Option (Int×Int):=
 match c with
 | .ofNat 0=>none
 | .ofNat c=>
  let b:=2^(rB c+1)
  let a:=b-c
  cond (aM (2^rB a) a) (some (a,b)) none
 |_=>none
theorem bv_and {w:Nat} (x y:Int):((uX w x&&&uX w y).toNat:Int)=(((x% 2^w).toNat&&&(y% 2^w).toNat:Nat):Int):=by
 rw[BitVec.toNat_and,RO,RO]
 congr
theorem ak9 {w:Nat} (x y:Int):((uX w x|||uX w y).toNat:Int)=(((x% 2^w).toNat|||(y% 2^w).toNat:Nat):Int):=by
 rw[BitVec.toNat_or,RO,RO]
 congr
theorem akB (x a b:Nat) (aFp:a<=b):x&&&(2^b-2^a)=2^a*(x/2^a)-2^b*(x/2^b):=by
 have aw:2^b-2^a=2^a*(2^(b-a)-1):=by
  rw[Nat.mul_sub,<-CH,Ba];congr 2;omega
 have aD:x&&&(2^b-2^a)=2^a*(x/2^a% 2^(b-a)):=by
  rw[aw]
  apply Nat.eq_of_testBit_eq
  intro i
  rw[Nat.testBit_and,zy (2^a) (2^(b-a)-1),zy (2^a),aBk,aBk,Nat.testBit_two_pow_sub_one,Nat.testBit_mod_two_pow,Nat.testBit_div_two_pow]
  by_cases h:a<=i
  ·simp only[h,decide_true,aBj]
   rw[show i-a+a=i by omega,Bool.and_comm]
  ·simp[h]
 rw[aD]
 have cj:x/2^b=x/2^a/2^(b-a):=by
  rw[Nb,<-CH];congr 2;omega
 have hV:2^b=2^a*2^(b-a):=by rw[<-CH];congr 1;omega
 have gk:=RB (x/2^a) (2^(b-a))
 rw[cj,hV,RE,<-Nat.mul_sub]
 congr 1
 omega
theorem ar8 {c a b:Int} (h:Qr c=some (a,b)):∃i j:Nat,i<=j/\a=2^i/\b=2^j/\c=b-a/\0<a/\0<b:=by
 unfold Qr at h
 split at h
 ·cases h
 ·rename_i c hc
  have hc0:c≠0:=λe=>hc (by rw[e])
  cases hb:aM (2^rB (2^(rB c+1)-c)) (2^(rB c+1)-c)with
  |false=>simp[hb]at h
  |true=>
   simp only[hb,cond_true,bb,eW]at h
   obtain⟨rfl,rfl⟩:=h
   have e:=bR hb
   have hlt:c<2^(rB c+1):=aBl
   have hp:0<2^rB (2^(rB c+1)-c):=G7 _
   refine⟨rB (2^(rB c+1)-c),rB c+1,?_,?_,?_,?_,?_,?_⟩
   ·rcases JP (rB c+1) (rB (2^(rB c+1)-c))with ae|ae
    ·have:=Nat.pow_lt_pow_right (a:=2) (by omega) ae
     omega
    ·exact ae
   ·rw[<-e];simp
   ·simp
   ·have:((2^(rB c+1)-c:Nat):Int)=((2^(rB c+1):Nat):Int)-(c:Int):=by omega
    simp only[Int.ofNat_eq_natCast]
    omega
   ·omega
   ·have:0<2^(rB c+1):=G7 _
    omega
 ·cases h
def andM (x:bQ) (a b:Int):M bQ:=
 bind (Ae x a) λp=>bind (Ae x b) λq=>
  pure ⟨(p.l.smul a).sub (q.l.smul b),cond (q.lo==q.hi) (a*p.lo-b*q.lo) 0,cond (q.lo==q.hi) (a*p.hi-b*q.lo) (b-a)⟩
theorem akA {x:bQ} {i j:Nat} (Iw:i<=j) (hx:x.ok n ρ) (h0:0<=x.lo):az S L (andM x (2^i) (2^j)) n ρ λaa n' q=>q.ok n' aa/\q.l.den aa=((x.l.den ρ).toNat&&&(2^j-2^i):Nat):=by
 have hi:(0:Int)<2^i:=by have:=G7 i;exact_mod_cast this
 have aK:(0:Int)<2^j:=by have:=G7 j;exact_mod_cast this
 refine(Dm hi hx).bind λaQ a1 p gE fe ⟨hp,ep,_,_⟩=>?_
 refine(Dm aK (hx.agree fe gE)).bind λbW ff q fo eb ⟨ah,eq,_,_⟩=>az.pure ?_
 rw[I.b5 fe hx.1]at eq
 have IC:=hp.agree eb fo
 have UP:p.l.den bW=x.l.den ρ/2^i:=by rw[I.b5 eb hp.1,ep]
 obtain⟨X,b3⟩:=sn (show 0<=x.l.den ρ by have:=hx.2.1;omega)
 have e:((p.l.smul (2^i)).sub (q.l.smul (2^j))).den bW=((x.l.den ρ).toNat&&&(2^j-2^i):Nat):=by
  rw[I.lP,I.nO,I.nO,UP,eq,b3,sq,akB X i j Iw]
  have h1:2^j*(X/2^j)<=2^i*(X/2^i):=by
   have cj:X/2^j=X/2^i/2^(j-i):=by rw[Nb,<-CH];congr 2;omega
   have hV:2^j=2^i*2^(j-i):=by rw[<-CH];congr 1;omega
   rw[cj]
   conv=>lhs;rw[hV,RE]
   exact Nat.mul_le_mul_left _ (Nat.mul_div_le _ _)
  rw[ai0 h1]
  simp
 refine⟨⟨I.wh (I.wg IC.1) (I.wg ah.1),?_,?_⟩,e⟩
 ·cases hc:(q.lo==q.hi)with
  |true=>
   have hc:q.lo=q.hi:=by simpa using hc
   have h1:q.l.den bW=q.lo:=by have:=ah.2;omega
   simp only[cond_true,I.lP,I.nO,h1]
   have:=EO IC.2.1 (so hi);omega
  |false=>simp only[cond_false,e];omega
 ·cases hc:(q.lo==q.hi)with
  |true=>
   have hc:q.lo=q.hi:=by simpa using hc
   have h1:q.l.den bW=q.lo:=by have:=ah.2;omega
   simp only[cond_true,I.lP,I.nO,h1]
   have:=EO IC.2.2 (so hi);omega
  |false=>
   simp only[cond_false,e]
   have h2:(x.l.den ρ).toNat&&&(2^j-2^i)<=2^j-2^i:=Nat.and_le_right
   have h3:2^i<=2^j:=Nd (by omega) Iw
   have h4:((2^j-2^i:Nat):Int)=2^j-2^i:=by rw[ai0 h3];simp
   omega
end
end Go.ch
namespace Go.ch
open M
def A.den (ρ:Env) (m:Nat->Nat):A->aV
 | .int k x=> .int k (x.l.den ρ)
 | .bool b=> .bool (b.den ρ)
 | .ptr b off=> .pointer (some ⟨m b,off,none⟩)
 | .rk b off bj=> .pointer (some ⟨m b,off+(bj.l.den ρ).toNat,none⟩)
 | .gptr g off=> .pointer (some ⟨g,off,none⟩)
 | .Ib g off bj=> .pointer (some ⟨g,off+(bj.l.den ρ).toNat,none⟩)
 | .slc b off len cap=> .slice (some ⟨m b,off,none⟩) len cap
 | .con v=>v
 | .str l=> .string (dY (bx (l.den ρ)))
 | .rows _ _ code _ _=> .int .u8 (code.den ρ)
 | .sl b bz o ro len cap=>if cap.den ρ<0 then .slice none 0 0 else .slice (some ⟨m b,(o.den ρ).toNat+(ro.den ρ).toNat*bz,none⟩) (len.den ρ).toNat (cap.den ρ).toNat
 | .ep b bz o i j=> .pointer (some ⟨m b,(o.den ρ).toNat+(i.den ρ).toNat*bz+j,none⟩)
def G0 (o ro len cap:Int):Prop:=(0<=o/\0<=ro/\0<=len/\len<=9223372036854775807)/\(-1<=cap/\ro+cap<=9223372036854775807)/\(cap<0->len=0)/\(0<=cap->len<=cap)
def A.ok (n nb:Nat) (ρ:Env):A->Prop
 | .int _ x=>x.ok n ρ
 | .bool b=>b.bG n
 | .ptr b _=>b<nb
 | .rk b _ bj=>b<nb/\bj.ok n ρ/\0<=bj.lo
 | .gptr .. =>True
 | .Ib _ _ bj=>bj.ok n ρ/\0<=bj.lo
 | .slc b .. =>b<nb
 | .con v=>v.oneCell'=true
 | .str l=>l.bG n/\0<=l.den ρ/\l.den ρ<=qR
 | .rows _ off code cap _=>(off.bG n/\code.bG n/\cap.bG n)/\(0<=code.den ρ/\code.den ρ<=bU)/\-1<=cap.den ρ/\cap.den ρ<=9223372036854775807
 | .sl b _ o ro len cap=>b<nb/\(o.bG n/\ro.bG n/\len.bG n/\cap.bG n)/\G0 (o.den ρ) (ro.den ρ) (len.den ρ) (cap.den ρ)
 | .ep b _ o i _=>b<nb/\(o.bG n/\i.bG n)/\0<=o.den ρ/\0<=i.den ρ
theorem A.ok.ext {n n' nb ov:Nat} {ρ aa:Env} {a:A} (h:a.ok n nb ρ) (ha:agree n ρ aa) (hn:n<=n') (hb:nb<=ov):a.ok n' ov aa:=by
 cases a<;>simp only[A.ok]at h⊢
 ·exact h.agree ha hn
 ·exact bC.bG.mono hn h
 ·omega
 ·exact⟨by omega,h.2.1.agree ha hn,h.2.2⟩
 ·exact⟨h.1.agree ha hn,h.2⟩
 ·omega
 ·exact h
 ·exact⟨h.1.mono hn,by rw[I.b5 ha h.1];exact h.2⟩
 ·obtain⟨⟨h1,h2,h3⟩,h4⟩:=h
  exact⟨⟨h1.mono hn,h2.mono hn,h3.mono hn⟩,by rw[I.b5 ha h2,I.b5 ha h3];exact h4⟩
 ·obtain⟨h1,⟨h2,h3,h4,h5⟩,h6⟩:=h
  exact⟨by omega,⟨h2.mono hn,h3.mono hn,h4.mono hn,h5.mono hn⟩,by rw[I.b5 ha h2,I.b5 ha h3,I.b5 ha h4,I.b5 ha h5];exact h6⟩
 ·obtain⟨h1,⟨h2,h3⟩,h4⟩:=h
  exact⟨by omega,⟨h2.mono hn,h3.mono hn⟩,by rw[I.b5 ha h2,I.b5 ha h3];exact h4⟩
theorem A.oL {n nb:Nat} {ρ aa:Env} {m m':Nat->Nat} {a:A} (h:a.ok n nb ρ) (ha:agree n ρ aa) (hm:∀b,b<nb->m' b=m b):a.den aa m'=a.den ρ m:=by
 cases a<;>simp only[A.ok]at h<;>simp only[A.den]
 ·rw[I.b5 ha h.1]
 ·rw[bC.b5 ha h]
 ·rw[hm _ h]
 ·rw[hm _ h.1,I.b5 ha h.2.1.1]
 ·rw[I.b5 ha h.1.1]
 ·rw[hm _ h]
 ·rw[I.b5 ha h.1]
 ·rw[I.b5 ha h.1.2.1]
 ·obtain⟨h1,⟨h2,h3,h4,h5⟩,h6⟩:=h
  rw[hm _ h1,I.b5 ha h2,I.b5 ha h3,I.b5 ha h4,I.b5 ha h5]
 ·rw[hm _ h.1,I.b5 ha h.2.1.1,I.b5 ha h.2.1.2]
theorem A.QE {n nb:Nat} {ρ:Env} {m:Nat->Nat} {a:A} (h:a.ok n nb ρ):(a.den ρ m).oneCell'=true:=by
 cases a<;>first|rfl|exact h|(simp only[A.den];split<;>rfl)
def W.den (ρ:Env) (m:Nat->Nat):W->aV
 | .one a=>a.den ρ m
 | .agg l=> .agg (l.map (A.den ρ m)).toArray
def W.ok (n nb:Nat) (ρ:Env):W->Prop
 | .one a=>a.ok n nb ρ
 | .agg l=>∀a∈l,a.ok n nb ρ
theorem W.ok.ext {n n' nb ov:Nat} {ρ aa:Env} {x:W} (h:x.ok n nb ρ) (ha:agree n ρ aa) (hn:n<=n') (hb:nb<=ov):x.ok n' ov aa:=by
 cases x with
 |one a=>exact A.ok.ext h ha hn hb
 |agg l=>exactλa bd=>(h a bd).ext ha hn hb
theorem xz {n nb:Nat} {ρ aa:Env} {m m':Nat->Nat} {l:List A} (h:∀a∈l,a.ok n nb ρ) (ha:agree n ρ aa) (hm:∀b,b<nb->m' b=m b):l.map (A.den aa m')=l.map (A.den ρ m):=
 kD λa bd=>A.oL (h a bd) ha hm
theorem W.oL {n nb:Nat} {ρ aa:Env} {m m':Nat->Nat} {x:W} (h:x.ok n nb ρ) (ha:agree n ρ aa) (hm:∀b,b<nb->m' b=m b):x.den aa m'=x.den ρ m:=by
 cases x with
 |one a=>exact A.oL h ha hm
 |agg l=>simp only[W.den,xz h ha hm]
def V.rel (ρ:Env) (m:Nat->Nat):V->aV->Prop
 | .w x,v=>v=x.den ρ m
 | .iU l,v=>v= .tuple (l.map (W.den ρ m)).toArray
 | .any,_=>True
 | .sN b len lo,v=>∃c:Nat,lo<=c/\v= .slice (some ⟨m b,0,none⟩) len c
 | .s6 f kH,v=>v= .func (.func f) #[] (kH.map (A.den ρ m)).toArray
def V.ok (n nb:Nat) (ρ:Env):V->Prop
 | .w x=>x.ok n nb ρ
 | .iU l=>∀x∈l,x.ok n nb ρ
 | .any=>True
 | .sN b _ _=>b<nb
 | .s6 _ kH=>∀a∈kH,A.ok n nb ρ a
theorem V.ok.ext {n n' nb ov:Nat} {ρ aa:Env} {x:V} (h:x.ok n nb ρ) (ha:agree n ρ aa) (hn:n<=n') (hb:nb<=ov):x.ok n' ov aa:=by
 cases x with
 |w x=>exact W.ok.ext h ha hn hb
 |iU l=>exactλa bd=>(h a bd).ext ha hn hb
 |any=>trivial
 |sN b len lo=>exact G8 h hb
 |s6 f kH=>exactλa bd=>(h a bd).ext ha hn hb
theorem V.rel.ext {n nb:Nat} {ρ aa:Env} {m m':Nat->Nat} {x:V} {v:aV} (hr:x.rel ρ m v) (h:x.ok n nb ρ) (ha:agree n ρ aa) (hm:∀b,b<nb->m' b=m b):x.rel aa m' v:=by
 cases x with
 |w x=>simp only[V.rel]at hr⊢;rw[W.oL h ha hm];exact hr
 |iU l=>simp only[V.rel]at hr⊢;rw[hr];congr 2;exact(kD λa bd=>W.oL (h a bd) ha hm).symm
 |any=>trivial
 |sN b len lo=>obtain⟨c,h1,h2⟩:=hr;exact⟨c,h1,by rw[hm b h];exact h2⟩
 |s6 f kH=>simp only[V.rel]at hr⊢;rw[hr];congr 2;exact(kD λa bd=>A.oL (h a bd) ha hm).symm
section
variable {S:Nat->List Int->List Int->Prop} {L:V->Env->Prop} {n:Nat} {ρ:Env}
def NY (s:Int):List (Int×Nat)->Bool
 |[]=>true
 |(k,_)::r=>k% s==0&&NY s r
theorem aa4 {s:Int} (ρ:Env):∀{l},NY s l=true->jW ρ l% s=0
 |[],_=>by simp[jW]
 |(k,i)::r,h=>by
  simp only[NY,bw,beq_iff_eq]at h
  have h1:=aa4 ρ h.2
  obtain⟨c,hc⟩:=G5 h.1
  obtain⟨d,hd⟩:=G5 h1
  simp only[jW,hc,hd,CF]
  rw[<-JK];exact ai1 _ _
def I.Bn (s:Int) (l:I):Bool:=l.c% s==0&&NY s l.ts
theorem I.TH {s:Int} (ρ:Env) {l:I} (h:l.Bn s=true):l.den ρ% s=0:=by
 simp only[Bn,bw,beq_iff_eq]at h
 have h1:=aa4 ρ h.2
 obtain⟨c,hc⟩:=G5 h.1
 obtain⟨d,hd⟩:=G5 h1
 simp only[den,hc,hd]
 rw[<-JK];exact ai1 _ _
def CZ (h:Int):Nat:=2^(rB h.toNat+1)
theorem aaU {x h:Int} (hx:x<=h) (h0:0<=x):x<(CZ h:Int):=by
 have:h.toNat<2^(rB h.toNat+1):=aBl
 unfold CZ;omega
theorem eI {c:Bool} {α:Type} {x:M α} {R:Env->Nat->α->Prop} (h:c=true->az S L x n ρ R):az S L (cond c x fail) n ρ R:=by
 cases c with
 |true=>exact h rfl
 |false=>exact az.fail
def pU (k:dO):Int:=two k-half k
theorem Qp (k:dO):pU k<=two k:=by cases k<;>decide
theorem arP (k:dO):∃i:Nat,pU k=2^i/\i<=k.bits:=by cases k<;>first|exact⟨7,by decide,by decide⟩|exact⟨8,by decide,by decide⟩|exact⟨15,by decide,by decide⟩|exact⟨16,by decide,by decide⟩|exact⟨31,by decide,by decide⟩|exact⟨32,by decide,by decide⟩|exact⟨63,by decide,by decide⟩|exact⟨64,by decide,by decide⟩
def NX (x:I):List Nat->Nat
 |[]=>1
 |i::r=>cond (x.Bn (2^i)) (2^i) (NX x r)
def orM (k:dO) (x y:bQ):M bQ:=
 cond (!(decide (0<=x.lo)&&decide (0<=y.lo)&&decide (x.hi<pU k)&&decide (y.hi<pU k))) (cond (decide (0<=x.lo)&&decide (x.hi<pU k)) (
  let s:=NX x.l [24,18,16,12,8,6,4]
  cond (x.l.Bn s&&decide (y.hi<pU k)&&decide (x.hi+s<pU k)) (bind (gS 30 [y.l,.const s]) λ_=>pure ⟨x.l.add y.l,x.lo,x.hi+s⟩) fail) fail) <|
 cond (x.l.Bn (CZ y.hi)) (pure ⟨x.l.add y.l,x.lo+y.lo,cond (decide (x.hi+y.hi<two k)) (x.hi+y.hi) (two k-1)⟩) <|
 cond (y.l.Bn (CZ x.hi)) (pure ⟨x.l.add y.l,x.lo+y.lo,cond (decide (x.hi+y.hi<two k)) (x.hi+y.hi) (two k-1)⟩) (Hx .or k x y)
theorem XA {X Y s:Nat} (hs:∃i,s=2^i) (hx:X% s=0) (hy:Y<s):X|||Y=X+Y:=by
 obtain⟨i,rfl⟩:=hs
 have e:=RB X (2^i)
 rw[hx,pE]at e
 rw[<-e,<-Nat.two_pow_add_eq_or_of_lt hy]
theorem YY {k:dO} {z:Int} (h0:0<=z) (h1:z<pU k):k.wrap z=z:=by
 rw[Rs]
 have ae:0<=half k:=by cases k<;>decide
 unfold pU at h1
 rw[p9 (by omega) (by omega)]
 omega
theorem ab3 {k:dO} {x y:Int} (hx:0<=x) (hy:0<=y) (Av:x<pU k) (WA:y<pU k):eL .or k x y=((x.toNat|||y.toNat:Nat):Int):=by
 have hl:=Qp k
 have Ww:x<2^k.bits:=by rw[<-AZ];omega
 have WB:y<2^k.bits:=by rw[<-AZ];omega
 obtain⟨i,hi,_⟩:=arP k
 obtain⟨X,rfl⟩:=sn hx
 obtain⟨Y,rfl⟩:=sn hy
 have b3:X<2^i:=by rw[hi]at Av;exact_mod_cast Av
 have hY:Y<2^i:=by rw[hi]at WA;exact_mod_cast WA
 have h1:X|||Y<2^i:=aBm b3 hY
 unfold eL
 simp only
 rw[ak9,p9 hx Ww,p9 hy WB]
 simp only[sq]
 exact YY (by omega) (by rw[hi];exact_mod_cast h1)
theorem ab2 {k:dO} {x y:Int} (hx:0<=x) (hy:0<=y) (Av:x<pU k) (WA:y<two k):eL .and k x y=((x.toNat&&&y.toNat:Nat):Int):=by
 have hl:=Qp k
 have Ww:x<2^k.bits:=by rw[<-AZ];omega
 have WB:y<2^k.bits:=by rw[<-AZ];omega
 obtain⟨X,rfl⟩:=sn hx
 obtain⟨Y,rfl⟩:=sn hy
 have h1:X&&&Y<=X:=Nat.and_le_left
 unfold eL
 simp only
 rw[bv_and,p9 hx Ww,p9 hy WB]
 simp only[sq]
 exact YY (by omega) (by omega)
theorem toNat_mod {x:Int} {s:Nat} (hx:0<=x) (h:x% (s:Int)=0):x.toNat% s=0:=by
 obtain⟨X,rfl⟩:=sn hx
 simp only[sq]
 exact_mod_cast h
theorem atH {k:dO} {x y:bQ} (hx:x.ok n ρ) (hy:y.ok n ρ):az S L (orM k x y) n ρ λaa n' q=>q.ok n' aa/\q.l.den aa=eL .or k (x.l.den ρ) (y.l.den ρ):=by
 unfold orM
 cases hc:(!(decide (0<=x.lo)&&decide (0<=y.lo)&&decide (x.hi<pU k)&&decide (y.hi<pU k)))with
 |true=>
  simp only[cond_true]
  refine eI λh1=>eI λh2=>jL λh3=>az.pure ?_
  simp only[bw,decide_eq_true_eq]at h1 h2
  simp only[c5,fD,ar,I.br]at h3
  obtain⟨⟨h4,h6⟩,h5⟩:=h2
  have Br:=hx.2;have Kk:=hy.2
  generalize hs:NX x.l [24,18,16,12,8,6,4]=s at*
  have hm:=I.TH ρ h4
  have apB:∃i,s=2^i:=by
   rw[<-hs]
   generalize [24,18,16,12,8,6,4]=l
   induction l with
   |nil=>exact⟨0,rfl⟩
   |cons i r ih=>
    unfold NX
    cases x.l.Bn (2^i)with
    |true=>exact⟨i,rfl⟩
    |false=>exact ih
  have e:x.l.den ρ+y.l.den ρ=eL .or k (x.l.den ρ) (y.l.den ρ):=by
   rw[ab3 (by omega) h3.1 (by omega) (by omega),XA apB (toNat_mod (by omega) hm) (by omega)];omega
  exact⟨⟨I.xQ hx.1 hy.1,by simp only[I.den_add];omega,by simp only[I.den_add];omega⟩,by rw[I.den_add];exact e⟩
 |false=>
  simp only[kj,bw,decide_eq_true_eq]at hc
  obtain⟨⟨⟨h1,h2⟩,DN⟩,aE9⟩:=hc
  have V2:=Qp k
  have h3:x.hi<two k:=by omega
  have h4:y.hi<two k:=by omega
  have Br:=hx.2;have Kk:=hy.2
  have hb:=ab3 (k:=k) (x:=x.l.den ρ) (y:=y.l.den ρ) (by omega) (by omega) (by omega) (by omega)
  have hlt:eL .or k (x.l.den ρ) (y.l.den ρ)<two k:=by
   have aw:x.l.den ρ<2^k.bits:=by rw[<-AZ];omega
   have aD:y.l.den ρ<2^k.bits:=by rw[<-AZ];omega
   have h1:(x.l.den ρ).toNat|||(y.l.den ρ).toNat<2^k.bits:=aBm (by
    have:(x.l.den ρ).toNat=x.l.den ρ:=by omega
    exact_mod_cast (show((x.l.den ρ).toNat:Int)<2^k.bits by omega)) (by exact_mod_cast (show((y.l.den ρ).toNat:Int)<2^k.bits by omega))
   rw[hb,AZ]
   exact_mod_cast h1
  have ok:∀q:Int,q=eL .or k (x.l.den ρ) (y.l.den ρ)->x.l.den ρ+y.l.den ρ=q->(bQ.mk (x.l.add y.l) (x.lo+y.lo) (cond (decide (x.hi+y.hi<two k)) (x.hi+y.hi) (two k-1))).ok n ρ:=λq yX vu=>⟨I.xQ hx.1 hy.1,by simp only[I.den_add];omega,by
   simp only[I.den_add]
   cases hd:decide (x.hi+y.hi<two k)with
   |true=>simp only[cond_true];omega
   |false=>simp only[cond_false];omega⟩
  simp only[cond_false]
  cases h5:x.l.Bn (CZ y.hi)with
  |true=>
   have hm:=I.TH ρ h5
   have hl:=aaU Kk.2 (by omega)
   have hs:x.l.den ρ+y.l.den ρ=eL .or k (x.l.den ρ) (y.l.den ρ):=by
    rw[hb,XA (s:=CZ y.hi) ⟨_,rfl⟩ (toNat_mod (by omega) hm) (by omega)];omega
   exact az.pure ⟨ok _ rfl hs,by rw[I.den_add];exact hs⟩
  |false=>
   simp only[cond_false]
   cases h6:y.l.Bn (CZ x.hi)with
   |true=>
    have hm:=I.TH ρ h6
    have hl:=aaU Br.2 (by omega)
    have hs:x.l.den ρ+y.l.den ρ=eL .or k (x.l.den ρ) (y.l.den ρ):=by
     rw[hb,Nat.or_comm,XA (s:=CZ x.hi) ⟨_,rfl⟩ (toNat_mod (by omega) hm) (by omega)];omega
    exact az.pure ⟨ok _ rfl hs,by rw[I.den_add];exact hs⟩
   |false=>exact N7
def N3 (k:dO) (x:bQ) (c:Int):M bQ:=
 match Qr c with
 |some (a,b)=>cond (!(decide (0<=x.lo)&&decide (x.hi<pU k)&&decide (c<two k)&&decide (0<=c))) fail (andM x a b)
 |none=>cond (c==0&&decide (0<=x.lo)&&decide (x.hi<pU k)) (pure (.const 0)) fail
theorem aa7 {k:dO} {x:bQ} {c:Int} (hx:x.ok n ρ):az S L (N3 k x c) n ρ λaa n' q=>q.ok n' aa/\q.l.den aa=eL .and k (x.l.den ρ) c:=by
 unfold N3
 have Br:=hx.2
 cases hm:Qr c with
 |some p=>
  obtain⟨a,b⟩:=p
  simp only
  cases hc:(!(decide (0<=x.lo)&&decide (x.hi<pU k)&&decide (c<two k)&&decide (0<=c)))with
  |true=>exact az.fail
  |false=>
   simp only[kj,bw,decide_eq_true_eq]at hc
   obtain⟨⟨⟨h1,h2⟩,h3⟩,h4⟩:=hc
   obtain⟨i,j,Iw,rfl,rfl,PC,_,_⟩:=ar8 hm
   refine(akA Iw hx h1).mono λaa n' q _ _ ⟨ax,he⟩=>⟨ax,?_⟩
   rw[he,ab2 (by omega) h4 (by omega) h3]
   congr 2
   have h3:2^i<=2^j:=Nd (by omega) Iw
   have h5:((2^j-2^i:Nat):Int)=2^j-2^i:=by rw[ai0 h3];simp
   omega
 |none=>
  simp only
  cases hc:(c==0&&decide (0<=x.lo)&&decide (x.hi<pU k))with
  |false=>exact az.fail
  |true=>
   simp only[bw,beq_iff_eq,decide_eq_true_eq]at hc
   obtain⟨⟨rfl,h1⟩,h2⟩:=hc
   refine az.pure ⟨bQ.qW _ _ _,?_⟩
   rw[ab2 (by omega) (cW _) (by omega) (by cases k<;>decide)]
   simp[bQ.const,I.br]
theorem ak1 (k:dO) (x y:Int):eL .and k x y=eL .and k y x:=by simp only[eL,BitVec.and_comm]
def TM (k:dO) (x y:bQ):M bQ:=
 match y.l.eN,x.l.eN with
 |some c,_=>N3 k x c
 |none,some c=>N3 k y c
 |none,none=>Hx .and k x y
theorem akz {k:dO} {x y:bQ} (hx:x.ok n ρ) (hy:y.ok n ρ):az S L (TM k x y) n ρ λaa n' q=>q.ok n' aa/\q.l.den aa=eL .and k (x.l.den ρ) (y.l.den ρ):=by
 unfold TM
 cases h1:y.l.eN with
 |some c=>simp only[I.km h1];exact aa7 hx
 |none=>
  cases h2:x.l.eN with
  |some c=>simp only[I.km h2];rw[ak1];exact aa7 hy
  |none=>exact N7
def YA (x y:bQ):M bQ:=λn k=> .shr n x.l y.l 0 x.hi (k ⟨.var n,0,x.hi⟩ (n+1))
theorem aw2 {x y:bQ} (hx:x.ok n ρ) (h0:0<=x.lo):az S L (YA x y) n ρ λaa n' q=>q.ok n' aa/\q.l.den aa=x.l.den ρ/2^(y.l.den ρ).toNat:=by
 intro A k ab
 simp only[YA,T.holds]at ab
 have hp:(0:Int)<2^(y.l.den ρ).toNat:=by have:=G7 (y.l.den ρ).toNat;exact_mod_cast this
 have fK:0<=x.l.den ρ:=by have:=hx.2;omega
 have b2:0<=x.l.den ρ/2^(y.l.den ρ).toNat:=Zr fK (so hp)
 have a2:x.l.den ρ/2^(y.l.den ρ).toNat<=x.hi:=Int.le_trans (aBn _ fK) hx.2.2
 exact⟨_,n+1,_,tx _,agree.dm _ _ _,⟨⟨I.fW (zE n),by simp only[I.cS,nG];exact b2,by simp only[I.cS,nG];exact a2⟩,by simp only[I.cS,nG]⟩,ab _ b2 a2 rfl⟩
def isInt (k:dO) (x:M bQ):M A:=bind x λr=>pure (.int k r)
def Em (x:bQ):M bQ:=cond (decide (0<=x.lo)) (pure x) (bind (gS 77 [x.l]) λ_=>pure ⟨x.l,0,x.hi⟩)
def eO (x y:bQ):M bQ:=match x.l.eN,y.l.eN with
 |none,none=>bind (Em x) λx=>bind (Em y) λy=>mulM x y
 |_,_=>mulM x y
def T4 (op:BinOp) (k:dO) (x:bQ) (bD:dO) (y:bQ):M A:=
 match op with
 | .shl=>match y.l.eN with
  |some c=>cond (decide (0<=c)) (let s:Int:=2^min c.toNat k.bits;isInt k (A1 k ⟨x.l.smul s,x.lo*s,x.hi*s⟩)) fail
  |none=>cond (decide (0<=x.lo)&&decide (0<=y.lo)&&decide (y.hi<=62)&&decide (x.hi*2^y.hi.toNat<pU k)) (isInt k (bind (fV 37 [x.l,y.l] 0 (x.hi*2^y.hi.toNat)) λl=>pure ⟨l,0,x.hi*2^y.hi.toNat⟩)) fail
 | .shr=>match y.l.eN with
  |some c=>cond (decide (0<=c)) (isInt k (Ae x (2^min c.toNat k.bits))) fail
  |none=>cond (decide (0<=x.lo)&&decide (0<=y.lo)&&decide (y.hi<=(k.bits:Int))) (isInt k (YA x y)) fail
 | .add=>cond (decide (k=bD)) (isInt k (A1 k ⟨x.l.add y.l,x.lo+y.lo,x.hi+y.hi⟩)) fail
 | .sub=>cond (decide (k=bD)) (isInt k (A1 k ⟨x.l.sub y.l,x.lo-y.hi,x.hi-y.lo⟩)) fail
 | .mul=>cond (decide (k=bD)) (isInt k (bind (eO x y) (A1 k))) fail
 | .quo=>match y.l.eN with
  |some c=>cond (decide (k=bD)&&decide (0<c)) (bind (Em x) λx=>isInt k (bind (Ae x c) (A1 k))) fail
  |none=>cond (decide (k=bD)) (bind (Em x) λx=>bind (gS 36 [y.l]) λ_=>isInt k (bind (bind (fV 76 [x.l,y.l] 0 x.hi) λl=>pure ⟨l,0,x.hi⟩) (A1 k))) fail
 | .rem=>match y.l.eN with
  |some c=>cond (decide (k=bD)&&decide (0<c)) (bind (Em x) λx=>isInt k (Xd x c)) fail
  |none=>cond (decide (k=bD)) (bind (Em x) λx=>bind (gS 36 [y.l]) λ_=>isInt k (bind (fV 38 [x.l,y.l] 0 (cond (decide (y.hi-1<=x.hi)) (y.hi-1) x.hi)) λl=>pure ⟨l,0,cond (decide (y.hi-1<=x.hi)) (y.hi-1) x.hi⟩)) fail
 | .and=>cond (decide (k=bD)) (isInt k (TM k x y)) fail
 | .or=>cond (decide (k=bD)) (isInt k (orM k x y)) fail
 | .xor=>cond (decide (k=bD)) (isInt k (Hx .xor k x y)) fail
 | .andNot=>cond (decide (k=bD)) (isInt k (Hx .andNot k x y)) fail
 | .eql=>cond (decide (k=bD)) (pure (.bool (.mkEq x y))) fail
 | .neq=>cond (decide (k=bD)) (pure (.bool (.mkNot (.mkEq x y)))) fail
 | .lss=>cond (decide (k=bD)) (pure (.bool (.mkLt x y))) fail
 | .leq=>cond (decide (k=bD)) (pure (.bool (.mkLe x y))) fail
 | .gtr=>cond (decide (k=bD)) (pure (.bool (.mkLt y x))) fail
 | .geq=>cond (decide (k=bD)) (pure (.bool (.mkLe y x))) fail
theorem tS {k:dO} {x:M bQ} {R:Env->Nat->A->Prop} {v:Int} (h:az S L x n ρ λaa n' q=>q.ok n' aa/\q.l.den aa=v)
 (hR:∀aa n' (q:bQ),n<=n'->agree n ρ aa->q.ok n' aa->q.l.den aa=v->R aa n' (.int k q)):az S L (isInt k x) n ρ R:=
 h.bind λaa n' q hn ha ⟨ax,he⟩=>az.pure (hR aa n' q hn ha ax he)
theorem I3 {x:bQ} (hx:x.ok n ρ):az S L (Em x) n ρ λaa n' q=>q.ok n' aa/\q.l=x.l/\q.hi=x.hi/\0<=q.lo/\x.l.den aa=x.l.den ρ:=by
 unfold Em
 cases h:decide (0<=x.lo)with
 |true=>exact az.pure ⟨hx,rfl,rfl,of_decide_eq_true h,rfl⟩
 |false=>
  refine jL λab=>az.pure ⟨⟨hx.1,?_,hx.2.2⟩,rfl,rfl,cW _,rfl⟩
  simpa [ar,Kq]using ab
theorem asg {x y:bQ} (hx:x.ok n ρ) (hy:y.ok n ρ):az S L (eO x y) n ρ λaa n' q=>q.ok n' aa/\q.l.den aa=x.l.den ρ*y.l.den ρ:=by
 unfold eO
 split
 ·refine(I3 hx).bind λaQ a1 gg gE fe ⟨pg,ex,_,_,vn⟩=>(I3 (hy.agree fe gE)).bind λbW ff oB fo eb ⟨Wy,amC,_,_,amD⟩=>(Xg (pg.agree eb fo) Wy).mono λjw uB q _ _ ⟨h1,h2⟩=>⟨h1,?_⟩
  rw[h2,amC,amD,I.b5 fe hy.1,I.b5 eb pg.1,ex,vn]
 ·exact Xg hx hy
theorem ak0 {nb:Nat} {m:Nat->Nat} (P:bV) {op:BinOp} {k bD:dO} {x y:bQ} (t:bp) (hx:x.ok n ρ) (hy:y.ok n ρ):
 az S L (T4 op k x bD y) n ρ λaa n' a=>a.ok n' nb aa/\∀w,(binOp op t (.int k (x.l.den ρ)) (.int bD (y.l.den ρ))).run P w= .ok (a.den aa m) w:=by
 have cw:∀s:Nat,(0:Int)<2^s:=λs=>by have:=G7 s;exact_mod_cast this
 cases op<;>simp only[T4]
 case shl=>
  cases hc:y.l.eN with
  |none=>
   refine eI λh0=>?_
   simp only[bw,decide_eq_true_eq]at h0
   obtain⟨⟨⟨h1,h2⟩,h3⟩,h4⟩:=h0
   have Ge:=hx.2;have D0:=hy.2
   have hp:=cw (y.l.den ρ).toNat
   have aw:(0:Int)<=x.l.den ρ*2^(y.l.den ρ).toNat:=aiW (by omega) (so hp)
   have aD:x.l.den ρ*2^(y.l.den ρ).toNat<=x.hi*2^y.hi.toNat:=Zt Ge.2 (by
    have:=Nd (n:=2) (by decide) (show(y.l.den ρ).toNat<=y.hi.toNat by omega)
    exact_mod_cast this) (so hp) (by omega)
   have hf:bE 37 ([x.l,y.l].map (·.den ρ))=x.l.den ρ*2^(y.l.den ρ).toNat:=rfl
   refine tS (v:=x.l.den ρ*2^(y.l.den ρ).toNat) ((iP (by rw[hf];exact aw) (by rw[hf];exact aD)).bind λaQ a1 l _ _ ⟨g1,g2⟩=>az.pure ⟨⟨g1,by simp only;rw[g2,hf];exact aw,by simp only;rw[g2,hf];exact aD⟩,by simp only;rw[g2,hf]⟩) λaa n' q _ _ ax he=>⟨ax,λw=>?_⟩
   simp only[A.den,he,binOp,Op.shift]
   have aot:(y.l.den ρ).toNat<=k.bits∨x.l.den ρ=0:=by
    rcases Nat.le_total (y.l.den ρ).toNat k.bits with h|h
    ·exact .inl h
    ·refine .inr ?_
     have h5:x.l.den ρ*2^(y.l.den ρ).toNat<pU k:=by omega
     have h6:=Qp k
     rw[AZ]at h6
     have h7:(2:Int)^k.bits<=2^(y.l.den ρ).toNat:=by
      have:=Nd (n:=2) (by decide) h
      exact_mod_cast this
     rcases od 0 (x.l.den ρ)with e6|e6
     ·have:(1:Int)*2^(y.l.den ρ).toNat<=x.l.den ρ*2^(y.l.den ρ).toNat:=Int.mul_le_mul_of_nonneg_right (by omega) (so hp)
      omega
     ·omega
   rw[if_neg (by omega)]
   rcases aot with h|h
   ·rw[show min (y.l.den ρ).toNat k.bits=(y.l.den ρ).toNat by omega]
    simp[YY aw (show x.l.den ρ*2^(y.l.den ρ).toNat<pU k by omega)]
   ·have hw:k.wrap 0=0:=by cases k<;>decide
    simp[h,hw]
  |some c=>
   refine eI λh0=>?_
   simp only[decide_eq_true_eq]at h0
   have hp:=cw (min c.toNat k.bits)
   refine tS (EB (x:=⟨x.l.smul (2^min c.toNat k.bits),x.lo*2^min c.toNat k.bits,x.hi*2^min c.toNat k.bits⟩) ⟨I.wg hx.1,?_,?_⟩) λaa n' q _ _ ax he=>⟨ax,λw=>?_⟩
   ·simp only[I.nO];rw[kR];exact EO hx.2.1 (so hp)
   ·simp only[I.nO];rw[kR x.hi];exact EO hx.2.2 (so hp)
   ·simp only[A.den,he,I.nO,I.km hc,binOp,Op.shift]
    rw[if_neg (by omega)]
    simp[kR]
 case shr=>
  cases hc:y.l.eN with
  |some c=>
   refine eI λh0=>?_
   simp only[decide_eq_true_eq]at h0
   have hp:=cw (min c.toNat k.bits)
   refine tS ((Dm hp hx).mono λ_ _ q _ _ h=>⟨h.1,h.2.1⟩) λaa n' q _ _ ax he=>⟨ax,λw=>?_⟩
   simp only[A.den,he,I.km hc,binOp,Op.shift]
   rw[if_neg (by omega)]
   simp[aBo _ (so hp)]
  |none=>
   refine eI λh0=>?_
   simp only[bw,decide_eq_true_eq]at h0
   refine tS (aw2 hx h0.1.1) λaa n' q _ _ ax he=>⟨ax,λw=>?_⟩
   have D0:=hy.2
   simp only[A.den,he,binOp,Op.shift]
   rw[if_neg (by omega),show min (y.l.den ρ).toNat k.bits=(y.l.den ρ).toNat by omega]
   simp[aBo _ (so (cw _))]
 case add=>
  refine eI λh0=>?_
  simp only[decide_eq_true_eq]at h0;subst h0
  have Ge:=hx.2;have D0:=hy.2
  refine tS (EB (x:=⟨x.l.add y.l,x.lo+y.lo,x.hi+y.hi⟩) ⟨I.xQ hx.1 hy.1,by simp only[I.den_add];omega,by simp only[I.den_add];omega⟩) λaa n' q _ _ ax he=>⟨ax,λw=>?_⟩
  simp[A.den,he,I.den_add,binOp,Op.intArith]
 case sub=>
  refine eI λh0=>?_
  simp only[decide_eq_true_eq]at h0;subst h0
  have Ge:=hx.2;have D0:=hy.2
  refine tS (EB (x:=⟨x.l.sub y.l,x.lo-y.hi,x.hi-y.lo⟩) ⟨I.wh hx.1 hy.1,by simp only[I.lP];omega,by simp only[I.lP];omega⟩) λaa n' q _ _ ax he=>⟨ax,λw=>?_⟩
  simp[A.den,he,I.lP,binOp,Op.intArith]
 case mul=>
  refine eI λh0=>?_
  simp only[decide_eq_true_eq]at h0;subst h0
  refine tS (v:=k.wrap (x.l.den ρ*y.l.den ρ)) ((asg hx hy).bind λaQ a1 p _ _ ⟨hp,ep⟩=>by rw[<-ep];exact EB hp) λaa n' q _ _ ax he=>⟨ax,λw=>?_⟩
  simp[A.den,he,binOp,Op.intArith]
 case quo=>
  cases hc:y.l.eN with
  |none=>
   refine eI λh0=>(I3 hx).bind λcu jt gg tL BC ⟨pg,ex,UO,yU,vn⟩=>jL λab=>?_
   have h0:=of_decide_eq_true h0
   subst h0
   simp only[c5,fD,ar]at ab
   have LR:=I.b5 BC hy.1
   have Ge:=pg.2
   have aw:=Zr (show 0<=gg.l.den cu by omega) (so ab)
   have cj:gg.l.den cu/y.l.den cu<=gg.l.den cu:=by
    have h5:=aBn (y.l.den cu) (show 0<=gg.l.den cu by omega)
    exact h5
   have hV:gg.l.den cu/y.l.den cu<=gg.hi:=by omega
   have hf:bE 76 ([gg.l,y.l].map (·.den cu))=gg.l.den cu/y.l.den cu:=rfl
   refine tS (v:=k.wrap (gg.l.den cu/y.l.den cu)) (((iP (by rw[hf];exact aw) (by rw[hf];exact hV)).bind λaQ a1 l _ _ ⟨g1,g2⟩=>az.pure (R:=λaa n' (q:bQ)=>q.ok n' aa/\q.l.den aa=gg.l.den cu/y.l.den cu) ⟨⟨g1,by simp only;rw[g2,hf];exact aw,by simp only;rw[g2,hf];exact hV⟩,by simp only;rw[g2,hf]⟩).bind λaQ a1 p _ _ ⟨hp,ep⟩=>by rw[<-ep];exact EB hp) λaa n' q _ _ ax he=>⟨ax,λw=>?_⟩
   simp only[A.den,he,binOp,Op.intDiv]
   have LQ:0<y.l.den ρ:=LR▸ab
   have BR:0<=x.l.den ρ:=by rw[<-vn,<-ex];omega
   rw[LR,ex,vn,if_neg (by simp),if_neg (by omega),aBp BR]
   simp
  |some c=>
   refine eI λh0=>(I3 hx).bind λcu jt gg tL BC ⟨pg,ex,UO,yU,vn⟩=>?_
   simp only[bw,decide_eq_true_eq]at h0
   obtain⟨h0,h1⟩:=h0
   subst h0
   have Ge:=pg.2
   refine tS (v:=k.wrap (gg.l.den cu/c)) ((Dm h1 pg).bind λaQ a1 p _ _ ⟨hp,ep,_⟩=>by rw[<-ep];exact EB hp) λaa n' q _ _ ax he=>⟨ax,λw=>?_⟩
   have BR:0<=x.l.den ρ:=by rw[<-vn,<-ex];omega
   simp only[A.den,he,I.km hc,binOp,Op.intDiv]
   rw[ex,vn,if_neg (by simp),if_neg (by omega),aBp BR]
   simp
 case rem=>
  cases hc:y.l.eN with
  |none=>
   refine eI λh0=>(I3 hx).bind λcu jt gg tL BC ⟨pg,ex,UO,yU,vn⟩=>jL λab=>?_
   have h0:=of_decide_eq_true h0
   subst h0
   simp only[c5,fD,ar]at ab
   have LR:=I.b5 BC hy.1
   have Ge:=pg.2;have D0:=(hy.agree BC tL).2
   have aw:=ud (gg.l.den cu) (show y.l.den cu≠0 by omega)
   have aD:=zw (gg.l.den cu) ab
   have cj:gg.l.den cu% y.l.den cu<=gg.l.den cu:=by
    have h5:=aiY (gg.l.den cu) (y.l.den cu)
    have h6:=aiW (so ab) (Zr (show 0<=gg.l.den cu by omega) (so ab))
    omega
   have hf:bE 38 ([gg.l,y.l].map (·.den cu))=gg.l.den cu% y.l.den cu:=rfl
   have hV:gg.l.den cu% y.l.den cu<=cond (decide (y.hi-1<=gg.hi)) (y.hi-1) gg.hi:=by
    cases decide (y.hi-1<=gg.hi)with
    |true=>simp only[cond_true];omega
    |false=>simp only[cond_false];omega
   refine tS (v:=gg.l.den cu% y.l.den cu) ((iP (by rw[hf];exact aw) (by rw[hf];exact hV)).bind λaQ a1 l _ _ ⟨g1,g2⟩=>az.pure ⟨⟨g1,by simp only;rw[g2,hf];exact aw,by simp only;rw[g2,hf];exact hV⟩,by simp only;rw[g2,hf]⟩) λaa n' q _ _ ax he=>⟨ax,λw=>?_⟩
   simp only[A.den,he,binOp,Op.intDiv]
   have LQ:0<y.l.den ρ:=LR▸ab
   have BR:0<=x.l.den ρ:=by rw[<-vn,<-ex];omega
   rw[LR,ex,vn,if_neg (by simp),if_neg (by omega),aBq BR]
   simp
  |some c=>
   refine eI λh0=>(I3 hx).bind λcu jt gg tL BC ⟨pg,ex,UO,yU,vn⟩=>?_
   simp only[bw,decide_eq_true_eq]at h0
   obtain⟨h0,h1⟩:=h0
   subst h0
   have Ge:=pg.2
   refine tS (agc h1 pg) λaa n' q _ _ ax he=>⟨ax,λw=>?_⟩
   have BR:0<=x.l.den ρ:=by rw[<-vn,<-ex];omega
   simp only[A.den,he,I.km hc,binOp,Op.intDiv]
   rw[ex,vn,if_neg (by simp),if_neg (by omega),aBq BR]
   simp
 case and=>
  refine eI λh0=>?_
  simp only[decide_eq_true_eq]at h0;subst h0
  refine tS (akz hx hy) λaa n' q _ _ ax he=>⟨ax,λw=>?_⟩
  simp[A.den,he,binOp,RQ,eL]
 case or=>
  refine eI λh0=>?_
  simp only[decide_eq_true_eq]at h0;subst h0
  refine tS (atH hx hy) λaa n' q _ _ ax he=>⟨ax,λw=>?_⟩
  simp[A.den,he,binOp,RQ,eL]
 case xor=>
  refine eI λh0=>?_
  simp only[decide_eq_true_eq]at h0;subst h0
  refine tS N7 λaa n' q _ _ ax he=>⟨ax,λw=>?_⟩
  simp[A.den,he,binOp,RQ,eL]
 case andNot=>
  refine eI λh0=>?_
  simp only[decide_eq_true_eq]at h0;subst h0
  refine tS N7 λaa n' q _ _ ax he=>⟨ax,λw=>?_⟩
  simp[A.den,he,binOp,RQ,eL]
 all_goals
  refine eI λh0=>?_
  simp only[decide_eq_true_eq]at h0;subst h0
  have aw:=bC.xd hx hy
  have aD:=bC.O2 hx hy
  have cj:=bC.ac0 hx hy
  have hV:=bC.O2 hy hx
  have gk:=bC.ac0 hy hx
  refine az.pure ⟨?_,λw=>?_⟩
  ·first|exact aw.2|exact bC.AU aw.2|exact aD.2|exact cj.2|exact hV.2|exact gk.2
  ·simp[A.den,bC.Ac,aw.1,aD.1,cj.1,hV.1,gk.1,binOp,Op.intCmp]
   try rfl
end
end Go.ch
namespace Go.ch
open M
abbrev aE:=List A×(bp×Bool)
abbrev fa:=List (Nat×List (dO×Int))
structure eG where
 b:aC
 r:aC
 ex:Nat->Prop
 ro:Nat->Prop
 ds:List Deferred
def cc:List A->Bool
 |[.rows _ _ _ _ _]=>false
 |_=>true
noncomputable def bM (ρ:Env):List A->Nat
 |[.rows _ _ _ cap k]=>if cap.den ρ<0 then 0 else k
 |_=>2
def cF:List aN->List Int->Prop
 |[],[]=>True
 |c::sh,z::r=>(c.ga.1<=z/\z<=c.ga.2)/\cF sh r
 |_,_=>False
def dr:List aN->List Int->List aV
 |c::sh,z::r=>c.val z::dr sh r
 |_,_=>[]
def ca (sh:List aN) (rows:List (List Int)):List aV:=rows.flatMap (dr sh)
def pK (cells:Array aV) (off:Nat) (sh:List aN) (rows:List (List Int)):Prop:=
 (∀row∈rows,cF sh row)/\∃pre post,cells.toList=pre++ca sh rows++post/\pre.length=off
theorem cF.len:∀{sh:List aN} {row:List Int},cF sh row->row.length=sh.length
 |[],[],_=>rfl
 |_::_,_::_,h=>by simp[cF.len h.2]
 |[],_::_,h=>h.elim
 |_::_,[],h=>h.elim
theorem cF.get:∀{sh:List aN} {row:List Int} {j:Nat} {c:aN},cF sh row->sh[j]?=some c->∃z,row[j]?=some z/\c.ga.1<=z/\z<=c.ga.2/\(dr sh row)[j]?=some (c.val z)
 |eR::sh,z::r,0,c,h,hc=>by
  simp only[wJ,bb]at hc
  subst hc
  exact⟨z,rfl,h.1.1,h.1.2,rfl⟩
 |eR::sh,z::r,j+1,c,h,hc=>cF.get (sh:=sh) (row:=r) (j:=j) h.2 (by simpa using hc)
 |[],_,_,_,_,hc=>by simp at hc
 |_::_,[],_,_,h,_=>h.elim
theorem GV:∀{sh:List aN} {row:List Int},cF sh row->(dr sh row).length=sh.length
 |[],[],_=>rfl
 |_::_,_::_,h=>by simp[dr,GV h.2]
 |[],_::_,h=>h.elim
 |_::_,[],h=>h.elim
theorem qY {sh:List aN}:∀{rows:List (List Int)},(∀row∈rows,cF sh row)->(ca sh rows).length=rows.length*sh.length
 |[],_=>by simp[ca]
 |r::rs,h=>by
  have ih:=qY (rows:=rs) λrow hr=>h row (eB _ hr)
  have h1:=GV (h r (by simp))
  simp only[ca,uY,fQ,jS]at ih⊢
  rw[ih,h1,zF];omega
theorem U0 {sh:List aN}:∀{rows:List (List Int)} {i j:Nat} {row:List Int} {v:aV},(∀row∈rows,cF sh row)->rows[i]?=some row->(dr sh row)[j]?=some v->(ca sh rows)[i*sh.length+j]?=some v
 |r::rs,0,j,row,v,h,hi,aK=>by
  simp only[wJ,bb]at hi
  subst hi
  have hlt:=(List.getElem?_eq_some_iff.1 aK).1
  simp only[ca,uY,Nat.zero_mul,yk]
  rw[zB hlt];exact aK
 |r::rs,i+1,j,row,v,h,hi,aK=>by
  have ih:=U0 (rows:=rs) (i:=i) (λrow hr=>h row (eB _ hr)) (by simpa using hi) aK
  have h1:=GV (h r (by simp))
  simp only[ca,uY]at ih⊢
  rw[JL (by rw[h1,zF];omega),h1,zF]
  rw[show i*sh.length+sh.length+j-sh.length=i*sh.length+j by omega];exact ih
 |[],i,_,_,_,_,hi,_=>by simp at hi
theorem yK (sh:List aN) (a b:List (List Int)):ca sh (a++b)=ca sh a++ca sh b:=by simp[ca]
def Bh (kind:Nat) (fz:Nat×Nat) (n:Nat):Prop:=(kind=2/\fz=(0,0))∨(kind≠2/\fz=(n,n+1))
theorem Bh.two {fz:Nat×Nat} {n:Nat} (h:Bh 2 fz n):fz=(0,0):=by
 rcases h with h|h
 ·exact h.2
 ·exact absurd rfl h.1
theorem Bh.L7 {n:Nat}:Bh 2 (0,0) n:= .inl ⟨rfl,rfl⟩
def u0 (w0:eG) (ρ:Env) (g:Nat) (sh:List aN) (off code cap:I) (kind:Nat) (t:bp) (w:aC):Prop:=
 kind≠0->(cap.den ρ<0->ak (code.den ρ)=[])/\(0<=cap.den ρ->(w0.ex g∨w0.ro g∨w0.r.heap.size<=g)/\∃cells t' fz,w.heap[g]?=some (.cells cells t' fz)/\(0<=off.den ρ/\pK cells (off.den ρ).toNat sh (ak (code.den ρ)))/\
  (2<=kind->t'=t/\off.den ρ=0/\Bh kind fz cells.size/\cells.size=(cap.den ρ).toNat*sh.length/\w0.b.heap.size<=g/\(w0.ex g∨w0.r.heap.size<=g)))
structure Mem (w0:eG) (ρ:Env) (m:Nat->Nat) (bl:List aE) (w:aC):Prop where
 ext:w0.b.Extends w
 jN:w.os=w0.r.os
 m6:w.tape=w0.r.tape
 kV:w.output=w0.r.output
 gF:w0.r.heap.size<=w.heap.size
 jB:∀i:Nat,i<w0.r.heap.size->¬w0.ex i->w.heap[i]?=w0.r.heap[i]?
 fT:∀(i:Nat) (cs:List A) (t:bp×Bool),bl[i]?=some (cs,t)->cc cs=true->w0.b.heap.size<=m i/\(w0.ex (m i)∨w0.r.heap.size<=m i)/\∃r:List aV,(t.2=false->r=[])/\w.heap[m i]?=some (.cells (cs.map (A.den ρ m)++r).toArray t.1 (0,0))
 rws:∀(i:Nat) (sh:List aN) (off code cap:I) (kind:Nat) (t:bp×Bool),bl[i]?=some ([.rows sh off code cap kind],t)->u0 w0 ρ (m i) sh off code cap kind t.1 w
 inj:∀(i j:Nat) (p q:aE),bl[i]?=some p->bl[j]?=some q->m i=m j->i=j∨(bM ρ p.1<=1/\bM ρ q.1<=1)∨bM ρ p.1=0∨bM ρ q.1=0
theorem Mem.lt {w0:eG} {ρ:Env} {m:Nat->Nat} {bl:List aE} {w:aC} (h:Mem w0 ρ m bl w) {i:Nat} {p:aE} (hi:bl[i]?=some p) (ab:bM ρ p.1≠0):m i<w.heap.size:=by
 obtain⟨cs,t⟩:=p
 by_cases ax:cc cs=true
 ·obtain⟨_,_,r,_,h2⟩:=h.fT i cs t hi ax
  exact(Array.getElem?_eq_some_iff.1 h2).1
 ·unfold cc at ax
  split at ax
  ·rename_i sh off code cap k
   simp only[bM]at ab
   split at ab
   ·exact absurd rfl ab
   ·rename_i df
    obtain⟨_,cells,t',fz,h2,_⟩:=(h.rws i _ _ _ _ _ t hi ab).2 (by omega)
    exact(Array.getElem?_eq_some_iff.1 h2).1
  ·exact absurd rfl ax
theorem oq {ρ:Env} {cs:List A} (h:cc cs=true):bM ρ cs=2:=by
 unfold cc at h
 unfold bM
 split<;>simp_all
def cY (n nb:Nat) (ρ:Env) (bl:List aE):Prop:=∀p∈bl,∀a∈p.1,A.ok n nb ρ a
def fA (gl:fa) (w0:eG):Prop:=∀g cs,(g,cs)∈gl->g<w0.b.heap.size/\∃t DJ,w0.b.heap[g]?=some (.cells (cs.map λp=>Value.int p.1 p.2).toArray t DJ)
theorem cY.ext {n n' nb ov:Nat} {ρ aa:Env} {bl:List aE} (h:cY n nb ρ bl) (ha:agree n ρ aa) (hn:n<=n') (hb:nb<=ov):cY n' ov aa bl:=
 λp hp a bd=>(h p hp a bd).ext ha hn hb
theorem u0.sP {w0:eG} {n nb:Nat} {ρ aa:Env} {g:Nat} {sh:List aN} {off code cap:I} {kind:Nat} {t:bp} {w:aC} (h:u0 w0 ρ g sh off code cap kind t w) (b0:(A.rows sh off code cap kind).ok n nb ρ) (ha:agree n ρ aa):u0 w0 aa g sh off code cap kind t w:=by
 unfold u0 at*
 rw[I.b5 ha b0.1.1,I.b5 ha b0.1.2.1,I.b5 ha b0.1.2.2]
 exact h
theorem xw {n nb:Nat} {ρ aa:Env} {cs:List A} (b0:∀a∈cs,A.ok n nb ρ a) (ha:agree n ρ aa):bM aa cs=bM ρ cs:=by
 unfold bM
 split
 ·rename_i sh off code cap k
  have h1:A.ok n nb ρ (.rows sh off code cap k):=b0 _ (by simp)
  rw[I.b5 ha h1.1.2.2]
 ·rfl
theorem agree.sym {n:Nat} {ρ aa:Env} (h:agree n ρ aa):agree n aa ρ:=λi hi=>(h i hi).symm
theorem Mem.sP {w0:eG} {n:Nat} {ρ aa:Env} {m:Nat->Nat} {bl:List aE} {w:aC} (h:Mem w0 ρ m bl w) (hb:cY n bl.length ρ bl) (ha:agree n ρ aa):Mem w0 aa m bl w:=
 ⟨h.ext,h.jN,h.m6,h.kV,h.gF,h.jB,λi cs t hi ax=>by
  obtain⟨h1,h2,r,hr,h3⟩:=h.fT i cs t hi ax
  exact⟨h1,h2,r,hr,by rw[xz (hb _ (e8 hi)) ha (λ_ _=>rfl)];exact h3⟩,
  λi sh off code cap kind t hi=>(h.rws i sh off code cap kind t hi).sP (hb _ (e8 hi) _ (by simp)) ha,λi j p q hi aK he=>by
   rw[xw (hb _ (e8 hi)) ha,xw (hb _ (e8 aK)) ha]
   exact h.inj i j p q hi aK he⟩
theorem u0.grow {w0:eG} {ρ:Env} {g:Nat} {sh:List aN} {off code cap:I} {kind:Nat} {t:bp} {w w':aC} (h:u0 w0 ρ g sh off code cap kind t w) (he:kind≠0->0<=cap.den ρ->w'.heap[g]?=w.heap[g]?):u0 w0 ρ g sh off code cap kind t w':=by
 intro ab
 obtain⟨h1,h2⟩:=h ab
 refine⟨h1,λhc=>?_⟩
 rw[he ab hc]
 exact h2 hc
theorem vB {ρ:Env} {sh:List aN} {off code cap:I} {k:Nat} (ab:k≠0) (hc:0<=cap.den ρ):bM ρ [.rows sh off code cap k]=k:=by
 simp only[bM]
 rw[if_neg (by omega)]
theorem Mem.grow {w0:eG} {ρ:Env} {m:Nat->Nat} {bl:List aE} {w w':aC} (h:Mem w0 ρ m bl w) (he:w.Extends w'):Mem w0 ρ m bl w':=
 ⟨h.ext.trans he,he.os.trans h.jN,he.tape.trans h.m6,he.output.trans h.kV,oE h.gF he.size,λi hi hx=>(he.block i (G8 hi h.gF)).trans (h.jB i hi hx),λi cs t hi ax=>by
  obtain⟨h1,h2,r,hr,h3⟩:=h.fT i cs t hi ax
  exact⟨h1,h2,r,hr,by rw[he.block _ (h.lt hi (by rw[oq ax];decide))];exact h3⟩,λi sh off code cap kind t hi=>(h.rws i sh off code cap kind t hi).grow λab hc=>he.block _ (h.lt hi (by simp only[vB ab hc];exact ab)),h.inj⟩
theorem Mem.ne {w0:eG} {ρ:Env} {m:Nat->Nat} {bl:List aE} {w:aC} (h:Mem w0 ρ m bl w) {i j:Nat} {p q:aE} (hi:bl[i]?=some p) (aK:bl[j]?=some q) (hp:2<=bM ρ p.1) (ah:bM ρ q.1≠0) (c7:i≠j):m i≠m j:=λe=>by
 rcases h.inj i j p q hi aK e with h|h|h|h
 ·exact c7 h
 ·omega
 ·omega
 ·exact ah h
def eY (n nb:Nat) (ρ:Env) (m:Nat->Nat) (tm:List V) (tmps:Array aV):Prop:=
 tm.length=tmps.size/\∀(i:Nat) (v:V),tm[i]?=some v->v.ok n nb ρ/\∃x,tmps[i]?=some x/\v.rel ρ m x
theorem eY.ext {n n' nb ov:Nat} {ρ aa:Env} {m m':Nat->Nat} {tm:List V} {tmps:Array aV} (h:eY n nb ρ m tm tmps) (ha:agree n ρ aa) (hn:n<=n') (hb:nb<=ov) (hm:∀b,b<nb->m' b=m b):eY n' ov aa m' tm tmps:=
 ⟨h.1,λi v hv=>by obtain⟨h1,x,h2,h3⟩:=h.2 i v hv;exact⟨h1.ext ha hn hb,x,h2,h3.ext h1 ha hm⟩⟩
def wi:List V->Nat->V->List V
 |[],_,_=>[]
 |_::r,0,v=>v::r
 |x::r,i+1,v=>x::wi r i v
theorem Yy:∀(l:List V) (i:Nat) (v:V),wi l i v=l.set i v
 |[],_,_=>rfl
 |_::_,0,_=>rfl
 |_::r,i+1,v=>by simp[wi,Yy r i v]
def gx (tm:List V) (d:Option Tmp) (v:V):List V:=match d with|some d=>wi tm d v|none=>tm
theorem eY.put {n nb:Nat} {ρ:Env} {m:Nat->Nat} {tm:List V} {a:Act} {v:V} {x:aV} (h:eY n nb ρ m tm a.tmps) (d:Option Tmp) (hv:v.ok n nb ρ) (hx:v.rel ρ m x):eY n nb ρ m (gx tm d v) (a.put d x).tmps:=by
 cases d with
 |none=>exact h
 |some d=>
  simp only[gx,JQ,Yy]
  refine⟨by simp[h.1],λi u hu=>?_⟩
  rw[List.getElem?_set]at hu
  by_cases hd:d=i
  ·subst hd
   simp only[if_true]at hu
   split at hu
   ·rename_i hlt
    simp only[bb]at hu
    subst hu
    exact⟨hv,x,by simp[<-h.1,hlt],hx⟩
   ·cases hu
  ·rw[if_neg hd]at hu
   obtain⟨h1,y,h2,h3⟩:=h.2 i u hu
   exact⟨h1,y,by rw[aBr (by omega)];exact h2,h3⟩
def HO:aV->Option A
 | .int k n=>some (.int k (.const n))
 | .bool b=>some (.bool (.lit b))
 | .string s=>cond (cK s.size 1000000) (some (.str (.const (j7 s.data.toList)))) none
 |v=>cond v.oneCell' (some (.con v)) none
theorem acQ {v:aV} {a:A} (h:HO v=some a) (n nb:Nat) (ρ:Env) (m:Nat->Nat):a.ok n nb ρ/\a.den ρ m=v:=by
 unfold HO at h
 split at h
 ·simp only[bb]at h;subst h;exact⟨bQ.qW _ _ _,by simp[A.den,bQ.const,I.br]⟩
 ·simp only[bb]at h;subst h;exact⟨trivial,rfl⟩
 ·rename_i s
  cases hc:cK s.size 1000000 with
  |false=>simp[hc]at h
  |true=>
   simp only[hc,cond_true,bb]at h
   subst h
   have hl:s.data.toList.length<=nX:=by
    have:=fP hc
    have h2:s.data.toList.length=s.size:=by simp
    unfold nX;omega
   refine⟨⟨I.dd _ _,by rw[I.br];exact yE _,by rw[I.br];exact wO hl⟩,?_⟩
   simp[A.den,I.br,AT,dY]
 ·cases hc:v.oneCell' with
  |false=>simp[hc]at h
  |true=>simp only[hc,cond_true,bb]at h;subst h;exact⟨hc,rfl⟩
def Bw:List aV->Option (List A)
 |[]=>some []
 |v::r=>match HO v,Bw r with|some a,some l=>some (a::l)|_,_=>none
theorem Bx:∀{vs:List aV} {l:List A},Bw vs=some l->∀(n nb:Nat) (ρ:Env) (m:Nat->Nat),(∀a∈l,A.ok n nb ρ a)/\l.map (A.den ρ m)=vs
 |[],l,h,n,nb,ρ,m=>by simp[Bw]at h;subst h;simp
 |v::r,l,h,n,nb,ρ,m=>by
  simp only[Bw]at h
  cases h1:HO v with
  |none=>simp[h1]at h
  |some a=>
   cases h2:Bw r with
   |none=>simp[h1,h2]at h
   |some l'=>
    simp only[h1,h2,bb]at h
    subst h
    have aw:=acQ h1 n nb ρ m
    have aD:=Bx h2 n nb ρ m
    exact⟨λa ha=>by rcases List.mem_cons.1 ha with rfl|ha;exact aw.1;exact aD.1 a ha,by simp[aw.2,aD.2]⟩
def OZ:aV->V
 | .agg cs=>match Bw cs.toList with|some l=> .w (.agg l)|none=> .any
 | .tuple _=> .any
 |v=>match HO v with|some a=> .w (.one a)|none=> .any
theorem alO (v:aV) (n nb:Nat) (ρ:Env) (m:Nat->Nat):(OZ v).ok n nb ρ/\(OZ v).rel ρ m v:=by
 unfold OZ
 split
 ·rename_i cs
  cases h:Bw cs.toList with
  |none=>exact⟨trivial,trivial⟩
  |some l=>have e:=Bx h n nb ρ m;exact⟨e.1,by simp[V.rel,W.den,e.2]⟩
 ·exact⟨trivial,trivial⟩
 ·cases h:HO v with
  |none=>exact⟨trivial,trivial⟩
  |some a=>have e:=acQ h n nb ρ m;exact⟨e.1,by simp[V.rel,W.den,e.2]⟩
def cl (tm:List V):rC->V
 | .tmp t=>(tm[t]?).getD .any
 | .const v=>OZ v
 | .global g=> .w (.one (.gptr g 0))
 | .func f=> .w (.one (.con (.func (.func f) #[] #[])))
theorem cM {n nb:Nat} {ρ:Env} {m:Nat->Nat} {tm:List V} {a:Act} (h:eY n nb ρ m tm a.tmps) (x:rC):(cl tm x).ok n nb ρ/\(cl tm x).rel ρ m (a.eval x):=by
 cases x with
 |tmp t=>
  simp only[cl,Act.eval]
  cases aA:tm[t]? with
  |none=>exact⟨trivial,trivial⟩
  |some v=>
   obtain⟨h1,y,h2,h3⟩:=h.2 t v aA
   exact⟨h1,by simp only[EL];rw[show a.tmps.getD t undef=y by simp[h2]];exact h3⟩
 |const v=>exact alO v n nb ρ m
 |global g=>exact⟨trivial,rfl⟩
 |func f=>exact⟨rfl,rfl⟩
def kM (P:bV) (t:bp):Option Bool:=
 match P.underlying t with|some (.struct _)=>some true|some (.array _ _)=>some true|some _=>some false|none=>none
def fO (P:bV) (t:bp):Option Nat:=match P.info? t with|some i=>some i.size|none=>none
theorem tW {P:bV} {t:bp} {b:Bool} (h:kM P t=some b) (w:aC):(isAgg t).run P w= .ok b w:=by
 unfold kM at h
 cases hu:P.underlying t with
 |none=>simp[hu]at h
 |some d=>cases d<;>simp[hu]at h<;>subst h<;>simp[isAgg,fx hu]
theorem ki {P:bV} {t:bp} {k:Nat} (h:fO P t=some k) (w:aC):(sizeOf t).run P w= .ok k w:=by
 unfold fO at h
 cases hi:P.info? t with
 |none=>simp[hi]at h
 |some i=>simp[hi]at h;subst h;simp[sizeOf,typeInfo,hi]
def HK (bl:List aE) (gl:fa):A->Option (List A)
 | .ptr b off=>match bl[b]? with|some (cs,_)=>cond (cc cs) (some (cs.drop off)) none|none=>none
 | .gptr g off=>match gl.find? (λp=>aM p.1 g)with|some (_,cs)=>some ((cs.drop off).map λp=> .int p.1 (.const p.2))|none=>none
 |_=>none
theorem kF (g o j:Nat):(⟨g,o,none⟩:Addr).add j=⟨g,o+j,none⟩:=by unfold Addr.add;split<;>simp_all
theorem Ul {w0:eG} {w:aC} {n:Nat} {ρ:Env} {m:Nat->Nat} {bl:List aE} {gl:fa} {p:A} {cs:List A} (hm:Mem w0 ρ m bl w) (hb:cY n bl.length ρ bl) (hg:fA gl w0) (h:HK bl gl p=some cs):
 ∃g o,p.den ρ m= .pointer (some ⟨g,o,none⟩)/\(∀a∈cs,A.ok n bl.length ρ a)/\∀j a,cs[j]?=some a->w.cell? ⟨g,o+j,none⟩=some (a.den ρ m):=by
 unfold HK at h
 split at h
 ·rename_i b off
  cases aX:bl[b]? with
  |none=>simp[aX]at h
  |some q=>
   obtain⟨C,t⟩:=q
   simp only[aX]at h
   cases pe:cc C with
   |false=>simp[pe]at h
   |true=>
   simp only[pe,cond_true,bb]at h
   subst h
   obtain⟨h1,_,r,_,h2⟩:=hm.fT b C t aX pe
   refine⟨m b,off,rfl,λa ha=>hb _ (e8 aX) a (rD ha),λj a aK=>?_⟩
   rw[CL]at aK
   have hlt:off+j<C.length:=(List.getElem?_eq_some_iff.1 aK).1
   simp only[o3,h2,yl,ym,if_false,Np]
   rw[zB (by simpa using hlt),sr,aK];rfl
 ·rename_i g off
  cases hf:gl.find? (λp=>aM p.1 g)with
  |none=>simp[hf]at h
  |some q=>
   obtain⟨oh,C⟩:=q
   simp only[hf,bb]at h
   subst h
   have Ar:oh=g:=by have:=RG hf;exact bR this
   subst Ar
   obtain⟨h1,t,DJ,h2⟩:=hg oh C (Ha hf)
   refine⟨oh,off,rfl,λa ha=>?_,λj a aK=>?_⟩
   ·obtain⟨p,_,rfl⟩:=List.mem_map.1 ha;exact bQ.qW _ _ _
   ·rw[sr,CL]at aK
    cases ah:C[off+j]? with
    |none=>simp[ah]at aK
    |some q=>
     simp only[ah,zA,bb]at aK
     subst aK
     have:=hm.ext.cell ⟨oh,off+j,none⟩ h1
     rw[this]
     simp[o3,h2,ah,A.den,bQ.const,I.br]
 ·cases h
def W5 (P:bV) (bl:List aE) (gl:fa) (ty:bp) (p:A):M V:=
 match HK bl gl p,kM P ty,fO P ty with
 |some cs,some true,some k=>cond (cK k cs.length) (pure (.w (.agg (cs.take k)))) fail
 |some (a::_),some false,_=>pure (.w (.one a))
 |_,_,_=>fail
section
variable {S:Nat->List Int->List Int->Prop} {L:V->Env->Prop} {n:Nat} {ρ:Env} {m:Nat->Nat} {bl:List aE} {gl:fa} {w0:eG} {P:bV}
def pJ (w0:eG) (m:Nat->Nat) (bl:List aE) (n:Nat) (ρ:Env) (run:aC->Result aV) (aa:Env) (n':Nat) (v:V):Prop:=
 v.ok n' bl.length aa/\∃val,v.rel aa m val/\∀w,Mem w0 ρ m bl w->run w= .ok val w
theorem arW (hb:cY n bl.length ρ bl) (hg:fA gl w0) (hex:∃w,Mem w0 ρ m bl w) (ty:bp) (p:A):az S L (W5 P bl gl ty p) n ρ (pJ w0 m bl n ρ λw=>(ss ty (p.den ρ m)).run P w):=by
 obtain⟨A2,hx⟩:=hex
 unfold W5
 cases hc:HK bl gl p with
 |none=>exact az.fail
 |some cs=>
  obtain⟨g,o,hp,b0,_⟩:=Ul hx hb hg hc
  have hcell:∀w,Mem w0 ρ m bl w->∀j a,cs[j]?=some a->w.cell? ⟨g,o+j,none⟩=some (a.den ρ m):=λw hw=>by
   obtain⟨oh,cD,DY,_,bd⟩:=Ul hw hb hg hc
   rw[hp]at DY
   simp only[aIF,bb,Addr.mk.injEq,and_true]at DY
   obtain⟨rfl,rfl⟩:=DY
   exact bd
  cases ha:kM P ty with
  |none=>exact az.fail
  |some b=>
   cases b with
   |true=>
    cases hs:fO P ty with
    |none=>exact az.fail
    |some k=>
     refine eI λab=>az.pure ⟨λa h=>b0 a (oc h),_,rfl,λw hw=>?_⟩
     have ab:k<=cs.length:=fP ab
     have hl:=RJ (P:=P) w ⟨g,o,none⟩ ((cs.take k).map (A.den ρ m)) λj v aK=>by
      rw[kF]
      rw[sr]at aK
      cases ah:(cs.take k)[j]? with
      |none=>simp[ah]at aK
      |some a=>
       simp only[ah,zA,bb]at aK
       subst aK
       refine hcell w hw j a ?_
       rw[tw]at ah
       split at ah
       ·exact ah
       ·cases ah
     simp only[qM,su,EM ab]at hl
     simp[ss,qb,hp,loadVar,tW ha,ki hs,hl,W.den]
   |false=>
    cases cs with
    |nil=>exact az.fail
    |cons a r=>
     refine az.pure ⟨b0 a (by simp),_,rfl,λw hw=>?_⟩
     have:=hcell w hw 0 a rfl
     simp only[pE]at this
     simp[ss,qb,hp,loadVar,tW ha,this,W.den]
def sI (k:dO):List A->Option (List bQ)
 |[]=>some []
 | .int bD x::r=>cond (decide (k=bD)) (match sI k r with|some l=>some (x::l)|none=>none) none
 |_::_=>none
theorem afD {k:dO}:∀{cs:List A} {l:List bQ},sI k cs=some l->cs=l.map (.int k)
 |[],l,h=>by simp[sI]at h;subst h;rfl
 | .int bD x::r,l,h=>by
  simp only[sI]at h
  by_cases ab:k=bD
  ·subst ab
   simp only[decide_true,cond_true]at h
   cases h1:sI k r with
   |none=>simp[h1]at h
   |some l'=>simp only[h1,bb]at h;subst h;simp[afD h1]
  ·simp[ab]at h
 | .bool _::_,_,h=>by simp[sI]at h
 | .ptr .. ::_,_,h=>by simp[sI]at h
 | .rk .. ::_,_,h=>by simp[sI]at h
 | .gptr .. ::_,_,h=>by simp[sI]at h
 | .slc .. ::_,_,h=>by simp[sI]at h
 | .con _::_,_,h=>by simp[sI]at h
 | .str _::_,_,h=>by simp[sI]at h
 | .rows .. ::_,_,h=>by simp[sI]at h
 | .sl .. ::_,_,h=>by simp[sI]at h
 | .ep .. ::_,_,h=>by simp[sI]at h
def IQ:List bQ->Int
 |[]=>0
 |[x]=>x.lo
 |x::r=>min x.lo (IQ r)
def IN:List bQ->Int
 |[]=>0
 |[x]=>x.hi
 |x::r=>max x.hi (IN r)
theorem af8 {n:Nat} {ρ:Env}:∀{l:List bQ},(∀x∈l,x.ok n ρ)->∀x∈l,IQ l<=x.l.den ρ/\x.l.den ρ<=IN l
 |[],_,x,hx=>by simp at hx
 |[y],h,x,hx=>by
  simp at hx;subst hx
  have:=(h x (by simp)).2
  exact this
 |y::z::r,h,x,hx=>by
  have ih:=af8 (l:=z::r) (λx hx=>h x (eB _ hx))
  simp only[IQ,IN]
  rcases List.mem_cons.1 hx with rfl|hx
  ·have:=(h x (by simp)).2;omega
  ·have:=ih x hx;omega
def kindOf (P:bV) (ty:bp):Option dO:=match P.underlying ty with|some (.int k)=>some k|_=>none
def AG:List Int->Int
 |[]=>0
 |[x]=>x
 |x::r=>cond (decide (x<=AG r)) x (AG r)
def AF:List Int->Int
 |[]=>0
 |[x]=>x
 |x::r=>cond (decide (AF r<=x)) x (AF r)
theorem af9:∀(l:List Int),∀z∈l,AG l<=z/\z<=AF l
 |[],_,h=>by cases h
 |[x],z,h=>by simp at h;subst h;simp[AG,AF]
 |x::y::r,z,h=>by
  unfold AG AF
  have ih:=af9 (y::r)
  rcases List.mem_cons.1 h with rfl|h
  ·refine⟨?_,?_⟩
   ·cases hc:decide (z<=AG (y::r))with
    |true=>simp
    |false=>simp at hc⊢;omega
   ·cases hc:decide (AF (y::r)<=z)with
    |true=>simp
    |false=>simp at hc⊢;omega
  ·have:=ih z h
   refine⟨?_,?_⟩
   ·cases hc:decide (x<=AG (y::r))with
    |true=>simp at hc⊢;omega
    |false=>simp;exact this.1
   ·cases hc:decide (AF (y::r)<=x)with
    |true=>simp at hc⊢;omega
    |false=>simp;exact this.2
def Yx (P:bV) (bl:List aE) (ty:bp) (b off:Nat) (bj:bQ):M V:=λn c=>
 match bl[b]?,kindOf P ty with
 |some (cs,_),some k=>match sI k ((cs.drop off).take (bj.hi.toNat+1))with
  |some l=>cond (aM l.length (bj.hi.toNat+1)&&decide (0<=bj.lo)&&cc cs) (.AW n (l.map (·.l)) bj.l (IQ l) (IN l) (c (.w (.one (.int k ⟨.var n,IQ l,IN l⟩))) (n+1))) .stuck
  |none=> .stuck
 |_,_=> .stuck
theorem awY (hb:cY n bl.length ρ bl) (ty:bp) (b off:Nat) {bj:bQ} (Lt:bj.ok n ρ):az S L (Yx P bl ty b off bj) n ρ (pJ w0 m bl n ρ λw=>(ss ty ((A.rk b off bj).den ρ m)).run P w):=by
 intro ajv c ab
 unfold Yx at ab
 cases aX:bl[b]? with
 |none=>simp[aX,T.holds]at ab
 |some q=>
  obtain⟨cs,t⟩:=q
  cases jb:kindOf P ty with
  |none=>simp[aX,jb,T.holds]at ab
  |some k=>
   cases hi:sI k ((cs.drop off).take (bj.hi.toNat+1))with
   |none=>simp[aX,jb,hi,T.holds]at ab
   |some l=>
    cases hc:(aM l.length (bj.hi.toNat+1)&&decide (0<=bj.lo)&&cc cs)with
    |false=>simp[aX,jb,hi,hc,T.holds]at ab
    |true=>
     simp only[aX,jb,hi,hc,cond_true,T.holds]at ab
     simp only[bw,decide_eq_true_eq]at hc
     obtain⟨hc,ah⟩:=hc
     have hlen:=bR hc.1
     have e:=afD hi
     have Br:=Lt.2
     have hlt:(bj.l.den ρ).toNat<l.length:=by omega
     have aps:∀x∈l,x.ok n ρ:=λx hx=>by
      have:A.int k x∈(cs.drop off).take (bj.hi.toNat+1):=by rw[e];exact aBs hx
      exact hb _ (e8 aX) _ (rD (oc this))
     have hz:((l.map (·.l)).map (·.den ρ)).getD (bj.l.den ρ).toNat 0=(l[(bj.l.den ρ).toNat]).l.den ρ:=by
      simp[U,hlt]
     have qq:=af8 aps _ (JR hlt)
     refine⟨_,n+1,_,tx _,agree.dm _ _ _,(show pJ w0 m bl n ρ _ (dm ρ n (((l.map (·.l)).map (·.den ρ)).getD (bj.l.den ρ).toNat 0)) (n+1) (.w (.one (.int k ⟨.var n,IQ l,IN l⟩))) from⟨⟨I.fW (zE n),?_,?_⟩,_,rfl,?_⟩),ab _ (by rw[hz];exact qq.1) (by rw[hz];exact qq.2) rfl⟩
     ·simp only[I.cS,nG,hz];exact qq.1
     ·simp only[I.cS,nG,hz];exact qq.2
     ·intro w hw
      obtain⟨_,_,r,_,h2⟩:=hw.fT b cs t aX ah
      have hu:kM P ty=some false:=by
       unfold kindOf at jb
       unfold kM
       cases ah:P.underlying ty with
       |none=>simp[ah]at jb
       |some d=>cases d<;>simp[ah]at jb<;>rfl
      have db:cs[off+(bj.l.den ρ).toNat]?=some (.int k (l[(bj.l.den ρ).toNat])):=by
       have h3:((cs.drop off).take (bj.hi.toNat+1))[(bj.l.den ρ).toNat]?=some (.int k (l[(bj.l.den ρ).toNat])):=by rw[e];simp[hlt]
       rw[tw,if_pos (by omega),CL]at h3
       exact h3
      have hcell:w.cell? ⟨m b,off+(bj.l.den ρ).toNat,none⟩=some (.int k ((l[(bj.l.den ρ).toNat]).l.den ρ)):=by
       have apc:off+(bj.l.den ρ).toNat<cs.length:=(List.getElem?_eq_some_iff.1 db).1
       simp only[o3,h2,yl,ym,if_false,Np]
       rw[zB (by simpa using apc),sr,db];rfl
      simp only[W.den,A.den,I.cS,nG,hz];simp[ss,qb,loadVar,tW hu,hcell]
def Yw (P:bV) (gl:fa) (ty:bp) (g off:Nat) (bj:bQ):M V:=λn c=>
 match gl.find? (λp=>aM p.1 g),kindOf P ty with
 |some (_,cs),some k=>cond (((cs.drop off).take (bj.hi.toNat+1)).all (λp=>decide (p.1=k))&&aM ((cs.drop off).take (bj.hi.toNat+1)).length (bj.hi.toNat+1)&&decide (0<=bj.lo))
  (.AW n (((cs.drop off).take (bj.hi.toNat+1)).map λp=> .const p.2) bj.l (AG (((cs.drop off).take (bj.hi.toNat+1)).map (·.2))) (AF (((cs.drop off).take (bj.hi.toNat+1)).map (·.2)))
    (c (.w (.one (.int k ⟨.var n,AG (((cs.drop off).take (bj.hi.toNat+1)).map (·.2)),AF (((cs.drop off).take (bj.hi.toNat+1)).map (·.2))⟩))) (n+1))) .stuck
 |_,_=> .stuck
theorem awX (hg:fA gl w0) (ty:bp) (g off:Nat) {bj:bQ} (Lt:bj.ok n ρ):az S L (Yw P gl ty g off bj) n ρ (pJ w0 m bl n ρ λw=>(ss ty ((A.Ib g off bj).den ρ m)).run P w):=by
 intro ajv c ab
 unfold Yw at ab
 cases hf:gl.find? (λp=>aM p.1 g)with
 |none=>simp[hf,T.holds]at ab
 |some q=>
  obtain⟨oh,cs⟩:=q
  have Ar:oh=g:=by have:=RG hf;exact bR this
  subst Ar
  cases jb:kindOf P ty with
  |none=>simp[hf,jb,T.holds]at ab
  |some k=>
   simp only[hf,jb]at ab
   generalize jq:(cs.drop off).take (bj.hi.toNat+1)=C at ab
   cases hc:(C.all (λp=>decide (p.1=k))&&aM C.length (bj.hi.toNat+1)&&decide (0<=bj.lo))with
   |false=>simp[hc,T.holds]at ab
   |true=>
    simp only[hc,cond_true,T.holds]at ab
    simp only[bw,decide_eq_true_eq]at hc
    obtain⟨⟨c1,bK⟩,cy⟩:=hc
    have bK:=bR bK
    have Br:=Lt.2
    have hlt:(bj.l.den ρ).toNat<C.length:=by omega
    have hz:((C.map λp=>I.const p.2).map (·.den ρ)).getD (bj.l.den ρ).toNat 0=(C[(bj.l.den ρ).toNat]).2:=by
     simp[U,hlt,I.br]
    have qq:=af9 (C.map (·.2)) _ (aBs (JR hlt))
    refine⟨_,n+1,_,tx _,agree.dm _ _ _,(show pJ w0 m bl n ρ _ (dm ρ n (((C.map λp=>I.const p.2).map (·.den ρ)).getD (bj.l.den ρ).toNat 0)) (n+1) (.w (.one (.int k ⟨.var n,AG (C.map (·.2)),AF (C.map (·.2))⟩))) from⟨⟨I.fW (zE n),?_,?_⟩,_,rfl,?_⟩),ab _ (by rw[hz];exact qq.1) (by rw[hz];exact qq.2) rfl⟩
    ·simp only[I.cS,nG,hz];exact qq.1
    ·simp only[I.cS,nG,hz];exact qq.2
    ·intro w hw
     have hu:kM P ty=some false:=by
      unfold kindOf at jb
      unfold kM
      cases ah:P.underlying ty with
      |none=>simp[ah]at jb
      |some d=>cases d<;>simp[ah]at jb<;>rfl
     have nR:(C[(bj.l.den ρ).toNat]).1=k:=by simpa using List.all_eq_true.1 c1 _ (JR hlt)
     have db:cs[off+(bj.l.den ρ).toNat]?=some (C[(bj.l.den ρ).toNat]):=by
      have h3:C[(bj.l.den ρ).toNat]?=some (C[(bj.l.den ρ).toNat]):=qJ hlt
      have h4:C[(bj.l.den ρ).toNat]?=cs[off+(bj.l.den ρ).toNat]?:=by rw[<-jq,tw,if_pos (by omega),CL]
      rw[<-h4,h3]
     obtain⟨PG,t,DJ,aoy⟩:=hg oh cs (Ha hf)
     have hcell:w.cell? ⟨oh,off+(bj.l.den ρ).toNat,none⟩=some (.int k (C[(bj.l.den ρ).toNat]).2):=by
      rw[hw.ext.cell _ PG]
      simp only[o3,aoy,yl,ym,if_false,Np]
      rw[sr,db,zA,nR]
     simp only[W.den,A.den,I.cS,nG,hz];simp[ss,qb,loadVar,tW hu,hcell]
end
end Go.ch
namespace Go.ch
open M
abbrev fy:=dt->Option (List aE->List V->M V)
def EV (P:bV) (o:Oper) (a:Act) (w:aC) (val:aV):Prop:=
 (execOp a.eval o).run P w= .ok (.value val) w∨
 ∃f args,(execOp a.eval o).run P w= .ok (.enter f args) w/\Calls P f args w λe sR=>e= .returned val/\w.Extends sR
def wN (P:bV) (f:dt) (args:Array aV) (w:aC) (val:aV):Prop:=
 (callFunc f args).run P w= .ok (.value val) w∨
 ((callFunc f args).run P w= .ok (.enter f args) w/\Calls P f args w λe sR=>e= .returned val/\w.Extends sR)
def fb (ρ:Env) (m:Nat->Nat):List V->List aV->Prop
 |[],[]=>True
 |v::r,x::s=>v.rel ρ m x/\fb ρ m r s
 |_,_=>False
def h8 (S:Nat->List Int->List Int->Prop) (P:bV) (gl:fa) (w0:eG) (cal:fy):Prop:=
 ∀f g,cal f=some g->∀(L:V->Env->Prop) (n:Nat) (ρ:Env) (m:Nat->Nat) (bl:List aE) (vs:List V) (xs:List aV),cY n bl.length ρ bl->(∃w,Mem w0 ρ m bl w)->(∀v∈vs,v.ok n bl.length ρ)->fb ρ m vs xs->
  az S L (g bl vs) n ρ λaa n' v=>v.ok n' bl.length aa/\∃val,v.rel aa m val/\∀w,Mem w0 ρ m bl w->wN P f xs.toArray w val
def KP (P:bV) (s:bp) (f:Nat):Option Field:=match P.underlying s with|some (.struct fs)=>fs[f]?|_=>none
def vb (P:bV) (t:bp):Option (Nat×bp):=match P.underlying t with|some (.array n e)=>some (n,e)|_=>none
def j2 (P:bV) (t:bp):Option bp:=match P.underlying t with|some (.slice e)=>some e|_=>none
def QM (P:bV) (t:bp) (l:List A) (off:Nat):M V:=
 match kM P t,fO P t with
 |some true,some k=>pure (.w (.agg ((l.drop off).take k)))
 |some false,_=>match l[off]? with|some a=>pure (.w (.one a))|none=>fail
 |_,_=>fail
def WG (P:bV) (t:bp) (x:V) (bj:bQ):M V:=
 match x with
 | .w (.one (.ptr b off))=>match vb P t with
  |some (len,e)=>match fO P e with
   |some s=>match bj.l.eN with
    |some i=>cond (decide (0<=i)&&decide (i<len)) (pure (.w (.one (.ptr b (off+i.toNat*s))))) fail
    |none=>cond (aM s 1&&decide (0<=bj.lo)&&decide (bj.hi<len)) (pure (.w (.one (.rk b off bj)))) fail
   |none=>fail
  |none=>fail
 | .w (.one (.gptr g off))=>match vb P t with
  |some (len,e)=>match fO P e with
   |some s=>match bj.l.eN with
    |some i=>cond (decide (0<=i)&&decide (i<len)) (pure (.w (.one (.gptr g (off+i.toNat*s))))) fail
    |none=>cond (aM s 1) (bind (gS 74 [bj.l,.const len]) λ_=>pure (.w (.one (.Ib g off ⟨bj.l,0,(len:Int)-1⟩)))) fail
   |none=>fail
  |none=>fail
 | .w (.one (.slc b off len _))=>match j2 P t with
  |some e=>match fO P e with
   |some s=>match bj.l.eN with
    |some i=>cond (decide (0<=i)&&decide (i<len)) (pure (.w (.one (.ptr b (off+i.toNat*s))))) fail
    |none=>cond (aM s 1&&decide (0<=bj.lo)&&decide (bj.hi<len)) (pure (.w (.one (.rk b off bj)))) fail
   |none=>fail
  |none=>fail
 | .sN b len _=>match j2 P t with
  |some e=>match fO P e with
   |some s=>match bj.l.eN with
    |some i=>cond (decide (0<=i)&&decide (i<len)) (pure (.w (.one (.ptr b (i.toNat*s))))) fail
    |none=>fail
   |none=>fail
  |none=>fail
 |_=>fail
def Cc:List V->Option (List A)
 |[]=>some []
 | .w (.one a)::r=>match Cc r with|some l=>some (a::l)|none=>none
 |_::_=>none
def DG:List A->List A->Option bC
 |[],[]=>some (.lit true)
 | .int k x::r,.int bD y::r'=>cond (decide (k=bD)) (match DG r r' with|some b=>some (.mkAnd (.mkEq x y) b)|none=>none) none
 |_,_=>none
def US (P:bV) (t:bp) (x y:List A):Option bC:=
 match vb P t with
 |some (len,e)=>match kindOf P e,fO P e with
  |some _,some 1=>cond (aM x.length len&&aM y.length len&& !P.eqGuardType P.depth t) (DG x y) none
  |_,_=>none
 |none=>none
def H5 (P:bV):Nat->List Field->Bool
 |_,[]=>true
 |i,f::r=>(f.name != "_")&&aM f.offset i&&H5 P (i+1) r
noncomputable def vl (P:bV):List Field->List A->List A->M bC
 |[],[],[]=>pure (.lit true)
 |f::fs,.int k a::xs,.int bD b::hN=>match kindOf P f.type with
  |some k2=>cond (decide (k=bD)) (bind (vl P fs xs hN) λr=>pure (.mkAnd (.mkEq a b) r)) fail
  |none=>fail
 |f::fs,.str a::xs,.str b::hN=>match P.underlying f.type with
  |some .string=>bind (fV 4 [a,b] 0 1) λl=>bind (vl P fs xs hN) λr=>pure (.mkAnd (.mkEq ⟨l,0,1⟩ (.const 1)) r)
  |_=>fail
 |_,_,_=>fail
noncomputable def Pe (P:bV) (g:bp->List A->List A->M bC):Nat->List Field->List A->List A->M bC
 |_,[],_,_=>pure (.lit true)
 |o,f::fs,x,y=>match fO P f.type with
  |some s=>cond ((f.name != "_")&&aM f.offset o) (bind (g f.type (x.take s) (y.take s)) λb=>bind (Pe P g (o+s) fs (x.drop s) (y.drop s)) λr=>pure (.mkAnd b r)) fail
  |none=>fail
noncomputable def H2 (P:bV):Nat->bp->List A->List A->M bC
 |0,_,_,_=>fail
 |d+1,t,x,y=>match P.underlying t with
  |some (.int k)=>match x,y with
   |[.int k1 a],[.int k2 b]=>cond (decide (k1=k2)) (pure (.mkEq a b)) fail
   |_,_=>fail
  |some .string=>match x,y with
   |[.str a],[.str b]=>bind (fV 4 [a,b] 0 1) λl=>pure (.mkEq ⟨l,0,1⟩ (.const 1))
   |_,_=>fail
  |some .bool=>match x,y with
   |[.bool a],[.bool b]=>pure (.mkIff a b)
   |_,_=>fail
  |some (.struct fs)=>cond (!P.stoodInHeld t) (Pe P (H2 P d) 0 fs.toList x y) fail
  |_=>fail
noncomputable def Pf (P:bV) (t:bp) (x y:List A):M bC:=
 match P.underlying t with
 |some (.struct fs)=>cond (H5 P 0 fs.toList&& !P.stoodInHeld t&& !P.eqGuardType P.depth t) (cond (fs.toList.all λf=>match P.underlying f.type with|some (.int _)=>true|some .string=>true|_=>false) (vl P fs.toList x y) (H2 P 8 t x y))
  (cond (!P.eqGuardType P.depth t) (H2 P 8 t x y) fail)
 |_=>fail
noncomputable def YO (op:BinOp) (a b:I):M V:=
 match op with
 | .add=>bind (gS 3 [a,b]) λ_=>bind (fV 3 [a,b] 0 qR) λl=>pure (.w (.one (.str l)))
 | .eql=>bind (fV 4 [a,b] 0 1) λl=>pure (.w (.one (.bool (.mkEq ⟨l,0,1⟩ (.const 1)))))
 | .neq=>bind (fV 4 [a,b] 0 1) λl=>pure (.w (.one (.bool (.mkNot (.mkEq ⟨l,0,1⟩ (.const 1))))))
 | .lss=>bind (fV 5 [a,b] 0 1) λl=>pure (.w (.one (.bool (.mkEq ⟨l,0,1⟩ (.const 1)))))
 | .geq=>bind (fV 5 [a,b] 0 1) λl=>pure (.w (.one (.bool (.mkNot (.mkEq ⟨l,0,1⟩ (.const 1))))))
 |_=>fail
def ah6 (s:I):M V:=bind (fV 0 [s] 0 9223372036854775807) λl=>pure (.w (.one (.int .i64 ⟨l,0,9223372036854775807⟩)))
def ah5 (s i:I):M V:=bind (gS 1 [s,i]) λ_=>bind (fV 1 [s,i] 0 255) λl=>pure (.w (.one (.int .u8 ⟨l,0,255⟩)))
noncomputable def Rj (s a b:I):M V:=bind (gS 2 [s,a,b]) λ_=>bind (fV 2 [s,a,b] 0 qR) λl=>pure (.w (.one (.str l)))
def tR (v:V):Option I:=match v with| .w (.one (.int _ a))=>some a.l|_=>none
noncomputable def YP (tm:List V) (s:I) (lo hi:Option rC):M V:=
 match(match lo with|none=>some (I.const 0)|some x=>tR (cl tm x))with
 |none=>fail
 |some a=>match hi with
  |none=>bind (fV 0 [s] 0 9223372036854775807) λb=>Rj s a b
  |some y=>match tR (cl tm y)with
   |some b=>Rj s a b
   |none=>fail
noncomputable def ab0 (P:bV) (op:BinOp) (t:bp) (x y:V):M V:=
 match x,y with
 | .w (.one (.int k a)),.w (.one (.int bD b))=>bind (T4 op k a bD b) λr=>pure (.w (.one r))
 | .w (.agg a),.w (.agg b)=>match op,US P t a b with
  | .eql,some e=>pure (.w (.one (.bool e)))
  | .neq,some e=>pure (.w (.one (.bool (.mkNot e))))
  | .eql,none=>bind (Pf P t a b) λe=>pure (.w (.one (.bool e)))
  | .neq,none=>bind (Pf P t a b) λe=>pure (.w (.one (.bool (.mkNot e))))
  |_,_=>fail
 | .w (.one (.str a)),.w (.one (.str b))=>YO op a b
 | .w (.one (.bool a)),.w (.one (.bool b))=>match op,P.underlying t with
  | .eql,some .bool=>pure (.w (.one (.bool (.mkIff a b))))
  | .neq,some .bool=>pure (.w (.one (.bool (.mkNot (.mkIff a b)))))
  |_,_=>fail
 |_,_=>fail
def aim (op:UnOp) (x:V):M V:=
 match op,x with
 | .not,.w (.one (.bool b))=>pure (.w (.one (.bool (.mkNot b))))
 | .xor,.w (.one (.int k a))=>cond (!k.signed&&decide (0<=a.lo)&&decide (a.hi<two k)) (pure (.w (.one (.int k ⟨(I.const (two k-1)).sub a.l,two k-1-a.hi,two k-1-a.lo⟩)))) fail
 | .neg,.w (.one (.int k a))=>bind (A1 k ⟨a.l.smul (-1),-a.hi,-a.lo⟩) λr=>pure (.w (.one (.int k r)))
 |_,_=>fail
def acR (P:bV) (src dst:bp) (x:V):M V:=
 match P.underlying src,P.underlying dst,x with
 |some _,some .string,.w (.one (.int _ a))=>match a.l.eN with
  |some c=>cond (cK (RR c).size 1000) (pure (.w (.one (.str (.const (j7 (RR c).data.toList)))))) fail
  |none=>fail
 |_,_,_=>match P.underlying src,kindOf P dst,x with
 |some _,some k,.w (.one (.int _ a))=>bind (A1 k a) λr=>pure (.w (.one (.int k r)))
 |_,_,_=>fail
def OY (v:V):Option Int:=match v with| .w (.one (.int _ a))=>a.l.eN|_=>none
def QH (tm:List V):Option rC->Option (Option Int)
 |none=>some none
 |some x=>match OY (cl tm x)with|some c=>some (some c)|none=>none
def ahW (P:bV) (t:bp) (x:V) (lo hi:Option Int):M V:=
 match x,vb P t with
 | .w (.one (.ptr b off)),some (n,e)=>match fO P e with
  |some s=>cond (decide (0<=lo.getD 0)&&decide (lo.getD 0<=hi.getD n)&&decide (hi.getD n<=n)&&decide (lo.getD 0<n)) (pure (.w (.one (.slc b (off+(lo.getD 0).toNat*s) ((hi.getD n).toNat-(lo.getD 0).toNat) (n-(lo.getD 0).toNat))))) fail
  |none=>fail
 | .w (.one (.slc b off len cap)),none=>match j2 P t with
  |some e=>match fO P e with
   |some s=>cond (decide (0<=lo.getD 0)&&decide (lo.getD 0<=hi.getD len)&&decide (hi.getD len<=cap)&&decide (lo.getD 0<cap)) (pure (.w (.one (.slc b (off+(lo.getD 0).toNat*s) ((hi.getD len).toNat-(lo.getD 0).toNat) (cap-(lo.getD 0).toNat))))) fail
   |none=>fail
  |none=>fail
 |_,_=>fail
def agw (x:V):M V:=
 match x with
 | .w (.one (.ptr b o))=>pure (.w (.one (.ptr b o)))
 | .w (.one (.rk b o i))=>pure (.w (.one (.rk b o i)))
 | .w (.one (.gptr g o))=>pure (.w (.one (.gptr g o)))
 |_=>fail
def W.cells:W->List A
 | .one a=>[a]
 | .agg l=>l
def qI (P:bV) (t:bp):Option (List A):=
 match P.info? t with
 |some i=>match i.zero with
  |some z=>Bw z.cells.toList
  |none=>none
 |none=>none
def Am (place:Nat->Option (Nat×Nat)):List A->List (Nat×V)->Option (List A)
 |cells,[]=>some cells
 |cells,(i,.w u)::r=>match place i with
  |some (off,size)=>cond (aM u.cells.length size&&cK (off+size) cells.length) (Am place (cells.take off++u.cells++cells.drop (off+size)) r) none
  |none=>none
 |_,_::_=>none
def Ua (P:bV) (t:bp) (parts:List (Nat×V)):Option (List A):=
 match qI P t,P.underlying t with
 |some z,some (.array _ e)=>match fO P e with
  |some s=>Am (λi=>some (i*s,s)) z parts
  |none=>none
 |some z,some (.struct fields)=>match fields.toList.mapM (λf=>(P.info? f.type).map λi=>(f.offset,i.size))with
  |some places=>Am (places.toArray[·]?) z parts
  |none=>none
 |_,_=>none
noncomputable def X5 (P:bV) (cal:fy) (gl:fa) (bl:List aE) (tm:List V) (o:Oper):M V:=
 match o.op with
 | .move x| .assign x=>pure (cl tm x)
 | .load t x=>match cl tm x with
  | .w (.one (.rk b off bj))=>Yx P bl t b off bj
  | .w (.one (.Ib g off bj))=>Yw P gl t g off bj
  | .w (.one p)=>W5 P bl gl t p
  |_=>fail
 | .nilCheck x=>agw (cl tm x)
 | .pick c x y=>match cl tm c with
  | .w (.one (.bool (.lit v)))=>pure (cond v (cl tm x) (cl tm y))
  |_=>fail
 | .binOp op t x y _=>ab0 P op t (cl tm x) (cl tm y)
 | .unOp op _ x=>aim op (cl tm x)
 | .convert s d x=>acR P s d (cl tm x)
 | .indexAddr t x bj=>match cl tm bj with
  | .w (.one (.int _ i))=>WG P t (cl tm x) i
  |_=>fail
 | .index t x bj=>match cl tm x with
  | .w (.one (.str s))=>match P.underlying t,tR (cl tm bj)with
   |some .string,some i=>ah5 s i
   |_,_=>fail
  |_=>match cl tm x,OY (cl tm bj),vb P t with
   | .w (.agg l),some i,some (len,e)=>match fO P e with
    |some s=>cond (decide (0<=i)&&decide (i<len)) (QM P e l (i.toNat*s)) fail
    |none=>fail
   |_,_,_=>fail
 | .fieldAddr s x f=>match cl tm x,KP P s f with
  | .w (.one (.ptr b off)),some fd=>match fO P fd.type with
   |some (_+1)=>pure (.w (.one (.ptr b (off+fd.offset))))
   |_=>fail
  |_,_=>fail
 | .field s x f=>match cl tm x,KP P s f with
  | .w (.agg l),some fd=>QM P fd.type l fd.offset
  |_,_=>fail
 | .extract x i=>match cl tm x with
  | .iU l=>match l[i]? with|some u=>pure (.w u)|none=>fail
  |_=>fail
 | .slice t x lo hi none=>match cl tm x,P.underlying t with
  | .w (.one (.str s)),some .string=>YP tm s lo hi
  |_,_=>match QH tm lo,QH tm hi with
   |some l,some h=>ahW P t (cl tm x) l h
   |_,_=>fail
 | .call c=>match c.callee with
  | .value (.func f)=>match cal f with
   |some g=>g bl (c.args.toList.map (cl tm))
   |none=>fail
  | .builtin .len=>match c.args.toList,c.argTypes.toList with
   |[x],[t]=>match cl tm x,P.underlying t with
    | .w (.one (.str s)),some .string=>ah6 s
    |_,_=>match cl tm x,j2 P t with
     | .w (.one (.slc _ _ len _)),some _=>pure (.w (.one (.int .i64 (.const len))))
     | .sN _ len _,some _=>pure (.w (.one (.int .i64 (.const len))))
     |_,_=>fail
   |_,_=>fail
  |_=>fail
 | .makeFunc (.func f) first kH=>match first.toList,Cc (kH.toList.map (cl tm))with
  |[],some l=>pure (.s6 f l)
  |_,_=>fail
 | .build t parts=>match Ua P t (parts.toList.map λp=>(p.1,cl tm p.2))with
  |some l=>pure (.w (.agg l))
  |none=>fail
 | .sliceToArrayPointer t x=>match cl tm x,vb P t with
  | .sN b len _,some (k,_)=>cond (cK k len) (pure (.w (.one (.ptr b 0)))) fail
  | .w (.one (.slc b off len _)),some (k,_)=>cond (cK k len) (pure (.w (.one (.ptr b off)))) fail
  |_,_=>fail
 |_=>fail
section
variable {S:Nat->List Int->List Int->Prop} {L:V->Env->Prop} {n:Nat} {ρ:Env} {m:Nat->Nat} {bl:List aE} {gl:fa} {w0:eG} {P:bV} {tm:List V} {a:Act}
def pI (w0:eG) (m:Nat->Nat) (bl:List aE) (n:Nat) (ρ:Env) (P:bV) (o:Oper) (a:Act) (aa:Env) (n':Nat) (v:V):Prop:=
 v.ok n' bl.length aa/\∃val,v.rel aa m val/\∀w,Mem w0 ρ m bl w->EV P o a w val
theorem pI.of_run {o:Oper} {s:Sem aV} {aa:Env} {n':Nat} {v:V} (he:execOp a.eval o=(do pure (nJ (<-s)))) (h:pJ w0 m bl n ρ (λw=>s.run P w) aa n' v):pI w0 m bl n ρ P o a aa n' v:=by
 obtain⟨h1,val,h2,h3⟩:=h
 exact⟨h1,val,h2,λw hw=> .inl (by rw[he];simp[h3 w hw])⟩
theorem W.OU {n nb:Nat} {ρ:Env} {m:Nat->Nat} (u:W) (hu:u.ok n nb ρ):(u.den ρ m).cells=(u.cells.map (A.den ρ m)).toArray:=by
 cases u with
 |one a=>
  have:=A.QE (m:=m) hu
  simp only[W.den,W.cells,c5,fD]
  generalize A.den ρ m a=v at*
  cases v<;>first|rfl|simp[Value.oneCell']at this
 |agg l=>simp[W.den,W.cells,Value.cells]
theorem W.HL {n nb:Nat} {ρ:Env} {u:W} (hu:u.ok n nb ρ):∀a∈u.cells,A.ok n nb ρ a:=by
 cases u with
 |one a=>intro x hx;simp[W.cells]at hx;subst hx;exact hu
 |agg l=>exact hu
def NL (n nb:Nat) (ρ:Env) (m:Nat->Nat):List (Nat×V)->List (Nat×aV)->Prop
 |[],[]=>True
 |p::r,q::s=>(p.1=q.1/\V.ok n nb ρ p.2/\V.rel ρ m p.2 q.2)/\NL n nb ρ m r s
 |_,_=>False
theorem adF (off:Nat):∀(src:List aV) (dst:Array aV) (k:Nat),off+k+src.length<=dst.size->
 ((src.zipIdx k).foldl (λcs (c,j)=>cs.setIfInBounds (off+j) c) dst)=(dst.toList.take (off+k)++src++dst.toList.drop (off+k+src.length)).toArray
 |[],dst,k,h=>by simp
 |c::src,dst,k,h=>by
  simp only[jS]at h
  rw[List.zipIdx_cons,List.foldl_cons,adF off src _ (k+1) (by simp;omega)]
  congr 1
  simp only[Array.toList_setIfInBounds,jS]
  have h1:off+k<dst.toList.length:=by simp;omega
  rw[List.take_set,show off+(k+1)=off+k+1 by omega,List.drop_set_of_lt (by omega),List.take_add_one,qJ h1]
  rw[show off+k+1+src.length=off+k+(src.length+1) by omega]
  simp only[Option.toList_some]
  rw[List.set_append_right _ _ (by simp;omega)]
  have hm:min (off+k) dst.size=off+k:=EM (by omega)
  simp[hm]
theorem Pk {n nb:Nat} {ρ:Env} {m:Nat->Nat} {place:Nat->Option (Nat×Nat)}:∀{parts:List (Nat×V)} {vals:List (Nat×aV)} {cells l:List A},Am place cells parts=some l->(∀a∈cells,A.ok n nb ρ a)->
 NL n nb ρ m parts vals->(∀a∈l,A.ok n nb ρ a)/\ai2 place (cells.map (A.den ρ m)).toArray vals=some (l.map (A.den ρ m)).toArray
 |[],[],cells,l,h,hc,_=>by simp[Am]at h;subst h;exact⟨hc,rfl⟩
 |(i,.w u)::r,(D2,x)::s,cells,l,h,hc,⟨⟨aw,aD,cj⟩,hr⟩=>by
  simp only at aw;subst aw
  simp only[V.rel]at cj
  have cj:x=u.den ρ m:=cj
  subst cj
  simp only[Am]at h
  cases hp:place i with
  |none=>simp[hp]at h
  |some q=>
   obtain⟨off,size⟩:=q
   simp only[hp]at h
   cases ah:(aM u.cells.length size&&cK (off+size) cells.length)with
   |false=>simp[ah]at h
   |true=>
    simp only[ah,cond_true]at h
    simp only[bw]at ah
    have bm:=bR ah.1
    have cb:=fP ah.2
    have VE:=W.OU (m:=m) u aD
    obtain⟨g1,g2⟩:=Pk (m:=m) h (λa ha=>by
     rcases List.mem_append.1 ha with ha|ha
     ·rcases List.mem_append.1 ha with ha|ha
      ·exact hc a (oc ha)
      ·exact W.HL aD a ha
     ·exact hc a (rD ha)) hr
    refine⟨g1,?_⟩
    simp only[ai2,hp,VE,List.size_toArray,qM,bm]
    rw[if_neg (by simp;omega)]
    rw[<-g2]
    congr 1
    have:=adF off (u.cells.map (A.den ρ m)) (cells.map (A.den ρ m)).toArray 0 (by simp;omega)
    simp only[pE]at this
    rw[<-Array.foldl_toList]
    simp only[Array.toList_zipIdx]
    rw[this]
    simp[JN,JO,bm]
 |(_,.iU _)::_,_,_,_,h,_,_=>by simp[Am]at h
 |(_,.any)::_,_,_,_,h,_,_=>by simp[Am]at h
 |[],_::_,_,_,_,_,hr=>hr.elim
 |(_,.w _)::_,[],_,_,_,_,hr=>hr.elim
theorem ak8 {n nb:Nat} {ρ:Env} {m:Nat->Nat} {t:bp} {parts:List (Nat×V)} {vals:List (Nat×aV)} {l:List A} (h:Ua P t parts=some l)
 (hr:NL n nb ρ m parts vals):(∀a∈l,A.ok n nb ρ a)/\P.built t vals=some (l.map (A.den ρ m)).toArray:=by
 unfold Ua at h
 unfold Program.built
 cases hz:qI P t with
 |none=>simp[hz]at h
 |some z=>
  unfold qI at hz
  cases hi:P.info? t with
  |none=>simp[hi]at hz
  |some it=>
   simp only[hi]at hz
   cases D1:it.zero with
   |none=>simp[D1]at hz
   |some z0=>
    simp only[D1]at hz
    have IG:=Bx hz n nb ρ m
    have hz1:z0.cells=(z.map (A.den ρ m)).toArray:=by rw[IG.2]
    cases hu:P.underlying t with
    |none=>simp[qI,hi,D1,hz,hu]at h
    |some d=>
     cases d<;>try(simp[qI,hi,D1,hz,hu]at h;done)
     case array len e=>
      simp only[qI,hi,D1,hz,hu,fO]at h
      cases VR:P.info? e with
      |none=>simp[VR]at h
      |some aFM=>
       simp only[VR]at h
       simp only[D1,VR,hz1]
       exact Pk h IG.1 hr
     case struct fields=>
      simp only[qI,hi,D1,hz,hu]at h
      cases hp:fields.toList.mapM (λf=>(P.info? f.type).map λi=>(f.offset,i.size))with
      |none=>simp[hp]at h
      |some places=>
       simp only[hp]at h
       simp only[D1,hp,hz1]
       exact Pk h IG.1 hr
theorem agY {t:bp} {l:List A} {off:Nat} (hl:∀x∈l,A.ok n bl.length ρ x):az S L (QM P t l off) n ρ (pJ w0 m bl n ρ λw=>(part t (l.map (A.den ρ m)).toArray off).run P w):=by
 unfold QM
 cases h1:kM P t with
 |none=>exact az.fail
 |some b=>
  cases b with
  |true=>
   cases h2:fO P t with
   |none=>exact az.fail
   |some k=>
    refine az.pure ⟨λx hx=>hl x (rD (oc hx)),_,rfl,λw _=>?_⟩
    simp[part,tW h1,ki h2,W.den,JN,JO,aBx]
    try congr 1
  |false=>
   cases h3:l[off]? with
   |none=>exact az.fail
   |some x=>
    refine az.pure ⟨hl x (e8 h3),_,rfl,λw _=>?_⟩
    simp[part,tW h1,h3,W.den]
theorem yB {t:bp} {len:Nat} {e:bp} (h:vb P t=some (len,e)):P.underlying t=some (.array len e):=by
 unfold vb at h
 cases hu:P.underlying t with
 |none=>simp[hu]at h
 |some d=>cases d<;>simp[hu]at h<;>simp[h]
theorem iT {t e:bp} (h:j2 P t=some e):P.underlying t=some (.slice e):=by
 unfold j2 at h
 cases hu:P.underlying t with
 |none=>simp[hu]at h
 |some d=>cases d<;>simp[hu]at h<;>simp[h]
theorem WS {t:bp} {k:dO} (h:kindOf P t=some k):P.underlying t=some (.int k):=by
 unfold kindOf at h
 cases hu:P.underlying t with
 |none=>simp[hu]at h
 |some d=>cases d<;>simp[hu]at h<;>simp[h]
theorem UU {s:bp} {f:Nat} {fd:Field} (h:KP P s f=some fd):∃fs,P.underlying s=some (.struct fs)/\fs[f]?=some fd:=by
 unfold KP at h
 cases hu:P.underlying s with
 |none=>simp[hu]at h
 |some d=>cases d<;>simp[hu]at h<;>exact⟨_,rfl,h⟩
theorem aqT {t:bp} {x:V} {k:dO} {bj:bQ} {X:aV} (hx:x.ok n bl.length ρ) (b3:x.rel ρ m X) (hi:bj.ok n ρ):
 az S L (WG P t x bj) n ρ (pJ w0 m bl n ρ λw=>(wK t X (.int k (bj.l.den ρ))).run P w):=by
 unfold WG
 split
 ·rename_i b off
  simp only[V.rel,W.den,A.den]at b3;subst b3
  cases h1:vb P t with
  |none=>exact az.fail
  |some q=>
   obtain⟨len,e⟩:=q
   cases h2:fO P e with
   |none=>simp only[h2];exact az.fail
   |some s=>
    simp only[h2]
    cases h3:bj.l.eN with
    |some i=>
     refine eI λhc=>az.pure ⟨hx,_,rfl,λw _=>?_⟩
     simp only[bw,decide_eq_true_eq]at hc
     simp[wK,asIntOf,fx (yB h1),qb,I.km h3,hc,ki h2,kF,W.den,A.den]
    |none=>
     refine eI λhc=>az.pure ⟨?_,_,rfl,λw _=>?_⟩
     ·simp only[bw,decide_eq_true_eq]at hc
      exact⟨hx,hi,hc.1.2⟩
     ·simp only[bw,decide_eq_true_eq]at hc
      have hs:=bR hc.1.1
      subst hs
      have b8:=hi.2
      have c1:0<=bj.l.den ρ:=by omega
      have bK:bj.l.den ρ<len:=by omega
      simp[wK,asIntOf,fx (yB h1),qb,c1,bK,ki h2,kF,W.den,A.den]
 ·rename_i g off
  simp only[V.rel,W.den,A.den]at b3;subst b3
  cases h1:vb P t with
  |none=>exact az.fail
  |some q=>
   obtain⟨len,e⟩:=q
   cases h2:fO P e with
   |none=>simp only[h2];exact az.fail
   |some s=>
    simp only[h2]
    cases h3:bj.l.eN with
    |some i=>
     refine eI λhc=>az.pure ⟨trivial,_,rfl,λw _=>?_⟩
     simp only[bw,decide_eq_true_eq]at hc
     simp[wK,asIntOf,fx (yB h1),qb,I.km h3,hc,ki h2,kF,W.den,A.den]
    |none=>
     refine eI λhc=>jL λah=>az.pure ⟨?_,_,rfl,λw _=>?_⟩
     ·simp only[c5,fD,I.br,ar,Kq]at ah
      exact⟨⟨hi.1,by show(0:Int)<=_;exact ah.1,by show _<=((len:Int)-1);have:=ah.2;simp only;omega⟩,cW _⟩
     ·simp only[c5,fD,I.br,ar,Kq]at ah
      have hs:=bR hc
      subst hs
      simp[wK,asIntOf,fx (yB h1),qb,ah.1,ah.2,ki h2,kF,W.den,A.den]
 ·rename_i b off len cap
  simp only[V.rel,W.den,A.den]at b3;subst b3
  cases h1:j2 P t with
  |none=>exact az.fail
  |some e=>
   cases h2:fO P e with
   |none=>simp only[h2];exact az.fail
   |some s=>
    simp only[h2]
    cases h3:bj.l.eN with
    |some i=>
     refine eI λhc=>az.pure ⟨hx,_,rfl,λw _=>?_⟩
     simp only[bw,decide_eq_true_eq]at hc
     simp[wK,asIntOf,fx (iT h1),qb,I.km h3,hc,ki h2,kF,W.den,A.den]
    |none=>
     refine eI λhc=>az.pure ⟨?_,_,rfl,λw _=>?_⟩
     ·simp only[bw,decide_eq_true_eq]at hc
      exact⟨hx,hi,hc.1.2⟩
     ·simp only[bw,decide_eq_true_eq]at hc
      have hs:=bR hc.1.1
      subst hs
      have b8:=hi.2
      have c1:0<=bj.l.den ρ:=by omega
      have bK:bj.l.den ρ<len:=by omega
      simp[wK,asIntOf,fx (iT h1),qb,c1,bK,ki h2,kF,W.den,A.den]
 ·rename_i b len lo
  obtain⟨c,_,b3⟩:=b3
  subst b3
  cases h1:j2 P t with
  |none=>exact az.fail
  |some e=>
   cases h2:fO P e with
   |none=>simp only[h2];exact az.fail
   |some s=>
    simp only[h2]
    cases h3:bj.l.eN with
    |some i=>
     refine eI λhc=>az.pure ⟨hx,_,rfl,λw _=>?_⟩
     simp only[bw,decide_eq_true_eq]at hc
     simp[wK,asIntOf,fx (iT h1),qb,I.km h3,hc,ki h2,kF,W.den,A.den]
    |none=>exact az.fail
 ·exact az.fail
theorem atD {vs:List V}:∀{l:List A} {xs:List aV},Cc vs=some l->(∀v∈vs,V.ok n bl.length ρ v)->fb ρ m vs xs->(∀a∈l,A.ok n bl.length ρ a)/\xs=l.map (A.den ρ m):=by
 induction vs with
 |nil=>
  intro l xs h _ hr
  simp[Cc]at h;subst h
  cases xs with
  |nil=>exact⟨λ_ h=>by simp at h,rfl⟩
  |cons _ _=>exact hr.elim
 |cons v r ih=>
  intro l xs h b0 hr
  cases xs with
  |nil=>cases v<;>exact hr.elim
  |cons x s=>
   cases v with
   |w y=>
    cases y with
    |agg q=>simp[Cc]at h
    |one a=>
     cases h1:Cc r with
     |none=>simp[Cc,h1]at h
     |some l'=>
      simp only[Cc,h1,bb]at h
      subst h
      obtain⟨aw,aD⟩:=ih h1 (λv hv=>b0 v (eB _ hv)) hr.2
      have h0:x=a.den ρ m:=hr.1
      exact⟨λb hb=>by rcases List.mem_cons.1 hb with rfl|hb;exact b0 (.w (.one b)) (by simp);exact aw b hb,by rw[h0,aD];rfl⟩
   |_=>simp[Cc]at h
theorem amA {e:bp} {k:dO} (he:P.underlying e=some (.int k)) (d:Nat) (xs hN:Array aV) (w:aC):∀(l l':List A) (i:Nat) (b:bC),DG l l'=some b->(∀x∈l,A.ok n bl.length ρ x)->(∀x∈l',A.ok n bl.length ρ x)->
 xs.toList.drop i=l.map (A.den ρ m)->hN.toList.drop i=l'.map (A.den ρ m)->b.bG n/\(Op.eqItems (d+1) e 1 xs hN (List.range' i l.length)).run P w= .ok (b.den ρ) w:=by
 intro l
 induction l with
 |nil=>
  intro l' i b h _ _ _ _
  cases l' with
  |nil=>simp[DG]at h;subst h;exact⟨trivial,by simp[Op.eqItems,bC.den]⟩
  |cons y r'=>simp[DG]at h
 |cons x r ih=>
  intro l' i b h hl DW hx hy
  cases l' with
  |nil=>cases x<;>simp[DG]at h
  |cons y r'=>
   cases x<;>cases y<;>simp only[DG]at h<;>try(cases h;done)
   rename_i k1 x k2 y
   by_cases ab:k1=k2
   ·subst ab
    simp only[decide_true,cond_true]at h
    cases hr:DG r r' with
    |none=>simp[hr]at h
    |some b'=>
     simp only[hr,bb]at h
     subst h
     have apv:x.ok n ρ:=hl (.int k1 x) (by simp)
     have apw:y.ok n ρ:=DW (.int k1 y) (by simp)
     have aw:=bC.xd apv apw
     have KX:xs[i]?=some (.int k1 (x.l.den ρ)):=by
      have:=congrArg JS hx
      simpa [A.den]using this
     have KY:hN[i]?=some (.int k1 (y.l.den ρ)):=by
      have:=congrArg JS hy
      simpa [A.den]using this
     have Fo:xs.toList.drop (i+1)=r.map (A.den ρ m):=by
      have:=congrArg Nq hx
      simpa using this
     have aZ:hN.toList.drop (i+1)=r'.map (A.den ρ m):=by
      have:=congrArg Nq hy
      simpa using this
     obtain⟨s2,r2⟩:=ih r' (i+1) b' hr (λz hz=>hl z (eB _ hz)) (λz hz=>DW z (eB _ hz)) Fo aZ
     refine⟨bC.Ra aw.2 s2,?_⟩
     simp only[jS,List.range'_succ,Op.eqItems,jg]
     have Cg:(part e xs (i*1)).run P w= .ok (.int k1 (x.l.den ρ)) w:=by simp[part,isAgg,fx he,KX]
     have Ch:(part e hN (i*1)).run P w= .ok (.int k1 (y.l.den ρ)) w:=by simp[part,isAgg,fx he,KY]
     simp only[Cg,Ch,jv,run_equalIn_int w d e k1 k _ _ he,bC.O1,aw.1]
     by_cases ah:x.l.den ρ=y.l.den ρ
     ·simp[ah,r2]
     ·simp[ah]
   ·simp[ab]at h
theorem adb {t:bp} {x y:List A} {b:bC} (h:US P t x y=some b) (hx:∀z∈x,A.ok n bl.length ρ z) (hy:∀z∈y,A.ok n bl.length ρ z):
 b.bG n/\P.eqGuardType P.depth t=false/\∀w,(RS 10000 t (.agg (x.map (A.den ρ m)).toArray) (.agg (y.map (A.den ρ m)).toArray)).run P w= .ok (b.den ρ) w:=by
 unfold US at h
 cases h1:vb P t with
 |none=>simp[h1]at h
 |some q=>
  obtain⟨len,e⟩:=q
  simp only[h1]at h
  cases h2:kindOf P e with
  |none=>simp[h2]at h
  |some k=>
   cases h3:fO P e with
   |none=>simp[h2,h3]at h
   |some s=>
    match s,h3 with
    |0,h3=>simp[h2,h3]at h
    |s+2,h3=>simp[h2,h3]at h
    |1,h3=>
     simp only[h2,h3]at h
     cases hc:(aM x.length len&&aM y.length len&& !P.eqGuardType P.depth t)with
     |false=>simp[hc]at h
     |true=>
      simp only[hc,cond_true]at h
      simp only[bw,gn]at hc
      have hl:=bR hc.1.1
      have ao2:∃i,P.info? e=some i/\P.cellsOf e=1:=by
       unfold fO at h3
       cases ah:P.info? e with
       |none=>simp[ah]at h3
       |some i=>simp[ah]at h3;exact⟨i,rfl,by simp[Program.cellsOf,ah,h3]⟩
      obtain⟨i,BL,ec⟩:=ao2
      have vv:=λw=>amA (P:=P) (bl:=bl) (n:=n) (ρ:=ρ) (m:=m) (WS h2) 9998 (x.map (A.den ρ m)).toArray (y.map (A.den ρ m)).toArray w x y 0 b h hx hy (by simp) (by simp)
      refine⟨(vv default).1,hc.2,λw=>?_⟩
      rw[show(10000:Nat)=9999+1 from rfl,run_equalIn_array w 9999 _ _ (yB h1) BL,ec,List.range_eq_range',<-hl]
      exact(vv w).2
theorem Fg (l:List UInt8):(dY l).toList=l:=aIT l
theorem Bp (l:List UInt8):(dY l).size=l.length:=by simp[dY,aIU]
theorem abZ (l l':List UInt8):(l==l')=decide ((if l=l' then(1:Int)else 0)=1):=by
 by_cases h:l=l'
 ·subst h;simp
 ·rw[if_neg h];simp[h]
theorem Kg (p:Prop) [Decidable p]:(0:Int)<=(if p then 1 else 0)/\(if p then(1:Int)else 0)<=1:=by split<;>decide
theorem afT (b:Bool):b=decide ((if b=true then(1:Int)else 0)=1):=by cases b<;>rfl
theorem axs {op:BinOp} {t:bp} {x y:rC} {p q:I} (hp:(A.str p).ok n bl.length ρ) (ah:(A.str q).ok n bl.length ρ):
 az S L (YO op p q) n ρ (pJ w0 m bl n ρ λw=>(do eqGuard op t x y (.string (dY (bx (p.den ρ)))) (.string (dY (bx (q.den ρ))));binOp op t (.string (dY (bx (p.den ρ)))) (.string (dY (bx (q.den ρ)))):Sem aV).run P w):=by
 have b8:=Kg (bx (p.den ρ)=bx (q.den ρ))
 have b9:=Kg (Op.bytesLess (bx (p.den ρ)) (bx (q.den ρ))=true)
 unfold YO
 split
 ·refine jL λhc=>?_
  have hc:(bx (p.den ρ)).length+(bx (q.den ρ)).length<=nX:=hc
  have hl:(bx (p.den ρ)++bx (q.den ρ)).length<=nX:=by simpa using hc
  refine(iP (op:=3) (args:=[p,q]) (yE _) (wO hl)).bind λaQ a1 l _ _ ⟨h1,h2⟩=>?_
  have h2:l.den aQ=j7 (bx (p.den ρ)++bx (q.den ρ)):=h2
  refine az.pure ⟨⟨h1,by rw[h2];exact yE _,by rw[h2];exact wO hl⟩,_,rfl,λw _=>?_⟩
  have hr:=run_string_add_sum (P:=P) w (dY (bx (p.den ρ))) (dY (bx (q.den ρ))) (by rw[Bp,Bp];unfold nX at hc;omega)
  simp only[eqGuard,binOp_string_add,W.den,A.den,h2,AT]
  simp[hr]
  exact aIV _ _
 ·refine(iP (op:=4) (args:=[p,q]) b8.1 b8.2).bind λaQ a1 l _ _ ⟨h1,h2⟩=>?_
  have h2:l.den aQ=if bx (p.den ρ)=bx (q.den ρ)then 1 else 0:=h2
  have e:=bC.xd (n:=a1) (ρ:=aQ) (a:=⟨l,0,1⟩) (b:= .const 1) ⟨h1,by simp only[h2];exact b8.1,by simp only[h2];exact b8.2⟩ (bQ.qW _ _ _)
  refine az.pure ⟨e.2,_,rfl,λw _=>?_⟩
  simp only[W.den,A.den,binOp_string_eql,Fg]
  rw[e.1]
  simp only[h2,bQ.const,I.br,abZ]
  simp[eqGuard]
 ·refine(iP (op:=4) (args:=[p,q]) b8.1 b8.2).bind λaQ a1 l _ _ ⟨h1,h2⟩=>?_
  have h2:l.den aQ=if bx (p.den ρ)=bx (q.den ρ)then 1 else 0:=h2
  have e:=bC.xd (n:=a1) (ρ:=aQ) (a:=⟨l,0,1⟩) (b:= .const 1) ⟨h1,by simp only[h2];exact b8.1,by simp only[h2];exact b8.2⟩ (bQ.qW _ _ _)
  refine az.pure ⟨bC.AU e.2,_,rfl,λw _=>?_⟩
  simp only[W.den,A.den,bC.Ac,binOp_string_neq,Fg]
  rw[e.1]
  simp only[h2,bQ.const,I.br,abZ]
  simp[eqGuard]
 ·refine(iP (op:=5) (args:=[p,q]) b9.1 b9.2).bind λaQ a1 l _ _ ⟨h1,h2⟩=>?_
  have h2:l.den aQ=if Op.bytesLess (bx (p.den ρ)) (bx (q.den ρ))=true then 1 else 0:=h2
  have e:=bC.xd (n:=a1) (ρ:=aQ) (a:=⟨l,0,1⟩) (b:= .const 1) ⟨h1,by simp only[h2];exact b9.1,by simp only[h2];exact b9.2⟩ (bQ.qW _ _ _)
  refine az.pure ⟨e.2,_,rfl,λw _=>?_⟩
  simp only[W.den,A.den,binOp_string_lss,Fg]
  rw[e.1]
  simp only[h2,bQ.const,I.br]
  rw[<-afT]
  simp[eqGuard]
 ·refine(iP (op:=5) (args:=[p,q]) b9.1 b9.2).bind λaQ a1 l _ _ ⟨h1,h2⟩=>?_
  have h2:l.den aQ=if Op.bytesLess (bx (p.den ρ)) (bx (q.den ρ))=true then 1 else 0:=h2
  have e:=bC.xd (n:=a1) (ρ:=aQ) (a:=⟨l,0,1⟩) (b:= .const 1) ⟨h1,by simp only[h2];exact b9.1,by simp only[h2];exact b9.2⟩ (bQ.qW _ _ _)
  refine az.pure ⟨bC.AU e.2,_,rfl,λw _=>?_⟩
  simp only[W.den,A.den,bC.Ac,binOp_string_geq,Fg]
  rw[e.1]
  simp only[h2,bQ.const,I.br]
  rw[<-afT]
  simp[eqGuard]
 ·exact az.fail
theorem axu {t ty:bp} {p:I} (hu:P.underlying t=some .string) (hp:(A.str p).ok n bl.length ρ):
 az S L (ah6 p) n ρ (pJ w0 m bl n ρ λw=>(JT #[t] ty #[.string (dY (bx (p.den ρ)))]).run P w):=by
 have hl:=J2 hp.2.2
 unfold nX at hl
 refine(iP (op:=0) (args:=[p]) (JJ _) (by show((bx (p.den ρ)).length:Int)<=_;omega)).bind λaQ a1 l _ _ ⟨h1,h2⟩=>?_
 have h2:l.den aQ=((bx (p.den ρ)).length:Int):=h2
 refine az.pure ⟨⟨h1,by simp only[h2];omega,by simp only[h2];omega⟩,_,rfl,λw _=>?_⟩
 simp[JT,fx hu,goInt,W.den,A.den,h2,Bp]
theorem axt {t:bp} {k:dO} {p i:I} (hu:P.underlying t=some .string) (hp:(A.str p).ok n bl.length ρ):
 az S L (ah5 p i) n ρ (pJ w0 m bl n ρ λw=>(Zu t (.string (dY (bx (p.den ρ)))) (.int k (i.den ρ))).run P w):=by
 refine jL λhc=>?_
 have hc:0<=i.den ρ/\i.den ρ<((bx (p.den ρ)).length:Int):=hc
 have hlt:(i.den ρ).toNat<(bx (p.den ρ)).length:=by omega
 have hb:=((bx (p.den ρ)).getD (i.den ρ).toNat 0).toNat_lt
 refine(iP (op:=1) (args:=[p,i]) (JJ _) (by show(((bx (p.den ρ)).getD (i.den ρ).toNat 0).toNat:Int)<=_;omega)).bind λaQ a1 l _ _ ⟨h1,h2⟩=>?_
 have h2:l.den aQ=(((bx (p.den ρ)).getD (i.den ρ).toNat 0).toNat:Int):=h2
 refine az.pure ⟨⟨h1,by simp only[h2];omega,by simp only[h2];omega⟩,_,rfl,λw _=>?_⟩
 have e:(dY (bx (p.den ρ)))[(i.den ρ).toNat]?=some ((bx (p.den ρ)).getD (i.den ρ).toNat 0):=by
  rw[aIW _ _ (by rw[Bp];exact hlt)]
  simp[dY,U,hlt]
  rfl
 simp[Zu,asIntOf,fx hu,hc.1,e,W.den,A.den,h2]
theorem axw {p a b:I} (hp:(A.str p).ok n bl.length ρ):az S L (Rj p a b) n ρ λaa n' v=>v.ok n' bl.length aa/\v.rel aa m (.string ((dY (bx (p.den ρ))).extract (a.den ρ).toNat (b.den ρ).toNat))/\0<=a.den ρ/\a.den ρ<=b.den ρ/\b.den ρ<=((bx (p.den ρ)).length:Int):=by
 refine jL λhc=>?_
 have hc:0<=a.den ρ/\a.den ρ<=b.den ρ/\b.den ρ<=((bx (p.den ρ)).length:Int):=hc
 have hl:=J2 hp.2.2
 have F2:(((bx (p.den ρ)).drop (a.den ρ).toNat).take ((b.den ρ).toNat-(a.den ρ).toNat)).length<=nX:=by simp;omega
 refine(iP (op:=2) (args:=[p,a,b]) (yE _) (wO F2)).bind λaQ a1 l _ _ ⟨h1,h2⟩=>?_
 have h2:l.den aQ=j7 (((bx (p.den ρ)).drop (a.den ρ).toNat).take ((b.den ρ).toNat-(a.den ρ).toNat)):=h2
 refine az.pure ⟨⟨h1,by rw[h2];exact yE _,by rw[h2];exact wO F2⟩,?_,hc⟩
 show _=_
 simp only[W.den,A.den,h2,AT]
 congr 1
 exact aIX _ _ _
theorem Gk {v:V} {l:I} {x:aV} (h:tR v=some l) (hr:v.rel ρ m x) (b0:v.ok n bl.length ρ):∃k,x= .int k (l.den ρ)/\l.bG n:=by
 unfold tR at h
 split at h
 ·rename_i k a
  simp only[bb]at h;subst h
  exact⟨k,hr,b0.1⟩
 ·cases h
theorem wk {k:dO} {i:Int} {y:Nat} {di:BoundsCode} (cz:0<=i) (cw:i<=y) (w:aC):(Nr (.int k i) y di).run P w= .ok i.toNat w:=by
 simp[Nr,asIntOf,cz,cw]
theorem axv {t:bp} {p:I} {lo hi:Option rC} (hu:P.underlying t=some .string) (hp:(A.str p).ok n bl.length ρ) (aA:eY n bl.length ρ m tm a.tmps):
 az S L (YP tm p lo hi) n ρ (pJ w0 m bl n ρ λw=>(ue t (.string (dY (bx (p.den ρ)))) (lo.map a.eval) (hi.map a.eval) none).run P w):=by
 unfold YP
 split
 ·exact az.fail
 ·rename_i gv Iz
  have yU:∃f:Option aV,lo.map a.eval=f/\(f=none/\gv.den ρ=0∨∃k,f=some (.int k (gv.den ρ))):=by
   cases lo with
   |none=>simp only[bb]at Iz;subst Iz;exact⟨none,rfl,.inl ⟨rfl,I.br _ _⟩⟩
   |some x=>
    obtain⟨k,ab,_⟩:=Gk (m:=m) (bl:=bl) Iz (cM aA x).2 (cM aA x).1
    exact⟨_,rfl,.inr ⟨k,by rw[<-ab];rfl⟩⟩
  obtain⟨ads,aw,kU⟩:=yU
  have key:∀(fB:I) (aQ:Env) (a1:Nat),n<=a1->agree n ρ aQ->(hi.map a.eval=none/\fB.den aQ=((bx (p.den ρ)).length:Int)∨∃k,hi.map a.eval=some (.int k (fB.den aQ)))->gv.bG n->
   az S L (Rj p gv fB) a1 aQ (pJ w0 m bl n ρ λw=>(ue t (.string (dY (bx (p.den ρ)))) (lo.map a.eval) (hi.map a.eval) none).run P w):=λfB aQ a1 hn ha ae Wj=>by
   have apx:(A.str p).ok a1 bl.length aQ:=hp.ext ha hn (bO _)
   have ep:p.den aQ=p.den ρ:=I.b5 ha hp.1
   have KO:gv.den aQ=gv.den ρ:=I.b5 ha Wj
   refine(axw (m:=m) (bl:=bl) (a:=gv) (b:=fB) apx).mono λbW ff v _ _ ⟨bm,cb,cJ,et,kg⟩=>⟨bm,_,cb,λw _=>?_⟩
   rw[ep,KO]at*
   have tH:(pG false (dY (bx (p.den ρ))).size (dY (bx (p.den ρ))).size ads (hi.map a.eval) none).run P w= .ok ((gv.den ρ).toNat,(fB.den aQ).toNat,(dY (bx (p.den ρ))).size) w:=by
    rw[Bp]
    rcases kU with⟨rfl,hz⟩|⟨k,rfl⟩<;>rcases ae with⟨h1,h2⟩|⟨k2,h1⟩
    ·rw[h1,hz,h2];simp[pG]
    ·rw[h1,hz];simp[pG,wk (P:=P) (by omega:0<=fB.den aQ) kg]
    ·rw[h1,h2];simp[pG,wk (P:=P) (y:=(bx (p.den ρ)).length) cJ (by omega)]
    ·rw[h1];simp[pG,wk (P:=P) (by omega:0<=fB.den aQ) kg,wk (P:=P) (y:=(fB.den aQ).toNat) cJ (by omega)]
   rw[aw]
   simp[ue,Zv,fx hu,tH]
  have IA:gv.bG n:=by
   cases lo with
   |none=>simp only[bb]at Iz;subst Iz;exact I.dd _ _
   |some x=>exact(Gk (m:=m) (bl:=bl) Iz (cM aA x).2 (cM aA x).1).choose_spec.2
  cases hi with
  |none=>
   have hl:=J2 hp.2.2
   unfold nX at hl
   exact(iP (op:=0) (args:=[p]) (JJ _) (by show((bx (p.den ρ)).length:Int)<=_;omega)).bind λaQ a1 l hn ha ⟨h1,h2⟩=>key l aQ a1 hn ha (.inl ⟨rfl,h2⟩) IA
  |some y=>
   simp only
   cases hy:tR (cl tm y)with
   |none=>exact az.fail
   |some b=>
    obtain⟨k,ab,_⟩:=Gk (m:=m) (bl:=bl) hy (cM aA y).2 (cM aA y).1
    exact key b ρ n (bO _) (agree.refl _ _) (.inr ⟨k,by rw[<-ab];rfl⟩) IA
theorem NI {xs:List rC} (h:eY n bl.length ρ m tm a.tmps):fb ρ m (xs.map (cl tm)) (xs.map a.eval):=by
 induction xs with
 |nil=>trivial
 |cons x r ih=>exact⟨(cM h x).2,ih⟩
theorem Yj {c:Call} {f:dt} (hc:c.callee= .value (.func f)) (o:Oper) (ax:o.op= .call c):execOp a.eval o=callFunc f (c.args.map a.eval):=by
 simp only[execOp,ax,resolve,hc,Act.eval,ai3]
 simp[invoke,bind_pure_comp]
theorem UR {nb:Nat} {m:Nat->Nat}:∀(fs:List Field) (x y:List A) (i n:Nat) (ρ:Env),H5 P i fs=true->(∀a∈x,A.ok n nb ρ a)->(∀a∈y,A.ok n nb ρ a)->
 az S L (vl P fs x y) n ρ λaa n' b=>b.bG n'/\∀(w:aC) (d:Nat) (xs hN:Array aV),xs.toList.drop i=x.map (A.den ρ m)->hN.toList.drop i=y.map (A.den ρ m)->(JU (d+1) xs hN fs).run P w= .ok (b.den aa) w
 |[],[],[],i,n,ρ,_,_,_=>az.pure ⟨trivial,λw d xs hN _ _=>by simp[JU,bC.den]⟩
 |f::fs,x::xs,y::hN,i,n,ρ,hf,hx,hy=>by
  cases x with
  |int k a=>
   cases y with
   |int bD b=>
    unfold H5 at hf
    simp only[bw,bne_iff_ne,ne_eq]at hf
    obtain⟨⟨hn,ax⟩,hf⟩:=hf
    have ax:=bR ax
    unfold vl
    split
    ·rename_i k2 rP
     have hu:=WS rP
     refine eI λab=>?_
     have ab:k=bD:=by simpa using ab
     subst ab
     have Mc:a.ok n ρ:=hx (.int k a) (by simp)
     have ob:b.ok n ρ:=hy (.int k b) (by simp)
     refine(UR (nb:=nb) (m:=m) fs xs hN (i+1) n ρ hf (λz hz=>hx z (eB _ hz)) (λz hz=>hy z (eB _ hz))).bind λaa n' r PV iR ⟨r1,r2⟩=>az.pure ?_
     have aw:=bC.xd (Mc.agree iR PV) (ob.agree iR PV)
     refine⟨bC.Ra aw.2 r1,λw d sd se LN LO=>?_⟩
     have KX:sd[i]?=some (.int k (a.l.den ρ)):=by
      have:=congrArg JS LN
      simpa [A.den]using this
     have KY:se[i]?=some (.int k (b.l.den ρ)):=by
      have:=congrArg JS LO
      simpa [A.den]using this
     have Fo:sd.toList.drop (i+1)=xs.map (A.den ρ m):=by
      have:=congrArg Nq LN
      simpa using this
     have aZ:se.toList.drop (i+1)=hN.map (A.den ρ m):=by
      have:=congrArg Nq LO
      simpa using this
     have Cg:(part f.type sd f.offset).run P w= .ok (.int k (a.l.den ρ)) w:=by simp[part,isAgg,fx hu,ax,KX]
     have Ch:(part f.type se f.offset).run P w= .ok (.int k (b.l.den ρ)) w:=by simp[part,isAgg,fx hu,ax,KY]
     have KO:a.l.den aa=a.l.den ρ:=by
      have:=A.oL (m:=m) (m':=m) (hx (.int k a) (by simp)) iR (λ_ _=>rfl)
      simpa [A.den]using this
     have DE:b.l.den aa=b.l.den ρ:=by
      have:=A.oL (m:=m) (m':=m) (hy (.int k b) (by simp)) iR (λ_ _=>rfl)
      simpa [A.den]using this
     simp only[JU,ne_eq,hn,not_false_eq_true,if_true,jg,Cg,Ch,jv,run_equalIn_int w d f.type k k2 _ _ hu,bC.O1,aw.1,KO,DE]
     by_cases ah:a.l.den ρ=b.l.den ρ
     ·simp[ah,r2 w d sd se Fo aZ]
     ·simp[ah]
    ·exact az.fail
   |_=>unfold vl;exact az.fail
  |str a=>
   cases y with
   |str b=>
    unfold H5 at hf
    simp only[bw,bne_iff_ne,ne_eq]at hf
    obtain⟨⟨hn,ax⟩,hf⟩:=hf
    have ax:=bR ax
    unfold vl
    split
    ·rename_i hu
     have b8:=Kg (bx (a.den ρ)=bx (b.den ρ))
     refine(iP (op:=4) (args:=[a,b]) b8.1 b8.2).bind λaQ a1 l gE FR ⟨h1,h2⟩=>?_
     have h2:l.den aQ=if bx (a.den ρ)=bx (b.den ρ)then 1 else 0:=h2
     have tf:∀z∈xs,A.ok a1 nb aQ z:=λz hz=>(hx z (eB _ hz)).ext FR gE (bO _)
     have Wz:∀z∈hN,A.ok a1 nb aQ z:=λz hz=>(hy z (eB _ hz)).ext FR gE (bO _)
     have ol:(⟨l,0,1⟩:bQ).ok a1 aQ:=⟨h1,by simp only[h2];exact b8.1,by simp only[h2];exact b8.2⟩
     refine(UR (nb:=nb) (m:=m) fs xs hN (i+1) a1 aQ hf tf Wz).bind λaa n' r PV iR ⟨r1,r2⟩=>az.pure ?_
     have aw:=bC.xd (n:=n') (ρ:=aa) (a:=⟨l,0,1⟩) (b:= .const 1) (ol.agree iR PV) (bQ.qW _ _ _)
     refine⟨bC.Ra aw.2 r1,λw d sd se LN LO=>?_⟩
     have KX:sd[i]?=some (.string (dY (bx (a.den ρ)))):=by
      have:=congrArg JS LN
      simpa [A.den]using this
     have KY:se[i]?=some (.string (dY (bx (b.den ρ)))):=by
      have:=congrArg JS LO
      simpa [A.den]using this
     have Fo:sd.toList.drop (i+1)=xs.map (A.den aQ m):=by
      have:=congrArg Nq LN
      rw[kD (g:=A.den ρ m) λz hz=>A.oL (hx z (eB _ hz)) FR (λ_ _=>rfl)]
      simpa using this
     have aZ:se.toList.drop (i+1)=hN.map (A.den aQ m):=by
      have:=congrArg Nq LO
      rw[kD (g:=A.den ρ m) λz hz=>A.oL (hy z (eB _ hz)) FR (λ_ _=>rfl)]
      simpa using this
     have Cg:(part f.type sd f.offset).run P w= .ok (.string (dY (bx (a.den ρ)))) w:=by simp[part,isAgg,fx hu,ax,KX]
     have Ch:(part f.type se f.offset).run P w= .ok (.string (dY (bx (b.den ρ)))) w:=by simp[part,isAgg,fx hu,ax,KY]
     have el:l.den aa=l.den aQ:=I.b5 iR h1
     have aD:(bC.mkEq ⟨l,0,1⟩ (.const 1)).den aa=decide (bx (a.den ρ)=bx (b.den ρ)):=by
      rw[aw.1]
      simp only[bQ.const,I.br,el,h2]
      by_cases ah:bx (a.den ρ)=bx (b.den ρ)<;>simp[ah]
     simp only[JU,ne_eq,hn,not_false_eq_true,if_true,jg,Cg,Ch,jv,run_equalIn_string w d f.type _ _ hu,bC.O1,aD,Fg]
     by_cases ah:bx (a.den ρ)=bx (b.den ρ)
     ·simp[ah,r2 w d sd se Fo aZ]
     ·simp[ah]
    ·exact az.fail
   |_=>unfold vl;exact az.fail
  |_=>unfold vl;exact az.fail
 |[],_::_,_,_,_,_,_,_,_=>by unfold vl;exact az.fail
 |[],[],y::_,_,_,_,_,_,_=>by cases y<;>(unfold vl;exact az.fail)
 |_::_,[],_,_,_,_,_,_,_=>by unfold vl;exact az.fail
 |_::_,x::_,[],_,_,_,_,_,_=>by cases x<;>(unfold vl;exact az.fail)
def J7 (P:bV) (t:bp) (l:List aV) (v:aV):Prop:=(kM P t=some true/\v= .agg l.toArray)∨(kM P t=some false/\l=[v])
theorem agZ {t:bp} {xs:Array aV} {o s:Nat} (hs:fO P t=some s) {v:aV} (h:J7 P t ((xs.toList.drop o).take s) v) (w:aC):(part t xs o).run P w= .ok v w:=by
 obtain⟨l⟩:=xs
 rcases h with⟨h1,rfl⟩|⟨h1,h2⟩
 ·simp[part,tW h1,ki hs,aBx]
 ·have h3:(⟨l⟩:Array aV)[o]?=some v:=by
   have h4:=congrArg JS h2
   rw[<-Ns]
   cases s with
   |zero=>simp at h2
   |succ s=>simpa [List.head?_take,List.head?_drop]using h4
  simp[part,tW h1,h3]
theorem ac9 {nb:Nat} {m:Nat->Nat} {g:bp->List A->List A->M bC} {D:Nat}
 (hg:∀(t:bp) (x y:List A) (n:Nat) (ρ:Env),(∀a∈x,A.ok n nb ρ a)->(∀a∈y,A.ok n nb ρ a)->az S L (g t x y) n ρ λaa n' b=>b.bG n'/\∃sd se,J7 P t (x.map (A.den ρ m)) sd/\J7 P t (y.map (A.den ρ m)) se/\∀w,(RS D t sd se).run P w= .ok (b.den aa) w):
 ∀(fs:List Field) (x y:List A) (o n:Nat) (ρ:Env),(∀a∈x,A.ok n nb ρ a)->(∀a∈y,A.ok n nb ρ a)->
 az S L (Pe P g o fs x y) n ρ λaa n' b=>b.bG n'/\∀(w:aC) (xs hN:Array aV),xs.toList.drop o=x.map (A.den ρ m)->hN.toList.drop o=y.map (A.den ρ m)->(JU D xs hN fs).run P w= .ok (b.den aa) w
 |[],x,y,o,n,ρ,_,_=>az.pure ⟨trivial,λw xs hN _ _=>by simp[JU,bC.den]⟩
 |f::fs,x,y,o,n,ρ,hx,hy=>by
  unfold Pe
  cases hs:fO P f.type with
  |none=>exact az.fail
  |some s=>
   simp only
   refine eI λhc=>?_
   simp only[bw,bne_iff_ne,ne_eq]at hc
   obtain⟨hn,ax⟩:=hc
   have ax:=bR ax
   refine(hg f.type (x.take s) (y.take s) n ρ (λa ha=>hx a (oc ha)) (λa ha=>hy a (oc ha))).bind λaQ a1 b gE fe ⟨b8,sd,se,b9,de,oH⟩=>?_
   refine(ac9 hg fs (x.drop s) (y.drop s) (o+s) a1 aQ (λa ha=>(hx a (rD ha)).ext fe gE (bO _)) (λa ha=>(hy a (rD ha)).ext fe gE (bO _))).bind λbW ff r fo eb ⟨r1,r2⟩=>az.pure ⟨bC.Ra (b8.mono fo) r1,λw xs hN gf Gf=>?_⟩
   have Cg:(part f.type xs f.offset).run P w= .ok sd w:=agZ hs (by rw[ax,gf,<-JN];exact b9) w
   have Ch:(part f.type hN f.offset).run P w= .ok se w:=agZ hs (by rw[ax,Gf,<-JN];exact de) w
   have Fo:xs.toList.drop (o+s)=(x.drop s).map (A.den aQ m):=by
    rw[<-A9,gf,<-JO]
    exact(xz (λa ha=>hx a (rD ha)) fe (λ_ _=>rfl)).symm
   have aZ:hN.toList.drop (o+s)=(y.drop s).map (A.den aQ m):=by
    rw[<-A9,Gf,<-JO]
    exact(xz (λa ha=>hy a (rD ha)) fe (λ_ _=>rfl)).symm
   have DE:b.den bW=b.den aQ:=bC.b5 eb b8
   simp only[JU,ne_eq,hn,not_false_eq_true,if_true,jg,Cg,Ch,jv,oH w,bC.O1,DE]
   cases ah:b.den aQ with
   |true=>simp[r2 w xs hN Fo aZ]
   |false=>simp
theorem ada {nb:Nat} {m:Nat->Nat}:∀(d:Nat) (t:bp) (x y:List A) (n:Nat) (ρ:Env),(∀a∈x,A.ok n nb ρ a)->(∀a∈y,A.ok n nb ρ a)->∀D,d<=D->
 az S L (H2 P d t x y) n ρ λaa n' b=>b.bG n'/\∃sd se,J7 P t (x.map (A.den ρ m)) sd/\J7 P t (y.map (A.den ρ m)) se/\∀w,(RS D t sd se).run P w= .ok (b.den aa) w
 |0,t,x,y,n,ρ,_,_,_,_=>az.fail
 |d+1,t,x,y,n,ρ,hx,hy,D,q0=>by
  obtain⟨E,rfl⟩:∃E,D=E+1:=⟨D-1,by omega⟩
  unfold H2
  split
  ·rename_i k hu
   split
   ·rename_i k1 a k2 b
    refine eI λab=>?_
    have ab:k1=k2:=by simpa using ab
    subst ab
    have Mc:a.ok n ρ:=hx (.int k1 a) (by simp)
    have ob:b.ok n ρ:=hy (.int k1 b) (by simp)
    have aw:=bC.xd Mc ob
    have iR:kM P t=some false:=by simp[kM,hu]
    refine az.pure ⟨aw.2,_,_,.inr ⟨iR,rfl⟩,.inr ⟨iR,rfl⟩,λw=>?_⟩
    simp only[A.den]
    rw[run_equalIn_int w E t k1 k _ _ hu,aw.1]
    rfl
   ·exact az.fail
  ·rename_i hu
   split
   ·rename_i a b
    have b8:=Kg (bx (a.den ρ)=bx (b.den ρ))
    have iR:kM P t=some false:=by simp[kM,hu]
    refine(iP (op:=4) (args:=[a,b]) b8.1 b8.2).bind λaQ a1 l gE FR ⟨h1,h2⟩=>az.pure ?_
    have h2:l.den aQ=if bx (a.den ρ)=bx (b.den ρ)then 1 else 0:=h2
    have ol:(⟨l,0,1⟩:bQ).ok a1 aQ:=⟨h1,by simp only[h2];exact b8.1,by simp only[h2];exact b8.2⟩
    have aw:=bC.xd (n:=a1) (ρ:=aQ) (a:=⟨l,0,1⟩) (b:= .const 1) ol (bQ.qW _ _ _)
    refine⟨aw.2,_,_,.inr ⟨iR,rfl⟩,.inr ⟨iR,rfl⟩,λw=>?_⟩
    simp only[A.den]
    rw[run_equalIn_string w E t _ _ hu,aw.1,Fg,Fg]
    simp only[bQ.const,I.br,h2]
    by_cases ah:bx (a.den ρ)=bx (b.den ρ)
    ·simp[ah]
    ·simp[ah]
   ·exact az.fail
  ·rename_i hu
   split
   ·rename_i a b
    have iR:kM P t=some false:=by simp[kM,hu]
    have Mc:a.bG n:=hx (.bool a) (by simp)
    have ob:b.bG n:=hy (.bool b) (by simp)
    refine az.pure ⟨bC.Yt Mc ob,_,_,.inr ⟨iR,rfl⟩,.inr ⟨iR,rfl⟩,λw=>?_⟩
    simp only[A.den]
    rw[run_equalIn_bool w E t _ _ hu,bC.Uv]
   ·exact az.fail
  ·rename_i fs hu
   refine eI λhg=>?_
   have hg:P.stoodInHeld t=false:=by simpa using hg
   have iR:kM P t=some true:=by simp[kM,hu]
   refine(ac9 (m:=m) (D:=E) (λt x y n ρ h1 h2=>ada d t x y n ρ h1 h2 E (by omega)) fs.toList x y 0 n ρ hx hy).mono λaa n' b _ _ ⟨h1,h2⟩=>⟨h1,_,_,.inl ⟨iR,rfl⟩,.inl ⟨iR,rfl⟩,λw=>?_⟩
   have hf:P.fieldsOf t=fs:=by simp[aBy,hu]
   rw[run_equalIn_struct w E t _ _ (by rw[hf];exact hu) hg,hf]
   exact h2 w _ _ (by simp) (by simp)
  ·exact az.fail
theorem ade {nb:Nat} {m:Nat->Nat} {t:bp} {x y:List A} (hx:∀a∈x,A.ok n nb ρ a) (hy:∀a∈y,A.ok n nb ρ a):
 az S L (Pf P t x y) n ρ λaa n' b=>b.bG n'/\P.eqGuardType P.depth t=false/\∀w,(RS 10000 t (.agg (x.map (A.den ρ m)).toArray) (.agg (y.map (A.den ρ m)).toArray)).run P w= .ok (b.den aa) w:=by
 unfold Pf
 split
 ·rename_i fs hu
  have rN:kM P t=some true:=by simp[kM,hu]
  have deep:P.eqGuardType P.depth t=false->az S L (H2 P 8 t x y) n ρ λaa n' b=>b.bG n'/\P.eqGuardType P.depth t=false/\∀w,(RS 10000 t (.agg (x.map (A.den ρ m)).toArray) (.agg (y.map (A.den ρ m)).toArray)).run P w= .ok (b.den aa) w:=λhg=>
   (ada (m:=m) 8 t x y n ρ hx hy 10000 (by decide)).mono λaa n' b _ _ ⟨h1,sd,se,h2,h3,h4⟩=>⟨h1,hg,λw=>by
     rcases h2 with⟨_,rfl⟩|⟨h2,_⟩
     ·rcases h3 with⟨_,rfl⟩|⟨h3,_⟩
      ·exact h4 w
      ·rw[rN]at h3;cases h3
     ·rw[rN]at h2;cases h2⟩
  cases hg:(H5 P 0 fs.toList&& !P.stoodInHeld t&& !P.eqGuardType P.depth t)with
  |true=>
   simp only[cond_true]
   simp only[bw,gn]at hg
   generalize (fs.toList.all λf=>match P.underlying f.type with|some (.int _)=>true|some .string=>true|_=>false)=flat
   cases flat with
   |true=>
    simp only[cond_true]
    refine(UR (nb:=nb) (m:=m) fs.toList x y 0 n ρ hg.1.1 hx hy).mono λaa n' b _ _ ⟨h1,h2⟩=>⟨h1,hg.2,λw=>?_⟩
    have hf:P.fieldsOf t=fs:=by simp[aBy,hu]
    rw[run_equalIn_struct w 9999 t _ _ (by rw[hf];exact hu) hg.1.2,hf]
    exact h2 w 9998 _ _ (by simp) (by simp)
   |false=>exact deep hg.2
  |false=>
   simp only[cond_false]
   refine eI λBJ=>deep (by simpa using BJ)
 ·exact az.fail
theorem avW {cal:fy} (c6:h8 S P gl w0 cal) (hb:cY n bl.length ρ bl) (hg:fA gl w0) (hex:∃w,Mem w0 ρ m bl w) (aA:eY n bl.length ρ m tm a.tmps) (o:Oper):
 az S L (X5 P cal gl bl tm o) n ρ (pI w0 m bl n ρ P o a):=by
 unfold X5
 split
 case h_1 x h=>
  exact az.pure ⟨(cM aA x).1,_,(cM aA x).2,λw _=> .inl (by simp[execOp,h])⟩
 case h_2 x h=>
  exact az.pure ⟨(cM aA x).1,_,(cM aA x).2,λw _=> .inl (by simp[execOp,h])⟩
 case h_3 t x h=>
  have hx:=cM aA x
  have he:execOp a.eval o=(do pure (nJ (<-ss t (a.eval x)))):=by simp only[execOp,h]
  split
  ·rename_i b off bj hv
   rw[hv]at hx
   have dp:a.eval x=(A.rk b off bj).den ρ m:=hx.2
   rw[dp]at he
   exact(awY hb t b off hx.1.2.1).mono λ_ _ _ _ _ ah=>pI.of_run he ah
  ·rename_i g off bj hv
   rw[hv]at hx
   have dp:a.eval x=(A.Ib g off bj).den ρ m:=hx.2
   rw[dp]at he
   exact(awX hg t g off hx.1.1).mono λ_ _ _ _ _ ah=>pI.of_run he ah
  ·rename_i p _ _ hv
   rw[hv]at hx
   have dp:a.eval x=p.den ρ m:=hx.2
   rw[dp]at he
   exact(arW hb hg hex t p).mono λ_ _ _ _ _ ah=>pI.of_run he ah
  ·exact az.fail
 case h_4 x h=>
  have hx:=cM aA x
  unfold agw
  split<;>first
   |exact az.fail
   |(rename_i hv
     rw[hv]at hx
     refine az.pure ⟨hx.1,_,rfl,λw _=> .inl ?_⟩
     have dp:=hx.2
     simp only[V.rel,W.den,A.den]at dp
     simp[execOp,h,dp,W.den,A.den])
 case h_5 c x y h=>
  have hc:=cM aA c
  split
  ·rename_i v hv
   rw[hv]at hc
   have aw:a.eval c= .bool v:=hc.2
   cases v with
   |true=>exact az.pure ⟨(cM aA x).1,_,(cM aA x).2,λw _=> .inl (by simp[execOp,h,aw,asBool])⟩
   |false=>exact az.pure ⟨(cM aA y).1,_,(cM aA y).2,λw _=> .inl (by simp[execOp,h,aw,asBool])⟩
  ·exact az.fail
 case h_6 op t x y t' h=>
  have hx:=cM aA x
  have hy:=cM aA y
  unfold ab0
  split
  ·rename_i k p bD q tQ nT
   rw[tQ]at hx;rw[nT]at hy
   have aw:a.eval x= .int k (p.l.den ρ):=hx.2
   have aD:a.eval y= .int bD (q.l.den ρ):=hy.2
   refine(ak0 (nb:=bl.length) (m:=m) P t hx.1 hy.1).bind λaQ a1 r _ _ ⟨h1,h2⟩=>az.pure ⟨h1,_,rfl,λw _=> .inl ?_⟩
   have ja:(eqGuard op t x y (.int k (p.l.den ρ)) (.int bD (q.l.den ρ))).run P w= .ok () w:=by cases op<;>simp[eqGuard]
   simp only[execOp,h,aw,aD]
   simp[ja,h2,W.den]
  ·rename_i p q tQ nT
   rw[tQ]at hx;rw[nT]at hy
   have aw:a.eval x= .agg (p.map (A.den ρ m)).toArray:=hx.2
   have aD:a.eval y= .agg (q.map (A.den ρ m)).toArray:=hy.2
   split
   ·rename_i b heq
    obtain⟨s1,g1,r1⟩:=adb (m:=m) heq hx.1 hy.1
    refine az.pure ⟨s1,_,rfl,λw _=> .inl ?_⟩
    simp only[execOp,h,aw,aD]
    simp[run_eqGuard_agg w .eql t x y _ _ g1,run_eql_struct,r1,W.den,A.den]
   ·rename_i b heq
    obtain⟨s1,g1,r1⟩:=adb (m:=m) heq hx.1 hy.1
    refine az.pure ⟨bC.AU s1,_,rfl,λw _=> .inl ?_⟩
    simp only[execOp,h,aw,aD]
    simp[run_eqGuard_agg w .neq t x y _ _ g1,run_neq_struct,r1,W.den,A.den,bC.Ac]
   ·rename_i heq
    refine(ade (m:=m) (t:=t) hx.1 hy.1).bind λaa n' r _ _ ⟨r1,g1,r2⟩=>az.pure ⟨r1,_,rfl,λw _=> .inl ?_⟩
    simp only[execOp,h,aw,aD]
    simp[run_eqGuard_agg w .eql t x y _ _ g1,run_eql_struct,r2,W.den,A.den]
   ·rename_i heq
    refine(ade (m:=m) (t:=t) hx.1 hy.1).bind λaa n' r _ _ ⟨r1,g1,r2⟩=>az.pure ⟨bC.AU r1,_,rfl,λw _=> .inl ?_⟩
    simp only[execOp,h,aw,aD]
    simp[run_eqGuard_agg w .neq t x y _ _ g1,run_neq_struct,r2,W.den,A.den,bC.Ac]
   ·exact az.fail
  ·rename_i p q tQ nT
   rw[tQ]at hx;rw[nT]at hy
   have aw:a.eval x= .string (dY (bx (p.den ρ))):=hx.2
   have aD:a.eval y= .string (dY (bx (q.den ρ))):=hy.2
   have he:execOp a.eval o=(do pure (nJ (<-(do eqGuard op t x y (.string (dY (bx (p.den ρ)))) (.string (dY (bx (q.den ρ))));binOp op t (.string (dY (bx (p.den ρ)))) (.string (dY (bx (q.den ρ)))):Sem aV)))):=by simp only[execOp,h,aw,aD]
   exact(axs (op:=op) (t:=t) (x:=x) (y:=y) (w0:=w0) (m:=m) hx.1 hy.1).mono λ_ _ _ _ _ ah=>pI.of_run he ah
  ·rename_i p q tQ nT
   rw[tQ]at hx;rw[nT]at hy
   have aw:a.eval x= .bool (p.den ρ):=hx.2
   have aD:a.eval y= .bool (q.den ρ):=hy.2
   have ja:(eqGuard op t x y (.bool (p.den ρ)) (.bool (q.den ρ))).run P=λw=> .ok () w:=by funext w;cases op<;>simp[eqGuard]
   split
   ·rename_i hu
    refine az.pure ⟨bC.Yt hx.1 hy.1,_,rfl,λw _=> .inl ?_⟩
    simp only[execOp,h,aw,aD]
    simp[ja,run_eql_bool w t _ _ hu,W.den,A.den,bC.Uv]
   ·rename_i hu
    refine az.pure ⟨bC.AU (bC.Yt hx.1 hy.1),_,rfl,λw _=> .inl ?_⟩
    simp only[execOp,h,aw,aD]
    simp[ja,run_neq_bool w t _ _ hu,W.den,A.den,bC.Uv,bC.Ac]
   ·exact az.fail
  ·exact az.fail
 case h_7 op t x h=>
  have hx:=cM aA x
  unfold aim
  split
  ·rename_i b hv
   rw[hv]at hx
   have aw:a.eval x= .bool (b.den ρ):=hx.2
   refine az.pure ⟨bC.AU hx.1,_,rfl,λw _=> .inl ?_⟩
   simp[execOp,h,aw,Op.unary,W.den,A.den,bC.Ac]
  ·rename_i k p hv
   rw[hv]at hx
   have aw:a.eval x= .int k (p.l.den ρ):=hx.2
   refine eI λhc=>?_
   simp only[bw,gn,decide_eq_true_eq]at hc
   have hp:=hx.1
   have acb:=bQ.ok.agree (n':=n) hp (agree.refl n ρ) (bO _)
   have b9:=acb.2
   have aD:((I.const (two k-1)).sub p.l).den ρ=two k-1-p.l.den ρ:=by rw[I.lP,I.br]
   refine az.pure ⟨⟨I.wh (I.dd _ _) acb.1,by simp only[aD];omega,by simp only[aD];omega⟩,_,rfl,λw _=> .inl ?_⟩
   have key:k.wrap (uX k.bits (if k.signed=true then-1 else k.max)^^^uX k.bits (p.l.den ρ)).toNat=two k-1-p.l.den ρ:=by
    have ab:=hc.1.1
    obtain⟨X,b3⟩:=sn (show 0<=p.l.den ρ by omega)
    have hlt:X<2^k.bits:=by
     have:(X:Int)<2^k.bits:=by rw[<-AZ,<-b3];omega
     exact_mod_cast this
    have jr:(uX k.bits (if k.signed=true then-1 else k.max))=BitVec.allOnes k.bits:=by
     cases k<;>simp[No]at ab<;>rfl
    rw[jr,BitVec.allOnes_xor,BitVec.toNat_not,b3,RO]
    have cj:((X:Int)% ((2^k.bits:Nat):Int)).toNat=X:=by
     rw[p9 (by omega) (by exact_mod_cast hlt)];rfl
    rw[cj,Rs]
    have ae:half k=0:=by simp[half,ab]
    have h2:two k=((2^k.bits:Nat):Int):=by rw[AZ];simp
    rw[ae,h2,Int.add_zero,Int.sub_zero,p9 (by omega) (by omega)]
    omega
   simp only[execOp,h,aw,Op.unary,RQ,W.den,A.den,aD]
   simp at key
   simp[key]
  ·rename_i k p hv
   rw[hv]at hx
   have aw:a.eval x= .int k (p.l.den ρ):=hx.2
   have b9:=bQ.ok.agree (n':=n) hx.1 (agree.refl n ρ) (bO _)
   have de:=b9.2
   have aD:(p.l.smul (-1)).den ρ=-p.l.den ρ:=by rw[I.nO];omega
   refine(EB (k:=k) (x:=⟨p.l.smul (-1),-p.hi,-p.lo⟩) ⟨I.wg b9.1,by simp only[aD];omega,by simp only[aD];omega⟩).bind λaQ a1 r _ _ ⟨h1,h2⟩=>az.pure ⟨h1,_,rfl,λw _=> .inl ?_⟩
   simp only[aD]at h2
   simp[execOp,h,aw,Op.unary,Op.intArith,W.den,A.den,h2]
  ·exact az.fail
 case h_8 s d x h=>
  have hx:=cM aA x
  unfold acR
  split
  ·rename_i bD p hu ab hv
   rw[hv]at hx
   have aw:a.eval x= .int bD (p.l.den ρ):=hx.2
   split
   ·rename_i c hc
    refine eI λhsz=>?_
    have hl:(RR c).data.toList.length<=nX:=by
     have:=fP hsz
     have h2:(RR c).data.toList.length=(RR c).size:=by simp
     unfold nX;omega
    refine az.pure ⟨⟨I.dd _ _,by rw[I.br];exact yE _,by rw[I.br];exact wO hl⟩,_,rfl,λw _=> .inl ?_⟩
    simp[execOp,h,aw,convert,fx hu,fx ab,Conv.intToString,W.den,A.den,I.br,AT,dY,I.km hc]
   ·exact az.fail
  ·split
   rotate_left
   ·exact az.fail
   rename_i k bD p hu ab hv
   rw[hv]at hx
   have aw:a.eval x= .int bD (p.l.den ρ):=hx.2
   refine(EB (k:=k) hx.1).bind λaQ a1 r _ _ ⟨h1,h2⟩=>az.pure ⟨h1,_,rfl,λw _=> .inl ?_⟩
   simp[execOp,h,aw,convert,fx hu,fx (WS ab),Conv.intToInt,W.den,A.den,h2]
 case h_9 t x bj h=>
  have hx:=cM aA x
  have hi:=cM aA bj
  split
  ·rename_i k i hv
   rw[hv]at hi
   have aw:a.eval bj= .int k (i.l.den ρ):=hi.2
   have he:execOp a.eval o=(do pure (nJ (<-wK t (a.eval x) (.int k (i.l.den ρ))))):=by simp only[execOp,h,aw]
   exact(aqT hx.1 hx.2 hi.1).mono λ_ _ _ _ _ ah=>pI.of_run he ah
  ·exact az.fail
 case h_10 t x bj h=>
  have hx:=cM aA x
  have hi:=cM aA bj
  split
  ·rename_i s hv
   rw[hv]at hx
   have aw:a.eval x= .string (dY (bx (s.den ρ))):=hx.2
   split
   ·rename_i i hu DQ
    obtain⟨k,ab,_⟩:=Gk (m:=m) (bl:=bl) DQ hi.2 hi.1
    have he:execOp a.eval o=(do pure (nJ (<-Zu t (.string (dY (bx (s.den ρ)))) (.int k (i.den ρ))))):=by simp only[execOp,h,aw,ab]
    exact(axt (w0:=w0) (m:=m) hu hx.1).mono λ_ _ _ _ _ ah=>pI.of_run he ah
   ·exact az.fail
  split
  ·rename_i l i len e hv DQ Ij
   rw[hv]at hx
   have aw:a.eval x= .agg (l.map (A.den ρ m)).toArray:=hx.2
   have aD:∃k,a.eval bj= .int k i:=by
    unfold OY at DQ
    split at DQ
    ·rename_i k p nT
     rw[nT]at hi
     have:a.eval bj= .int k (p.l.den ρ):=hi.2
     exact⟨k,by rw[this,I.km DQ]⟩
    ·cases DQ
   obtain⟨k,aD⟩:=aD
   split
   ·rename_i s hs
    refine eI λhc=>?_
    simp only[bw,decide_eq_true_eq]at hc
    refine(agY (w0:=w0) (m:=m) (bl:=bl) hx.1).mono λaQ a1 v _ _ ⟨bm,val,cb,cJ⟩=>⟨bm,val,cb,λw hw=> .inl ?_⟩
    have:=cJ w hw
    simp[execOp,h,aw,aD,Zu,asIntOf,fx (yB Ij),hc,ki hs,this]
   ·exact az.fail
  ·exact az.fail
 case h_11 s x f h=>
  have hx:=cM aA x
  split
  ·rename_i b off fd hv hf
   rw[hv]at hx
   have aw:a.eval x= .pointer (some ⟨m b,off,none⟩):=hx.2
   obtain⟨fs,hu,Lm⟩:=UU hf
   split
   ·rename_i k hs
    refine az.pure ⟨hx.1,_,rfl,λw _=> .inl ?_⟩
    simp[execOp,h,aw,aiU,fx hu,Lm,qb,fieldPlace,ki hs,kF,W.den,A.den]
   ·exact az.fail
  ·exact az.fail
 case h_12 s x f h=>
  have hx:=cM aA x
  split
  ·rename_i l fd hv hf
   rw[hv]at hx
   have aw:a.eval x= .agg (l.map (A.den ρ m)).toArray:=hx.2
   obtain⟨fs,hu,Lm⟩:=UU hf
   refine(agY (w0:=w0) (m:=m) (bl:=bl) hx.1).mono λaQ a1 v _ _ ⟨bm,val,cb,cJ⟩=>⟨bm,val,cb,λw hw=> .inl ?_⟩
   have:=cJ w hw
   simp[execOp,h,aw,Instr.field,asAgg,fx hu,Lm,this]
  ·exact az.fail
 case h_13 x i h=>
  have hx:=cM aA x
  split
  ·rename_i l hv
   rw[hv]at hx
   have aw:a.eval x= .tuple (l.map (W.den ρ m)).toArray:=hx.2
   split
   ·rename_i u hu
    refine az.pure ⟨hx.1 u (e8 hu),_,rfl,λw _=> .inl ?_⟩
    simp[execOp,h,aw,aiT,hu]
   ·exact az.fail
  ·exact az.fail
 case h_14 t x lo hi h=>
  have hx:=cM aA x
  split
  ·rename_i s hv hu
   rw[hv]at hx
   have aw:a.eval x= .string (dY (bx (s.den ρ))):=hx.2
   have he:execOp a.eval o=(do pure (nJ (<-ue t (.string (dY (bx (s.den ρ)))) (lo.map a.eval) (hi.map a.eval) none))):=by simp only[execOp,h,aw];rfl
   exact(axv (w0:=w0) (m:=m) hu hx.1 aA).mono λ_ _ _ _ _ ah=>pI.of_run he ah
  have key:∀(y:Option rC) (c:Option Int),QH tm y=some c->∃f:Int->aV,(∀c,∃k,f c= .int k c)/\y.map a.eval=c.map f:=by
   intro y c hy
   unfold QH at hy
   cases y with
   |none=>simp at hy;subst hy;exact⟨λc=> .int .i64 c,λc=>⟨_,rfl⟩,rfl⟩
   |some y=>
    simp only at hy
    have hi:=cM aA y
    unfold OY at hy
    split at hy
    ·rename_i eR ah
     split at ah
     ·rename_i k p nT
      simp only[bb]at hy;subst hy
      rw[nT]at hi
      have:a.eval y= .int k (p.l.den ρ):=hi.2
      exact⟨λc=> .int k c,λc=>⟨_,rfl⟩,by simp[this,I.km ah]⟩
     ·cases ah
    ·cases hy
  split
  ·rename_i l ae h1 h2
   obtain⟨ads,adt,adu⟩:=key lo l h1
   obtain⟨aDe,Pj,adk⟩:=key hi ae h2
   unfold ahW
   split
   ·rename_i b off Gv e hv Ij
    rw[hv]at hx
    have aw:a.eval x= .pointer (some ⟨m b,off,none⟩):=hx.2
    split
    ·rename_i s hs
     refine eI λhc=>?_
     simp only[bw,decide_eq_true_eq]at hc
     refine az.pure ⟨hx.1,_,rfl,λw _=> .inl ?_⟩
     have qn:(pG false Gv Gv (lo.map a.eval) (hi.map a.eval) none).run P w= .ok ((l.getD 0).toNat,(ae.getD Gv).toNat,Gv) w:=by
      rw[adu,adk]
      have c1:∀(k:dO) (i:Int) (y:Nat) (di:BoundsCode),0<=i->i<=y->(Nr (.int k i) y di).run P w= .ok i.toNat w:=λk i y di cz cw=>by
       simp[Nr,asIntOf,cz,cw]
      cases l with
      |none=>
       cases ae with
       |none=>simp[pG]
       |some bd=>
        obtain⟨bD,om⟩:=Pj bd
        simp only[Zw,EL]at hc
        simp[pG,om,c1 bD bd Gv _ (by omega) (by omega)]
      |some l'=>
       obtain⟨k1,nR⟩:=adt l'
       cases ae with
       |none=>
        simp only[Zw,EL]at hc
        simp[pG,nR,c1 k1 l' Gv _ (by omega) (by omega)]
       |some bd=>
        obtain⟨bD,om⟩:=Pj bd
        simp only[EL]at hc
        simp[pG,om,nR,c1 bD bd Gv _ (by omega) (by omega),c1 k1 l' bd.toNat _ (by omega) (by omega)]
     simp only[execOp,h,aw,aBz,ue]
     simp[fx (yB Ij),qb,qn,ki hs,kF,W.den,A.den]
     intro ah
     have h3:=hc.2
     omega
    ·exact az.fail
   ·rename_i b off len cap hv Ij
    rw[hv]at hx
    have aw:a.eval x= .slice (some ⟨m b,off,none⟩) len cap:=hx.2
    split
    ·rename_i e xq
     split
     ·rename_i s hs
      refine eI λhc=>?_
      simp only[bw,decide_eq_true_eq]at hc
      refine az.pure ⟨hx.1,_,rfl,λw _=> .inl ?_⟩
      have qn:(pG true len cap (lo.map a.eval) (hi.map a.eval) none).run P w= .ok ((l.getD 0).toNat,(ae.getD len).toNat,cap) w:=by
       rw[adu,adk]
       have c1:∀(k:dO) (i:Int) (y:Nat) (di:BoundsCode),0<=i->i<=y->(Nr (.int k i) y di).run P w= .ok i.toNat w:=λk i y di cz cw=>by
        simp[Nr,asIntOf,cz,cw]
       cases l with
       |none=>
        cases ae with
        |none=>simp[pG]
        |some bd=>
         obtain⟨bD,om⟩:=Pj bd
         simp only[Zw,EL]at hc
         simp[pG,om,c1 bD bd cap _ (by omega) (by omega)]
       |some l'=>
        obtain⟨k1,nR⟩:=adt l'
        cases ae with
        |none=>
         simp only[Zw,EL]at hc
         simp[pG,nR,c1 k1 l' len _ (by omega) (by omega)]
        |some bd=>
         obtain⟨bD,om⟩:=Pj bd
         simp only[EL]at hc
         simp[pG,om,nR,c1 bD bd cap _ (by omega) (by omega),c1 k1 l' bd.toNat _ (by omega) (by omega)]
      simp only[execOp,h,aw,aBz,ue]
      simp[fx (iT xq),Zv,qn,ki hs,kF,W.den,A.den]
      intro ah
      have h3:=hc.2
      omega
     ·exact az.fail
    ·exact az.fail
   ·exact az.fail
  ·exact az.fail
 case h_15 c h=>
  split
  ·rename_i f hc
   split
   ·rename_i g VP
    have ta:∀v∈c.args.toList.map (cl tm),V.ok n bl.length ρ v:=λv hv=>by
     obtain⟨x,_,rfl⟩:=List.mem_map.1 hv
     exact(cM aA x).1
    refine(c6 f g VP L n ρ m bl _ _ hb hex ta (NI (xs:=c.args.toList) aA)).mono λaQ a1 v _ _ ⟨bm,val,cb,cJ⟩=>⟨bm,val,cb,λw hw=>?_⟩
    have he:=Yj (a:=a) hc o h
    have ha:(c.args.toList.map a.eval).toArray=c.args.map a.eval:=by
     rw[<-zG]
    have et:=cJ w hw
    rw[ha]at et
    rcases et with et|⟨et,kg⟩
    ·exact .inl (by rw[he];exact et)
    ·exact .inr ⟨f,_,by rw[he];exact et,kg⟩
   ·exact az.fail
  ·rename_i hc
   split
   ·rename_i x t gf pf
    have hx:=cM aA x
    split
    ·rename_i s hv hu
     rw[hv]at hx
     have aw:a.eval x= .string (dY (bx (s.den ρ))):=hx.2
     have b2:c.args=#[x]:=by rw[<-lN (xs:=c.args),gf]
     have a2:c.argTypes=#[t]:=by rw[<-lN (xs:=c.argTypes),pf]
     have he:execOp a.eval o=(do pure (nJ (<-JT #[t] o.type #[.string (dY (bx (s.den ρ)))]))):=by
      simp[execOp,h,resolve,hc,b2,a2,aw,invoke,builtin]
     exact(axu (w0:=w0) (m:=m) hu hx.1).mono λ_ _ _ _ _ ah=>pI.of_run he ah
    split
    ·rename_i b off len cap e hv hs
     rw[hv]at hx
     have aw:a.eval x= .slice (some ⟨m b,off,none⟩) len cap:=hx.2
     refine az.pure ⟨bQ.qW _ _ _,_,rfl,λw _=> .inl ?_⟩
     have b2:c.args=#[x]:=by rw[<-lN (xs:=c.args),gf]
     have a2:c.argTypes=#[t]:=by rw[<-lN (xs:=c.argTypes),pf]
     simp[execOp,h,resolve,hc,b2,a2,aw,invoke,builtin,JT,fx (iT hs),goInt,W.den,A.den,bQ.const,I.br]
    ·rename_i b len lo e hv hs
     rw[hv]at hx
     obtain⟨oK,_,aw⟩:=hx.2
     refine az.pure ⟨bQ.qW _ _ _,_,rfl,λw _=> .inl ?_⟩
     have b2:c.args=#[x]:=by rw[<-lN (xs:=c.args),gf]
     have a2:c.argTypes=#[t]:=by rw[<-lN (xs:=c.argTypes),pf]
     simp[execOp,h,resolve,hc,b2,a2,aw,invoke,builtin,JT,fx (iT hs),goInt,W.den,A.den,bQ.const,I.br]
    ·exact az.fail
   ·exact az.fail
  ·exact az.fail
 case h_16 f first kH h=>
  split
  ·rename_i l hf hl
   obtain⟨g1,g2⟩:=atD (m:=m) hl (λv hv=>by obtain⟨x,_,rfl⟩:=List.mem_map.1 hv;exact(cM aA x).1) (NI (xs:=kH.toList) aA)
   have aeE:first=#[]:=by rw[<-lN (xs:=first),hf]
   have DP:kH.map a.eval=(l.map (A.den ρ m)).toArray:=by rw[<-g2,<-zG]
   refine az.pure ⟨g1,_,rfl,λw _=> .inl ?_⟩
   simp only[execOp,h,DP,aeE]
   simp[Instr.makeFunc]
  ·exact az.fail
 case h_17 t parts h=>
  split
  ·rename_i l hl
   obtain⟨g1,g2⟩:=ak8 (n:=n) (nb:=bl.length) (ρ:=ρ) (m:=m) (vals:=(parts.map λ(i,x)=>(i,a.eval x)).toList) hl (by
    rw[zG]
    generalize parts.toList=kq
    induction kq with
    |nil=>exact trivial
    |cons p r ih=>exact⟨⟨rfl,cM aA p.2⟩,ih⟩)
   refine az.pure ⟨g1,_,rfl,λw _=> .inl ?_⟩
   simp only[execOp,h]
   simp[run_build w t _ _ g2,W.den]
  ·exact az.fail
 case h_18 t x h=>
  have hx:=cM aA x
  split
  ·rename_i b len lo k e hv ha
   rw[hv]at hx
   refine eI λhc=>az.pure ⟨hx.1,_,rfl,λw _=> .inl ?_⟩
   obtain⟨c,hL,hc2⟩:=hx.2
   have hle:¬len<k:=by have:=fP hc;omega
   simp only[execOp,h]
   rw[hc2]
   simp[ai4,fx (yB ha),hle,W.den,A.den]
  ·rename_i b off len cap k e hv ha
   rw[hv]at hx
   refine eI λhc=>az.pure ⟨by simpa [V.ok,W.ok,A.ok]using hx.1,_,rfl,λw _=> .inl ?_⟩
   have hle:¬len<k:=by have:=fP hc;omega
   have aw:a.eval x=_:=hx.2
   simp only[execOp,h]
   rw[aw]
   simp[ai4,fx (yB ha),hle,W.den,A.den]
  ·exact az.fail
 case h_19=>exact az.fail
end
end Go.ch
namespace Go.ch
open M
noncomputable def OS (c:aN) (code i:I) (j:Nat):M A:=
 match c with
 | .int k lo hi=>bind (fV 21 [code,i,.const j] lo hi) λl=>pure (.int k ⟨l,lo,hi⟩)
 | .str=>bind (fV 21 [code,i,.const j] 0 qR) λl=>pure (.str l)
 | .bool=>bind (fV 21 [code,i,.const j] 0 1) λl=>pure (.bool (.mkEq ⟨l,0,1⟩ (.const 1)))
noncomputable def OT (code i:I):Nat->List aN->M (List A)
 |_,[]=>pure []
 |j,c::r=>bind (OS c code i j) λa=>bind (OT code i (j+1) r) λl=>pure (a::l)
noncomputable def Yf (c:aN) (code:I):Nat->I->M (List A)
 |0,_=>pure []
 |q+1,i=>bind (gS 21 [code,i]) λ_=>bind (OS c code i 0) λa=>bind (Yf c code q (i.add (.const 1))) λl=>pure (a::l)
noncomputable def UQ (P:bV) (bl:List aE) (t:bp) (b bz:Nat) (o i:I) (j:Nat):M V:=
 match bl[b]? with
 |some ([.rows sh off code cap kind],_)=>cond (dP 0 kind&&aM bz sh.length&&I.beq o off) (bind (gS 21 [code,i]) λ_=>match kM P t,fO P t with
  |some true,some k=>cond (cK (j+k) sh.length) (bind (OT code i j ((sh.drop j).take k)) λl=>pure (.w (.agg l))) (match sh,j with
   |[c],0=>bind (Yf c code k i) λl=>pure (.w (.agg l))
   |_,_=>fail)
  |some false,_=>match sh[j]? with
   |some c=>bind (OS c code i j) λa=>pure (.w (.one a))
   |none=>fail
  |_,_=>fail) fail
 |_=>fail
def YB (P:bV) (t:bp) (b bz:Nat) (o ro len:I) (bj:I):M V:=
 match j2 P t with
 |some e=>match fO P e with
  |some s=>cond (aM s bz) (bind (gS 30 [bj,len]) λ_=>pure (.w (.one (.ep b bz o (ro.add bj) 0)))) fail
  |none=>fail
 |none=>fail
def Hs (op:Nat) (ls:List I):M Unit:=λn k=> .w2 op ls (k () n)
def YD (P:bV) (t:bp) (b bz:Nat) (o ro len cap:I) (x y:I):M V:=
 match j2 P t with
 |some e=>match fO P e with
  |some s=>cond (aM s bz) (bind (gS 32 [x,y,len]) λ_=>match x.eN with
   |some 0=>pure (.w (.one (.sl b bz o ro y cap)))
   |_=>bind (Hs 68 [len,cap]) λ_=>bind (fV 33 [ro,x,cap] 0 9223372036854775808) λr=>pure (.w (.one (.sl b bz o r (y.sub x) (cap.sub x))))) fail
  |none=>fail
 |none=>fail
def C8 (tm:List V) (d:I):Option rC->Option I
 |none=>some d
 |some x=>tR (cl tm x)
def Od:List aN->Bool
 |[.int .u8 lo hi]=>decide (lo=0)&&decide (hi=255)
 |_=>false
noncomputable def YC (bl:List aE) (b bz:Nat) (o ro len:I):M V:=
 match bl[b]? with
 |some ([.rows sh off code cap kind],_)=>cond (dP 0 kind&&aM bz 1&&I.beq o off&&Od sh) (bind (gS 35 [code,ro,ro.add len]) λ_=>bind (fV 34 [code,ro,ro.add len] 0 qR) λl=>pure (.w (.one (.str l)))) fail
 |_=>fail
def Ob {α:Type} (b:bC) (x y:M α):M α:=λn k=>match b with
 | .lit v=>cond v (x n k) (y n k)
 |b=> .uq b (x n k) (y n k)
def af7 (k:dO) (x y:bQ):M V:=Ob (.mkLt y x) (pure (.w (.one (.int k y)))) (pure (.w (.one (.int k x))))
def af4 (k:dO) (x y:bQ):M V:=Ob (.mkLt x y) (pure (.w (.one (.int k y)))) (pure (.w (.one (.int k x))))
def rH:List A->Option (List Bool)
 |[]=>some []
 | .bool (.lit b)::r=>match rH r with|some l=>some (b::l)|none=>none
 |_::_=>none
def BT:Nat->List Bool->List UInt8
 |_,[]=>[]
 |i,b::r=>cond b (zz i::BT (i+1) r) (BT (i+1) r)
def Yv (bl:List aE) (b off:Nat) (bj:bQ):M V:=
 match bl[b]? with
 |some (cs,_)=>match rH ((cs.drop off).take (bj.hi.toNat+1))with
  |some l=>cond (aM l.length (bj.hi.toNat+1)&&cK bj.hi.toNat 255&&decide (0<=bj.lo)&&cc cs) (bind (fV 43 [.const (j7 (BT 0 l)),bj.l] 0 1) λr=>pure (.w (.one (.bool (.mkEq ⟨r,0,1⟩ (.const 1)))))) fail
  |none=>fail
 |none=>fail
noncomputable def Yg (P:bV) (bl:List aE) (tm:List V) (o:Oper):Option (M V):=
 match o.op with
 | .load t x=>match cl tm x with
  | .w (.one (.ep b bz o i j))=>some (UQ P bl t b bz o i j)
  | .w (.one (.rk b off bj))=>match P.underlying t with
   |some .bool=>some (Yv bl b off bj)
   |_=>none
  |_=>none
 | .nilCheck x=>match cl tm x with
  | .w (.one (.ep b bz o i j))=>some (pure (.w (.one (.ep b bz o i j))))
  |_=>none
 | .indexAddr t x bj=>match cl tm x,cl tm bj with
  | .w (.one (.sl b bz o ro len cap)),.w (.one (.int _ i))=>some (YB P t b bz o ro len i.l)
  |_,_=>none
 | .sliceToArrayPointer t x=>match cl tm x,vb P t with
  | .w (.one (.sl b bz o ro len cap)),some (k,_)=>some (cond (dP 0 k) (bind (gS 30 [.const ((k:Int)-1),len]) λ_=>pure (.w (.one (.ep b bz o ro 0)))) fail)
  |_,_=>none
 | .fieldAddr s x f=>match cl tm x,KP P s f with
  | .w (.one (.ep b bz o i j)),some fd=>match fO P fd.type with
   |some (_+1)=>some (pure (.w (.one (.ep b bz o i (j+fd.offset)))))
   |_=>none
  |_,_=>none
 | .slice t x lo hi none=>match cl tm x with
  | .w (.one (.sl b bz o ro len cap))=>match C8 tm (.const 0) lo,C8 tm len hi with
   |some p,some q=>some (YD P t b bz o ro len cap p q)
   |_,_=>none
  |_=>none
 | .convert s d x=>match cl tm x,j2 P s,P.underlying d with
  | .w (.one (.sl b bz o ro len cap)),some e,some .string=>match P.underlying e with
   |some (.int .u8)=>some (YC bl b bz o ro len)
   |_=>none
  |_,_,_=>none
 | .call c=>match c.callee with
  | .builtin .len=>match c.args.toList,c.argTypes.toList with
   |[x],[t]=>match cl tm x,j2 P t with
    | .w (.one (.sl b bz o ro len cap)),some _=>some (pure (.w (.one (.int .i64 ⟨len,0,9223372036854775807⟩))))
    |_,_=>none
   |_,_=>none
  | .builtin .min=>match c.args.toList with
   |[x,y]=>match cl tm x,cl tm y with
    | .w (.one (.int k p)),.w (.one (.int bD q))=>cond (decide (k=bD)) (some (af7 k p q)) none
    |_,_=>none
   |_=>none
  | .builtin .max=>match c.args.toList with
   |[x,y]=>match cl tm x,cl tm y with
    | .w (.one (.int k p)),.w (.one (.int bD q))=>cond (decide (k=bD)) (some (af4 k p q)) none
    |_,_=>none
   |_=>none
  |_=>none
 | .binOp op t x y _=>match j2 P t,cl tm x,cl tm y with
  |some _,.w (.one (.sl b bz o ro len cap)),.w (.one (.con (.slice none 0 0)))=>match op with
   | .eql=>some (bind (Hs 53 [cap,len]) λ_=>pure (.w (.one (.bool (.lt cap (.const 0))))))
   | .neq=>some (bind (Hs 53 [cap,len]) λ_=>pure (.w (.one (.bool (.mkNot (.lt cap (.const 0)))))))
   |_=>none
  |_,_,_=>none
 |_=>none
def N4 (bl:List aE) (b off:Nat):Option (List aN×I×Nat):=
 match bl[b]? with
 |some ([.rows sh o code cap kind],_)=>match cap.eN with
  |some c=>cond (aM off 0&&dP 0 kind&&I.beq o (.const 0)&&decide (0<=c)) (some (sh,code,c.toNat)) none
  |none=>none
 |_=>none
noncomputable def N0 (code:I) (sh:List aN):Nat->Nat->M (List A)
 |_,0=>pure []
 |i,k+1=>bind (OT code (.const i) 0 sh) λa=>bind (N0 code sh (i+1) k) λl=>pure (a++l)
def YE (P:bV) (t:bp) (b bz:Nat) (o ro len cap:I) (x y z:I):M V:=
 match j2 P t with
 |some e=>match fO P e with
  |some s=>cond (aM s bz) (bind (cond (I.beq z len) (gS 78 [x,y,z,cap]) (gS 64 [x,y,z,len])) λ_=>bind (fV 33 [ro,x,z] 0 9223372036854775808) λr=>pure (.w (.one (.sl b bz o r (y.sub x) (z.sub x))))) fail
  |none=>fail
 |none=>fail
noncomputable def Q3 (P:bV) (bl:List aE) (tm:List V) (o:Oper):Option (M V):=
 match o.op with
 | .indexAddr t x bj=>match cl tm x,cl tm bj with
  | .w (.one (.ptr b off)),.w (.one (.int _ i))=>match N4 bl b off,vb P t with
   |some (sh,code,c),some (len,e)=>match fO P e with
    |some s=>cond (aM s sh.length&&aM len c) (some (bind (gS 30 [i.l,.const len]) λ_=>pure (.w (.one (.ep b s (.const 0) i.l 0))))) none
    |none=>none
   |_,_=>none
  |_,_=>none
 | .load t x=>match cl tm x with
  | .w (.one (.ptr b off))=>match N4 bl b off,kM P t,fO P t with
   |some (sh,code,c),some true,some k=>cond (aM k (c*sh.length)) (some (bind (gS 31 [code,.const c]) λ_=>bind (N0 code sh 0 c) λl=>pure (.w (.agg l)))) none
   |_,_,_=>none
  |_=>none
 | .slice t x lo (some hi) (some ft)=>match cl tm x with
  | .w (.one (.sl b bz cD ro len cap))=>match C8 tm (.const 0) lo,tR (cl tm hi),tR (cl tm ft)with
   |some p,some q,some r=>some (YE P t b bz cD ro len cap p q r)
   |_,_,_=>none
  |_=>none
 | .call c=>match c.callee with
  | .builtin .len=>match c.args.toList,c.argTypes.toList with
   |[x],[t]=>match cl tm x,j2 P t with
    | .w (.one (.con (.slice none 0 0))),some _=>some (pure (.w (.one (.int .i64 (.const 0)))))
    |_,_=>none
   |_,_=>none
  |_=>none
 |_=>none
noncomputable def O3 (cal:fy) (bl:List aE) (tm:List V) (o:Oper):Option (M V):=
 match o.op with
 | .call c=>match c.callee with
  | .value (.tmp x)=>match cl tm (.tmp x)with
   | .w (.one (.con (.func (.func f) Pg Ph)))=>cond (aM Pg.size 0&&aM Ph.size 0) ((cal f).map λg=>g bl (c.args.toList.map (cl tm))) none
   |_=>none
  |_=>none
 |_=>none
noncomputable def Ck (P:bV) (cal:fy) (gl:fa) (bl:List aE) (tm:List V) (o:Oper):M V:=
 match Yg P bl tm o with
 |some x=>x
 |none=>match Q3 P bl tm o with
  |some x=>x
  |none=>match O3 cal bl tm o with
   |some x=>x
   |none=>X5 P cal gl bl tm o
theorem pK.get {cells:Array aV} {off:Nat} {sh:List aN} {rows:List (List Int)} (h:pK cells off sh rows) {i j:Nat} {row:List Int} {v:aV} (hi:rows[i]?=some row) (aK:(dr sh row)[j]?=some v):cells[off+i*sh.length+j]?=some v:=by
 obtain⟨h1,pre,post,h2,h3⟩:=h
 have h4:=U0 h1 hi aK
 rw[<-Ns,h2,List.append_assoc,JL (by omega),zB]
 ·rw[show off+i*sh.length+j-pre.length=i*sh.length+j by omega];exact h4
 ·have:=(List.getElem?_eq_some_iff.1 h4).1;omega
section
variable {S:Nat->List Int->List Int->Prop} {L:V->Env->Prop} {n:Nat} {ρ:Env} {m:Nat->Nat} {bl:List aE} {gl:fa} {w0:eG} {P:bV} {tm:List V} {a:Act}
theorem acd {α:Type} {b:bC} {x y:M α} {R:Env->Nat->α->Prop} (h1:b.den ρ=true->az S L x n ρ R) (h2:b.den ρ=false->az S L y n ρ R):az S L (Ob b x y) n ρ R:=by
 intro A k ab
 unfold Ob at ab
 cases hb:b.den ρ with
 |true=>
  cases b with
  |lit v=>simp only[bC.den]at hb;subst hb;exact h1 rfl A k ab
  |_=>exact h1 hb A k (ab.1 hb)
 |false=>
  cases b with
  |lit v=>simp only[bC.den]at hb;subst hb;exact h2 rfl A k ab
  |_=>exact h2 hb A k (ab.2 hb)
theorem Uj {nb:Nat} {c:aN} {code i:I} {j:Nat} {z:Int} {row:List Int} (kb:(ak (code.den ρ))[(i.den ρ).toNat]?=some row) (hz:row[j]?=some z) (h1:c.ga.1<=z) (h2:z<=c.ga.2):
 az S L (OS c code i j) n ρ λaa n' x=>x.ok n' nb aa/\x.den aa m=c.val z:=by
 have hf:bE 21 ([code,i,I.const (j:Nat)].map (·.den ρ))=z:=by
  simp only[c5,fD,I.br,bE,sq]
  simp[U,kb,hz]
 cases c with
 |int k lo hi=>
  refine(iP (by rw[hf];exact h1) (by rw[hf];exact h2)).bind λaQ a1 l _ _ ⟨g1,g2⟩=>az.pure ⟨⟨g1,?_,?_⟩,?_⟩
  ·rw[g2,hf];exact h1
  ·rw[g2,hf];exact h2
  ·simp only[A.den,aN.val];rw[g2,hf]
 |str=>
  refine(iP (by rw[hf];exact h1) (by rw[hf];exact h2)).bind λaQ a1 l _ _ ⟨g1,g2⟩=>az.pure ⟨⟨g1,?_,?_⟩,?_⟩
  ·rw[g2,hf];exact h1
  ·rw[g2,hf];exact h2
  ·simp only[A.den,aN.val];rw[g2,hf]
 |bool=>
  refine(iP (by rw[hf];exact h1) (by rw[hf];exact h2)).bind λaQ a1 l _ _ ⟨g1,g2⟩=>az.pure ?_
  have b0:bQ.ok a1 aQ ⟨l,0,1⟩:=⟨g1,by simp only;rw[g2,hf];exact h1,by simp only;rw[g2,hf];exact h2⟩
  have e:=bC.xd b0 (bQ.qW a1 aQ 1)
  refine⟨e.2,?_⟩
  simp only[A.den,aN.val]
  rw[e.1]
  simp only[bQ.const,I.br]
  rw[g2,hf]
theorem Um {nb:Nat} {sh:List aN} {row:List Int} (b0:cF sh row):∀{r:List aN} {n:Nat} {ρ:Env} {code i:I} {j:Nat},code.bG n->i.bG n->(ak (code.den ρ))[(i.den ρ).toNat]?=some row->(∀(x:Nat) (c:aN),r[x]?=some c->sh[j+x]?=some c)->
 az S L (OT code i j r) n ρ λaa n' l=>(∀a∈l,A.ok n' nb aa a)/\l.length=r.length/\∀(x:Nat) (a:A),l[x]?=some a->(dr sh row)[j+x]?=some (a.den aa m)
 |[],n,ρ,code,i,j,_,_,_,_=>az.pure ⟨λ_ h=>by simp at h,rfl,λx a h=>by simp at h⟩
 |c::r,n,ρ,code,i,j,BO,yZ,kb,hr=>by
  have h0:=hr 0 c rfl
  obtain⟨z,h1,h2,h3,h4⟩:=b0.get h0
  refine(Uj (nb:=nb) (m:=m) kb h1 h2 h3).bind λaQ a1 y hn ha ⟨g1,g2⟩=>?_
  refine(Um (nb:=nb) (r:=r) (n:=a1) (ρ:=aQ) (code:=code) (i:=i) (j:=j+1) b0 (BO.mono hn) (yZ.mono hn) (by rw[I.b5 ha BO,I.b5 ha yZ];exact kb) (λx c hx=>by
   have:=hr (x+1) c (by simpa using hx)
   rw[show j+1+x=j+(x+1) by omega];exact this)).bind λbW ff l fo eb ⟨k1,k2,k3⟩=>az.pure ⟨λb hb=>?_,by simp[k2],λx b hb=>?_⟩
  ·rcases List.mem_cons.1 hb with rfl|hb
   ·exact g1.ext eb fo (bO _)
   ·exact k1 b hb
  ·cases x with
   |zero=>
    simp only[wJ,bb]at hb
    subst hb
    rw[A.oL g1 eb (λ_ _=>rfl),g2];exact h4
   |succ x=>
    have:=k3 x b (by simpa using hb)
    rw[show j+(x+1)=j+1+x by omega];exact this
theorem ahq {nb:Nat} {c:aN} {code:I}:∀{q n:Nat} {ρ:Env} {i:I},(∀row∈ak (code.den ρ),cF [c] row)->code.bG n->i.bG n->
 az S L (Yf c code q i) n ρ λaa n' l=>(∀a∈l,A.ok n' nb aa a)/\l.length=q/\∀(x:Nat) (a:A),l[x]?=some a->∃row,(ak (code.den ρ))[(i.den ρ).toNat+x]?=some row/\(dr [c] row)[0]?=some (a.den aa m)
 |0,n,ρ,i,_,_,_=>az.pure ⟨λ_ h=>by simp at h,rfl,λx a h=>by simp at h⟩
 |q+1,n,ρ,i,m5,BO,yZ=>by
  refine jL λab=>?_
  simp only[c5,fD,ar]at ab
  have hlt:(i.den ρ).toNat<(ak (code.den ρ)).length:=by omega
  have kb:(ak (code.den ρ))[(i.den ρ).toNat]?=some (ak (code.den ρ))[(i.den ρ).toNat]:=qJ hlt
  have b0:=m5 _ (JR hlt)
  generalize (ak (code.den ρ))[(i.den ρ).toNat]=row at kb b0
  obtain⟨z,h1,h2,h3,h4⟩:=b0.get (show([c]:List aN)[0]?=some c from rfl)
  refine(Uj (nb:=nb) (m:=m) kb h1 h2 h3).bind λaQ a1 y hn ha ⟨g1,g2⟩=>?_
  have kn:=I.b5 ha BO
  have hid:=I.b5 ha yZ
  refine(ahq (nb:=nb) (q:=q) (n:=a1) (ρ:=aQ) (i:=i.add (.const 1)) (by rw[kn];exact m5) (BO.mono hn) (I.xQ (yZ.mono hn) (I.dd _ _))).bind λbW ff l fo eb ⟨k1,k2,k3⟩=>az.pure ⟨λb hb=>?_,by simp[k2],λx b hb=>?_⟩
  ·rcases List.mem_cons.1 hb with rfl|hb
   ·exact g1.ext eb fo (bO _)
   ·exact k1 b hb
  ·cases x with
   |zero=>
    simp only[wJ,bb]at hb
    subst hb
    exact⟨row,by simpa using kb,by rw[A.oL g1 eb (λ_ _=>rfl),g2];exact h4⟩
   |succ x=>
    obtain⟨GU,r1,r2⟩:=k3 x b (by simpa using hb)
    rw[kn,I.den_add,I.br,hid]at r1
    exact⟨GU,by rw[<-r1];congr 1;omega,r2⟩
theorem amz (hb:cY n bl.length ρ bl) (hex:∃w,Mem w0 ρ m bl w) (t:bp) {b bz:Nat} {o i:I} {j:Nat} (hx:(A.ep b bz o i j).ok n bl.length ρ):
 az S L (UQ P bl t b bz o i j) n ρ (pJ w0 m bl n ρ λw=>(ss t ((A.ep b bz o i j).den ρ m)).run P w):=by
 obtain⟨A2,xt⟩:=hex
 unfold UQ
 split
 ·rename_i sh off code cap kind t' aX
  refine eI λhc=>jL λab=>?_
  simp only[bw]at hc
  obtain⟨⟨c1,bK⟩,cy⟩:=hc
  have c1:0<kind:=fP c1
  have bK:=bR bK
  have cy:=I.beq_eq cy
  subst cy
  have Gc:(A.rows sh o code cap kind).ok n bl.length ρ:=hb _ (e8 aX) _ (by simp)
  simp only[c5,fD,ar]at ab
  have hlt:(i.den ρ).toNat<(ak (code.den ρ)).length:=by omega
  have kb:(ak (code.den ρ))[(i.den ρ).toNat]?=some (ak (code.den ρ))[(i.den ρ).toNat]:=qJ hlt
  generalize (ak (code.den ρ))[(i.den ρ).toNat]=row at kb
  have df:0<=cap.den ρ:=by
   rcases od (cap.den ρ) 0 with h|h
   ·have:=(xt.rws b sh o code cap kind t' aX (by omega)).1 h
    rw[this]at hlt;simp at hlt
   ·exact h
  have nS:∀w,Mem w0 ρ m bl w->cF sh row/\∀(x:Nat) (v:aV),(dr sh row)[x]?=some v->w.cell? ⟨m b,(o.den ρ).toNat+(i.den ρ).toNat*bz+x,none⟩=some v:=λw hw=>by
   obtain⟨_,cells,nq,fz,g1,⟨g2,g3⟩,_⟩:=(hw.rws b sh o code cap kind t' aX (by omega)).2 df
   refine⟨g3.1 _ (e8 kb),λx v hv=>?_⟩
   have:=g3.get kb hv
   simp only[o3,g1,yl,ym,if_false]
   rw[bK];exact this
  have m5:=(nS A2 xt).1
  cases rN:kM P t with
  |none=>exact az.fail
  |some aks=>
   cases aks with
   |true=>
    cases hs:fO P t with
    |none=>exact az.fail
    |some k=>
     simp only
     cases rP:cK (j+k) sh.length with
     |false=>
      simp only[cond_false]
      split
      ·rename_i c _
       have jr:∀row∈ak (code.den ρ),cF [c] row:=by
        obtain⟨_,cells,nq,fz,g1,⟨g2,g3⟩,_⟩:=(xt.rws b [c] o code cap kind t' aX (by omega)).2 df
        exact g3.1
       refine(ahq (nb:=bl.length) (m:=m) (q:=k) (i:=i) jr Gc.1.2.1 hx.2.1.2).bind λaQ a1 l hn ha ⟨g1,g2,g3⟩=>az.pure ⟨g1,_,rfl,λw hw=>?_⟩
       have hl:=RJ (P:=P) w ⟨m b,(o.den ρ).toNat+(i.den ρ).toNat*bz+0,none⟩ (l.map (A.den aQ m)) λx v aK=>by
        rw[kF]
        rw[sr]at aK
        cases ah:l[x]? with
        |none=>simp[ah]at aK
        |some y=>
         simp only[ah,zA,bb]at aK
         subst aK
         obtain⟨GU,r1,r2⟩:=g3 x y ah
         obtain⟨_,cells,nq,fz,aw,⟨aD,cj⟩,_⟩:=(hw.rws b [c] o code cap kind t' aX (by omega)).2 df
         have:=cj.get r1 r2
         simp only[o3,aw,yl,ym,if_false]
         simp only[jS,qL]at bK this
         rw[bK]
         rw[<-this];congr 1;omega
       simp only[qM,g2,pE]at hl
       simp[ss,qb,A.den,loadVar,tW rN,ki hs,hl,W.den]
      ·exact az.fail
     |true=>
     simp only[cond_true]
     have rP:=fP rP
     refine(Um (nb:=bl.length) (m:=m) (r:=(sh.drop j).take k) m5 Gc.1.2.1 hx.2.1.2 kb (λx c LP=>by
      rw[tw]at LP
      split at LP
      ·rw[CL]at LP;exact LP
      ·cases LP)).bind λaQ a1 l hn ha ⟨g1,g2,g3⟩=>az.pure ⟨g1,_,rfl,λw hw=>?_⟩
     have hl:=RJ (P:=P) w ⟨m b,(o.den ρ).toNat+(i.den ρ).toNat*bz+j,none⟩ (l.map (A.den aQ m)) λx v aK=>by
      rw[kF]
      rw[sr]at aK
      cases ah:l[x]? with
      |none=>simp[ah]at aK
      |some y=>
       simp only[ah,zA,bb]at aK
       subst aK
       rw[G6]
       exact(nS w hw).2 (j+x) _ (g3 x y ah)
     simp only[qM,g2,su,List.length_drop,EM (show k<=sh.length-j by omega)]at hl
     simp[ss,qb,A.den,loadVar,tW rN,ki hs,hl,W.den]
   |false=>
    cases hc:sh[j]? with
    |none=>simp only;exact az.fail
    |some c=>
     simp only
     obtain⟨z,h1,h2,h3,h4⟩:=m5.get hc
     refine(Uj (nb:=bl.length) (m:=m) kb h1 h2 h3).bind λaQ a1 y hn ha ⟨g1,g2⟩=>az.pure ⟨g1,_,rfl,λw hw=>?_⟩
     have:=(nS w hw).2 j _ h4
     have Wc:(A.ep b bz o i j).den ρ m= .pointer (some ⟨m b,(o.den ρ).toNat+(i.den ρ).toNat*bz+j,none⟩):=rfl
     simp[ss,qb,Wc,loadVar,tW rN,this,W.den,g2]
 ·exact az.fail
theorem wj {b bz:Nat} {o ro len cap:I} (hx:(A.sl b bz o ro len cap).ok n bl.length ρ):∃p,(A.sl b bz o ro len cap).den ρ m= .slice p (len.den ρ).toNat (if cap.den ρ<0 then 0 else(cap.den ρ).toNat)/\(cap.den ρ<0->p=none)/\(0<=cap.den ρ->p=some ⟨m b,(o.den ρ).toNat+(ro.den ρ).toNat*bz,none⟩):=by
 obtain⟨_,_,_,_,h3,_⟩:=hx
 simp only[A.den]
 by_cases hc:cap.den ρ<0
 ·rw[if_pos hc,if_pos hc,h3 hc]
  exact⟨none,rfl,λ_=>rfl,λh=>by omega⟩
 ·rw[if_neg hc,if_neg hc]
  exact⟨_,rfl,λh=>absurd h hc,λ_=>rfl⟩
theorem aw7 {t:bp} {b bz:Nat} {o ro len cap bj:I} {k:dO} (hx:(A.sl b bz o ro len cap).ok n bl.length ρ) (hi:bj.bG n):
 az S L (YB P t b bz o ro len bj) n ρ (pJ w0 m bl n ρ λw=>(wK t ((A.sl b bz o ro len cap).den ρ m) (.int k (bj.den ρ))).run P w):=by
 unfold YB
 cases h1:j2 P t with
 |none=>exact az.fail
 |some e=>
  cases h2:fO P e with
  |none=>simp only[h2];exact az.fail
  |some s=>
   simp only[h2]
   refine eI λhs=>jL λab=>az.pure ?_
   have hs:=bR hs
   subst hs
   simp only[c5,fD,ar]at ab
   obtain⟨ag,⟨ad,ao,cZ,iV⟩,⟨jG,n7,n8,n9⟩,oA,gX,jF⟩:=hx
   have df:¬(cap.den ρ<0):=λh=>by have:=gX h;omega
   refine⟨⟨ag,⟨ad,I.xQ ao hi⟩,jG,by rw[I.den_add];omega⟩,_,rfl,λw _=>?_⟩
   have bK:bj.den ρ<((len.den ρ).toNat:Int):=by omega
   have aw:(ro.den ρ+bj.den ρ).toNat=(ro.den ρ).toNat+(bj.den ρ).toNat:=by omega
   simp only[A.den,if_neg df,W.den,I.den_add,aw]
   simp[-aBL,wK,asIntOf,fx (iT h1),ab.1,bK,ki h2,kF,zH,G6]
theorem T6 {d:I} {y:Option rC} {l:I} (h:C8 tm d y=some l) (aA:eY n bl.length ρ m tm a.tmps):(y=none/\l=d)∨∃k,y.map a.eval=some (.int k (l.den ρ))/\l.bG n:=by
 cases y with
 |none=>exact .inl ⟨rfl,by simpa [C8]using h.symm⟩
 |some x=>
  obtain⟨k,ab,h2⟩:=Gk (m:=m) (bl:=bl) h (cM aA x).2 (cM aA x).1
  exact .inr ⟨k,by rw[<-ab];rfl,h2⟩
theorem N5 {op:Nat} {ls:List I} (h:ar op (ls.map (·.den ρ))):az S L (Hs op ls) n ρ λaa n' _=>aa=ρ/\n'=n:=λA k ab=>⟨ρ,n,(),bO _,agree.refl _ _,⟨rfl,rfl⟩,ab h⟩
theorem axa {t:bp} {b bz:Nat} {o ro len cap p q:I} {lo hi:Option rC} (hx:(A.sl b bz o ro len cap).ok n bl.length ρ) (aA:eY n bl.length ρ m tm a.tmps) (hp:C8 tm (.const 0) lo=some p) (ah:C8 tm len hi=some q):
 az S L (YD P t b bz o ro len cap p q) n ρ (pJ w0 m bl n ρ λw=>(ue t ((A.sl b bz o ro len cap).den ρ m) (lo.map a.eval) (hi.map a.eval) none).run P w):=by
 unfold YD
 cases h1:j2 P t with
 |none=>exact az.fail
 |some e=>
  cases h2:fO P e with
  |none=>simp only[h2];exact az.fail
  |some s=>
   simp only[h2]
   refine eI λhs=>jL λab=>?_
   have hs:=bR hs
   subst hs
   simp only[c5,fD,ar]at ab
   obtain⟨k1,k2,k3⟩:=ab
   have pg:=hx
   obtain⟨ag,⟨ad,ao,cZ,iV⟩,⟨jG,n7,n8,n9⟩,⟨oA,n6⟩,gX,jF⟩:=hx
   have vv:=T6 hp aA
   have P1:=T6 ah aA
   have GX:p.bG n:=by rcases vv with⟨_,rfl⟩|⟨_,_,h⟩;exact I.dd _ _;exact h
   have Js:q.bG n:=by rcases P1 with⟨_,rfl⟩|⟨_,_,h⟩;exact cZ;exact h
   obtain⟨ptr,aw,aD,cj⟩:=wj (m:=m) pg
   have tH:∀w,(pG true (len.den ρ).toNat (if cap.den ρ<0 then 0 else(cap.den ρ).toNat) (lo.map a.eval) (hi.map a.eval) none).run P w= .ok ((p.den ρ).toNat,(q.den ρ).toNat,(if cap.den ρ<0 then 0 else(cap.den ρ).toNat)) w:=λw=>by
    have hle:(len.den ρ)<=((if cap.den ρ<0 then 0 else(cap.den ρ).toNat:Nat):Int):=by
     split
     ·rename_i h;rw[gX h];simp
     ·rename_i h;have:=jF (by omega);omega
    generalize (if cap.den ρ<0 then 0 else(cap.den ρ).toNat)=C at hle
    rcases vv with⟨rfl,rfl⟩|⟨aru,DY,_⟩<;>rcases P1 with⟨rfl,rfl⟩|⟨arv,yV,_⟩
    ·simp[pG,I.br]
    ·rw[yV];simp[pG,I.br,wk (P:=P) (by omega:0<=q.den ρ) (by omega:q.den ρ<=(C:Int))]
    ·rw[DY];simp[pG,wk (P:=P) (y:=(q.den ρ).toNat) k1 (by omega)]
    ·rw[DY,yV];simp[pG,wk (P:=P) (by omega:0<=q.den ρ) (by omega:q.den ρ<=(C:Int)),wk (P:=P) (y:=(q.den ρ).toNat) k1 (by omega)]
   have jC:∀(w:aC) (r:Int),r=(if p.den ρ=cap.den ρ then ro.den ρ else ro.den ρ+p.den ρ)->
    (ue t ((A.sl b s o ro len cap).den ρ m) (lo.map a.eval) (hi.map a.eval) none).run P w= .ok (if cap.den ρ-p.den ρ<0 then .slice none 0 0 else .slice (some ⟨m b,(o.den ρ).toNat+r.toNat*s,none⟩) (q.den ρ-p.den ρ).toNat (cap.den ρ-p.den ρ).toNat) w:=λw r hr=>by
    rw[aw]
    have hV:(q.den ρ).toNat-(p.den ρ).toNat=(q.den ρ-p.den ρ).toNat:=by omega
    simp only[ue,jg,fx (iT h1),jv,Zv,tH w,ki h2,kk,hV]
    by_cases hc:cap.den ρ<0
    ·have hl:=gX hc
     have PX:p.den ρ=0:=by omega
     rw[if_pos hc,aD hc,if_pos (by omega)]
     have:q.den ρ=0:=by omega
     simp[PX,this,hc]
    ·rw[if_neg hc,cj (by omega)]
     have iQ:=jF (by omega)
     have DS:¬(cap.den ρ-p.den ρ<0):=by omega
     rw[if_neg DS]
     have gk:(cap.den ρ).toNat-(p.den ρ).toNat=(cap.den ρ-p.den ρ).toNat:=by omega
     rw[gk]
     by_cases LB:p.den ρ=cap.den ρ
     ·rw[if_pos LB]at hr
      have h7:(cap.den ρ).toNat=(p.den ρ).toNat:=by omega
      rw[if_pos h7,hr]
     ·rw[if_neg LB]at hr
      have h7:¬(cap.den ρ).toNat=(p.den ρ).toNat:=by omega
      rw[if_neg h7,hr]
      have vj:(ro.den ρ+p.den ρ).toNat=(ro.den ρ).toNat+(p.den ρ).toNat:=by omega
      rw[vj,zH,<-G6]
      simp[kF]
   split
   ·rename_i h0
    have PX:=I.km h0 (ρ:=ρ)
    refine az.pure ⟨⟨ag,⟨ad,ao,Js,iV⟩,⟨jG,n7,by omega,by omega⟩,⟨oA,n6⟩,λh=>?_,λh=>?_⟩,_,rfl,λw _=>?_⟩
    ·have:=gX h;omega
    ·have:=jF h;omega
    ·have hr:=jC w (ro.den ρ) (by rw[PX];split<;>omega)
     rw[PX]at hr
     simp only[Int.sub_zero]at hr
     simp only[W.den,A.den]at hr⊢
     exact hr
   ·have qn:(0:Int)<=bE 33 ([ro,p,cap].map (·.den ρ)):=by
     simp only[c5,fD,bE];split<;>omega
    have q1:bE 33 ([ro,p,cap].map (·.den ρ))<=9223372036854775808:=by
     simp only[c5,fD,bE]
     by_cases hc:cap.den ρ<0
     ·have:=gX hc;split<;>omega
     ·have:=jF (by omega);split<;>omega
    refine(N5 (op:=68) (ls:=[len,cap]) (show len.den ρ<=cap.den ρ∨len.den ρ=0 from by
     by_cases hc:cap.den ρ<0
     ·exact .inr (gX hc)
     ·exact .inl (jF (by omega)))).bind λcu jt _ _ _ ⟨Gg,tL⟩=>?_
    have Gg:=Gg.symm;have tL:=tL.symm
    subst Gg;subst tL
    refine(iP qn q1).bind λaQ a1 r hn ha ⟨g1,g2⟩=>az.pure ?_
    simp only[c5,fD,bE]at g2
    have b2:=I.b5 ha ad;have a2:=I.b5 ha Js;have a3:=I.b5 ha GX;have a4:=I.b5 ha iV
    refine⟨⟨ag,⟨ad.mono hn,g1,I.wh (Js.mono hn) (GX.mono hn),I.wh (iV.mono hn) (GX.mono hn)⟩,?_⟩,_,rfl,λw _=>?_⟩
    ·rw[I.lP,I.lP,b2,a2,a3,a4,g2]
     refine⟨⟨jG,?_,by omega,by omega⟩,⟨?_,?_⟩,λh=>?_,λh=>?_⟩
     ·split<;>omega
     ·by_cases hc:cap.den ρ<0
      ·have:=gX hc;omega
      ·have:=jF (by omega);omega
     ·split<;>omega
     ·by_cases hc:cap.den ρ<0
      ·have:=gX hc;omega
      ·have:=jF (by omega);omega
     ·by_cases hc:cap.den ρ<0
      ·have:=gX hc;omega
      ·have:=jF (by omega);omega
    ·refine(jC w (r.den aQ) g2).trans ?_
     simp only[W.den,A.den,I.lP,b2,a2,a3,a4]
theorem aw8 (hb:cY n bl.length ρ bl) (hex:∃w,Mem w0 ρ m bl w) {src dst e:bp} (hs:P.underlying src=some (.slice e)) (he:P.underlying e=some (.int .u8)) (hd:P.underlying dst=some .string) {b bz:Nat} {o ro len cap:I} (hx:(A.sl b bz o ro len cap).ok n bl.length ρ):
 az S L (YC bl b bz o ro len) n ρ (pJ w0 m bl n ρ λw=>(convert src dst ((A.sl b bz o ro len cap).den ρ m)).run P w):=by
 obtain⟨A2,xt⟩:=hex
 unfold YC
 split
 ·rename_i sh off code j8 kind t' aX
  refine eI λhc=>jL λab=>?_
  simp only[bw]at hc
  obtain⟨⟨⟨c1,bK⟩,cy⟩,c3⟩:=hc
  have c1:0<kind:=fP c1
  have bK:=bR bK
  have cy:=I.beq_eq cy
  subst cy;subst bK
  simp only[c5,fD,ar,I.den_add]at ab
  obtain⟨ptr,aw,aD,cj⟩:=wj (m:=m) hx
  obtain⟨ag,⟨ad,ao,cZ,iV⟩,⟨jG,n7,n8,n9⟩,⟨oA,n6⟩,gX,jF⟩:=hx
  generalize hR:ak (code.den ρ)=rows at ab
  have rQ:j8.den ρ<0->rows=[]:=λh=>by rw[<-hR];exact(xt.rws b sh o code j8 kind t' aX (by omega)).1 h
  have gf:(((rows.drop (ro.den ρ).toNat).take (len.den ρ).toNat).map λrow=>row.getD 0 0).length=(len.den ρ).toNat:=by
   simp;omega
  have hf:bE 34 ([code,ro,ro.add len].map (·.den ρ))=j7 ((((rows.drop (ro.den ρ).toNat).take (len.den ρ).toNat).map λrow=>row.getD 0 0).map λz=>zz z.toNat):=by
   simp only[c5,fD,bE,I.den_add,hR]
   have:(ro.den ρ+len.den ρ).toNat-(ro.den ρ).toNat=(len.den ρ).toNat:=by omega
   rw[this,p8];rfl
  generalize b3:(((rows.drop (ro.den ρ).toNat).take (len.den ρ).toNat).map λrow=>row.getD 0 0)=xs at gf hf
  have hl:(xs.map λz=>zz z.toNat).length<=nX:=by
   have:(xs.map λz=>zz z.toNat).length=(len.den ρ).toNat:=by simp[gf]
   unfold nX;omega
  refine(iP (by rw[hf];exact yE _) (by rw[hf];exact wO hl)).bind λaQ a1 l _ _ ⟨g1,g2⟩=>az.pure ⟨⟨g1,by rw[g2,hf];exact yE _,by rw[g2,hf];exact wO hl⟩,_,rfl,λw hw=>?_⟩
  have q7:(W.one (A.str l)).den aQ m= .string (strOfNums xs):=by
   simp only[W.den,A.den,g2,hf,AT]
   rfl
  rw[q7]
  show(convert src dst ((A.sl b 1 o ro len cap).den ρ m)).run P w=_
  rw[aw]
  by_cases df:cap.den ρ<0
  ·have pQ:=gX df
   rw[aD df,if_pos df]
   have afi:xs=[]:=zI (by rw[gf,pQ];rfl)
   rw[afi,run_convert_bytes_nil w src e hs he _ _ dst hd]
   rfl
  ·rw[cj (by omega),if_neg df]
   by_cases Ld:j8.den ρ<0
   ·have jc:=rQ Ld
    have pQ:len.den ρ=0:=by rw[jc]at ab;simp at ab;omega
    have afi:xs=[]:=zI (by rw[gf,pQ];rfl)
    exact run_convert_bytes_arg w src e hs he (m b) _ _ _ xs gf (λi hi=>by rw[pQ]at hi;simp at hi) dst hd
   ·obtain⟨_,cells,nq,fz,k1,⟨k2,k3⟩,_⟩:=(hw.rws b sh o code j8 kind t' aX (by omega)).2 (by omega)
    refine run_convert_bytes_arg w src e hs he (m b) _ _ _ xs gf (λi hi=>?_) dst hd
    have hlt:(ro.den ρ).toNat+i<rows.length:=by omega
    have kb:(ak (code.den ρ))[(ro.den ρ).toNat+i]?=some rows[(ro.den ρ).toNat+i]:=by rw[hR];exact qJ hlt
    have lR:∃lo hi,sh=[.int .u8 lo hi]:=by
     unfold Od at c3
     split at c3
     ·exact⟨_,_,rfl⟩
     ·cases c3
    obtain⟨lo,ec,rfl⟩:=lR
    have Gc:=k3.1 _ (e8 kb)
    obtain⟨z,bm,_,_,et⟩:=Gc.get (j:=0) (c:= .int .u8 lo ec) rfl
    have:=k3.get kb et
    have hz:xs.getD i 0=z:=by
     rw[<-b3]
     have:i<(len.den ρ).toNat:=hi
     simp[U,tw,this,hlt,bm]
    simp only[o3,k1,yl,ym,if_false,hz]
    simp only[jS,qL,pE,yk,Ba]at this
    rw[show(o.den ρ).toNat+(ro.den ρ).toNat*1+i=(o.den ρ).toNat+((ro.den ρ).toNat+i) by omega]
    exact this
 ·exact az.fail
theorem asa {k:dO} {x y:bQ} {t:bp} {ts:Array bp} (hx:x.ok n ρ) (hy:y.ok n ρ):az S L (af7 k x y) n ρ (pJ w0 m bl n ρ λw=>(ZC ts t #[.int k (x.l.den ρ),.int k (y.l.den ρ)]).run P w):=by
 have e:=bC.O2 hy hx
 have hr:∀w,(ZC ts t #[.int k (x.l.den ρ),.int k (y.l.den ρ)]).run P w= .ok (.int k (if y.l.den ρ<x.l.den ρ then y.l.den ρ else x.l.den ρ)) w:=λw=>by
  simp[ZC,Builtin.min2]
 refine acd (λhb=>az.pure ⟨hy,_,rfl,λw _=>?_⟩) λhb=>az.pure ⟨hx,_,rfl,λw _=>?_⟩
 ·rw[e.1]at hb
  simp only[hr,if_pos (of_decide_eq_true hb)];rfl
 ·rw[e.1]at hb
  simp only[hr,if_neg (of_decide_eq_false hb)];rfl
theorem ar9 {k:dO} {x y:bQ} {t:bp} {ts:Array bp} (hx:x.ok n ρ) (hy:y.ok n ρ):az S L (af4 k x y) n ρ (pJ w0 m bl n ρ λw=>(ZD ts t #[.int k (x.l.den ρ),.int k (y.l.den ρ)]).run P w):=by
 have e:=bC.O2 hx hy
 have hr:∀w,(ZD ts t #[.int k (x.l.den ρ),.int k (y.l.den ρ)]).run P w= .ok (.int k (if x.l.den ρ<y.l.den ρ then y.l.den ρ else x.l.den ρ)) w:=λw=>by
  simp[ZD,Builtin.max2]
 refine acd (λhb=>az.pure ⟨hy,_,rfl,λw _=>?_⟩) λhb=>az.pure ⟨hx,_,rfl,λw _=>?_⟩
 ·rw[e.1]at hb
  simp only[hr,if_pos (of_decide_eq_true hb)];rfl
 ·rw[e.1]at hb
  simp only[hr,if_neg (of_decide_eq_false hb)];rfl
theorem aca:∀{cs:List A} {l:List Bool},rH cs=some l->cs=l.map λb=>A.bool (.lit b)
 |[],l,h=>by simp[rH]at h;subst h;rfl
 | .bool (.lit b)::r,l,h=>by
  simp only[rH]at h
  cases hr:rH r with
  |none=>simp[hr]at h
  |some l'=>
   simp only[hr,bb]at h
   subst h
   simp[aca hr]
 | .bool (.eq ..)::_,_,h| .bool (.lt ..)::_,_,h| .bool (.le ..)::_,_,h| .bool (.not ..)::_,_,h| .bool (.and ..)::_,_,h| .bool (.iff ..)::_,_,h=>by simp[rH]at h
 | .int .. ::_,_,h=>by simp[rH]at h
 | .ptr .. ::_,_,h=>by simp[rH]at h
 | .rk .. ::_,_,h=>by simp[rH]at h
 | .gptr .. ::_,_,h=>by simp[rH]at h
 | .slc .. ::_,_,h=>by simp[rH]at h
 | .con _::_,_,h=>by simp[rH]at h
 | .str _::_,_,h=>by simp[rH]at h
 | .rows .. ::_,_,h=>by simp[rH]at h
 | .sl .. ::_,_,h=>by simp[rH]at h
 | .ep .. ::_,_,h=>by simp[rH]at h
theorem afu:∀(l:List Bool) (s:Nat),s+l.length<=256->∀i:Nat,i<256->(zz i∈BT s l↔s<=i/\l[i-s]?=some true)
 |[],s,_,i,_=>by simp[BT]
 |b::r,s,h,i,hi=>by
  simp only[jS]at h
  have ih:=afu r (s+1) (by omega) i hi
  have c7:s≠i->zz i≠zz s:=λc7 he=>by
   have:=congrArg UInt8.toNat he
   simp at this;omega
  have key:(s+1<=i/\r[i-(s+1)]?=some true)↔(s<i/\(b::r)[i-s]?=some true):=by
   constructor
   ·rintro⟨h1,h2⟩
    refine⟨h1,?_⟩
    rw[show i-s=(i-(s+1))+1 by omega];simpa using h2
   ·rintro⟨h1,h2⟩
    refine⟨h1,?_⟩
    rw[show i-s=(i-(s+1))+1 by omega]at h2;simpa using h2
  unfold BT
  cases b with
  |true=>
   simp only[cond_true,pD,ih,key]
   by_cases he:s=i
   ·subst he;simp
   ·constructor
    ·rintro(h1|h1)
     ·exact absurd h1 (c7 he)
     ·exact⟨by omega,h1.2⟩
    ·rintro⟨h1,h2⟩;exact .inr ⟨by omega,h2⟩
  |false=>
   simp only[cond_false,ih,key]
   by_cases he:s=i
   ·subst he;simp
   ·constructor
    ·rintro⟨h1,h2⟩;exact⟨by omega,h2⟩
    ·rintro⟨h1,h2⟩;exact⟨by omega,h2⟩
theorem awW (hb:cY n bl.length ρ bl) {ty:bp} (hu:P.underlying ty=some .bool) (b off:Nat) {bj:bQ} (Lt:bj.ok n ρ):az S L (Yv bl b off bj) n ρ (pJ w0 m bl n ρ λw=>(ss ty ((A.rk b off bj).den ρ m)).run P w):=by
 unfold Yv
 cases aX:bl[b]? with
 |none=>exact az.fail
 |some q=>
  obtain⟨cs,t⟩:=q
  simp only
  cases hi:rH ((cs.drop off).take (bj.hi.toNat+1))with
  |none=>exact az.fail
  |some l=>
   refine eI λhc=>?_
   simp only[bw,decide_eq_true_eq]at hc
   obtain⟨⟨⟨hL,hc2⟩,aeq⟩,ah⟩:=hc
   have hlen:=bR hL
   have aEY:=fP hc2
   have e:=aca hi
   have Br:=Lt.2
   have hlt:(bj.l.den ρ).toNat<l.length:=by omega
   have oO:j7 (BT 0 l)=(I.const (j7 (BT 0 l))).den ρ:=(I.br _ _).symm
   have hf:bE 43 ([I.const (j7 (BT 0 l)),bj.l].map (·.den ρ))=if l[(bj.l.den ρ).toNat]=true then 1 else 0:=by
    simp only[c5,fD,bE,I.br,AT]
    have:=afu l 0 (by omega) (bj.l.den ρ).toNat (by omega)
    simp only[Nat.sub_zero,Nf,true_and,qJ hlt,bb]at this
    simp only[this]
   have b8:=Kg (l[(bj.l.den ρ).toNat]=true)
   refine(iP (by rw[hf];exact b8.1) (by rw[hf];exact b8.2)).bind λaQ a1 r hn ha ⟨g1,g2⟩=>?_
   rw[hf]at g2
   have aD:=bC.xd (n:=a1) (ρ:=aQ) (a:=⟨r,0,1⟩) (b:= .const 1) ⟨g1,by simp only[g2];exact b8.1,by simp only[g2];exact b8.2⟩ (bQ.qW _ _ _)
   refine az.pure ⟨aD.2,_,rfl,λw hw=>?_⟩
   obtain⟨_,_,Jo,_,h2⟩:=hw.fT b cs t aX ah
   have db:cs[off+(bj.l.den ρ).toNat]?=some (.bool (.lit l[(bj.l.den ρ).toNat])):=by
    have h1:((cs.drop off).take (bj.hi.toNat+1))[(bj.l.den ρ).toNat]?=some (.bool (.lit l[(bj.l.den ρ).toNat])):=by rw[e];simp[hlt]
    rw[tw]at h1
    split at h1
    ·rw[CL]at h1;exact h1
    ·cases h1
   have aoA:=(List.getElem?_eq_some_iff.1 db).1
   have hcell:w.cell? ⟨m b,off+(bj.l.den ρ).toNat,none⟩=some (.bool l[(bj.l.den ρ).toNat]):=by
    simp only[o3,h2,yl,ym,if_false,Np]
    rw[zB (by simpa using aoA),sr,db];rfl
   have rN:kM P ty=some false:=by unfold kM;rw[hu]
   have Wc:(A.rk b off bj).den ρ m= .pointer (some ⟨m b,off+(bj.l.den ρ).toNat,none⟩):=rfl
   simp only[W.den,A.den]
   rw[aD.1]
   simp only[g2,bQ.const,I.br]
   have aos:decide ((if l[(bj.l.den ρ).toNat]=true then(1:Int)else 0)=1)=l[(bj.l.den ρ).toNat]:=by
    cases l[(bj.l.den ρ).toNat]<;>rfl
   rw[aos]
   have apy:=Wc
   simp only[A.den]at apy
   simp[ss,qb,loadVar,tW rN,hcell]
theorem awj (w:aC) {t e:bp} (hu:P.underlying t=some (.slice e)) (p:Option Addr) (l c:Nat):(binOp .eql t (.slice p l c) (.slice none 0 0)).run P w= .ok (.bool p.isNone) w:=by
 have h:binOp .eql t (.slice p l c) (.slice none 0 0)=(do pure (.bool (<-Op.equal t (.slice p l c) (.slice none 0 0)))):=rfl
 rw[h]
 simp only[jg,run_equal_slice_nil w t e p l c hu,jv,kk]
theorem awl (w:aC) {t e:bp} (hu:P.underlying t=some (.slice e)) (p:Option Addr) (l c:Nat):(binOp .neq t (.slice p l c) (.slice none 0 0)).run P w= .ok (.bool !p.isNone) w:=by
 have h:binOp .neq t (.slice p l c) (.slice none 0 0)=(do pure (.bool (!(<-Op.equal t (.slice p l c) (.slice none 0 0))))):=rfl
 rw[h]
 simp only[jg,run_equal_slice_nil w t e p l c hu,jv,kk]
theorem aba {b off:Nat} {sh:List aN} {code:I} {c:Nat} (h:N4 bl b off=some (sh,code,c)):off=0/\∃cap kind t,bl[b]?=some ([.rows sh (.const 0) code cap kind],t)/\0<kind/\∀ρ,cap.den ρ=(c:Int):=by
 unfold N4 at h
 split at h
 ·rename_i fX o code' cap kind t aX
  split at h
  ·rename_i q ah
   cases hc:(aM off 0&&dP 0 kind&&I.beq o (.const 0)&&decide (0<=q))with
   |false=>rw[hc]at h;cases h
   |true=>
    rw[hc]at h
    simp only[cond_true,bb,eW]at h
    obtain⟨rfl,rfl,rfl⟩:=h
    simp only[bw,decide_eq_true_eq]at hc
    obtain⟨⟨⟨c1,bK⟩,cy⟩,c3⟩:=hc
    have cy:=I.beq_eq cy
    subst cy
    exact⟨bR c1,cap,kind,t,aX,fP bK,λρ=>by rw[I.km ah];omega⟩
  ·cases h
 ·cases h
theorem aa6 {nb:Nat} {sh:List aN}:∀{k i:Nat} {n:Nat} {ρ:Env} {code:I},code.bG n->(∀row∈ak (code.den ρ),cF sh row)->(ak (code.den ρ)).length=i+k->
 az S L (N0 code sh i k) n ρ λaa n' l=>(∀a∈l,A.ok n' nb aa a)/\l.length=k*sh.length/\∀(x:Nat) (a:A),l[x]?=some a->(ca sh (ak (code.den ρ)))[i*sh.length+x]?=some (a.den aa m)
 |0,i,n,ρ,code,_,_,_=>az.pure ⟨λ_ h=>by simp at h,by simp,λx a h=>by simp at h⟩
 |k+1,i,n,ρ,code,hs,m5,hl=>by
  unfold N0
  have hlt:i<(ak (code.den ρ)).length:=by omega
  have kb:(ak (code.den ρ))[i]?=some (ak (code.den ρ))[i]:=qJ hlt
  generalize (ak (code.den ρ))[i]=row at kb
  refine(Um (nb:=nb) (m:=m) (r:=sh) (j:=0) (i:= .const (i:Nat)) (code:=code) (m5 row (e8 kb)) hs (I.dd _ _) (by rw[I.br,sq];exact kb) (λx c hx=>by rw[yk];exact hx)).bind λaQ a1 l1 gE fe ⟨g1,g2,g3⟩=>?_
  have aw:code.den aQ=code.den ρ:=I.b5 fe hs
  refine(aa6 (nb:=nb) (k:=k) (i:=i+1) (code:=code) (hs.mono gE) (by rw[aw];exact m5) (by rw[aw];omega)).bind λbW ff l2 fo eb ⟨k1,k2,k3⟩=>az.pure ⟨λa ha=>?_,by rw[fQ,g2,k2,zF];omega,λx a hx=>?_⟩
  ·rcases List.mem_append.1 ha with ha|ha
   ·exact(g1 a ha).ext eb fo (bO _)
   ·exact k1 a ha
  ·rw[List.getElem?_append]at hx
   split at hx
   ·rename_i hlt
    have:=g3 x a hx
    rw[yk]at this
    rw[A.oL (g1 a (e8 hx)) eb (λ_ _=>rfl)]
    exact U0 m5 kb this
   ·rename_i tc
    have:=k3 (x-l1.length) a hx
    rw[aw,g2]at this
    rw[g2]at tc
    rw[show i*sh.length+x=(i+1)*sh.length+(x-sh.length) by rw[zF];omega]
    exact this
theorem alH {α:Type} {p q r len cap:I} {f:Unit->M α} {R:Env->Nat->α->Prop} (qZ:cap.den ρ<0->len.den ρ=0) (iQ:0<=cap.den ρ->len.den ρ<=cap.den ρ) (h:(0<=p.den ρ/\p.den ρ<=q.den ρ/\q.den ρ<=r.den ρ/\r.den ρ<=cap.den ρ)->az S L (f ()) n ρ R):
 az S L (bind (cond (I.beq r len) (gS 78 [p,q,r,cap]) (gS 64 [p,q,r,len])) f) n ρ R:=by
 cases I.beq r len with
 |true=>exact jL λab=>h ab
 |false=>
  refine jL λab=>h ?_
  have ab:0<=p.den ρ/\p.den ρ<=q.den ρ/\q.den ρ<=r.den ρ/\r.den ρ<=len.den ρ/\0<len.den ρ:=ab
  have hc:0<=cap.den ρ:=by
   rcases od (cap.den ρ) 0 with h|h
   ·have:=qZ h;omega
   ·exact h
  have:=iQ hc
  omega
theorem aw9 {t:bp} {b bz:Nat} {o ro len cap p q r:I} {lo:Option rC} {hi ft:rC} (hx:(A.sl b bz o ro len cap).ok n bl.length ρ) (aA:eY n bl.length ρ m tm a.tmps) (hp:C8 tm (.const 0) lo=some p) (ah:tR (cl tm hi)=some q) (hr:tR (cl tm ft)=some r):
 az S L (YE P t b bz o ro len cap p q r) n ρ (pJ w0 m bl n ρ λw=>(ue t ((A.sl b bz o ro len cap).den ρ m) (lo.map a.eval) (some (a.eval hi)) (some (a.eval ft))).run P w):=by
 unfold YE
 cases h1:j2 P t with
 |none=>exact az.fail
 |some e=>
  cases h2:fO P e with
  |none=>simp only[h2];exact az.fail
  |some s=>
   simp only[h2]
   refine eI λhs=>alH (λh=>hx.2.2.2.2.1 h) (λh=>hx.2.2.2.2.2 h) λab=>?_
   have hs:=bR hs
   subst hs
   obtain⟨k1,k2,k3,k4⟩:=ab
   have pg:=hx
   obtain⟨ag,⟨ad,ao,cZ,iV⟩,⟨jG,n7,n8,n9⟩,⟨oA,n6⟩,gX,jF⟩:=hx
   have vv:=T6 hp aA
   have GX:p.bG n:=by rcases vv with⟨_,rfl⟩|⟨_,_,h⟩;exact I.dd _ _;exact h
   obtain⟨arv,yV,Js⟩:=Gk (m:=m) (bl:=bl) ah (cM aA hi).2 (cM aA hi).1
   obtain⟨aF1,DZ,ahR⟩:=Gk (m:=m) (bl:=bl) hr (cM aA ft).2 (cM aA ft).1
   obtain⟨ptr,aw,aD,cj⟩:=wj (m:=m) pg
   have hc:¬(cap.den ρ<0):=by omega
   have iQ:=jF (by omega)
   have O4:=aw
   rw[if_neg hc,cj (by omega)]at O4
   have hf:bE 33 ([ro,p,r].map (·.den ρ))=(if p.den ρ=r.den ρ then ro.den ρ else ro.den ρ+p.den ρ):=rfl
   refine(iP (by rw[hf];split<;>omega) (by rw[hf];split<;>omega)).bind λaQ a1 Jo hn ha ⟨g1,g2⟩=>az.pure ?_
   rw[hf]at g2
   have b2:=I.b5 ha ad;have a2:=I.b5 ha Js;have a3:=I.b5 ha GX;have a4:=I.b5 ha ahR
   refine⟨⟨ag,⟨ad.mono hn,g1,I.wh (Js.mono hn) (GX.mono hn),I.wh (ahR.mono hn) (GX.mono hn)⟩,?_⟩,_,rfl,λw _=>?_⟩
   ·rw[I.lP,I.lP,b2,a2,a3,a4,g2]
    refine⟨⟨jG,?_,by omega,by omega⟩,⟨by omega,?_⟩,λh=>by omega,λh=>by omega⟩
    ·split<;>omega
    ·split<;>omega
   ·rw[O4]
    have tH:(pG true (len.den ρ).toNat (cap.den ρ).toNat (lo.map a.eval) (some (a.eval hi)) (some (a.eval ft))).run P w= .ok ((p.den ρ).toNat,(q.den ρ).toNat,(r.den ρ).toNat) w:=by
     rw[yV,DZ]
     rcases vv with⟨rfl,rfl⟩|⟨aru,DY,_⟩
     ·simp[pG,I.br,wk (P:=P) (y:=(cap.den ρ).toNat) (by omega:0<=r.den ρ) (by omega),wk (P:=P) (y:=(r.den ρ).toNat) (by omega:0<=q.den ρ) (by omega)]
     ·rw[DY]
      simp[pG,wk (P:=P) (y:=(cap.den ρ).toNat) (by omega:0<=r.den ρ) (by omega),wk (P:=P) (y:=(r.den ρ).toNat) (by omega:0<=q.den ρ) (by omega),wk (P:=P) (y:=(q.den ρ).toNat) k1 (by omega)]
    have hV:(q.den ρ).toNat-(p.den ρ).toNat=(q.den ρ-p.den ρ).toNat:=by omega
    have gk:(r.den ρ).toNat-(p.den ρ).toNat=(r.den ρ-p.den ρ).toNat:=by omega
    simp only[ue,jg,fx (iT h1),jv,Zv,tH,ki h2,kk,hV,gk,W.den,A.den,I.lP,b2,a2,a3,a4,g2]
    rw[if_neg (show ¬(r.den ρ-p.den ρ<0) by omega)]
    by_cases LB:p.den ρ=r.den ρ
    ·rw[if_pos LB,if_pos (by omega)]
    ·rw[if_neg LB,if_neg (by omega)]
     have vj:(ro.den ρ+p.den ρ).toNat=(ro.den ρ).toNat+(p.den ρ).toNat:=by omega
     rw[vj,zH,<-G6]
     simp[kF]
theorem awg (hb:cY n bl.length ρ bl) (hex:∃w,Mem w0 ρ m bl w) (aA:eY n bl.length ρ m tm a.tmps) (o:Oper) {q:M V} (ah:Q3 P bl tm o=some q):az S L q n ρ (pI w0 m bl n ρ P o a):=by
 obtain⟨A2,xt⟩:=hex
 unfold Q3 at ah
 split at ah
 ·rename_i t x bj h
  have hx:=cM aA x
  have hi:=cM aA bj
  split at ah
  ·rename_i b off k i hv Wt
   rw[hv]at hx;rw[Wt]at hi
   split at ah
   ·rename_i sh code c len e FT Ij
    split at ah
    ·rename_i s hs
     cases hc:(aM s sh.length&&aM len c)with
     |false=>rw[hc]at ah;cases ah
     |true=>
      rw[hc]at ah
      simp only[cond_true,bb]at ah
      subst ah
      simp only[bw]at hc
      have bK:=bR hc.2
      subst bK
      obtain⟨rfl,cap,kind,dJ,aX,ab,df⟩:=aba FT
      refine jL λPJ=>az.pure ?_
      simp only[c5,fD,ar,I.br]at PJ
      have dp:a.eval x= .pointer (some ⟨m b,0,none⟩):=hx.2
      have q3:a.eval bj= .int k (i.l.den ρ):=hi.2
      have VU:bQ.ok n ρ i:=hi.1
      have rT:b<bl.length:=hx.1
      refine⟨⟨rT,⟨I.dd _ _,VU.1⟩,by rw[I.br];omega,PJ.1⟩,_,rfl,λw _=> .inl ?_⟩
      have c1:i.l.den ρ<((len:Nat):Int):=PJ.2
      simp[execOp,h,dp,q3,wK,asIntOf,fx (yB Ij),qb,PJ.1,c1,ki hs,kF,W.den,A.den,I.br]
    ·cases ah
   ·cases ah
  ·cases ah
 ·rename_i t x h
  have hx:=cM aA x
  split at ah
  ·rename_i b off hv
   rw[hv]at hx
   split at ah
   ·rename_i sh code c k FT rN hs
    cases hc:(aM k (c*sh.length))with
    |false=>rw[hc]at ah;cases ah
    |true=>
     rw[hc]at ah
     simp only[cond_true,bb]at ah
     subst ah
     have hc:=bR hc
     subst hc
     obtain⟨rfl,cap,kind,dJ,aX,ab,df⟩:=aba FT
     refine jL λPK=>?_
     simp only[c5,fD,ar,I.br]at PK
     have gD:(A.rows sh (.const 0) code cap kind).ok n bl.length ρ:=hb _ (e8 aX) _ (by simp)
     have nS:∀w,Mem w0 ρ m bl w->∃cells t' fz,w.heap[m b]?=some (.cells cells t' fz)/\pK cells 0 sh (ak (code.den ρ)):=λw hw=>by
      obtain⟨_,cells,nq,fz,g1,⟨g2,g3⟩,_⟩:=(hw.rws b sh (.const 0) code cap kind dJ aX (by omega)).2 (by rw[df];omega)
      rw[I.br]at g3
      exact⟨cells,nq,fz,g1,g3⟩
     obtain⟨_,_,_,_,apJ⟩:=nS A2 xt
     refine(aa6 (nb:=bl.length) (m:=m) (k:=c) (i:=0) gD.1.2.1 apJ.1 (by omega)).bind λaQ a1 l hn ha ⟨g1,g2,g3⟩=>az.pure ⟨g1,_,rfl,λw hw=> .inl ?_⟩
     obtain⟨cells,nq,fz,bm,cb⟩:=nS w hw
     have hl:=RJ (P:=P) w ⟨m b,0,none⟩ (l.map (A.den aQ m)) λx v aK=>by
      rw[kF]
      rw[sr]at aK
      cases ah:l[x]? with
      |none=>simp[ah]at aK
      |some y=>
       simp only[ah,zA,bb]at aK
       subst aK
       have h3:=g3 x y ah
       rw[Nat.zero_mul,yk]at h3
       simp only[o3,bm,yl,ym,if_false]
       obtain⟨_,pre,post,cz,cw⟩:=cb
       have rS:pre=[]:=zI cw
       subst rS
       have hlt:=(List.getElem?_eq_some_iff.1 h3).1
       rw[<-Ns,cz,List.nil_append,zB (by omega),yk]
       exact h3
     simp only[qM,g2]at hl
     have dp:a.eval x= .pointer (some ⟨m b,0,none⟩):=hx.2
     simp[execOp,h,dp,ss,qb,loadVar,tW rN,ki hs,hl,W.den]
   ·cases ah
  ·cases ah
 ·rename_i t x lo hi ft h
  have hx:=cM aA x
  split at ah
  ·rename_i b bz off ro len cap hv
   rw[hv]at hx
   have dp:a.eval x=(A.sl b bz off ro len cap).den ρ m:=hx.2
   have he:execOp a.eval o=(do pure (nJ (<-ue t ((A.sl b bz off ro len cap).den ρ m) (lo.map a.eval) (some (a.eval hi)) (some (a.eval ft))))):=by simp only[execOp,h,dp];rfl
   split at ah
   ·rename_i p e3 r hp yV hr
    cases ah
    exact(aw9 hx.1 aA hp yV hr).mono λ_ _ _ _ _ ah=>pI.of_run he ah
   ·cases ah
  ·cases ah
 ·rename_i c h
  split at ah
  ·rename_i hc
   split at ah
   ·rename_i x t gf pf
    have hx:=cM aA x
    split at ah
    ·rename_i e hv hs
     cases ah
     rw[hv]at hx
     have dp:a.eval x= .slice none 0 0:=hx.2
     have b2:c.args=#[x]:=by rw[<-lN (xs:=c.args),gf]
     have a2:c.argTypes=#[t]:=by rw[<-lN (xs:=c.argTypes),pf]
     refine az.pure ⟨bQ.qW _ _ _,_,rfl,λw _=> .inl ?_⟩
     simp[execOp,h,resolve,hc,b2,a2,dp,invoke,builtin,JT,fx (iT hs),goInt,W.den,A.den,bQ.const,I.br]
    ·cases ah
   ·cases ah
  ·cases ah
 ·cases ah
theorem X6 {cal:fy} (c6:h8 S P gl w0 cal) (hb:cY n bl.length ρ bl) (hg:fA gl w0) (hex:∃w,Mem w0 ρ m bl w) (aA:eY n bl.length ρ m tm a.tmps) (o:Oper):
 az S L (Ck P cal gl bl tm o) n ρ (pI w0 m bl n ρ P o a):=by
 unfold Ck
 cases ah:Yg P bl tm o with
 |none=>
  simp only
  cases vu:Q3 P bl tm o with
  |some q=>exact awg hb hex aA o vu
  |none=>
  simp only
  cases hd:O3 cal bl tm o with
  |none=>exact avW c6 hb hg hex aA o
  |some q=>
   simp only
   unfold O3 at hd
   split at hd
   ·rename_i c ax
    split at hd
    ·rename_i x hc
     split at hd
     ·rename_i f Pg Ph hv
      cases hz:(aM Pg.size 0&&aM Ph.size 0)with
      |false=>rw[hz]at hd;cases hd
      |true=>
       rw[hz]at hd
       simp only[cond_true,Option.map_eq_some_iff]at hd
       obtain⟨g,VP,rfl⟩:=hd
       simp only[bw,Nat.beq_eq]at hz
       have fF:Pg=#[]:=CN hz.1
       have aw:Ph=#[]:=CN hz.2
       subst fF aw
       have hx:=cM aA (.tmp x)
       rw[hv]at hx
       have dp:a.eval (.tmp x)= .func (.func f) #[] #[]:=hx.2
       have ta:∀v∈c.args.toList.map (cl tm),V.ok n bl.length ρ v:=λv hv=>by
        obtain⟨x,_,rfl⟩:=List.mem_map.1 hv
        exact(cM aA x).1
       have he:execOp a.eval o=callFunc f (c.args.map a.eval):=by
        simp only[execOp,ax,resolve,hc,dp,ai3]
        simp[invoke,bind_pure_comp]
       refine(c6 f g VP L n ρ m bl _ _ hb hex ta (NI (xs:=c.args.toList) aA)).mono λaQ a1 v _ _ ⟨bm,val,cb,cJ⟩=>⟨bm,val,cb,λw hw=>?_⟩
       have ha:(c.args.toList.map a.eval).toArray=c.args.map a.eval:=by
        rw[<-zG]
       have et:=cJ w hw
       rw[ha]at et
       rcases et with et|⟨et,kg⟩
       ·exact .inl (by rw[he];exact et)
       ·exact .inr ⟨f,_,by rw[he];exact et,kg⟩
     ·cases hd
    ·cases hd
   ·cases hd
 |some q=>
  simp only
  unfold Yg at ah
  split at ah
  case h_1 t x h=>
   have hx:=cM aA x
   split at ah
   ·rename_i b bz off i j hv
    cases ah
    rw[hv]at hx
    have dp:a.eval x=(A.ep b bz off i j).den ρ m:=hx.2
    have he:execOp a.eval o=(do pure (nJ (<-ss t ((A.ep b bz off i j).den ρ m)))):=by simp only[execOp,h,dp]
    exact(amz hb hex t hx.1).mono λ_ _ _ _ _ ah=>pI.of_run he ah
   ·rename_i b off bj hv
    split at ah
    ·rename_i hu
     cases ah
     rw[hv]at hx
     have dp:a.eval x=(A.rk b off bj).den ρ m:=hx.2
     have he:execOp a.eval o=(do pure (nJ (<-ss t ((A.rk b off bj).den ρ m)))):=by simp only[execOp,h,dp]
     exact(awW hb hu b off hx.1.2.1).mono λ_ _ _ _ _ ah=>pI.of_run he ah
    ·cases ah
   ·cases ah
  case h_2 x h=>
   have hx:=cM aA x
   split at ah
   ·rename_i b bz off i j hv
    cases ah
    rw[hv]at hx
    refine az.pure ⟨hx.1,_,rfl,λw _=> .inl ?_⟩
    have dp:=hx.2
    simp only[V.rel,W.den,A.den]at dp
    simp[execOp,h,dp,W.den,A.den]
   ·cases ah
  case h_3 t x bj h=>
   have hx:=cM aA x
   have hi:=cM aA bj
   split at ah
   ·rename_i b bz off ro len cap k i hv Wt
    cases ah
    rw[hv]at hx
    rw[Wt]at hi
    have dp:a.eval x=(A.sl b bz off ro len cap).den ρ m:=hx.2
    have q3:a.eval bj= .int k (i.l.den ρ):=hi.2
    have he:execOp a.eval o=(do pure (nJ (<-wK t ((A.sl b bz off ro len cap).den ρ m) (.int k (i.l.den ρ))))):=by simp only[execOp,h,dp,q3]
    have VU:bQ.ok n ρ i:=hi.1
    exact(aw7 hx.1 VU.1).mono λ_ _ _ _ _ ah=>pI.of_run he ah
   ·cases ah
  case h_4 t x h=>
   have hx:=cM aA x
   split at ah
   ·rename_i b bz off ro len cap k e hv ha
    cases ah
    rw[hv]at hx
    refine eI λhc=>jL λab=>?_
    have hc:0<k:=fP hc
    simp only[c5,fD,I.br,ar]at ab
    have b0:A.ok n bl.length ρ (.sl b bz off ro len cap):=hx.1
    obtain⟨h1,⟨h2,h3,h4,h5⟩,h6⟩:=b0
    have df:¬cap.den ρ<0:=λPU=>by have:=h6.2.2.1 PU;omega
    refine az.pure ⟨⟨h1,⟨h2,h3⟩,h6.1.1,h6.1.2.1⟩,_,rfl,λw _=> .inl ?_⟩
    have dp:a.eval x=(A.sl b bz off ro len cap).den ρ m:=hx.2
    have hle:¬(len.den ρ).toNat<k:=by omega
    simp only[execOp,h]
    rw[dp]
    simp only[A.den,if_neg df]
    simp[ai4,fx (yB ha),hle,W.den,A.den]
   ·cases ah
  case h_5 s x f h=>
   have hx:=cM aA x
   split at ah
   ·rename_i b bz off i j fd hv hf
    rw[hv]at hx
    obtain⟨fs,hu,Lm⟩:=UU hf
    split at ah
    ·rename_i k hs
     cases ah
     refine az.pure ⟨hx.1,_,rfl,λw _=> .inl ?_⟩
     have dp:=hx.2
     simp only[V.rel,W.den,A.den]at dp
     simp[execOp,h,dp,aiU,fx hu,Lm,qb,fieldPlace,ki hs,kF,W.den,A.den,G6]
    ·cases ah
   ·cases ah
  case h_6 t x lo hi h=>
   have hx:=cM aA x
   split at ah
   ·rename_i b bz off ro len cap hv
    rw[hv]at hx
    have dp:a.eval x=(A.sl b bz off ro len cap).den ρ m:=hx.2
    have he:execOp a.eval o=(do pure (nJ (<-ue t ((A.sl b bz off ro len cap).den ρ m) (lo.map a.eval) (hi.map a.eval) none))):=by simp only[execOp,h,dp];rfl
    split at ah
    ·rename_i p e3 hp yV
     cases ah
     exact(axa hx.1 aA hp yV).mono λ_ _ _ _ _ ah=>pI.of_run he ah
    ·cases ah
   ·cases ah
  case h_7 s d x h=>
   have hx:=cM aA x
   split at ah
   ·rename_i b bz off ro len cap e hv hs hd
    split at ah
    ·rename_i aoK
     cases ah
     rw[hv]at hx
     have dp:a.eval x=(A.sl b bz off ro len cap).den ρ m:=hx.2
     have he:execOp a.eval o=(do pure (nJ (<-convert s d ((A.sl b bz off ro len cap).den ρ m)))):=by simp only[execOp,h,dp]
     exact(aw8 hb hex (iT hs) aoK hd hx.1).mono λ_ _ _ _ _ ah=>pI.of_run he ah
    ·cases ah
   ·cases ah
  case h_8 c h=>
   split at ah
   ·rename_i hc
    split at ah
    ·rename_i x t gf pf
     have hx:=cM aA x
     split at ah
     ·rename_i b bz off ro len cap e hv hs
      cases ah
      rw[hv]at hx
      have dp:a.eval x=(A.sl b bz off ro len cap).den ρ m:=hx.2
      have rT:(A.sl b bz off ro len cap).ok n bl.length ρ:=hx.1
      obtain⟨ptr,aw,_,_⟩:=wj (m:=m) rT
      rw[aw]at dp
      obtain⟨ag,⟨ad,ao,cZ,iV⟩,⟨jG,n7,n8,n9⟩,_⟩:=rT
      have b2:c.args=#[x]:=by rw[<-lN (xs:=c.args),gf]
      have a2:c.argTypes=#[t]:=by rw[<-lN (xs:=c.argTypes),pf]
      refine az.pure ⟨⟨cZ,n8,n9⟩,_,rfl,λw _=> .inl ?_⟩
      have hV:((len.den ρ).toNat:Int)=len.den ρ:=by omega
      simp[-aBL,execOp,h,resolve,hc,b2,a2,dp,invoke,builtin,JT,fx (iT hs),goInt,W.den,A.den,hV]
     ·cases ah
    ·cases ah
   ·rename_i hc
    split at ah
    ·rename_i x y gf
     have hx:=cM aA x
     have hy:=cM aA y
     split at ah
     ·rename_i k p bD e3 tQ nT
      by_cases q4:k=bD
      ·subst q4
       simp only[decide_true,cond_true]at ah
       cases ah
       rw[tQ]at hx;rw[nT]at hy
       have aw:a.eval x= .int k (p.l.den ρ):=hx.2
       have aD:a.eval y= .int k (e3.l.den ρ):=hy.2
       have b2:c.args=#[x,y]:=by rw[<-lN (xs:=c.args),gf]
       have he:execOp a.eval o=(do pure (nJ (<-ZC c.argTypes o.type #[.int k (p.l.den ρ),.int k (e3.l.den ρ)]))):=by
        simp[execOp,h,resolve,hc,b2,aw,aD,invoke,builtin]
       exact(asa hx.1 hy.1).mono λ_ _ _ _ _ ah=>pI.of_run he ah
      ·simp[q4]at ah
     ·cases ah
    ·cases ah
   ·rename_i hc
    split at ah
    ·rename_i x y gf
     have hx:=cM aA x
     have hy:=cM aA y
     split at ah
     ·rename_i k p bD e3 tQ nT
      by_cases q4:k=bD
      ·subst q4
       simp only[decide_true,cond_true]at ah
       cases ah
       rw[tQ]at hx;rw[nT]at hy
       have aw:a.eval x= .int k (p.l.den ρ):=hx.2
       have aD:a.eval y= .int k (e3.l.den ρ):=hy.2
       have b2:c.args=#[x,y]:=by rw[<-lN (xs:=c.args),gf]
       have he:execOp a.eval o=(do pure (nJ (<-ZD c.argTypes o.type #[.int k (p.l.den ρ),.int k (e3.l.den ρ)]))):=by
        simp[execOp,h,resolve,hc,b2,aw,aD,invoke,builtin]
       exact(ar9 hx.1 hy.1).mono λ_ _ _ _ _ ah=>pI.of_run he ah
      ·simp[q4]at ah
     ·cases ah
    ·cases ah
   ·cases ah
  case h_9 op t x y e4 h=>
   have hx:=cM aA x
   have hy:=cM aA y
   split at ah
   ·rename_i e b bz cD ro len cap hs tQ nT
    rw[tQ]at hx;rw[nT]at hy
    have dp:a.eval x=(A.sl b bz cD ro len cap).den ρ m:=hx.2
    have y0:a.eval y= .slice none 0 0:=hy.2
    have rT:(A.sl b bz cD ro len cap).ok n bl.length ρ:=hx.1
    obtain⟨ptr,aw,aD,cj⟩:=wj (m:=m) rT
    rw[aw]at dp
    obtain⟨ag,⟨ad,ao,cZ,iV⟩,_,_,gX,_⟩:=rT
    have has:ar 53 ([cap,len].map (·.den ρ)):=gX
    have hp:ptr.isNone=decide (cap.den ρ<0):=by
     rcases od (cap.den ρ) 0 with h0|h0
     ·rw[aD h0,decide_eq_true h0];rfl
     ·rw[cj h0,decide_eq_false (by omega)];rfl
    split at ah
    ·cases ah
     refine(N5 has).bind λaQ a1 _ _ _ ⟨tg,hn⟩=>?_
     have tg:=tg.symm
     have hn:=hn.symm
     subst tg hn
     refine az.pure ⟨⟨iV,I.dd _ _⟩,_,rfl,λw _=> .inl ?_⟩
     have Lo:eqGuard .eql t x y (.slice ptr (len.den ρ).toNat (if cap.den ρ<0 then 0 else(cap.den ρ).toNat)) (.slice none 0 0)=RI ():=rfl
     have he:execOp a.eval o=(do pure (nJ (<-binOp .eql t (.slice ptr (len.den ρ).toNat (if cap.den ρ<0 then 0 else(cap.den ρ).toNat)) (.slice none 0 0)))):=by
      simp only[execOp,h,dp,y0,Lo,pure_bind]
     simp only[he,jg,awj w (iT hs),jv,kk,hp]
     simp[W.den,A.den,bC.den,I.br]
    ·cases ah
     refine(N5 has).bind λaQ a1 _ _ _ ⟨tg,hn⟩=>?_
     have tg:=tg.symm
     have hn:=hn.symm
     subst tg hn
     refine az.pure ⟨bC.AU ⟨iV,I.dd _ _⟩,_,rfl,λw _=> .inl ?_⟩
     have Lo:eqGuard .neq t x y (.slice ptr (len.den ρ).toNat (if cap.den ρ<0 then 0 else(cap.den ρ).toNat)) (.slice none 0 0)=RI ():=rfl
     have he:execOp a.eval o=(do pure (nJ (<-binOp .neq t (.slice ptr (len.den ρ).toNat (if cap.den ρ<0 then 0 else(cap.den ρ).toNat)) (.slice none 0 0)))):=by
      simp only[execOp,h,dp,y0,Lo,pure_bind]
     simp only[he,jg,awl w (iT hs),jv,kk,hp]
     simp[W.den,A.den,bC.den,bC.Ac,I.br]
    ·cases ah
   ·cases ah
  case h_10=>cases ah
end
end Go.ch
namespace Go.ch
def ac1 (ops:Array Oper) (n:Nat):Bool:=
 (fY n).all λi=>match ops[i]? with
   |none=>false
   |some nY=>(nY.after.all λe=> !Zx .any e||dP e.on i)&&(match nY.op with| .select .. =>false|_=>true)&&
    (fY n).all λj=>aM i j||match ops[j]? with
      |none=>false
      |some eT=>match eT.dst with
       |none=>true
       |some d=>(!(nY.looksAt ops).contains d||CM .any ops i j||CM .any ops j i)&& !(match nY.dst with|some Fk=>aM Fk d|none=>false)
def VJ (size n:Nat):Array Bool:=((fY size).map λi=>dP i n).toArray
def H6 (o:Oper):Bool:=match o.op with| .move _| .assign _| .extract _ _=>true|_=>false
def yL (ops:Array Oper) (i:Nat):Bool:=match ops[i]? with|some o=>H6 o|none=>false
def hQ (o:Oper):Bool:=match o.op,o.guard,o.dst with| .alloc _,none,some _=>true|_,_,_=>false
def u5 (ops:Array Oper) (i:Nat):Bool:=match ops[i]? with|some o=>hQ o|none=>false
def agv (ops:Array Oper) (n:Nat):Bool:=
 (fY n).all λi=> !u5 ops i||match ops[i]? with
   |some nY=>match nY.dst with
    |some d=>(fY n).all λj=>match ops[j]? with|some eT=> !(eT.looksAt ops).contains d|none=>true
    |none=>false
   |none=>false
def ahV (ops:Array Oper) (n:Nat):Bool:=
 (fY n).all λi=>yL ops i||(fY (n+1)).any λj=>dP i j&&CM .any ops j i&&(aM j n|| !yL ops j)
def anu (ops:Array Oper) (n:Nat):Bool:=
 (fY n).all λi=> !yL ops i||(fY ops.size).all λj=>dP j n||CM .any ops j i||(match ops[i]?,ops[j]? with|some nY,some eT=>nY.apart ops eT|_,_=>false)
def Jy (ops:Array Oper) (n:Nat):Bool:=
 RF ops&&anu ops n&&agv ops n&&ac1 ops n&&cK n ops.size&&(aM n ops.size||(ahV ops n&&aBA .any ops n))&&aBB .any ops (ops.size-n) n (VJ ops.size n)
def calm (Q:Exit->Act->aC->Prop):Exit->Act->aC->Prop
 | .panic _,_,_=>False
 |e,a,w=>Q e a w
theorem vh {a b:Nat} (h:dP a b=true):a<b:=fP h
theorem ar0 {a b:Nat} (h:a<b):dP a b=true:=Nat.ble_eq_true_of_le h
section
variable {P:bV} {ops:Array Oper} {C:aC->Prop}
def zQ (P:bV) (ops:Array Oper) (C:aC->Prop) (o:Oper) (v:aV) (a:Act):Prop:=
 (Bd o (yielded ops a.tmps)=true/\∀w,C w->EV P o a w v)∨(Bd o (yielded ops a.tmps)=false/\v=undef)
def ET (P:bV) (ops:Array Oper) (C:aC->Prop) (F:Act->Prop):List Oper->Act->Prop
 |[],a=>F a
 |o::r,a=>cond (hQ o) (ET P ops C F r a) (∃v,zQ P ops C o v a/\ET P ops C F r (a.put o.dst v))
theorem X7 {Q:Act->Prop}:∀(l:List Oper) (a:Act),ET P ops C Q l a->∃(as:Nat->Act) (vs:Nat->aV),as 0=a/\(∀i o,l[i]?=some o->(hQ o=false->zQ P ops C o (vs i) (as i)/\as (i+1)=(as i).put o.dst (vs i))/\(hQ o=true->as (i+1)=as i))/\Q (as l.length)
 |[],a,h=>⟨λ_=>a,λ_=>undef,rfl,λi o hi=>by simp at hi,h⟩
 |o::r,a,h=>by
  unfold ET at h
  cases fr:hQ o with
  |true=>
   simp only[fr,cond_true]at h
   obtain⟨as,vs,fF,hs,vp⟩:=X7 r _ h
   refine⟨λi=>match i with|0=>a|i+1=>as i,λi=>match i with|0=>undef|i+1=>vs i,rfl,λi cD hi=>?_,vp⟩
   cases i with
   |zero=>
    simp at hi;subst hi
    exact⟨λh1=>by(rw[fr]at h1;cases h1),λ_=>fF⟩
   |succ i=>
    simp at hi
    exact hs i cD hi
  |false=>
   simp only[fr,cond_false]at h
   obtain⟨v,hy,h2⟩:=h
   obtain⟨as,vs,fF,hs,vp⟩:=X7 r _ h2
   refine⟨λi=>match i with|0=>a|i+1=>as i,λi=>match i with|0=>v|i+1=>vs i,rfl,λi cD hi=>?_,vp⟩
   cases i with
   |zero=>
    simp at hi;subst hi
    exact⟨λ_=>⟨hy,fF⟩,λh1=>by(rw[fr]at h1;cases h1)⟩
   |succ i=>
    simp at hi
    exact hs i cD hi
theorem aiu {Q:Exit->Act->aC->Prop} {md:ai5}:∀(f:Nat) (listed:Array Bool) (a:Act) (w:aC),wpAny P md ops Q f listed a w->wpAny P md ops Q (f+1) listed a w
 |0,_,_,_,h=>⟨λ_=>h.2,λi hi=>by rw[h.1]at hi;cases hi⟩
 |f+1,_,_,_,h=>⟨h.1,λi hi=>wpOp_mono (λdu w' bd=>aiu f _ du w' bd) (h.2 i hi)⟩
theorem ait {Q:Exit->Act->aC->Prop} {md:ai5} {listed:Array Bool} {a:Act} {w:aC} {f s8:Nat} (h:wpAny P md ops Q f listed a w) (hle:f<=s8):wpAny P md ops Q s8 listed a w:=by
 induction hle with
 |refl=>exact h
 |step _ ih=>exact aiu _ _ _ _ ih
theorem acT {α:Type} {p q:α->Bool}:∀{l:List α},(∀x∈l,q x=true->p x=true)->(∃x∈l,p x=true/\q x=false)->l.countP q<l.countP p
 |[],_,⟨x,hx,_⟩=>by simp at hx
 |y::r,h1,⟨x,hx,h2,h3⟩=>by
  have hle:r.countP q<=r.countP p:=List.countP_mono_left λz hz=>h1 z (eB _ hz)
  rw[aBC,aBC]
  rcases List.mem_cons.1 hx with rfl|hx
  ·simp[h2,h3];omega
  ·have ih:=acT (l:=r) (λz hz=>h1 z (eB _ hz)) ⟨x,hx,h2,h3⟩
   have:=h1 y (by simp)
   cases ah:q y<;>cases hp:p y<;>simp[ah,hp]at this⊢<;>omega
theorem Ad {n i:Nat} {nY:Oper} (h:ac1 ops n=true) (hi:i<n) (ax:ops[i]?=some nY):
 (∀e∈nY.after,Zx .any e=true->e.on<i)/\(∀cs b,nY.op≠ .select cs b)/\
 ∀j eT d,j<n->j≠i->ops[j]?=some eT->eT.dst=some d->nY.dst≠some d/\(d∈nY.looksAt ops->CM .any ops i j=true∨CM .any ops j i=true):=by
 have h1:=List.all_eq_true.1 h i (List.mem_range.2 hi)
 simp only[ax,bw]at h1
 obtain⟨⟨h1,h2⟩,h3⟩:=h1
 refine⟨λe he hb=>?_,λcs b hc=>by simp[hc]at h2,λj eT d aK c7 xn hd=>?_⟩
 ·have:=Array.all_eq_true_iff_forall_mem.1 h1 e he
  simp only[hb,je,Hc]at this
  exact vh this
 ·have h4:=List.all_eq_true.1 h3 j (List.mem_range.2 aK)
  have h5:aM i j=false:=by cases hb:aM i j with|false=>rfl|true=>exact absurd (bR hb).symm c7
  simp only[h5,Hc,xn,hd,bw]at h4
  refine⟨λaoH=>?_,λnS=>?_⟩
  ·have:=h4.2
   simp[aoH]at this
  ·have:=h4.1
   have hc:(nY.looksAt ops).contains d=true:=by simpa using nS
   simp only[hc,je,Hc,CJ]at this
   exact this
theorem akn {a b:Act} (h1:a.defers=b.defers) (h2:∀t:Nat,a.tmps[t]?=b.tmps[t]?):a=b:=by
 cases a;cases b
 simp only at h1 h2
 rw[h1,aBD h2]
theorem AO {a:Act} {o:Option Tmp} {v:aV} {t:Nat} (h:o≠some t):(a.put o v).tmps[t]?=a.tmps[t]?:=by
 cases o with
 |none=>rfl
 |some d=>simp only[JQ];rw[aBr (λe=>h (by rw[e]))]
theorem put_defers (a:Act) (o:Option Tmp) (v:aV):(a.put o v).defers=a.defers:=by cases o<;>rfl
theorem GJ (a:Act) (o:Option Tmp) (v:aV):(a.put o v).tmps.size=a.tmps.size:=by cases o<;>simp[JQ]
theorem ans {o:Oper} {a:Act} {v:aV} {w:aC} (hf:H6 o=true) (jq:C w) (h:zQ P ops C o v a):Yields P ops o v a:=by
 rcases h with⟨h1,h2⟩|h
 ·refine .inl ⟨h1,λw'=>?_⟩
  have h3:=h2 w jq
  unfold EV at h3
  unfold H6 at hf
  split at hf
  ·rename_i x ax
   simp only[execOp,ax,kk]at h3⊢
   rcases h3 with h3|⟨f,args,h3,_⟩
   ·simp only[aBE,aBF,and_true]at h3;rw[h3]
   ·simp at h3
  ·rename_i x ax
   simp only[execOp,ax,kk]at h3⊢
   rcases h3 with h3|⟨f,args,h3,_⟩
   ·simp only[aBE,aBF,and_true]at h3;rw[h3]
   ·simp at h3
  ·rename_i x i ax
   simp only[execOp,ax,jg]at h3⊢
   unfold aiT at h3⊢
   cases hx:a.eval x<;>simp only[hx]at h3⊢<;>try(simp[aBG]at h3;done)
   rename_i vs
   cases hv:vs[i]? with
   |none=>simp[hv,aBG]at h3
   |some u=>simp[hv]at h3;simp[h3]
  ·cases hf
 ·exact .inr h
theorem aw3 {n:Nat} {listed:Array Bool} (hs:ahV ops n=true) (hc:aBA .any ops n=true) (hn:n<ops.size) (inv:HeadInv .any ops n listed):
 ∀(d i:Nat),n-i=d->i<n->yL ops i=false->listed.getD i false=false->∀t,n<=t->t∉yn .any ops listed:=by
 intro d
 induction d using Nat.strongRecOn with
 |_ d ih=>
  intro i hd hi kU vw t aA hr
  obtain⟨_,agP,Wb,jr⟩:=mem_ready.1 hr
  have ap0:t<ops.size:=(Array.getElem?_eq_some_iff.1 Wb).1
  by_cases ap1:t=n
  ·subst ap1
   have h1:=List.all_eq_true.1 hs i (List.mem_range.2 hi)
   simp only[kU,Hc]at h1
   obtain⟨j,aK,xk⟩:=List.any_eq_true.1 h1
   simp only[bw,CJ]at xk
   obtain⟨⟨aeN,Lu⟩,VV⟩:=xk
   have aeN:=vh aeN
   obtain⟨eT,xn,e,he,hb,PW⟩:=Hd Lu
   have aFy:j<=t:=by have:=List.mem_range.1 aK;omega
   by_cases aeQ:j=t
   ·subst aeQ
    have:eT=agP:=jd (xn.symm.trans Wb)
    subst this
    have h2:=jr e he hb
    rw[PW,vw]at h2
    cases h2
   ·cases hl:listed.getD j false with
    |true=>
     have h2:=inv.closed j eT xn hl e he hb
     rw[PW,vw]at h2
     cases h2
    |false=>
     have aoR:yL ops j=false:=by
      rcases VV with h3|h3
      ·exact absurd (bR h3) aeQ
      ·simpa using h3
     exact ih (t-j) (by omega) j rfl (by omega) aoR hl t (bO _) hr
  ·have h1:=List.all_eq_true.1 hc t (List.mem_range.2 ap0)
   simp only[CJ,decide_eq_true_eq]at h1
   rcases h1 with h1|h1
   ·omega
   ·obtain⟨cD,jY,e,he,hb,PW⟩:=Hd h1
    have:cD=agP:=jd (jY.symm.trans Wb)
    subst this
    have h2:=jr e he hb
    rw[PW,He (inv.tail (t-1) (by omega) (by omega))]at h2
    cases h2
theorem anr {o:Oper} (h:H6 o=true):hQ o=false:=by
 unfold H6 at h
 unfold hQ
 cases ax:o.op<;>simp only[ax]at h⊢<;>cases h
theorem asr {n i j:Nat} {nY eT:Oper} {d:Tmp} (h:agv ops n=true) (hi:i<n) (ax:ops[i]?=some nY) (fr:hQ nY=true) (hd:nY.dst=some d) (aK:j<n) (xn:ops[j]?=some eT):d∉eT.looksAt ops:=by
 have h1:=List.all_eq_true.1 h i (List.mem_range.2 hi)
 have ha:u5 ops i=true:=by simp[u5,ax,fr]
 simp only[ha,je,Hc,ax,hd]at h1
 have h2:=List.all_eq_true.1 h1 j (List.mem_range.2 aK)
 simp only[xn,gn]at h2
 intro hm
 have:(eT.looksAt ops).contains d=true:=by simpa using hm
 rw[this]at h2;cases h2
theorem azr {Q:Exit->Act->aC->Prop} {o:Oper} {i:Nat} {v:aV} {a:Act} {w:aC} {K:Act->aC->Prop} (hi:ops[i]?=some o) (jq:C w) (hy:zQ P ops C o v a) (h:∀w',w.Extends w'->K (a.put o.dst v) w'):wpOp P ops Q i K a w:=by
 unfold wpOp
 simp only[hi]
 rcases hy with⟨h1,h2⟩|⟨h1,h2⟩
 ·rw[if_pos h1]
  refine .inl ?_
  unfold qc
  rcases h2 w jq with h3|⟨f,args,h3,h4⟩
  ·rw[h3];exact h w (sT w)
  ·rw[h3]
   refine h4.mono λe sR ⟨he,hx⟩=>?_
   subst he
   exact h sR hx
 ·rw[if_neg (by simp[h1]),<-h2]
  exact h w (sT w)
theorem zQ.of_same {o:Oper} {v:aV} {a du:Act} (hy:zQ P ops C o v a) (he:execOp du.eval o=execOp a.eval o) (hw:Bd o (yielded ops du.tmps)=Bd o (yielded ops a.tmps)):zQ P ops C o v du:=by
 unfold zQ EV at*
 rw[he,hw]
 exact hy
structure aaq (ops:Array Oper) (n:Nat) (S:Nat->Prop) (a u9 b:Act) (gL:Nat->Nat):Prop where
 d:b.defers=a.defers
 bz:b.tmps.size=a.tmps.size
 q:∀t:Nat,(∃j o,j<n/\S j/\ops[j]?=some o/\hQ o=false/\o.dst=some t)->b.tmps[t]?=u9.tmps[t]?
 al:∀(t:Nat) j o,j<n->S j->ops[j]?=some o->hQ o=true->o.dst=some t->t<b.tmps.size->b.tmps[t]?=some (.pointer (some ⟨gL j,0,none⟩))
 no:∀t:Nat,(∀j o,j<n->S j->ops[j]?=some o->o.dst≠some t)->b.tmps[t]?=a.tmps[t]?
structure Fin (ops:Array Oper) (n:Nat) (u9 b:Act) (gL:Nat->Nat):Prop where
 d:b.defers=u9.defers
 bz:b.tmps.size=u9.tmps.size
 al:∀(t:Nat) j o,j<n->ops[j]?=some o->hQ o=true->o.dst=some t->t<b.tmps.size->b.tmps[t]?=some (.pointer (some ⟨gL j,0,none⟩))
 no:∀t:Nat,(∀j o,j<n->ops[j]?=some o->hQ o=true->o.dst≠some t)->b.tmps[t]?=u9.tmps[t]?
def CU (ops:Array Oper) (n:Nat) (S:Nat->Prop) (Z:Nat->Obj) (gL:Nat->Nat) (bz:Nat) (w:aC):Prop:=
 (∀j,j<n->S j->u5 ops j=true->bz<=gL j/\w.heap[gL j]?=some (Z j))/\∀i j,i<n->j<n->S i->S j->u5 ops i=true->u5 ops j=true->gL i=gL j->i=j
theorem CU.grow {n:Nat} {S:Nat->Prop} {Z:Nat->Obj} {gL:Nat->Nat} {bz:Nat} {w w':aC} (h:CU ops n S Z gL bz w) (he:w.Extends w'):CU ops n S Z gL bz w':=
 ⟨λj h1 h2 h3=>by
  obtain⟨h4,h5⟩:=h.1 j h1 h2 h3
  exact⟨h4,by rw[he.block _ (Array.getElem?_eq_some_iff.1 h5).1];exact h5⟩,h.2⟩
theorem azs {Q:Exit->Act->aC->Prop} {a:Act} {w:aC} {l:List Oper} (n:Nat) (Z:Nat->Obj) (hm:P.follows .mixedOrders=true) (ea:Jy l.toArray n=true) (jq:∀w',w.drew.Extends w'->C w')
 (FP:∀j o,j<n->l.toArray[j]?=some o->hQ o=true->∀(b:Act) w',(execOp b.eval o).run P w'= .ok (.value (.pointer (some ⟨w'.heap.size,0,none⟩))) (w'.alloc (Z j)))
 (h:ET P l.toArray C (λu9=>∀gL b w',Fin l.toArray n u9 b gL->w.drew.Extends w'->CU l.toArray n (λ_=>True) Z gL w.drew.heap.size w'->wpList P l.toArray (calm Q) (l.drop n) b w') (l.take n) a):wpAny P .any l.toArray (calm Q) l.toArray.size (Bb l.toArray.size false) a {w with drawn:=w.drawn+1}:=by
 simp only[Jy,bw]at ea
 obtain⟨⟨⟨⟨⟨⟨apm,aoT⟩,xl⟩,Ap⟩,hle⟩,ae8⟩,apP⟩:=ea
 have hle:n<=l.length:=by simpa using fP hle
 obtain⟨as,vs,fF,hs,bH⟩:=X7 _ _ h
 have hlen:(l.take n).length=n:=by simp;omega
 rw[hlen]at bH
 have fG:∀i,i<n->∃o,l.toArray[i]?=some o/\(hQ o=false->zQ P l.toArray C o (vs i) (as i)/\as (i+1)=(as i).put o.dst (vs i))/\(hQ o=true->as (i+1)=as i):=λi hi=>by
  have hlt:i<l.length:=by omega
  have h1:(l.take n)[i]?=some l[i]:=by rw[tw,if_pos hi,qJ hlt]
  have h2:=hs i _ h1
  exact⟨l[i],by simp[hlt],h2⟩
 have Li:∀i,i<=n->(as i).defers=a.defers/\(as i).tmps.size=a.tmps.size:=by
  intro i
  induction i with
  |zero=>intro _;rw[fF];exact⟨rfl,rfl⟩
  |succ i ih=>
   intro hi
   obtain⟨o,ax,h1,h2⟩:=fG i (by omega)
   cases fr:hQ o with
   |true=>rw[h2 fr];exact ih (by omega)
   |false=>rw[(h1 fr).2,put_defers,GJ];exact ih (by omega)
 have ad9:∀i,i<=n->∀t:Nat,(∀j o,j<i->l.toArray[j]?=some o->hQ o=false->o.dst≠some t)->(as i).tmps[t]?=a.tmps[t]?:=by
  intro i
  induction i with
  |zero=>intro _ t _;rw[fF]
  |succ i ih=>
   intro hi t m4
   obtain⟨o,ax,h1,h2⟩:=fG i (by omega)
   have afv:=ih (by omega) t λj o aK=>m4 j o (by omega)
   cases fr:hQ o with
   |true=>rw[h2 fr];exact afv
   |false=>rw[(h1 fr).2,AO (m4 i o (by omega) ax fr)];exact afv
 have ad8:∀(d i:Nat),i+d=n->∀t:Nat,(∃j o,j<i/\l.toArray[j]?=some o/\o.dst=some t)->(as n).tmps[t]?=(as i).tmps[t]?:=by
  intro d
  induction d with
  |zero=>intro i hi t _;rw[show i=n by omega]
  |succ d ih=>
   intro i hi t aK
   obtain⟨o,ax,h1,h2⟩:=fG i (by omega)
   rw[ih (i+1) (by omega) t (by obtain⟨j,o,h1,h2⟩:=aK;exact⟨j,o,by omega,h2⟩)]
   cases fr:hQ o with
   |true=>rw[h2 fr]
   |false=>
    rw[(h1 fr).2]
    obtain⟨j,eT,Lu,xk,VV⟩:=aK
    exact AO ((Ad Ap (show i<n by omega) ax).2.2 j eT t (by omega) (by omega) xk VV).1
 have hsz:l.toArray.size=l.length:=by simp
 have main:∀(f:Nat) (listed:Array Bool) (b:Act) (eJ:aC) (gL:Nat->Nat),HeadInv .any l.toArray n listed->w.drew.Extends eJ->
  aaq l.toArray n (λj=>listed.getD j false=true) a (as n) b gL->CU l.toArray n (λj=>listed.getD j false=true) Z gL w.drew.heap.size eJ->
  (fY n).countP (λi=> !listed.getD i false)+(l.length-n)<=f->wpAny P .any l.toArray (calm Q) f listed b eJ:=by
  intro f
  have done:∀(listed:Array Bool) (b:Act) (eJ:aC) (gL:Nat->Nat),HeadInv .any l.toArray n listed->w.drew.Extends eJ->
   aaq l.toArray n (λj=>listed.getD j false=true) a (as n) b gL->CU l.toArray n (λj=>listed.getD j false=true) Z gL w.drew.heap.size eJ->(∀i,i<n->listed.getD i false=true)->
   wpAny P .any l.toArray (calm Q) (l.drop n).length listed b eJ:=by
   intro listed b eJ gL inv xh pb yM jr
   have hl:listed=VJ l.toArray.size n:=by
    apply aBD
    intro i
    unfold VJ
    simp only[Np,sr]
    rcases JP i l.length with hi|hi
    ·rw[List.getElem?_range (by simpa using hi)]
     have ec:i<listed.size:=by rw[inv.size];simpa using hi
     rcases JP i n with eM|eM
     ·have:=jr i eM
      simp[ec]at this
      simp[ec,this,ar0 eM]
     ·have:=inv.tail i eM (by simpa using hi)
      simp[ec]at this
      have hb:dP i n=false:=by cases ah:dP i n with|false=>rfl|true=>have:=vh ah;omega
      simp[ec,this,hb]
    ·have h1:listed.size<=i:=by rw[inv.size];simpa using hi
     have h2:(fY l.toArray.size)[i]?=none:=by simp;omega
     rw[h2,RT h1];rfl
   have P1:aBB .any l.toArray (l.drop n).length n listed=true:=by rw[hl];simpa using apP
   refine wpAny_of_seq (P:=P) (md:= .any) (Q':=calm Q) (l.drop n) n listed b eJ (λj=>by simp[CL]) P1 (bH gL b eJ ?_ xh ?_)
   ·refine⟨pb.d.trans (Li n (bO _)).1.symm,pb.bz.trans (Li n (bO _)).2.symm,λt j o h1 h3 h4 h5=>pb.al t j o h1 (jr j h1) h3 h4 h5,λt m4=>?_⟩
    by_cases ah:∃j o,j<n/\l.toArray[j]?=some o/\hQ o=false/\o.dst=some t
    ·obtain⟨j,o,h1,h2,h3,h4⟩:=ah
     exact pb.q t ⟨j,o,h1,jr j h1,h2,h3,h4⟩
    ·have yV:∀j o,j<n->l.toArray[j]?=some o->hQ o=false->o.dst≠some t:=λj o h1 h2 h3 h4=>ah ⟨j,o,h1,h2,h3,h4⟩
     rw[pb.no t λj o h1 _ h3=>(by
      cases fr:hQ o with
      |true=>exact m4 j o h1 h3 fr
      |false=>exact yV j o h1 h3 fr),ad9 n (bO _) t yV]
   ·exact⟨λj h1 _ h3=>yM.1 j h1 (jr j h1) h3,λi j h1 h2 _ _ h5 h6=>yM.2 i j h1 h2 (jr i h1) (jr j h2) h5 h6⟩
  have aa5:∀(listed:Array Bool),(fY n).countP (λi=> !listed.getD i false)=0->∀i,i<n->listed.getD i false=true:=λlisted hc i hi=>by
   cases ah:listed.getD i false with
   |true=>rfl
   |false=>
    have:0<(fY n).countP (λi=> !listed.getD i false):=List.countP_pos_iff.2 ⟨i,List.mem_range.2 hi,by simp[ah]⟩
    omega
  induction f with
  |zero=>
   intro listed b eJ gL inv xh pb yM hf
   have:=done listed b eJ gL inv xh pb yM (aa5 listed (by omega))
   exact ait this (by simp;omega)
  |succ f ih=>
   intro listed b eJ gL inv xh pb yM hf
   by_cases aoB:(fY n).countP (λi=> !listed.getD i false)=0
   ·exact ait (done listed b eJ gL inv xh pb yM (aa5 listed aoB)) (by simp;omega)
   ·
    have rR:∃i,i<n/\listed.getD i false=false:=by
     have h1:0<(fY n).countP (λi=> !listed.getD i false):=by omega
     obtain⟨i,hi,ah⟩:=List.countP_pos_iff.1 h1
     exact⟨i,List.mem_range.1 hi,by simpa using ah⟩
    have c7:yn .any l.toArray listed≠[]:=by
     have key:∀k,∀i,i<=k->i<n->listed.getD i false=false->yn .any l.toArray listed≠[]:=by
      intro k
      induction k with
      |zero=>
       intro i VS eM ah rQ
       obtain⟨o,ax,_,_⟩:=fG i eM
       have hlt:i<listed.size:=by rw[inv.size];exact(Array.getElem?_eq_some_iff.1 ax).1
       have:i∈yn .any l.toArray listed:=mem_ready.2 ⟨getD_in hlt ah,o,ax,λe he hb=>by have:=(Ad Ap eM ax).1 e he hb;omega⟩
       rw[rQ]at this;cases this
      |succ k WH=>
       intro i VS eM ah rQ
       obtain⟨o,ax,_,_⟩:=fG i eM
       have hlt:i<listed.size:=by rw[inv.size];exact(Array.getElem?_eq_some_iff.1 ax).1
       have:i∈yn .any l.toArray listed:=mem_ready.2 ⟨getD_in hlt ah,o,ax,λe he hb=>by
        have h1:=(Ad Ap eM ax).1 e he hb
        cases vu:listed.getD e.on false with
        |true=>rfl
        |false=>exact absurd rQ (WH e.on (by omega) (by omega) vu)⟩
       rw[rQ]at this;cases this
     obtain⟨i,hi,ah⟩:=rR
     exact key i i (bO _) hi ah
    have er:∀i,i∈yn .any l.toArray listed->∀j,(listed.setIfInBounds i true).getD j false=true↔(j=i∨listed.getD j false=true):=λi hi j=>by
     obtain⟨vw,nY,F7,jr⟩:=mem_ready.1 hi
     have hlt:i<listed.size:=by rw[inv.size];exact(Array.getElem?_eq_some_iff.1 F7).1
     by_cases aK:i=j
     ·subst aK;simp[hlt]
     ·rw[getD_set_ne false aK]
      exact⟨.inr,λh=>h.resolve_left (λe=>aK e.symm)⟩
    have aeT:∀i,i∈yn .any l.toArray listed->i<n->(fY n).countP (λj=> !(listed.setIfInBounds i true).getD j false)+(l.length-n)<=f:=λi hi eM=>by
     obtain⟨vw,_⟩:=mem_ready.1 hi
     have:(fY n).countP (λj=> !(listed.setIfInBounds i true).getD j false)<(fY n).countP (λj=> !listed.getD j false):=by
      refine acT (λj _ aK=>?_) ⟨i,List.mem_range.2 eM,?_,?_⟩
      ·cases ah:listed.getD j false with
       |false=>rfl
       |true=>rw[(er i hi j).2 (.inr ah)]at aK;cases aK
      ·simp only[He vw];rfl
      ·simp only[(er i hi i).2 (.inl rfl)];rfl
     omega
    have step:∀i,i∈yn .any l.toArray listed->i<n->∀o,l.toArray[i]?=some o->hQ o=false->zQ P l.toArray C o (vs i) b/\∀w',eJ.Extends w'->wpAny P .any l.toArray (calm Q) f (listed.setIfInBounds i true) (b.put o.dst (vs i)) w':=by
     intro i hi eM o ax fr
     obtain⟨vw,nY,F7,jr⟩:=mem_ready.1 hi
     have:o=nY:=jd (ax.symm.trans F7)
     subst this
     obtain⟨cD,jY,Wy,_⟩:=fG i eM
     have:cD=o:=jd (jY.symm.trans ax)
     subst this
     obtain⟨hy,he⟩:=Wy fr
     have DU:=Ad Ap eM ax
     have afa:∀t:Nat,t∈cD.looksAt l.toArray->b.tmps[t]?=(as i).tmps[t]?:=λt aA=>by
      by_cases hw:∃j eT,j<i/\l.toArray[j]?=some eT/\hQ eT=false/\eT.dst=some t
      ·obtain⟨j,eT,h1,h2,FI,h3⟩:=hw
       rw[<-ad8 (n-i) i (by omega) t ⟨j,eT,h1,h2,h3⟩]
       refine pb.q t ⟨j,eT,by omega,?_,h2,FI,h3⟩
       rcases(DU.2.2 j eT t (by omega) (by omega) h2 h3).2 aA with h4|h4
       ·obtain⟨Xq,V9,e,yR,yS,BG⟩:=Hd h4
        have:Xq=cD:=jd (V9.symm.trans ax)
        subst this
        have:=jr e yR yS
        rwa [BG]at this
       ·obtain⟨IZ,LA,e,yR,yS,BG⟩:=Hd h4
        have:IZ=eT:=jd (LA.symm.trans h2)
        subst this
        have:=(Ad Ap (show j<n by omega) h2).1 e yR yS
        omega
      ·rw[ad9 i (by omega) t λj eT h1 h2 FI h3=>hw ⟨j,eT,h1,h2,FI,h3⟩]
       refine pb.no t λj eT h1 hl h2 h3=>?_
       cases aeh:hQ eT with
       |true=>exact asr xl h1 h2 aeh h3 eM ax aA
       |false=>
        by_cases qp:j=i
        ·subst qp
         rw[He vw]at hl;cases hl
        ·rcases(DU.2.2 j eT t h1 qp h2 h3).2 aA with h4|h4
         ·obtain⟨Xq,V9,e,yR,yS,BG⟩:=Hd h4
          have:Xq=cD:=jd (V9.symm.trans ax)
          subst this
          have:=DU.1 e yR yS
          exact hw ⟨j,eT,by omega,h2,aeh,h3⟩
         ·obtain⟨IZ,LA,e,yR,yS,BG⟩:=Hd h4
          have:IZ=eT:=jd (LA.symm.trans h2)
          subst this
          have:=inv.closed j IZ h2 hl e yR yS
          rw[BG,He vw]at this;cases this
     have aoP:∀x∈cD.op.operands,b.eval x=(as i).eval x:=λx hx=>by
      cases x with
      |tmp t=>
       have:=afa t (List.mem_append_left _ (List.mem_filterMap.2 ⟨.tmp t,by simpa using hx,rfl⟩))
       simp only[Act.eval]
       simp[this]
      |_=>rfl
     have hex:execOp b.eval cD=execOp (as i).eval cD:=execOp_congr cD DU.2.1 aoP
     have aqj:Bd cD (yielded l.toArray b.tmps)=Bd cD (yielded l.toArray (as i).tmps):=by
      unfold Bd
      cases hg:cD.guard with
      |none=>rfl
      |some Va=>
       obtain⟨g,want⟩:=Va
       have:yielded l.toArray b.tmps g=yielded l.toArray (as i).tmps g:=by
        unfold yielded
        cases aA:(l.toArray[g]?).bind (·.dst)with
        |none=>rfl
        |some t=>
         have:=afa t (List.mem_append_right _ (by simp only[hg,aA];simp))
         simp[this]
       simp only[this]
     refine⟨hy.of_same hex aqj,λw' xr=>?_⟩
     refine ih _ _ _ gL (inv.set hi eM) (xh.trans xr) ⟨(put_defers _ _ _).trans pb.d,(GJ _ _ _).trans pb.bz,?_,?_,?_⟩ (CU.grow (w:=eJ) ⟨λj h1 h2 h3=>?_,λi1 iS h1 h2 h3 h4 h5 h6=>?_⟩ xr) (aeT i hi eM)
     ·rintro t ⟨j,eT,h1,h2,h3,DN,h4⟩
      by_cases aA:cD.dst=some t
      ·have aw:(as n).tmps[t]?=(as (i+1)).tmps[t]?:=ad8 (n-(i+1)) (i+1) (by omega) t ⟨i,cD,by omega,ax,aA⟩
       rw[aw,he,aA]
       simp only[JQ]
       have ae6:b.tmps.size=(as i).tmps.size:=pb.bz.trans (Li i (by omega)).2.symm
       rcases JP t b.tmps.size with h5|h5
       ·simp[h5,ae6▸h5]
       ·rw[RT (by simpa using h5),RT (by rw[Array.size_setIfInBounds,<-ae6];exact h5)]
      ·rw[AO aA]
       rcases(er i hi j).1 h2 with rfl|h5
       ·have:eT=cD:=jd (h3.symm.trans ax)
        subst this
        exact absurd h4 aA
       ·exact pb.q t ⟨j,eT,h1,h5,h3,DN,h4⟩
     ·intro t j eT h1 h2 h3 h4 h5 h6
      rcases(er i hi j).1 h2 with rfl|h7
      ·have:eT=cD:=jd (h3.symm.trans ax)
       subst this
       rw[fr]at h4;cases h4
      ·have qp:j≠i:=λe=>by subst e;rw[He vw]at h7;cases h7
       have aA:cD.dst≠some t:=(DU.2.2 j eT t h1 qp h3 h5).1
       rw[AO aA]
       rw[GJ]at h6
       exact pb.al t j eT h1 h7 h3 h4 h5 h6
     ·intro t m4
      have aA:cD.dst≠some t:=m4 i cD eM ((er i hi i).2 (.inl rfl)) ax
      rw[AO aA]
      exact pb.no t λj eT h1 h2 h3=>m4 j eT h1 ((er i hi j).2 (.inr h2)) h3
     ·rcases(er i hi j).1 h2 with rfl|h7
      ·simp[u5,ax,fr]at h3
      ·exact yM.1 j h1 h7 h3
     ·have k1:listed.getD i1 false=true:=by
       rcases(er i hi i1).1 h3 with rfl|h7
       ·simp[u5,ax,fr]at h5
       ·exact h7
      have k2:listed.getD iS false=true:=by
       rcases(er i hi iS).1 h4 with rfl|h7
       ·simp[u5,ax,fr]at h6
       ·exact h7
      exact yM.2 i1 iS h1 h2 k1 k2 h5 h6
    by_cases kU:∃i,i∈yn .any l.toArray listed/\i<n/\yL l.toArray i=true
    ·obtain⟨i,hi,eM,tJ⟩:=kU
     obtain⟨o,ax,_,_⟩:=fG i eM
     obtain⟨vw,nY,F7,jr⟩:=mem_ready.1 hi
     have aeF:H6 o=true:=by unfold yL at tJ;simpa [ax]using tJ
     have fr:hQ o=false:=anr aeF
     obtain⟨D0,V7⟩:=step i hi eM o ax fr
     refine wpAny_first ax (Region.noSelect_spec apm) (λc du w' ah=>ah.elim) f listed b eJ (λj eT xn qp ao6 ao5=>?_) hi (ans aeF (jq eJ xh) D0) (V7 eJ (sT eJ))
     have Lz:CM .any l.toArray j i=false:=by
      cases ah:CM .any l.toArray j i with
      |false=>rfl
      |true=>
       obtain⟨IZ,LA,e,yR,yS,BG⟩:=Hd ah
       have:IZ=eT:=jd (LA.symm.trans xn)
       subst this
       exact absurd BG (ao5 e yR yS)
     have ae0:j<n->CM .any l.toArray i j=false:=λIx=>by
      cases ah:CM .any l.toArray i j with
      |false=>rfl
      |true=>
       obtain⟨cD,jY,e,yR,yS,BG⟩:=Hd ah
       have:cD=nY:=jd (jY.symm.trans F7)
       subst this
       have:=jr e yR yS
       rw[BG,He ao6]at this;cases this
     by_cases Ix:j<n
     ·have d1:=(Ad Ap eM ax).2.2 j eT
      have d2:=(Ad Ap Ix xn).2.2 i o
      simp only[Oper.apart,bw]
      constructor
      ·cases hd:o.dst with
       |none=>rfl
       |some d=>
        have:=d2 d eM (λe=>qp e.symm) ax hd
        simp only[bw,gn,bne_iff_ne,ne_eq]
        refine⟨?_,this.1⟩
        cases hc:(eT.looksAt l.toArray).contains d with
        |false=>rfl
        |true=>
         rcases this.2 (by simpa using hc)with h1|h1
         ·rw[Lz]at h1;cases h1
         ·rw[ae0 Ix]at h1;cases h1
      ·cases hd:eT.dst with
       |none=>rfl
       |some d=>
        have:=d1 d Ix qp xn hd
        simp only[gn]
        cases hc:(o.looksAt l.toArray).contains d with
        |false=>rfl
        |true=>
         rcases this.2 (by simpa using hc)with h1|h1
         ·rw[ae0 Ix]at h1;cases h1
         ·rw[Lz]at h1;cases h1
     ·have h1:=List.all_eq_true.1 aoT i (List.mem_range.2 eM)
      simp only[tJ,je,Hc]at h1
      have h2:=List.all_eq_true.1 h1 j (List.mem_range.2 (Array.getElem?_eq_some_iff.1 xn).1)
      have hb:dP j n=false:=by cases ah:dP j n with|false=>rfl|true=>exact absurd (vh ah) Ix
      simp only[hb,Lz,Hc,ax,xn]at h2
      exact h2
    ·
     have apl:∃i,i<n/\yL l.toArray i=false/\listed.getD i false=false:=by
      have key:∀k,∀i,i<=k->i<n->listed.getD i false=false->∃i,i<n/\yL l.toArray i=false/\listed.getD i false=false:=by
       intro k
       induction k with
       |zero=>
        intro i VS eM ah
        cases lQ:yL l.toArray i with
        |false=>exact⟨i,eM,lQ,ah⟩
        |true=>
         obtain⟨o,ax,_,_⟩:=fG i eM
         have hlt:i<listed.size:=by rw[inv.size];exact(Array.getElem?_eq_some_iff.1 ax).1
         exact absurd ⟨i,mem_ready.2 ⟨getD_in hlt ah,o,ax,λe he hb=>by have:=(Ad Ap eM ax).1 e he hb;omega⟩,eM,lQ⟩ kU
       |succ k WH=>
        intro i VS eM ah
        cases lQ:yL l.toArray i with
        |false=>exact⟨i,eM,lQ,ah⟩
        |true=>
         obtain⟨o,ax,_,_⟩:=fG i eM
         have hlt:i<listed.size:=by rw[inv.size];exact(Array.getElem?_eq_some_iff.1 ax).1
         by_cases aew:∀e∈o.after,Zx .any e=true->listed.getD e.on false=true
         ·exact absurd ⟨i,mem_ready.2 ⟨getD_in hlt ah,o,ax,aew⟩,eM,lQ⟩ kU
         ·have hex:∃e,e∈o.after/\Zx .any e=true/\¬listed.getD e.on false=true:=by
           apply Zm
           intro m4
           exact aew λe he hb=>Zm λvu=>m4 ⟨e,he,hb,vu⟩
          obtain⟨e,he,hb,vu⟩:=hex
          have h1:=(Ad Ap eM ax).1 e he hb
          exact WH e.on (by omega) (by omega) (by simpa using vu)
      obtain⟨i,hi,ah⟩:=rR
      exact key i i (bO _) hi ah
     refine⟨λh0=>absurd h0 c7,λi hi=>?_⟩
     have eM:i<n:=by
      rcases JP i n with h1|h1
      ·exact h1
      ·exfalso
       obtain⟨_,nY,F7,_⟩:=mem_ready.1 hi
       have aFv:i<l.toArray.size:=(Array.getElem?_eq_some_iff.1 F7).1
       simp only[CJ,bw]at ae8
       rcases ae8 with h2|⟨h2,h3⟩
       ·have:=bR h2;omega
       ·obtain⟨i0,ao0,Ir,yW⟩:=apl
        exact aw3 h2 h3 (by omega) inv (n-i0) i0 rfl ao0 Ir yW i h1 hi
     obtain⟨o,ax,_,_⟩:=fG i eM
     cases fr:hQ o with
     |false=>
      obtain⟨D0,V7⟩:=step i hi eM o ax fr
      exact azr ax (jq eJ xh) D0 V7
     |true=>
      obtain⟨vw,_⟩:=mem_ready.1 hi
      have ja:o.guard=none/\∃d,o.dst=some d:=by
       unfold hQ at fr
       split at fr
       ·rename_i h1 h2 h3;exact⟨h2,_,h3⟩
       ·cases fr
      obtain⟨ja,d,hd⟩:=ja
      have DU:=Ad Ap eM ax
      unfold wpOp
      simp only[ax]
      rw[if_pos (by simp[Bd,ja])]
      refine .inl ?_
      unfold qc
      rw[FP i o eM ax fr b eJ]
      show wpAny P .any l.toArray (calm Q) f (listed.setIfInBounds i true) (b.put o.dst _) _
      have WD:∀j,j<n->listed.getD j false=true->u5 l.toArray j=true->gL j<eJ.heap.size:=λj h1 h2 h3=>(Array.getElem?_eq_some_iff.1 (yM.1 j h1 h2 h3).2).1
      refine ih _ _ _ (λj=>if j=i then eJ.heap.size else gL j) (inv.set hi eM) (xh.alloc _) ⟨(put_defers _ _ _).trans pb.d,(GJ _ _ _).trans pb.bz,?_,?_,?_⟩ ⟨λj h1 h2 h3=>?_,λi1 iS h1 h2 h3 h4 h5 h6 h7=>?_⟩ (aeT i hi eM)
      ·rintro t ⟨j,eT,h1,h2,h3,DN,h4⟩
       rcases(er i hi j).1 h2 with rfl|h5
       ·have:eT=o:=jd (h3.symm.trans ax)
        subst this
        rw[fr]at DN;cases DN
       ·have qp:j≠i:=λe=>by subst e;rw[He vw]at h5;cases h5
        rw[AO (DU.2.2 j eT t h1 qp h3 h4).1]
        exact pb.q t ⟨j,eT,h1,h5,h3,DN,h4⟩
      ·intro t j eT h1 h2 h3 h4 h5 h6
       rcases(er i hi j).1 h2 with rfl|h7
       ·have:eT=o:=jd (h3.symm.trans ax)
        subst this
        rw[h5]
        simp only[if_true]
        rw[GJ]at h6
        simp[JQ,h6]
       ·have qp:j≠i:=λe=>by subst e;rw[He vw]at h7;cases h7
        rw[AO (DU.2.2 j eT t h1 qp h3 h5).1]
        rw[GJ]at h6
        rw[if_neg qp]
        exact pb.al t j eT h1 h7 h3 h4 h5 h6
      ·intro t m4
       rw[AO (m4 i o eM ((er i hi i).2 (.inl rfl)) ax)]
       exact pb.no t λj eT h1 h2 h3=>m4 j eT h1 ((er i hi j).2 (.inr h2)) h3
      ·show w.drew.heap.size<=(if j=i then eJ.heap.size else gL j)/\(eJ.alloc (Z i)).heap[(if j=i then eJ.heap.size else gL j)]?=some (Z j)
       by_cases qp:j=i
       ·subst qp
        rw[if_pos rfl]
        exact⟨xh.size,heap_alloc_new eJ (Z j)⟩
       ·rw[if_neg qp]
        have h7:=((er i hi j).1 h2).resolve_left qp
        obtain⟨e6,dZ⟩:=yM.1 j h1 h7 h3
        exact⟨e6,by rw[heap_alloc_old eJ _ (WD j h1 h7 h3)];exact dZ⟩
      ·change (if i1=i then eJ.heap.size else gL i1)=(if iS=i then eJ.heap.size else gL iS)at h7
       by_cases e6:i1=i<;>by_cases dZ:iS=i
       ·rw[e6,dZ]
       ·rw[if_pos e6,if_neg dZ]at h7
        have:=WD iS h2 (((er i hi iS).1 h4).resolve_left dZ) h6
        omega
       ·rw[if_neg e6,if_pos dZ]at h7
        have:=WD i1 h1 (((er i hi i1).1 h3).resolve_left e6) h5
        omega
       ·rw[if_neg e6,if_neg dZ]at h7
        exact yM.2 i1 iS h1 h2 (((er i hi i1).1 h3).resolve_left e6) (((er i hi iS).1 h4).resolve_left dZ) h5 h6 h7
 have aq1:HeadInv .any l.toArray n (Bb l.toArray.size false):=
  ⟨by simp,λj eT _ hl=>(by rw[getD_replicate_false]at hl;cases hl),λt _ aA=>getD_in (by simpa using aA) (getD_replicate_false _ _)⟩
 have Qx:∀j,¬(Bb l.toArray.size false).getD j false=true:=λj h=>by rw[getD_replicate_false]at h;cases h
 refine main l.toArray.size _ a _ (λ_=>0) aq1 (sT w.drew) ⟨rfl,rfl,λt ⟨j,o,_,h2,_⟩=>absurd h2 (Qx j),λt j o _ h2=>absurd h2 (Qx j),λ_ _=>rfl⟩ ⟨λj _ h2=>absurd h2 (Qx j),λi j _ _ h3=>absurd h3 (Qx i)⟩ ?_
 have:(fY n).countP (λi=> !(Bb l.toArray.size false).getD i false)<=n:=by
  have:=List.countP_le_length (p:=λi=> !(Bb l.toArray.size false).getD i false) (l:=fY n)
  simpa using this
 omega
end
end Go.ch
namespace Go.ch
open M
inductive X where
 |normal
 |exit (id:Nat)
 |ret
def X.to:X->Exit
 |normal=> .normal
 |exit id=> .exit id
 |ret=> .ret
abbrev iI:=Nat->List V->List aE->T
abbrev wM:=X->iI
abbrev RK:=Nat->V->List aE->T
abbrev m1:=dt->Nat->List V->List aE->RK->T
structure gB where
 gu:List Nat
 ints:List (Nat×Int×Int)
 cells:List (Nat×Nat×Int×Int)
 uo:List Nat:=[]
 tB:List (Nat×List aN×bp):=[]
 Yh:List (Nat×List aN×Nat):=[]
 p1:List (Nat×List aN):=[]
def dN:List aE->Nat->aE->List aE
 |[],_,_=>[]
 |_::r,0,b=>b::r
 |x::r,i+1,b=>x::dN r i b
theorem np:∀(l:List aE) (i:Nat) (b:aE),dN l i b=l.set i b
 |[],_,_=>rfl
 |_::_,0,_=>rfl
 |_::r,i+1,b=>by simp[dN,np r i b]
def avX (cal:fy) (dyn:Bool) (o:Oper):Bool:=
 match o.op with
 | .alloc _| .box _ _| .store _ _ _| .buildSlice _ _ _| .makeSlice _ _ _=>false
 | .call c=>match c.callee with
  | .value (.func f)=>(cal f).isSome
  | .value (.tmp _)=>dyn
  | .builtin .append=>false
  | .builtin .clear=>false
  | .builtin .copy=>false
  |_=>true
 |_=>true
def ML (z:List A) (len:Nat):List A:=(fY (len*z.length)).map λi=>(z[i% z.length]?).getD (.con undef)
def T9 (P:bV) (t:bp) (len:Nat) (parts:List (Nat×V)):Option (List A×bp):=
 match j2 P t with
 |some e=>match fO P e,qI P e with
  |some s,some z=>cond (aM z.length s&&dP 0 s&&cK (len*s) 16777216) (match Am (λi=>some (i*s,s)) (ML z len) parts with|some cs=>some (cs,e)|none=>none) none
  |_,_=>none
 |none=>none
def xj (bl:List aE) (b off k:Nat):Option (List A):=
 match bl[b]? with
 |some (cs,_)=>cond (cK (off+k) cs.length&&cc cs) (some ((cs.drop off).take k)) none
 |none=>none
def Pr (i:TypeInfo) (e:bp) (z:List A) (d:Option Tmp) (gJ tn len:Nat) (olds news:List A) (n:Nat) (tm:List V) (bl:List aE) (k:iI):T:=
 cond (cK (gJ+len) 1000000&&cK (Builtin.nextslicecap (gJ+len) tn*i.bytes) 281474976710656&&dP tn (gJ+len)&&dP 0 len&&aM z.length i.size&&dP 0 i.size&&cc (olds++news)&&cc (olds++news++z))
  (.both (k n (gx tm d (.w (.one (.slc bl.length 0 (gJ+len) (gJ+len))))) (bl++[(olds++news,(e,false))]))
    (k n (gx tm d (.sN bl.length (gJ+len) (gJ+len+1))) (bl++[(olds++news++z,(e,true))]))) .stuck
def WL:V->Bool
 | .w (.one (.con (.slice none 0 0)))=>true
 |_=>false
def TN (P:bV) (d:Option Tmp) (t t':bp) (s x:V) (n:Nat) (tm:List V) (bl:List aE) (k:iI):T:=
 match x,j2 P t with
 | .w (.one (.slc b' kf rf _)),some e=>match P.info? e,qI P e with
  |some i,some z=>match xj bl b' kf (rf*i.size)with
   |some news=>cond (!(aM t t')) .stuck <| cond (WL s) (Pr i e z d 0 0 rf [] news n tm bl k) <| match s with
    | .w (.one (.slc b off len cap))=>match xj bl b off (len*i.size)with
     |some olds=>Pr i e z d len cap rf olds news n tm bl k
     |none=> .stuck
    | .sN b len lo=>match bl[b]? with
     |some (cs,ty)=>cond (cK (len+rf) lo&&cK ((len+rf)*i.size) cs.length&&dP 0 (rf*i.size)&&cc cs&&cc (cs.take (len*i.size)++news++cs.drop (len*i.size+news.length))) (k n (gx tm d (.sN b (len+rf) lo)) (dN bl b (cs.take (len*i.size)++news++cs.drop (len*i.size+news.length),ty))) .stuck
     |none=> .stuck
    |_=> .stuck
   |none=> .stuck
  |_,_=> .stuck
 |_,_=> .stuck
def qC (sh:List aN):Bool:=cK sh.length 100&&dP 0 sh.length&&sh.all λc=>match c with
 | .int _ lo hi=>decide (-18446744073709551616<=lo)&&decide (hi<=18446744073709551616)
 |_=>true
def Gi (e:bC):M I:=λn k=> .ind n e (k (.var n) (n+1))
def Ui (c:aN) (a:A):M I:=
 match c,a with
 | .int k lo hi,.int bD x=>cond (decide (k=bD)&&decide (lo<=x.lo)&&decide (x.hi<=hi)) (pure x.l) fail
 | .str,.str l=>pure l
 | .bool,.bool e=>match e with
  | .lit v=>pure (.const (cond v 1 0))
  |e=>Gi e
 |_,_=>fail
def Cu:List aN->List A->M (List I)
 |[],[]=>pure []
 |c::sh,a::r=>bind (Ui c a) λl=>bind (Cu sh r) λls=>pure (l::ls)
 |_,_=>fail
noncomputable def C1 (sh:List aN):List (List A)->I->M I
 |[],c=>pure c
 |row::rs,c=>bind (Cu sh row) λls=>bind (fV 23 (c::ls) 0 bU) λeR=>C1 sh rs eR
def rI (w:Nat):Nat->List A->List (List A)
 |0,_=>[]
 |k+1,l=>l.take w::rI w k (l.drop w)
noncomputable def Rh (P:bV) (tr:bp) (sh:List aN) (bl:List aE) (x:V) (base:I):M (I×I):=
 match x with
 | .w (.one (.slc b off len _))=>match xj bl b off (len*sh.length),j2 P tr with
  |some cs,some _=>bind (gS 23 [base,.const len]) λ_=>bind (C1 sh (rI sh.length len cs) base) λc=>pure (c,.const len)
  |_,_=>fail
 | .w (.one (.sl b bz o ro len _))=>match bl[b]?,j2 P tr with
  |some ([.rows fX off code e5 kind],_),some _=>cond (dP 0 kind&&tp sh fX&&I.beq o off&&aM bz sh.length) (bind (gS 22 [code,ro,ro.add len]) λ_=>bind (gS 23 [base,len]) λ_=>bind (fV 22 [code,ro,ro.add len] 0 bU) λs=>bind (fV 24 [base,s] 0 bU) λc=>pure (c,len)) fail
  |_,_=>fail
 | .w (.one (.str l))=>match P.underlying tr with
  |some .string=>cond (Od sh) (bind (fV 0 [l] 0 9223372036854775807) λlen=>bind (gS 23 [base,len]) λ_=>bind (fV 27 [l] 0 bU) λs=>bind (fV 24 [base,s] 0 bU) λc=>pure (c,len)) fail
  |_=>fail
 | .w (.one (.con (.slice none 0 0)))=>match j2 P tr with
  |some _=>bind (gS 23 [base,.const 0]) λ_=>pure (base,.const 0)
  |none=>fail
 |_=>fail
def awZ (bl:List aE):V->Option (List aN)
 | .w (.one (.sl b _ _ _ _ _))=>match bl[b]? with
  |some ([.rows sh _ _ _ _],_)=>some sh
  |_=>none
 |_=>none
def Rf:List A->Option (List aN)
 |[]=>some []
 | .int k _::r=>(Rf r).map (.int k k.min k.max::·)
 | .str _::r=>(Rf r).map (.str::·)
 | .bool _::r=>(Rf r).map (.bool::·)
 |_=>none
def aw0 (bl:List aE) (s x:V) (z:List A):Option (List aN):=match awZ bl x with
 |some sh=>some sh
 |none=>match s,x with
  | .w (.one (.slc ..)),.w (.one (.slc ..))=>Rf z
  |_,_=>none
def Ze:V->Bool
 | .w (.one (.sl _ _ _ _ len cap))=>match len.eN,cap.eN with|some l,some c=>decide (l=0)&&decide (c=0)|_,_=>false
 | .w (.one (.slc _ _ len cap))=>aM len 0&&aM cap 0
 | .w (.one (.con (.slice none 0 0)))=>true
 |_=>false
noncomputable def KV (kd:Nat) (e:bp) (d:Option Tmp) (sh:List aN) (code len:I) (n:Nat) (tm:List V) (bl:List aE) (k:iI):T:=
 .uQ n (-1) 9223372036854775807 (k (n+1) (gx tm d (.w (.one (.sl bl.length sh.length (.const 0) (.const 0) len (.var n))))) (bl++[([.rows sh (.const 0) code (.var n) kd],(e,false))]))
noncomputable def Ic (e:bp) (d:Option Tmp) (sh:List aN) (code len:I) (n:Nat) (tm:List V) (bl:List aE) (k:iI):T:=
 .uQ n (-1) 9223372036854775807 (k (n+1) (gx tm d (.w (.one (.sl bl.length sh.length (.const 0) (.const 0) len (.var n))))) (bl++[([.rows sh (.const 0) code (.var n) 2],(e,false))]))
noncomputable def adG (P:bV) (tr e:bp) (d:Option Tmp) (sh:List aN) (s x:V) (n:Nat) (tm:List V) (bl:List aE) (k:iI):T:=
 Rh P tr sh bl x (.const 0) n λp n'=>match p.2.eN with
  |some 0=>k n' (gx tm d s) bl
  |some _=>Ic e d sh p.1 p.2 n' tm bl k
  |none=> .uq (.le p.2 (.const 0)) (k n' (gx tm d s) bl) (Ic e d sh p.1 p.2 n' tm bl k)
def Ia (sh:List aN) (i:TypeInfo) (z:List A):Bool:=qC sh&&aM i.size sh.length&&aM z.length sh.length&&cK i.bytes 131072
noncomputable def TO (P:bV) (d:Option Tmp) (t t':bp) (s x:V) (n:Nat) (tm:List V) (bl:List aE) (k:iI):Option T:=
 match j2 P t with
 |none=>none
 |some e=>match P.info? e,qI P e with
  |some i,some z=>match Ze s with
   |true=>match aw0 bl s x z with
    |some sh=>cond (Ia sh i z) (some (adG P t' e d sh s x n tm bl k)) none
    |none=>none
   |false=>match s with
    | .w (.one (.sl b _ o ro len cap))=>match bl[b]? with
     |some ([.rows sh off code e5 kind],dJ)=>cond (Ia sh i z&&aM kind 2&&I.beq o (.const 0)&&I.beq off (.const 0)&&I.beq ro (.const 0)&&I.beq cap e5&&aM dJ.1 e)
      (some (.s5 31 [code,len] (Rh P t' sh bl x code n λp n'=>Ic e d sh p.1 (len.add p.2) n' tm (dN bl b ([.rows sh off code e5 0],dJ)) k))) none
     |_=>none
    |_=>none
  |_,_=>none
noncomputable def YL (P:bV) (o:Oper) (n:Nat) (tm:List V) (bl:List aE) (k:iI):Option T:=
 match o.op with
 | .call c=>match c.callee with
  | .builtin .append=>match c.args.toList,c.argTypes.toList with
   |[s,x],[t,t']=>TO P o.dst t t' (cl tm s) (cl tm x) n tm bl k
   |_,_=>none
  |_=>none
 |_=>none
def jJ:List aN:=[.int .u8 0 255]
def Qb (fn:Func):Bool:=fn.name== "internal/bytealg.MakeNoZero" &&fn.body.isNone&&fn.origin== ""
noncomputable def Cx (P:bV) (o:Oper) (n:Nat) (tm:List V) (bl:List aE) (k:iI):Option T:=
 match o.op with
 | .store t p x=>match cl tm p,cl tm x with
  | .w (.one (.ep b bz cD i j)),.w u=>match bl[b]?,fO P t with
   |some ([.rows sh off code cap kind],dJ),some s=>cond (cK 2 kind&&aM bz sh.length&&I.beq cD off&&aM u.cells.length s&&dP 0 s&&cK (j+s) sh.length&&qC sh)
    (some (gS 21 [code,i] n λ_ n=>Hs 67 [code,i,.const sh.length] n λ_ n=>Cu ((sh.drop j).take s) u.cells n λls n=>fV 42 (code::i:: .const j::ls) 0 bU n λcode' n=>k n (gx tm o.dst (.iU [])) (dN bl b ([.rows sh off code' cap kind],dJ)))) none
   |_,_=>none
  |_,_=>none
 | .convert s d x=>match cl tm x with
  | .w (.one (.str l))=>match P.underlying s,j2 P d with
   |some .string,some e=>match P.underlying e with
    |some (.int .u8)=>some (fV 27 [l] 0 bU n λcode n=>fV 0 [l] 0 9223372036854775807 n λlen n=>KV 3 e o.dst jJ code len n tm bl k)
    |_=>none
   |_,_=>none
  | .w (.one (.slc b 0 len cap))=>match bl[b]?,j2 P d with
   |some (C,t),some e=>match P.underlying e with
    |some (.int .u8)=>cond (aM s d&&cc C&& !t.2&&aM C.length len&&aM cap len&&cK len 1000000)
     (some (C1 jJ (rI 1 len C) (.const 0) n λcode n=>k n (gx tm o.dst (.w (.one (.sl b 1 (.const 0) (.const 0) (.const len) (.const len))))) (dN bl b ([.rows jJ (.const 0) code (.const len) 3],t)))) none
    |_=>none
   |_,_=>none
  |_=>none
 | .makeSlice t x y=>match j2 P t,tR (cl tm x),tR (cl tm y)with
  |some e,some rh,some qy=>match P.info? e with
   |some i=>match i.zero with
    |some (.int .u8 z)=>cond (aM i.size 1&&cK i.bytes 1024&&decide (z=0)) (some (.s5 49 [rh,qy] (fV 26 [rh,.const 0] 0 bU n λcode n=>KV 2 e o.dst jJ code rh n tm bl k))) none
    |_=>none
   |none=>none
  |_,_,_=>none
 | .call c=>match c.callee with
  | .value (.func f)=>match P.funcs[f]?,c.args.toList with
   |some fn,[x]=>match cl tm x,fn.resultTypes.toList with
    | .w (.one (.int .i64 y)),[t]=>match j2 P t with
     |some e=>match P.underlying e with
      |some (.int .u8)=>cond (Qb fn) (some (.s5 26 [y.l] (.uQ n 0 bU (.w2 31 [.var n,y.l] (.uQ (n+1) 0 9223372036854775807 (.w2 79 [y.l,.var (n+1)]
       (k (n+2) (gx tm o.dst (.w (.one (.sl bl.length 1 (.const 0) (.const 0) y.l (.var (n+1)))))) (bl++[([.rows jJ (.const 0) (.var n) (.var (n+1)) 2],(e,false))]))))))))
       none
      |_=>none
     |none=>none
    |_,_=>none
   |_,_=>none
  |_=>none
 |_=>none
noncomputable def YM (P:bV) (o:Oper) (n:Nat) (tm:List V) (bl:List aE) (k:iI):Option T:=
 match o.op with
 | .call c=>match c.callee with
  | .builtin .clear=>match c.args.toList,c.argTypes.toList with
   |[x],[t]=>match cl tm x,j2 P t with
    | .w (.one (.sl b bz cD ro len cap)),some e=>match bl[b]?,qI P e with
     |some ([.rows sh off code e5 kind],dJ),some z=>cond (cK 2 kind&&I.beq cD off&&aM bz sh.length&&qC sh&&aM z.length sh.length)
      (some (gS 65 [code,ro,len] n λ_ n=>Cu sh z n λls n=>fV 61 (code::ro::len::ls) 0 bU n λcode' n=>k n (gx tm o.dst (.iU [])) (dN bl b ([.rows sh off code' e5 kind],dJ)))) none
     |_,_=>none
    |_,_=>none
   |_,_=>none
  | .builtin .copy=>match c.args.toList,c.argTypes.toList with
   |[x,y],[t,t']=>match cl tm x,cl tm y,j2 P t with
    | .w (.one (.sl b bz cD ro len cap)),.w (.one (.sl b9 YS vE iG iD Aa)),some e=>match bl[b]?,bl[b9]?,fO P e with
     |some ([.rows sh off code e5 kind],dJ),some ([.rows Yz Cb jA Bv B7],_),some s=>cond (cK 2 kind&&dP 0 B7&&I.beq cD off&&I.beq vE Cb&&tp sh Yz&&aM bz sh.length&&aM YS sh.length&&aM s sh.length&&qC sh)
      (some (gS 80 [code,ro,len] n λ_ n=>gS 22 [jA,iG,iG.add iD] n λ_ n=>fV 62 [iD,len] 0 9223372036854775807 n λq n=>fV 22 [jA,iG,iG.add q] 0 bU n λsrc n=>fV 63 [code,ro,src] 0 bU n λcode' n=>k n (gx tm o.dst (.w (.one (.int .i64 ⟨q,0,9223372036854775807⟩)))) (dN bl b ([.rows sh off code' e5 kind],dJ)))) none
     |_,_,_=>none
    | .w (.one (.sl ..)),.w (.one (.con (.slice none 0 0))),some e=>match fO P e with
     |some _=>some (k n (gx tm o.dst (.w (.one (.int .i64 ⟨.const 0,0,0⟩)))) bl)
     |none=>none
    |_,_,_=>none
   |_,_=>none
  |_=>none
 |_=>none
noncomputable def YN (P:bV) (o:Oper) (n:Nat) (tm:List V) (bl:List aE) (k:iI):Option T:=
 match o.op with
 | .call c=>match c.callee with
  | .builtin .copy=>match c.args.toList,c.argTypes.toList with
   |[x,y],[t,_]=>match cl tm x,cl tm y,j2 P t with
    | .w (.one (.slc b off len _)),.w (.one (.slc b9 Cb iD _)),some e=>match bl[b]?,xj bl b9 Cb (JV iD len),fO P e with
     |some (C,dJ),some l,some s=>cond (aM s 1&&cK (off+l.length) C.length&&cc C&&cc (C.take off++l++C.drop (off+l.length)))
      (some (k n (gx tm o.dst (.w (.one (.int .i64 (bQ.const (JV iD len:Nat)))))) (dN bl b (C.take off++l++C.drop (off+l.length),dJ)))) none
     |_,_,_=>none
    |_,_,_=>none
   |_,_=>none
  |_=>none
 |_=>none
def Uo:V->Option (Nat×List A)
 | .s6 f kH=>some (f,kH)
 | .w (.one (.con (.func (.func f) a b)))=>cond (aM a.size 0&&aM b.size 0) (some (f,[])) none
 |_=>none
noncomputable def YK (P:bV) (gl:fa) (cal:fy) (inl:m1) (o:Oper) (n:Nat) (tm:List V) (bl:List aE) (k:iI):T:=
 match o.op with
 | .alloc t=>match qI P t with
  |some cs=>cond (cc cs) (k n (gx tm o.dst (.w (.one (.ptr bl.length 0)))) (bl++[(cs,(t,false))])) .stuck
  |none=> .stuck
 | .box t x=>match cl tm x with
  | .w u=>cond (cc u.cells) (k n (gx tm o.dst (.w (.one (.ptr bl.length 0)))) (bl++[(u.cells,(t,false))])) .stuck
  |_=> .stuck
 | .buildSlice t len parts=>match T9 P t len (parts.toList.map λp=>(p.1,cl tm p.2))with
  |some (cs,e)=>cond (cc cs) (k n (gx tm o.dst (.w (.one (.slc bl.length 0 len len)))) (bl++[(cs,(e,false))])) .stuck
  |none=> .stuck
 | .store t p x=>match cl tm p,cl tm x with
  | .w (.one (.ptr b off)),.w u=>match bl[b]?,fO P t with
   |some (cs,dJ),some s=>cond (aM u.cells.length s&&cK (off+s) cs.length&&dP 0 s&&cc cs&&cc (cs.take off++u.cells++cs.drop (off+s))) (k n (gx tm o.dst (.iU [])) (dN bl b (cs.take off++u.cells++cs.drop (off+s),dJ))) .stuck
   |_,_=> .stuck
  |_,_=> .stuck
 | .call c=>match c.callee with
  | .value (.func f)=>match cal f with
   |some _=>Ck P cal gl bl tm o n λv n'=>k n' (gx tm o.dst v) bl
   |none=>inl f n (c.args.toList.map (cl tm)) bl λn' v bq=>k n' (gx tm o.dst v) bq
  | .value (.tmp x)=>match O3 cal bl tm o with
   |some _=>Ck P cal gl bl tm o n λv n'=>k n' (gx tm o.dst v) bl
   |none=>match Uo (cl tm (.tmp x))with
   |some (f,kH)=>inl f n (c.args.toList.map (cl tm)++kH.map λy=>V.w (.one y)) bl λn' v bq=>k n' (gx tm o.dst v) bq
   |none=> .stuck
  | .builtin .append=>match c.args.toList,c.argTypes.toList with
   |[s,x],[t,t']=>TN P o.dst t t' (cl tm s) (cl tm x) n tm bl k
   |_,_=> .stuck
  |_=>Ck P cal gl bl tm o n λv n'=>k n' (gx tm o.dst v) bl
 |_=>Ck P cal gl bl tm o n λv n'=>k n' (gx tm o.dst v) bl
noncomputable def Ri (P:bV) (gl:fa) (cal:fy) (inl:m1) (o:Oper) (n:Nat) (tm:List V) (bl:List aE) (k:iI):T:=
 match YL P o n tm bl k with
 |some t=>t
 |none=>match Cx P o n tm bl k with
  |some t=>t
  |none=>match YM P o n tm bl k with
   |some t=>t
   |none=>match YN P o n tm bl k with
    |some t=>t
    |none=>YK P gl cal inl o n tm bl k
def xa:bC->Bool->Option (I×Option Int×Option Int)
 | .le p q,true=>match p.eN,q.eN with|some c,none=>some (q,some c,none)|none,some c=>some (p,none,some c)|_,_=>none
 | .le p q,false=>match p.eN,q.eN with|some c,none=>some (q,none,some (c-1))|none,some c=>some (p,some (c+1),none)|_,_=>none
 | .lt p q,true=>match p.eN,q.eN with|some c,none=>some (q,some (c+1),none)|none,some c=>some (p,none,some (c-1))|_,_=>none
 | .lt p q,false=>match p.eN,q.eN with|some c,none=>some (q,none,some c)|none,some c=>some (p,some c,none)|_,_=>none
 | .not b,v=>xa b (!v)
 |_,_=>none
def IM (a:Int):Option Int->Int
 |some b=>cond (decide (a<=b)) b a
 |none=>a
def L6 (a:Int):Option Int->Int
 |some b=>cond (decide (b<=a)) b a
 |none=>a
def O0 (b:bC) (v:Bool) (r:Option (I×Option Int×Option Int)):V->V
 | .w (.one (.bool e))=> .w (.one (.bool (cond (bC.beq e b) (.lit v) e)))
 | .w (.one (.int k x))=>match r with
  |some (l,lo,hi)=> .w (.one (.int k (cond (I.beq x.l l) (cond (decide (IM x.lo lo=L6 x.hi hi)) (.const (IM x.lo lo)) ⟨x.l,IM x.lo lo,L6 x.hi hi⟩) x)))
  |none=> .w (.one (.int k x))
 |u=>u
def wo (b:bC) (v:Bool) (l:List V):List V:=l.map (O0 b v (xa b v))
def FG (ops:Array Oper) (tm:List V) (o:Oper) (yes no:List V->T):T:=
 match o.guard with
 |none=>yes tm
 |some (g,want)=>match(ops[g]?).bind (·.dst)with
  |none=> .stuck
  |some d=>match tm[d]? with
   |some (.w (.one (.bool b)))=>match b with
    | .lit v=>cond (v==want) (yes tm) (no tm)
    |b=> .uq b (cond want (yes (wo b true tm)) (no (wo b true tm))) (cond want (no (wo b false tm)) (yes (wo b false tm)))
   |some (.iU [])=>no tm
   |_=> .stuck
noncomputable def I0 (P:bV) (gl:fa) (cal:fy) (inl:m1) (ops:Array Oper):List Oper->Nat->List V->List aE->iI->T
 |[],n,tm,bl,k=>k n tm bl
 |o::r,n,tm,bl,k=>FG ops tm o (λtm=>Ri P gl cal inl o n tm bl λn' cC bq=>I0 P gl cal inl ops r n' cC bq k) (λtm=>I0 P gl cal inl ops r n (gx tm o.dst (.iU [])) bl k)
def TK (g:Nat->T):List Nat->T
 |[]=> .stuck
 |[i]=>g i
 |i::r=> .both (g i) (TK g r)
noncomputable def Io (P:bV) (gl:fa) (cal:fy) (ops:Array Oper):List Oper->Nat->List V->List aE->(Nat->List V->T)->T
 |[],n,tm,bl,k=>k n tm
 |o::r,n,tm,bl,k=>cond (hQ o) (Io P gl cal ops r n tm bl k) (FG ops tm o (λtm=>Ck P cal gl bl tm o n λv n'=>Io P gl cal ops r n' (gx tm o.dst v) bl k) (λtm=>Io P gl cal ops r n (gx tm o.dst (.iU [])) bl k))
def Kb (P:bV):List Oper->Nat->List V->List aE->iI->T
 |[],n,tm,bl,k=>k n tm bl
 |o::r,n,tm,bl,k=>cond (hQ o) (match o.op with
  | .alloc t=>match qI P t with
   |some cs=>cond (cc cs) (Kb P r n (gx tm o.dst (.w (.one (.ptr bl.length 0)))) (bl++[(cs,(t,false))]) k) .stuck
   |none=> .stuck
  |_=> .stuck) (Kb P r n tm bl k)
def Ry (P:bV) (l:List Oper):Bool:=l.all λo=> !hQ o||(match o.op with| .alloc t=>(qI P t).isSome|_=>false)
def Ip (cal:fy) (dyn:Bool) (ops:Array Oper):List Tmp->List Oper->Nat
 |_,[]=>0
 |ds,o::r=>cond ((o.looksAt ops).any ds.contains) 0 <| cond (hQ o) (Ip cal dyn ops (match o.dst with|some d=>d::ds|none=>ds) r+1) <| cond (avX cal dyn o) (Ip cal dyn ops ds r+1) 0
def Lj (P:bV) (cal:fy) (ops:Array Oper):Nat:=
 cond (Jy ops (Ip cal false ops [] ops.toList)&&Ry P (ops.toList.take (Ip cal false ops [] ops.toList))) (Ip cal false ops [] ops.toList) (Ip cal true ops [] ops.toList)
def H4:Code->Option Nat
 | .region id _ _=>some id
 | .seq a b=>match H4 a with|some i=>some i|none=>H4 b
 | .block _ c| .loop c| .scope c=>H4 c
 | .cond _ a b=>match H4 a with|some i=>some i|none=>H4 b
 |_=>none
def Up:aV->aV->Bool
 | .pointer none,.pointer none=>true
 | .slice none 0 0,.slice none 0 0=>true
 | .func (.func f) a b,.func (.func s8) du b'=>aM f s8&&aM a.size 0&&aM b.size 0&&aM du.size 0&&aM b'.size 0
 |_,_=>false
def A.beq:A->A->Bool
 | .int k x,.int bD y=>decide (k=bD)&&I.beq x.l y.l&&x.lo==y.lo&&x.hi==y.hi
 | .bool a,.bool b=>bC.beq a b
 | .con a,.con b=>Up a b
 | .ptr b o,.ptr b' cD=>aM b b'&&aM o cD
 | .gptr b o,.gptr b' cD=>aM b b'&&aM o cD
 | .slc b o l c,.slc b' cD l' eR=>aM b b'&&aM o cD&&aM l l'&&aM c eR
 | .str a,.str b=>I.beq a b
 | .rows sh o c q k,.rows fX cD eR e3 bD=>tp sh fX&&I.beq o cD&&I.beq c eR&&I.beq q e3&&aM k bD
 | .sl b z o r l c,.sl b' Y9 cD r' l' eR=>aM b b'&&aM z Y9&&I.beq o cD&&I.beq r r'&&I.beq l l'&&I.beq c eR
 | .ep b z o i j,.ep b' Y9 cD D2 WN=>aM b b'&&aM z Y9&&I.beq o cD&&I.beq i D2&&aM j WN
 |_,_=>false
def rG:List A->List A->Bool
 |[],[]=>true
 |a::r,b::s=>A.beq a b&&rG r s
 |_,_=>false
def V.beq:V->V->Bool
 | .w (.one a),.w (.one b)=>A.beq a b
 | .w (.agg l),.w (.agg l')=>rG l l'
 | .iU [],.iU []=>true
 | .s6 f l,.s6 s8 l'=>aM f s8&&rG l l'
 |_,_=>false
def DI (i:Nat):List (Nat×Int×Int)->Option (Int×Int)
 |[]=>none
 |(j,lo,hi)::r=>cond (aM i j) (some (lo,hi)) (DI i r)
noncomputable def hs (gu:List Nat) (ints:List (Nat×Int×Int)):Nat->Nat->List V->Option (List V×List I×List (Int×Int))
 |_,_,[]=>some ([],[],[])
 |i,s,v::r=>cond (gu.any (aM i)) (match hs gu ints (i+1) s r with|some (t,l,b)=>some (v::t,l,b)|none=>none)
  (match DI i ints with
  |some (lo,hi)=>match v with
   | .w (.one (.int k x))=>cond (decide (lo<=x.lo)&&decide (x.hi<=hi)) (match hs gu ints (i+1) (s+1) r with|some (t,l,b)=>some (.w (.one (.int k ⟨.var s,lo,hi⟩))::t,x.l::l,(lo,hi)::b)|none=>none) none
   | .w (.one (.str x))=>(match hs gu ints (i+1) (s+1) r with|some (t,l,b)=>some (.w (.one (.str (.var s)))::t,x::l,(0,qR)::b)|none=>none)
   |_=>none
  |none=>match hs gu ints (i+1) s r with|some (t,l,b)=>some (.any::t,l,b)|none=>none)
noncomputable def nN (lo hi:Int) (s:Nat):A->Option (A×I×(Int×Int))
 | .int k x=>cond (decide (lo<=x.lo)&&decide (x.hi<=hi)) (some (.int k ⟨.var s,lo,hi⟩,x.l,(lo,hi))) none
 | .str x=>some (.str (.var s),x,(0,qR))
 | .rows sh off code cap k=>some (.rows sh off (.var s) cap k,code,(0,bU))
 |_=>none
noncomputable def ha (ints:List (Nat×Int×Int)):Nat->Nat->List A->Option (List A×List I×List (Int×Int))
 |_,_,[]=>some ([],[],[])
 |i,s,v::r=>match DI i ints with
  |some (lo,hi)=>match nN lo hi s v with
   |some (a,x,ga)=>match ha ints (i+1) (s+1) r with|some (t,l,b)=>some (a::t,x::l,ga::b)|none=>none
   |none=>none
  |none=>match ha ints (i+1) s r with|some (t,l,b)=>some (v::t,l,b)|none=>none
def cellsOf (b:Nat):List (Nat×Nat×Int×Int)->List (Nat×Int×Int)
 |[]=>[]
 |(b',c,q)::r=>cond (aM b b') ((c,q)::cellsOf b r) (cellsOf b r)
noncomputable def hb (cells:List (Nat×Nat×Int×Int)):Nat->Nat->List aE->Option (List aE×List I×List (Int×Int))
 |_,_,[]=>some ([],[],[])
 |i,s,(cs,ty)::r=>match ha (cellsOf i cells) 0 s cs with
  |some (c,l,b)=>match hb cells (i+1) (s+l.length) r with
   |some (t,l',b')=>some ((c,ty)::t,l++l',b++b')
   |none=>none
  |none=>none
def qm:List V->List V->Bool
 |[],[]=>true
 | .any::r,_::s=>qm r s
 |v::r,u::s=>V.beq v u&&qm r s
 |_,_=>false
def ql:List aE->List aE->Bool
 |[],[]=>true
 |(c,t)::r,(eR,t')::s=>rG c eR&&aM t.1 t'.1&&(t.2==t'.2)&&ql r s
 |_,_=>false
def gd:aE:=([.rows [] (.const 0) (.const 0) (.const 0) 0],(0,false))
def Az:List A->Bool
 |[.rows _ _ _ _ k]=>aM k 1
 |_=>false
def jM (N:Nat):Nat->List aE->List aE
 |_,[]=>[]
 |i,p::r=>cond (dP i N&&(cc p.1||Az p.1)) p gd::jM N (i+1) r
def PE (N:Nat) (tm:List V) (bl:List aE) (o:Oper):Bool:=match o.op with
 | .move _| .assign _| .extract _ _| .fieldAddr .. =>true
 | .load _ p=>match cl tm p with
  | .w (.one (.ptr b _))=>dP b N&&(match bl[b]? with|some p=>cc p.1|none=>false)
  |_=>false
 | .slice _ x _ _ _=>match cl tm x with| .w (.one (.sl ..))=>true|_=>false
 |_=>false
def PF (N:Nat) (tm:List V) (bl:List aE) (o:Oper):Bool:=match o.op with
 | .binOp _ _ x y _=>match cl tm x,cl tm y with
  | .w (.one (.int ..)),.w (.one (.int ..))=>true
  |_,_=>false
 | .indexAddr _ x _=>match cl tm x with| .w (.one (.sl ..))=>true|_=>false
 | .slice _ x _ _ _=>match cl tm x with| .w (.one (.str _))=>true|_=>false
 | .load _ p=>match cl tm p with
  | .w (.one (.ep b ..))=>dP b N&&(match bl[b]? with|some p=>Az p.1|none=>false)
  |_=>false
 |_=>false
def Qc (o:Oper):Bool:=match o.op with| .store .. =>true|_=>false
def W7 (o:Oper):Bool:=match o.op with| .move _| .assign _| .extract _ _| .fieldAddr .. | .load .. | .slice .. =>true|_=>false
def afE (o:Oper):Bool:=match o.op with| .call c=>(match c.callee with| .value _=>true|_=>false)|_=>false
def aq3 (o:Oper):Bool:=match o.op with| .call c=>(match c.callee with| .builtin .copy=>true|_=>false)|_=>false
def ass (ops:List Oper) (p:rC):Bool:=match p with
 | .tmp d=>ops.any λo=>o.dst==some d&&(match o.op with| .alloc .. =>true|_=>false)
 |_=>false
def W9 (ops:Array Oper):Bool:=(ops.toList.any (λo=>Qc o||afE o)&&cK 7 (ops.toList.filter λo=> !W7 o).length)||(ops.toList.any afE&&ops.toList.any Qc&&ops.toList.all λo=>match o.op with| .store _ p _=>ass ops.toList p|_=>true)
def Ll (tm:List V) (o:Oper):Bool:=match o.op with
 | .slice _ x _ _ _=>match cl tm x with| .w (.one (.ptr ..))=>true|_=>false
 |_=>false
def aeC (N:Nat) (tm:List V) (bl:List aE) (ops:Array Oper) (listed:Array Bool):Option Nat:=
 cond (RF ops) ((yn .any ops listed).find? λi=>(match ops[i]? with|some o=>PE N tm bl o||(W9 ops&&(PF N tm bl o||Ll tm o))||(ops.toList.any aq3&&Ll tm o)|none=>false)&&aBH .any ops listed i) none
def asE (ops:Array Oper) (tm:List V) (o:Oper):Bool:=match o.guard with
 |some (g,want)=>match(ops[g]?).bind (·.dst)with
  |some d=>match tm[d]? with
   |some (.w (.one (.bool (.lit v))))=> !(v==want)
   |some (.iU [])=>true
   |_=>false
  |none=>false
 |none=>false
def agG (tm:List V) (ops:Array Oper) (listed:Array Bool):Option Nat:=
 cond (RF ops) ((yn .any ops listed).find? λi=>(match ops[i]? with|some o=>asE ops tm o|none=>false)&&aBH .any ops listed i) none
def preB:List aE->List aE->Bool
 |(c,t)::r,(eR,t')::s=>rG c eR&&aM t.1 t'.1&&(t.2==t'.2)&&preB r s
 |[],_=>true
 |_,_=>false
noncomputable def Bo (P:bV) (gl:fa) (cal:fy) (inl:m1) (ops:Array Oper) (N:Nat) (Hz:List aE):Nat->Array Bool->Nat->List V->List aE->iI->T
 |0,listed,n,tm,bl,k=>match yn .any ops listed with
  |[]=>k n tm bl
  |_=> .stuck
 |f+1,listed,n,tm,bl,k=>match yn .any ops listed with
  |[]=>k n tm bl
  |l=>match aeC N tm bl ops listed with
   |some i=>match ops[i]? with
    |none=> .stuck
    |some o=>FG ops tm o (λtm=>Ck P cal gl (jM N 0 bl) tm o n λv n'=>Bo P gl cal inl ops N Hz f (listed.setIfInBounds i true) n' (gx tm o.dst v) bl k) (λtm=>Bo P gl cal inl ops N Hz f (listed.setIfInBounds i true) n (gx tm o.dst (.iU [])) bl k)
   |none=>match agG tm ops listed with
    |some i=>match ops[i]? with
     |none=> .stuck
     |some o=>FG ops tm o (λ_=> .stuck) (λtm=>Bo P gl cal inl ops N Hz f (listed.setIfInBounds i true) n (gx tm o.dst (.iU [])) bl k)
    |none=>TK (λi=>match ops[i]? with
    |none=> .stuck
    |some o=>FG ops tm o (λtm=>Ri P gl cal inl o n tm bl λn' cC bq=>cond (preB Hz (jM N 0 bq)) (Bo P gl cal inl ops N Hz f (listed.setIfInBounds i true) n' cC bq k) .stuck) (λtm=>Bo P gl cal inl ops N Hz f (listed.setIfInBounds i true) n (gx tm o.dst (.iU [])) bl k)) l
def akt (ops:List Oper) (tm:List V) (p:rC):Nat:=match p with
 | .tmp d=>match ops.find? λo=>o.dst==some d with
  |some o=>match o.op with
   | .fieldAddr _ x _=>match cl tm x with| .w (.one (.ptr b _))=>b|_=>0
   | .alloc .. =>1000000
   |_=>0
  |none=>match cl tm p with| .w (.one (.ptr b _))=>b|_=>0
 |_=>0
def aaZ (ops:List Oper) (tm:List V):List Oper->Nat->Nat
 |[],N=>N
 |o::r,N=>aaZ ops tm r (match o.op with| .store _ p _=>min N (akt ops tm p)|_=>N)
def Lk (ops:Array Oper) (tm:List V) (bl:List aE):Nat:=cond (W9 ops) (min bl.length (aaZ ops.toList tm ops.toList bl.length)) (cond (ops.toList.any Qc) 0 bl.length)
def Yc (body:Nat->List V->List aE->wM->T):Nat->Nat->List V->List aE->wM->T
 |0,_,_,_,_=> .stuck
 |r+1,n,tm,bl,k=>body n tm bl λx n' cC bq=>match x with
  | .normal=>Yc body r n' cC bq k
  |x=>k x n' cC bq
def zV (lo:Nat):List (Nat×List aN×bp)->List V->List aE->List Nat->Option (List I×List Nat)
 |[],_,_,used=>some ([],used)
 |(s,sh,e)::r,tm,bl,used=>match tm[s]? with
  |some (.w (.one (.con (.slice none 0 0))))=>match zV lo r tm bl used with
   |some (l,u)=>some (.const 0:: .const 0:: .const (-1)::l,u)
   |none=>none
  |some (.w (.one (.sl b bz o ro len cap)))=>match bl[b]? with
   |some ([.rows fX off code e5 kind],t)=>cond (tp sh fX&&aM kind 2&&I.beq o (.const 0)&&I.beq off (.const 0)&&I.beq ro (.const 0)&&I.beq cap e5&&aM t.1 e&&aM bz sh.length&&cK lo b&& !(used.any (aM b)))
    (match zV lo r tm bl (b::used)with
    |some (l,u)=>some (code::len::cap::l,u)
    |none=>none) none
   |_=>none
  |_=>none
def qw:List Nat->List aE->List aE
 |[],bl=>bl
 |b::r,bl=>match bl[b]? with
  |some ([.rows sh off code cap _],t)=>qw r (dN bl b ([.rows sh off code cap 0],t))
  |_=>qw r bl
def FC:List (Nat×Int×Int)->List V->M (List V)
 |[],tm=>pure tm
 |(s,lo,hi)::r,tm=>match tm[s]? with
  |some (.w (.one (.int k x)))=>cond (decide (lo<=x.lo)&&decide (x.hi<=hi)) (FC r tm) (bind (gS 39 [x.l,.const lo,.const hi]) λ_=>FC r (wi tm s (.w (.one (.int k ⟨x.l,lo,hi⟩)))))
  |_=>FC r tm
def Kj (tm:List V):List Nat->M (List I)
 |[]=>pure []
 |s::r=>match tm[s]? with
  |some (.w (.one (.bool e)))=>bind (match e with| .lit v=>pure (.const (cond v 1 0))|e=>Gi e) λl=>bind (Kj tm r) λls=>pure (l::ls)
  |_=>fail
def yT:List Nat->Nat->List V->List V
 |[],_,tm=>tm
 |s::r,v,tm=>yT r (v+1) (wi tm s (.w (.one (.bool (.eq (.var v) (.const 1))))))
def vt:List (Nat×List aN×bp)->Nat->List V->List aE->List V×List aE
 |[],_,tm,bl=>(tm,bl)
 |(s,sh,e)::r,v,tm,bl=>vt r (v+3) (wi tm s (.w (.one (.sl bl.length sh.length (.const 0) (.const 0) (.var (v+1)) (.var (v+2)))))) (bl++[([.rows sh (.const 0) (.var v) (.var (v+2)) 2],(e,false))])
def Oa (l:List Nat):List (Int×Int):=l.map λ_=>(0,1)
noncomputable def E6 (l:List (Nat×List aN×bp)):List (Int×Int):=l.flatMap λ_=>[(0,bU),(0,9223372036854775807),(-1,9223372036854775807)]
noncomputable def MS:List (Nat×List aN×Nat)->List aE->M (List aE)
 |[],bl=>pure bl
 |(b,sh,c)::r,bl=>match bl[b]? with
  |some (C,t)=>cond (cc C) (cond (!t.2&&aM C.length (c*sh.length)&&qC sh&&cK c 1000000) (bind (C1 sh (rI sh.length c C) (.const 0)) λcode=>MS r (dN bl b ([.rows sh (.const 0) code (.const c) 2],t))) fail) (MS r bl)
  |none=>fail
def GO:List (Nat×List aN)->List V->List aE->Option (List I)
 |[],_,_=>some []
 |(s,sh)::r,tm,bl=>match tm[s]? with
  |some (.w (.one (.con (.slice none 0 0))))=>match GO r tm bl with
   |some l=>some (.const 0:: .const 0:: .const (-1)::l)
   |none=>none
  |some (.w (.one (.sl b bz o ro len cap)))=>match bl[b]? with
   |some ([.rows fX off code e5 kind],t)=>cond (tp sh fX&&aM kind 1&&I.beq o off&&I.beq ro (.const 0)&&I.beq cap e5&&aM bz sh.length)
    (match GO r tm bl with
    |some l=>some (code::len::cap::l)
    |none=>none) none
   |_=>none
  |_=>none
def Qw:Nat->M Unit
 |0=>pure ()
 |k+1=>λn Hg=> .nat n (Qw k (n+1) Hg)
def headD:List (Nat×List aN)->Nat->Nat->List V->List aE->List V×List aE
 |[],_,_,tm,bl=>(tm,bl)
 |(s,sh)::r,v,u,tm,bl=>headD r (v+3) (u+1) (wi tm s (.w (.one (.sl bl.length sh.length (.var u) (.const 0) (.var (v+1)) (.var (v+2)))))) (bl++[([.rows sh (.var u) (.var v) (.var (v+2)) 1],(0,false))])
noncomputable def GN (l:List (Nat×List aN)):List (Int×Int):=l.flatMap λ_=>[(0,bU),(0,9223372036854775807),(-1,9223372036854775807)]
noncomputable def W6 (li:gB) (body:Nat->List V->List aE->wM->T) (n:Nat) (tm:List V) (bl:List aE) (k:wM):T:=
 MS li.Yh bl n λbl n=>FC li.ints tm n λtm n=>Kj tm li.uo n λfB n=>match hs li.gu li.ints 0 (n+1) tm,zV 0 li.tB tm bl [],GO li.p1 tm bl with
 |some (px,l1,b8),some (gv,us),some gV=>match hb li.cells 0 (n+1+l1.length) (qw us bl)with
  |none=> .stuck
  |some (fg,l2,b9)=>cond (!(qm px px&&ql fg fg)) .stuck <| .loop n (l1++l2++(fB++gv++gV)) (n+1) (b8++b9++(Oa li.uo++E6 li.tB++GN li.p1))
   (Qw li.p1.length (n+1+l1.length+l2.length+(fB++gv++gV).length) λ_ N=>
   let d:=headD li.p1 (n+1+l1.length+l2.length+(fB++gv).length) (n+1+l1.length+l2.length+(fB++gv++gV).length) (yT li.uo (n+1+l1.length+l2.length) px) fg
   let e:=vt li.tB (n+1+l1.length+l2.length+fB.length) d.1 d.2
   body N e.1 e.2 λx n' cC bq=>match x with
   | .normal=>FC li.ints cC n' λcC n'=>Kj cC li.uo n' λafO n'=>match hs li.gu li.ints 0 (n+1) cC,zV bl.length li.tB cC bq [],GO li.p1 cC bq with
    |some (Cy,v1,_),some (WV,_),some afX=>match hb li.cells 0 (n+1+v1.length) (bq.take bl.length)with
     |none=> .stuck
     |some (sD,v2,_)=>cond (qm px Cy&&ql fg sD) (.again n (v1++v2++(afO++WV++afX))) .stuck
    |_,_,_=> .stuck
   |x=>k x n' cC bq)
 |_,_,_=> .stuck
noncomputable def qj (P:bV) (gl:fa) (cal:fy) (inl:m1) (li:Nat->Option gB) (rounds:Nat):Code->Nat->List V->List aE->wM->T
 | .skip,n,tm,bl,k=>k .normal n tm bl
 | .region _ ops draw,n,tm,bl,k=>cond draw
  (let h:=Lj P cal ops
   cond (Jy ops h&&Ry P (ops.toList.take h)) (Io P gl cal ops (ops.toList.take h) n tm bl λn' cC=>Kb P (ops.toList.take h) n' cC bl λn' cC bq=>I0 P gl cal inl ops (ops.toList.drop h) n' cC bq (k .normal)) (cond (cK (ops.toList.filter λo=> !W7 o).length 12) (Bo P gl cal inl ops (Lk ops tm bl) (jM (Lk ops tm bl) 0 bl) ops.size (Bb ops.size false) n tm bl (k .normal)) .stuck))
  (I0 P gl cal inl ops ops.toList n tm bl (k .normal))
 | .seq a b,n,tm,bl,k=>qj P gl cal inl li rounds a n tm bl λx n' cC bq=>match x with
  | .normal=>qj P gl cal inl li rounds b n' cC bq k
  |x=>k x n' cC bq
 | .cond c a b,n,tm,bl,k=>match cl tm c with
  | .w (.one (.bool e))=>match e with
   | .lit v=>cond v (qj P gl cal inl li rounds a n tm bl k) (qj P gl cal inl li rounds b n tm bl k)
   |e=> .uq e (qj P gl cal inl li rounds a n (wo e true tm) bl k) (qj P gl cal inl li rounds b n (wo e false tm) bl k)
  |_=> .stuck
 | .block id c,n,tm,bl,k=>qj P gl cal inl li rounds c n tm bl λx n' cC bq=>match x with
  | .exit D3=>cond (aM D3 id) (k .normal n' cC bq) (k (.exit D3) n' cC bq)
  |x=>k x n' cC bq
 | .loop c,n,tm,bl,k=>match(H4 c).bind li with
  |some l=>W6 l (λn tm bl k=>qj P gl cal inl li rounds c n tm bl k) n tm bl k
  |none=>Yc (λn tm bl k=>qj P gl cal inl li rounds c n tm bl k) rounds n tm bl k
 | .exit id,n,tm,bl,k=>k (.exit id) n tm bl
 | .ret,n,tm,bl,k=>k .ret n tm bl
 |_,_,_,_,_=> .stuck
def MP (P:bV) (gl:fa) (bl:List aE) (tm:List V):ResultVar->Option W
 | .tmp t=>match tm[t]? with|some (.w u)=>some u|_=>none
 | .cell a t=>match tm[a]? with
  |some (.w (.one p))=>match HK bl gl p,kM P t,fO P t with
   |some cs,some true,some k=>cond (cK k cs.length) (some (.agg (cs.take k))) none
   |some (x::_),some false,_=>some (.one x)
   |_,_,_=>none
  |_=>none
def GR (P:bV) (gl:fa) (bl:List aE) (tm:List V):List ResultVar->Option (List W)
 |[]=>some []
 |r::s=>match MP P gl bl tm r,GR P gl bl tm s with|some u,some l=>some (u::l)|_,_=>none
def Xx (tm:List V):List ResultVar->Option V
 |[.tmp t]=>match tm[t]? with
  |some (.s6 f c)=>some (.s6 f c)
  |some (.sN b l lo)=>some (.sN b l lo)
  |_=>none
 |_=>none
def MN (P:bV) (gl:fa) (fn:Func) (n:Nat) (tm:List V) (bl:List aE) (k:RK):T:=
 match GR P gl bl tm fn.results.toList with
 |some [u]=>k n (.w u) bl
 |some l=>k n (.iU l) bl
 |none=>match Xx tm fn.results.toList with
  |some v=>k n v bl
  |none=> .stuck
def Jk:Nat->List V
 |0=>[]
 |n+1=> .iU []::Jk n
noncomputable def N8 (P:bV) (gl:fa) (cal:fy) (inl:m1) (li:dt->Nat->Option gB) (rounds:Nat):m1:=
 λf n vs bl k=>match P.funcs[f]? with
  |none=> .stuck
  |some fn=>match fn.body with
   |none=> .stuck
   |some c=>cond (!(fn.name== "runtime.NumGoroutine")&&cK vs.length fn.ntmps) (qj P gl cal inl (li f) rounds c n (vs++Jk (fn.ntmps-vs.length)) bl λx n' cC bq=>match x with
    | .exit _=> .stuck
    |_=>MN P gl fn n' cC bq k) .stuck
noncomputable def Kp (P:bV) (gl:fa) (cal:fy) (li:dt->Nat->Option gB) (rounds:Nat):Nat->m1
 |0=>λ_ _ _ _ _=> .stuck
 |d+1=>N8 P gl cal (Kp P gl cal li rounds d) li rounds
abbrev qO:=dt->Option (Nat->List V->List aE->RK->T)
noncomputable def Xz (bc:qO) (inl:m1):m1:=λf n vs bl k=>match bc f with
 |some g=>g n vs bl k
 |none=>inl f n vs bl k
noncomputable def HJ (bc:qO) (P:bV) (gl:fa) (cal:fy) (li:dt->Nat->Option gB) (rounds:Nat):Nat->m1
 |0=>λ_ _ _ _ _=> .stuck
 |d+1=>N8 P gl cal (Xz bc (HJ bc P gl cal li rounds d)) li rounds
end Go.ch
