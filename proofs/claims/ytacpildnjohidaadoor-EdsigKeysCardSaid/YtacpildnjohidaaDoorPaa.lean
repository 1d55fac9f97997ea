/- Texts as numbers. -/
import GoSem.ClaimData
import GoSem.Op.String
import Derived.WalkKit
import Derived.Laws.StructEq
import Derived.ChangeKeysEq
import Derived.Laws.Tables
import Derived.Laws.Strings2
import Derived.Laws.Concat
import Derived.Laws.Cover1
import Derived.Laws.Cover3
import Derived.Laws.BytesArg
import Derived.StillTail
import Derived.OrdersHeld
import Derived.Laws.CopyRow
import Derived.Deep.LoopGhost
open Array renaming toArray_toList->lO,toList_map->AG,replicate->Ci,eq_empty_of_size_eq_zero->D6,getElem?_toList->Px,getElem?_eq_none->UF,getElem?_setIfInBounds_ne->aJl,ext_getElem?->aJx
open BitVec renaming ofInt->wj,toNat_ofInt->UA
open Bool renaming and_eq_true->bx,not_eq_true'->cI,not_true->cU,not_eq_false'->dd,false_eq_true->xS,or_eq_true->D3,false_or->IG,true_and->aJd
open ByteArray renaming size->aPI
open Classical renaming byContradiction->ad3,choose_spec->apa,choose->aI0
open Function renaming comp->Pm
open Go renaming World->aG,Value->aW,TypeId->br,Program->b4,FuncId->dL,IntKind->dW,run_underlying->gJ,Operand->rf,getD_both->II,run_loadCells_list->Pp
open Go.Act renaming put->LK
open Go.Builtin renaming len_->LM,min_->aej,max_->aek
open Go.ByteArray renaming toList_mk->aPH,mk_append_mk->aPJ,getElem?_lt'->aPK,extract_mk->aPL
open Go.Deferred renaming ofValue->apq
open Go.Instr renaming sureAddr->o2,sliceBounds->o3,loadAt->pH,sliceAt->uL,indexAt->xQ,sliceBound->Pw,index->aeb,slice->aec,extract->apf,fieldAt->apg,fill->apo,arrayAt->apr
open Go.IntKind renaming max->o0,signed->Pt,bits->apl,wrap->aJc
open Go.Next renaming value->mh
open Go.Next.value renaming injEq->aJz
open Go.Op renaming eqFields->LN,intBits->UC,equalIn->UE
open Go.Oper renaming wp->o4
open Go.Program renaming fieldsOf->aJs
open Go.Region renaming ready->ze,wanted->Cl,waitsFor->D5,waitsFor_spec->IH,noSelect->Ut,binds->aee,Mode->aps,chainB->aJu,seqB->aJv,free->aJB
open Go.Result renaming andThen_ok->jF,andThen->aJA
open Go.Result.ok renaming injEq->aJy
open Go.Sem renaming run_bind->jl,run_pure->kv
open Go.Utf8 renaming encode->UD
open Go.Value.pointer renaming injEq->aPt
open Go.World renaming cell?->nK
open Go.World.Extends renaming refl->sW
open Int renaming le_refl->di,mul_comm->lB,emod_eq_of_lt->mD,lt_or_le->mE,eq_ofNat_of_zero_le->oY,toNat_natCast->qm,le_of_lt->sd,emod_nonneg->sV,emod_lt_of_pos->wg,mul_assoc->DY,mul_le_mul_of_nonneg_left->F4,dvd_of_emod_eq_zero->Iy,natCast_nonneg->LB,mul_add->LD,ediv_nonneg->ad8,mul_le_mul->aea,mul_nonneg->api,mul_ediv_add_emod->apk,ofNat_sub->apm,mul_emod_right->apn,ediv_le_ediv->aJb,ediv_le_self->aJh,fdiv_eq_ediv_of_nonneg->aJi,tdiv_eq_ediv_of_nonneg->aJj,tmod_eq_emod_of_nonneg->aJk,ofNat_toNat->aJF
open List renaming getD->U,map_cons->du,mem_cons_of_mem->eI,mem_of_getElem?->fC,replicate->fD,map_nil->gQ,length_append->gY,range->ht,length_cons->ke,map_congr_left->kU,mem_of_mem_take->nd,mem_cons->oW,map_map->pD,getElem?_eq_getElem->pF,length_map->pG,length_nil->qo,mem_of_mem_drop->rh,getElem?_map->se,length_take->sf,getElem?_take->tI,flatMap_cons->wk,getElem?_cons_zero->xY,eq_nil_of_length_eq_zero->zb,getElem?_append_left->AA,drop_drop->Cg,getElem?_drop->Cj,mem_of_find?_eq_some->ID,getElem_mem->IE,getElem?_append_right->LF,map_take->LH,map_drop->LI,head?->LL,map_id->Pl,getElem?_toArray->Pu,tail->Pv,find?_some->Uu,mem_map_of_mem->aJm,take_drop->aJr,countP_cons->aJw
open Nat renaming beq->aP,le_refl->bW,eq_of_beq_eq_true->b1,ble->cO,blt->dX,le_of_ble_eq_true->gU,le_trans->nf,add_zero->oX,log2->re,le_succ->tJ,pow_succ->za,mul_comm->zc,zero_add->zd,lt_succ_self->AE,succ_mul->AF,add_mul->AH,mul_one->Ch,pow_add->D0,min_eq_left->F2,add_assoc->Iz,two_pow_pos->IA,lt_of_lt_of_le->IB,zero_le->LC,lt_or_ge->LJ,min->LO,div_div_eq_div_mul->Ph,pow_le_pow_right->Pk,div_add_mod->Up,mul_assoc->Us,mul_div_cancel_left->apb,one_le_two_pow->apc,testBit_mul_two_pow->aJe,lt_log2_self->aJf,or_lt_two_pow->aJg
open Option renaming isSome_none->xR,map_some->Az,getD_some->D1,getD_none->aed,map_none->aJt
open Option.some renaming injEq->bj,inj->jC
open Prod.mk renaming injEq->eO
open Pure renaming pure->Uw
open UInt8 renaming ofNat->Ay
set_option linter.unusedVariables false
set_option linter.unusedSimpArgs false
namespace Go.b9
def qC:List UInt8->Nat
 |[]=>0
 |b::r=>(b.toNat+1)+257*qC r
def FI:Nat->Nat->List UInt8
 |0,_=>[]
 |f+1,n=>match n with
  |0=>[]
  |k+1=>Ay (k% 257)::FI f ((k+1)/257)
theorem Xr (b:UInt8) (r:List UInt8):qC (b::r)=(b.toNat+1)+257*qC r:=rfl
theorem asa (b:UInt8) (r:List UInt8):qC (b::r)=(b.toNat+257*qC r)+1:=by rw[Xr];omega
theorem amT:∀(l:List UInt8) (f:Nat),l.length<=f->FI f (qC l)=l
 |[],0,_=>rfl
 |[],f+1,_=>rfl
 |b::r,0,h=>by simp at h
 |b::r,f+1,h=>by
  have hb:=b.toNat_lt;rw[asa];show Ay ((b.toNat+257*qC r)% 257)::FI f ((b.toNat+257*qC r+1)/257)=b::r;have az:(b.toNat+257*qC r)% 257=b.toNat:=by omega
  have aI:(b.toNat+257*qC r+1)/257=qC r:=by omega
  rw[az,aI,amT r f (by simpa using h)];simp
theorem amU:∀(f n k:Nat),n<257^k->(FI f n).length<=k
 |0,_,_,_=>by simp[FI]
 |f+1,0,k,_=>by simp[FI]
 |f+1,n+1,0,h=>by simp at h
 |f+1,n+1,k+1,h=>by
  have:(n+1)/257<257^k:=by rw[Nat.div_lt_iff_lt_mul (by decide)];rw[za]at h;exact h
  have ih:=amU f ((n+1)/257) k this;simp only[FI,ke];omega
theorem ahd:∀(l:List UInt8),qC l<257^l.length
 |[]=>by simp[qC]
 |b::r=>by
  have ih:=ahd r;have hb:=b.toNat_lt;unfold qC;rw[ke,za];omega
theorem ahc:∀(l:List UInt8),l.length<=qC l
 |[]=>by simp
 |b::r=>by
  have ih:=ahc r;unfold qC;rw[ke];omega
theorem ahe:∀(l:List UInt8),0<l.length->2^(l.length-1)<=qC l
 |[b],_=>by rw[Xr];show 1<=_;omega
 |b::c::r,_=>by
  have ih:=ahe (c::r) (by simp);rw[Xr b];simp only[ke,Nat.add_sub_cancel]at ih⊢;rw[za];omega
def bF (z:Int):List UInt8:=FI (re z.toNat+1) z.toNat
def kJ (l:List UInt8):Int:=qC l
theorem BK (l:List UInt8):bF (kJ l)=l:=by
 unfold bF kJ;rw[qm];apply amT;by_cases h:l.length=0
 ·omega
 ·have h1:=ahe l (by omega);have h2:qC l≠0:=by have:=ahc l;omega
  have h3:=(Nat.le_log2 h2).2 h1;omega
theorem zv (l:List UInt8):0<=kJ l:=LB _
theorem aqH (k:Nat):∃H:Int,(∀l:List UInt8,l.length<=k->kJ l<=H)/\∀z:Int,z<=H->(bF z).length<=k:=by
 refine⟨(257^k:Nat)-1,λl h=>?_,λz h=>?_⟩
 ·have h1:=ahd l;have h2:257^l.length<=257^k:=Pk (by decide) h;unfold kJ;omega
 ·unfold bF;apply amU;have:=Nat.pow_pos (n:=k) (show 0<257 by decide);omega
def m4:Nat:=140737488351232
theorem VS:∃H:Int,(∀l:List UInt8,l.length<=m4->kJ l<=H)/\∀z:Int,z<=H->(bF z).length<=m4:=aqH m4
noncomputable def qu:Int:=aI0 VS
theorem x2 {l:List UInt8} (h:l.length<=m4):kJ l<=qu:=(apa VS).1 l h
theorem LW {z:Int} (h:z<=qu):(bF z).length<=m4:=(apa VS).2 z h
theorem VT:0<=qu:=by have:=x2 (l:=[]) (by simp);exact this
def yB (l:List UInt8):List UInt8:=cond (cO l.length 1000000) l []
theorem aym (l:List UInt8):0<=kJ (yB l)/\kJ (yB l)<=qu:=by
 refine⟨zv _,x2 ?_⟩;unfold yB;cases h:cO l.length 1000000 with
 |true=>have:=gU h;simp only[cond_true];unfold m4;omega
 |false=>simp
def en (l:List UInt8):ByteArray:=⟨l.toArray⟩
def Cn (z:Int):Nat:=if 0<=z then 2*z.toNat else 2*(-z).toNat-1
def FN (n:Nat):Int:=if n% 2=0 then((n/2:Nat):Int)else-(((n+1)/2:Nat):Int)
theorem aHM (z:Int):FN (Cn z)=z:=by
 unfold Cn FN;split
 ·rw[if_pos (by omega)];omega
 ·rw[if_neg (by omega)];omega
def lc:List Nat->Nat
 |[]=>0
 |x::r=>2^x*(2*lc r+1)
def tF:Nat->Nat->Nat
 |0,_=>0
 |f+1,n=>if n% 2=0 then tF f (n/2)+1 else 0
theorem anH (k:Nat):∀(x f:Nat),x<f->tF f (2^x*(2*k+1))=x
 |0,f+1,_=>by
  unfold tF;rw[if_neg (by rw[Nat.pow_zero,Nat.one_mul];omega)]
 |x+1,f+1,h=>by
  unfold tF;have e:2^(x+1)*(2*k+1)=2*(2^x*(2*k+1)):=by rw[za,zc (2^x) 2,Us]
  rw[e,if_pos (by omega),apb _ (by decide),anH k x f (by omega)]
def bV:Nat->Nat->List Nat
 |0,_=>[]
 |f+1,n=>if n=0 then []else tF n n::bV f (n/2^tF n n/2)
theorem ay0 (x:Nat):x<2^x:=Nat.lt_two_pow_self
theorem aba:∀l:List Nat,l.length<=lc l
 |[]=>bW _
 |x::r=>by
  have ih:=aba r;unfold lc;have h1:1<=2^x:=apc;have h2:2*lc r+1<=2^x*(2*lc r+1):=Nat.le_mul_of_pos_left _ h1;rw[ke];omega
theorem abc:∀(l:List Nat) (f:Nat),l.length<=f->bV f (lc l)=l
 |[],0,_=>rfl
 |[],f+1,_=>by simp[bV,lc]
 |x::r,0,h=>by simp at h
 |x::r,f+1,h=>by
  have h1:1<=2^x:=apc;have h2:2^x<=2^x*(2*lc r+1):=Nat.le_mul_of_pos_right _ (by omega);have h3:=ay0 x;have hz:lc (x::r)≠0:=by
   have hl:lc (x::r)=2^x*(2*lc r+1):=rfl;omega
  have aD:tF (lc (x::r)) (lc (x::r))=x:=by
   show tF (2^x*(2*lc r+1)) (2^x*(2*lc r+1))=x;exact anH _ _ _ (by omega)
  unfold bV;rw[if_neg hz,aD];have e:lc (x::r)/2^x/2=lc r:=by
   have hl:lc (x::r)=2^x*(2*lc r+1):=rfl;rw[hl,apb _ (by omega)];omega
  rw[e,abc r f (by simpa using h)]
theorem aa9 (X:Nat):∀k:Nat,∃B,∀l:List Nat,l.length<=k->(∀x∈l,x<=X)->lc l<=B
 |0=>⟨0,λl h _=>by
  have:l=[]:=List.length_eq_zero_iff.1 (by omega);subst this;exact bW _⟩
 |k+1=>by
  obtain⟨B,ea⟩:=aa9 X k;refine⟨2^X*(2*B+1),λl h hx=>?_⟩;cases l with
  |nil=>exact LC _
  |cons x r=>
   unfold lc;have h1:=ea r (by simpa using h) λy hy=>hx y (eI _ hy);exact Nat.mul_le_mul (Pk (by decide) (hx x (by simp))) (by omega)
def rc (l:List (List Int)):Int:=(lc (l.map λrow=>lc (row.map Cn)):Nat)
def ao (z:Int):List (List Int):=(bV z.toNat z.toNat).map λn=>(bV n n).map FN
theorem ay6 (l:List Int):(l.map Cn).map FN=l:=by
 rw[pD]
 conv=>rhs;rw[<-Pl l]
 exact kU λz _=>aHM z
theorem kS (l:List (List Int)):ao (rc l)=l:=by
 unfold ao rc;rw[qm,abc _ _ (aba _),pD]
 conv=>rhs;rw[<-Pl l]
 refine kU λrow _=>?_;simp only[Pm,id];rw[abc _ _ (aba _),ay6]
theorem kc (l:List (List Int)):0<=rc l:=LB _
def acB (row:List Int):Prop:=row.length<=100/\∀z∈row,-18446744073709551616-qu<=z/\z<=18446744073709551616+qu
theorem ae7:∃H:Int,∀l:List (List Int),l.length<=maxLen->(∀row∈l,acB row)->rc l<=H:=by
 obtain⟨B,ea⟩:=aa9 (2*(18446744073709551616+qu).toNat) 100;obtain⟨C,jL⟩:=aa9 B maxLen;refine⟨(C:Nat),λl h hr=>?_⟩;unfold rc;have:=jL (l.map λrow=>lc (row.map Cn)) (by simpa using h) λx hx=>by
  obtain⟨row,kN,rfl⟩:=List.mem_map.1 hx;refine ea _ (by simpa using(hr row kN).1) λy hy=>?_;obtain⟨z,hz,rfl⟩:=List.mem_map.1 hy;have h1:=(hr row kN).2 z hz;have h2:=VT;unfold Cn;split<;>omega
 omega
noncomputable def b6:Int:=aI0 ae7
theorem uP {l:List (List Int)} (h:l.length<=maxLen) (hr:∀row∈l,acB row):rc l<=b6:=apa ae7 l h hr
inductive aQ where
 |int (k:dW) (lo hi:Int)
 |str
 |bool
def aQ.beq:aQ->aQ->Bool
 |int k lo hi,int bI SJ qL=>decide (k=bI)&&decide (lo=SJ)&&decide (hi=qL)
 |str,str=>true
 |bool,bool=>true
 |_,_=>false
theorem aQ.beq_eq:∀{a b:aQ},aQ.beq a b=true->a=b
 |int k lo hi,int bI SJ qL,h=>by
  simp only[aQ.beq,bx,decide_eq_true_eq]at h;rw[h.1.1,h.1.2,h.2]
 |str,str,_=>rfl
 |bool,bool,_=>rfl
 |int ..,str,h=>by cases h
 |int ..,bool,h=>by cases h
 |str,int ..,h=>by cases h
 |str,bool,h=>by cases h
 |bool,int ..,h=>by cases h
 |bool,str,h=>by cases h
def tB:List aQ->List aQ->Bool
 |[],[]=>true
 |a::r,b::s=>aQ.beq a b&&tB r s
 |_,_=>false
theorem FJ:∀{a b:List aQ},tB a b=true->a=b
 |[],[],_=>rfl
 |a::r,b::s,h=>by
  simp only[tB,bx]at h;rw[aQ.beq_eq h.1,FJ h.2]
 |[],_::_,h=>by cases h
 |_::_,[],h=>by cases h
noncomputable def aQ.hA:aQ->Int×Int
 |int _ lo hi=>(lo,hi)
 |str=>(0,qu)
 |bool=>(0,1)
def aQ.val:aQ->Int->aW
 |int k _ _,z=> .int k z
 |str,z=> .string (en (bF z))
 |bool,z=> .bool (decide (z=1))
def bM:Nat->List Int->Int
 |0,[s]=>(bF s).length
 |1,[s,i]=>((bF s).getD i.toNat 0).toNat
 |2,[s,a,b]=>kJ (((bF s).drop a.toNat).take (b.toNat-a.toNat))
 |3,[s,t]=>kJ (bF s++bF t)
 |4,[s,t]=>if bF s=bF t then 1 else 0
 |5,[s,t]=>if Op.bytesLess (bF s) (bF t)=true then 1 else 0
 |20,[c]=>(ao c).length
 |21,[c,i,j]=>((ao c).getD i.toNat []).getD j.toNat 0
 |22,[c,a,b]=>rc (((ao c).drop a.toNat).take (b.toNat-a.toNat))
 |23,c::row=>rc (ao c++[row])
 |24,[c,e]=>rc (ao c++ao e)
 |25,c::i::row=>rc ((ao c).set i.toNat row)
 |26,n::row=>rc (fD n.toNat row)
 |27,[s]=>rc ((bF s).map λb=>[(b.toNat:Int)])
 |34,[c,a,b]=>kJ ((((ao c).drop a.toNat).take (b.toNat-a.toNat)).map λrow=>Ay (row.getD 0 0).toNat)
 |37,[x,y]=>x*2^y.toNat
 |38,[x,y]=>x% y
 |76,[x,y]=>x/y
 |33,[r,a,c]=>if a=c then r else r+a
 |29,[c,i,j,v]=>rc ((ao c).set i.toNat (((ao c).getD i.toNat []).set j.toNat v))
 |42,c::i::j::vs=>rc ((ao c).set i.toNat (((ao c).getD i.toNat []).take j.toNat++vs++((ao c).getD i.toNat []).drop (j.toNat+vs.length)))
 |43,[s,i]=>if Ay i.toNat∈bF s then 1 else 0
 |61,c::a::k::row=>rc ((ao c).take a.toNat++fD k.toNat row++(ao c).drop (a.toNat+k.toNat))
 |62,[a,b]=>min a b
 |63,[c,a,s]=>rc ((ao c).take a.toNat++ao s++(ao c).drop (a.toNat+(ao s).length))
 |28,[c]=>kJ ((ao c).map λrow=>Ay (row.getD 0 0).toNat)
 |_,_=>0
noncomputable def Ml:Nat->List Int->Prop
 |70,[l,c]=>c∣l
 |71,z::_=>(ao z).length<=1000000000
 |72,z::_=>64∣(ao z).length/\(ao z).length<=1000001000
 |73,z::_=>128∣(ao z).length/\(ao z).length<=1000001000
 |74,[i,l]=>0<=i/\i<l
 |78,[x,y,z,c]=>0<=x/\x<=y/\y<=z/\z<=c
 |79,[l,c]=>l<=c
 |75,l=>∀z∈l,(ao z).length<=100000000
 |77,[x]=>0<=x
 |80,[c,a,k]=>0<=a/\0<=k/\a+k<=(ao c).length
 |81,l=>(bF (l.getD 5 0)).length<=1000000000
 |_,_=>False
def ay:Nat->List Int->Prop
 |1,[s,i]=>0<=i/\i<(bF s).length
 |2,[s,a,b]=>0<=a/\a<=b/\b<=(bF s).length
 |3,[s,t]=>(bF s).length+(bF t).length<=m4
 |21,[c,i]=>0<=i/\i<(ao c).length
 |30,[i,n]=>0<=i/\i<n
 |31,[c,n]=>n=(ao c).length
 |32,[a,b,n]=>0<=a/\a<=b/\b<=n
 |22,[c,a,b]=>0<=a/\a<=b/\b<=(ao c).length
 |35,[c,a,b]=>(0<=a/\a<=b/\b<=(ao c).length)/\b-a<=140737488351232
 |36,[y]=>0<y
 |39,[x,l,h]=>l<=x/\x<=h
 |40,[a,b]=>0<=a->0<=b
 |41,[s]=>(bF s).length<=4294967280
 |44,[w,s]=>bF w=[]∨(bF s).length<=4294967280
 |23,[c,k]=>(ao c).length+k<=1073741824
 |26,[n]=>0<=n/\n<=1073741824
 |48,r::_=>(ao r).length<=1099511627776
 |50,s::_=>(bF s).length<=1073741824
 |49,[l,c]=>0<=l/\l<=c/\c<=1073741824
 |64,[p,q,r,l]=>0<=p/\p<=q/\q<=r/\r<=l/\0<l
 |65,[c,a,k]=>0<=a/\0<k/\a+k<=(ao c).length
 |66,r::_=>(ao r).length<=1000000
 |68,[l,c]=>l<=c∨l=0
 |67,[c,i,k]=>((ao c).getD i.toNat []).length=k.toNat
 |53,[c,l]=>c<0->l=0
 |52,[c,a,b]=>0<=a/\a<b/\b<=(ao c).length/\(ao c).length<=1073741824
 |51,[c,i,r]=>(0<=i/\i<=(ao c).length)/\(ao r).length=1/\(ao c).length+1<=1073741824
 |op,l=>Ml op l
end Go.b9
namespace Go.b9
abbrev Env:=Nat->Int
def dI (ρ:Env) (n:Nat) (z:Int):Env:=λi=>cond (aP i n) z (ρ i)
def bR (ρ:Env):Nat->List Int->Env
 |_,[]=>ρ
 |n,z::zs=>bR (dI ρ n z) (n+1) zs
def agree (n:Nat) (ρ ae:Env):Prop:=∀i,i<n->ae i=ρ i
theorem agree.refl (n:Nat) (ρ:Env):agree n ρ ρ:=λ_ _=>rfl
theorem agree.trans {n n':Nat} {ρ ae zg:Env} (h:agree n ρ ae) (bm:agree n' ae zg) (hn:n<=n'):agree n ρ zg:=
 λi hi=>(bm i (by omega)).trans (h i hi)
theorem agree.mono {n n':Nat} {ρ ae:Env} (h:agree n' ρ ae) (hn:n<=n'):agree n ρ ae:=λi hi=>h i (by omega)
theorem mA (ρ:Env) (n:Nat) (z:Int):dI ρ n z n=z:=by simp[dI]
theorem adH (ρ:Env) {n i:Nat} (z:Int) (h:i≠n):dI ρ n z i=ρ i:=by
 unfold dI;cases hb:aP i n with
 |false=>rfl
 |true=>exact absurd (b1 hb) h
theorem agree.dI (n:Nat) (ρ:Env) (z:Int):agree n ρ (dI ρ n z):=λi hi=>adH ρ z (by omega)
theorem agree.bR:∀(zs:List Int) (n:Nat) (ρ:Env),agree n ρ (bR ρ n zs)
 |[],n,ρ=>agree.refl n ρ
 |z::zs,n,ρ=>(agree.dI n ρ z).trans (agree.bR zs (n+1) _) (by omega)
structure I where
 c:Int
 ts:List (Int×Nat)
def kk (ρ:Env):List (Int×Nat)->Int
 |[]=>0
 |(k,i)::r=>k*ρ i+kk ρ r
def I.den (ρ:Env) (l:I):Int:=kk ρ l.ts+l.c
def Hw (k:Int) (i:Nat):List (Int×Nat)->List (Int×Nat)
 |[]=>[(k,i)]
 |(bI,j)::r=>cond (dX i j) ((k,i)::(bI,j)::r) (cond (aP i j) (cond (k+bI==0) r ((k+bI,i)::r)) ((bI,j)::Hw k i r))
def IY:List (Int×Nat)->List (Int×Nat)->List (Int×Nat)
 |[],l=>l
 |(k,i)::r,l=>Hw k i (IY r l)
def FK (m:Int):List (Int×Nat)->List (Int×Nat)
 |[]=>[]
 |(k,i)::r=>(m*k,i)::FK m r
theorem ahv (ρ:Env) (k:Int) (i:Nat):∀l,kk ρ (Hw k i l)=k*ρ i+kk ρ l
 |[]=>rfl
 |(bI,j)::r=>by
  unfold Hw;cases h1:dX i j with
  |true=>rfl
  |false=>
   cases h2:aP i j with
   |true=>
    have e:i=j:=b1 h2;subst e;cases h3:(k+bI==0)with
    |true=>
     have h3:k+bI=0:=by simpa using h3
     simp only[cond_true,cond_false,kk];rw[<-Int.add_assoc,<-Int.add_mul,h3];simp
    |false=>simp only[cond_true,cond_false,kk];rw[Int.add_mul];omega
   |false=>simp only[cond_false,kk,ahv ρ k i r];omega
theorem aht (ρ:Env):∀l l',kk ρ (IY l l')=kk ρ l+kk ρ l'
 |[],l'=>by simp[IY,kk]
 |(k,i)::r,l'=>by simp only[IY,ahv,kk,aht ρ r l'];omega
theorem ahw (ρ:Env) (m:Int):∀l,kk ρ (FK m l)=m*kk ρ l
 |[]=>by simp[FK,kk]
 |(k,i)::r=>by simp only[FK,kk,ahw ρ m r];rw[LD,DY]
def vn (n:Nat) (l:List (Int×Nat)):Prop:=∀t∈l,t.2<n
theorem vn.mono {n n':Nat} {l} (h:vn n l) (hn:n<=n'):vn n' l:=λt aD=>IB (h t aD) hn
theorem am7 {n:Nat} {k:Int} {i:Nat} (hi:i<n):∀{l},vn n l->vn n (Hw k i l)
 |[],_=>by intro t aD;simp[Hw]at aD;subst aD;exact hi
 |(bI,j)::r,h=>by
  have hr:vn n r:=λt aD=>h t (eI _ aD);have aM:j<n:=h (bI,j) (by simp);have ih:=am7 (k:=k) hi hr;unfold Hw;intro t aD;cases h1:dX i j<;>cases h2:aP i j<;>cases h3:(k+bI==0)<;>simp only[h1,h2,h3,cond_true,cond_false,oW]at aD<;>
   first
   |(rcases aD with rfl|aD<;>first|exact hi|exact aM|(exact hr t aD)|(exact ih t aD)|(rcases aD with rfl|aD<;>first|exact aM|exact hr t aD))
   |exact hr t aD
theorem am6 {n:Nat}:∀{l l'},vn n l->vn n l'->vn n (IY l l')
 |[],_,_,bm=>bm
 |(k,i)::r,_,h,bm=>am7 (k:=k) (i:=i) (h (k,i) (by simp)) (am6 (l:=r) (λt aD=>h t (eI _ aD)) bm)
theorem am8 {n:Nat} {m:Int}:∀{l},vn n l->vn n (FK m l)
 |[],_=>λt aD=>by simp[FK]at aD
 |(k,i)::r,h=>by
  intro t aD;simp only[FK,oW]at aD;rcases aD with rfl|aD
  ·exact h (k,i) (by simp)
  ·exact am8 (λt aD=>h t (eI _ aD)) t aD
theorem ahu {n:Nat} {ρ ae:Env} (h:agree n ρ ae):∀{l},vn n l->kk ae l=kk ρ l
 |[],_=>rfl
 |(k,i)::r,hs=>by
  simp only[kk,h i (hs (k,i) (by simp)),ahu h (l:=r) (λt aD=>hs t (eI _ aD))]
namespace I
def const (c:Int):I:=⟨c,[]⟩
def var (n:Nat):I:=⟨0,[(1,n)]⟩
def add (a b:I):I:=⟨a.c+b.c,IY a.ts b.ts⟩
def smul (m:Int) (a:I):I:=cond (m==0) ⟨0,[]⟩ ⟨m*a.c,FK m a.ts⟩
def sub (a b:I):I:=a.add (b.smul (-1))
def eT (a:I):Option Int:=match a.ts with|[]=>some a.c|_=>none
def bN (n:Nat) (a:I):Prop:=vn n a.ts
def I4:List (Int×Nat)->List (Int×Nat)->Bool
 |[],[]=>true
 |(k,i)::r,(bI,E8)::r'=>k==bI&&aP i E8&&I4 r r'
 |_,_=>false
def beq (a b:I):Bool:=a.c==b.c&&I4 a.ts b.ts
theorem agI:∀{a b},I4 a b=true->a=b
 |[],[],_=>rfl
 |(k,i)::r,(bI,E8)::r',h=>by
  simp only[I4,bx,beq_iff_eq]at h;obtain⟨⟨h1,h2⟩,h3⟩:=h;rw[h1,b1 h2,agI h3]
 |[],_::_,h=>by simp[I4]at h
 |_::_,[],h=>by simp[I4]at h
theorem beq_eq {a b:I} (h:beq a b=true):a=b:=by
 simp only[beq,bx,beq_iff_eq]at h;cases a;cases b;simp only at h;rw[h.1,agI h.2]
theorem bq (ρ:Env) (c:Int):(const c).den ρ=c:=by simp[const,den,kk]
theorem db (ρ:Env) (n:Nat):(var n).den ρ=ρ n:=by simp[var,den,kk]
theorem den_add (ρ:Env) (a b:I):(a.add b).den ρ=a.den ρ+b.den ρ:=by simp only[add,den,aht];omega
theorem mU (ρ:Env) (m:Int) (a:I):(a.smul m).den ρ=m*a.den ρ:=by
 unfold smul;cases h:(m==0)with
 |true=>have h:m=0:=by simpa using h
        subst h;simp[den,kk]
 |false=>simp only[cond_false,den,ahw,LD]
theorem lZ (ρ:Env) (a b:I):(a.sub b).den ρ=a.den ρ-b.den ρ:=by simp only[sub,den_add,mU];omega
theorem k9 {ρ:Env} {a:I} {c:Int} (h:a.eT=some c):a.den ρ=c:=by
 unfold eT at h;cases ha:a.ts with
 |nil=>simp[ha]at h;simp[den,ha,kk,h]
 |cons x r=>simp[ha]at h
theorem dF (n:Nat) (c:Int):(const c).bN n:=λt aD=>by simp[const]at aD
theorem hj {n i:Nat} (h:i<n):(var i).bN n:=λt aD=>by simp[var]at aD;subst aD;exact h
theorem yW {n:Nat} {a b:I} (ha:a.bN n) (hb:b.bN n):(a.add b).bN n:=am6 ha hb
theorem xD {n:Nat} {m:Int} {a:I} (ha:a.bN n):(a.smul m).bN n:=by
 unfold smul;cases(m==0)with
 |true=>exactλt aD=>by simp at aD
 |false=>exact am8 ha
theorem xE {n:Nat} {a b:I} (ha:a.bN n) (hb:b.bN n):(a.sub b).bN n:=yW ha (xD hb)
theorem bN.mono {n n':Nat} {a:I} (h:a.bN n) (hn:n<=n'):a.bN n':=vn.mono h hn
theorem cf {n:Nat} {ρ ae:Env} (h:agree n ρ ae) {a:I} (ha:a.bN n):a.den ae=a.den ρ:=by simp only[den,ahu h ha]
end I
structure b0 where
 l:I
 lo:Int
 hi:Int
def b0.ok (n:Nat) (ρ:Env) (x:b0):Prop:=x.l.bN n/\x.lo<=x.l.den ρ/\x.l.den ρ<=x.hi
theorem b0.ok.agree {n n':Nat} {ρ ae:Env} {x:b0} (h:x.ok n ρ) (ha:agree n ρ ae) (hn:n<=n'):x.ok n' ae:=
 ⟨h.1.mono hn,by rw[I.cf ha h.1];exact h.2.1,by rw[I.cf ha h.1];exact h.2.2⟩
def b0.const (c:Int):b0:=⟨.const c,c,c⟩
theorem b0.qD (n:Nat) (ρ:Env) (c:Int):(b0.const c).ok n ρ:=⟨I.dF n c,by simp[b0.const,I.bq],by simp[b0.const,I.bq]⟩
inductive bH where
 |lit (b:Bool)
 |eq (a b:I)
 |lt (a b:I)
 |le (a b:I)
 |not (a:bH)
 |and (a b:bH)
 |iff (a b:bH)
namespace bH
def den (ρ:Env):bH->Bool
 |lit b=>b
 |eq a b=>decide (a.den ρ=b.den ρ)
 |lt a b=>decide (a.den ρ<b.den ρ)
 |le a b=>decide (a.den ρ<=b.den ρ)
 |not a=> !a.den ρ
 |and a b=>a.den ρ&&b.den ρ
 |iff a b=>a.den ρ==b.den ρ
def bN (n:Nat):bH->Prop
 |lit _=>True
 |eq a b|lt a b|le a b=>a.bN n/\b.bN n
 |not a=>a.bN n
 |and a b=>a.bN n/\b.bN n
 |iff a b=>a.bN n/\b.bN n
theorem bN.mono {n n':Nat} (hn:n<=n'):∀{b:bH},b.bN n->b.bN n'
 |lit _,_=>trivial
 |eq _ _,h|lt _ _,h|le _ _,h=>⟨h.1.mono hn,h.2.mono hn⟩
 |not a,h=>bN.mono (b:=a) hn h
 |and a b,h=>⟨bN.mono (b:=a) hn h.1,bN.mono (b:=b) hn h.2⟩
 |iff a b,h=>⟨bN.mono (b:=a) hn h.1,bN.mono (b:=b) hn h.2⟩
theorem cf {n:Nat} {ρ ae:Env} (ha:agree n ρ ae):∀{b:bH},b.bN n->b.den ae=b.den ρ
 |lit _,_=>rfl
 |eq _ _,h|lt _ _,h|le _ _,h=>by simp only[den,I.cf ha h.1,I.cf ha h.2]
 |not a,h=>by simp only[den,cf (b:=a) ha h]
 |and a b,h=>by simp only[den,cf (b:=a) ha h.1,cf (b:=b) ha h.2]
 |iff a b,h=>by simp only[den,cf (b:=a) ha h.1,cf (b:=b) ha h.2]
def beq:bH->bH->Bool
 |lit a,lit b=>a==b
 |eq a b,eq c d|lt a b,lt c d|le a b,le c d=>I.beq a c&&I.beq b d
 |not a,not b=>beq a b
 |and a b,and c d|iff a b,iff c d=>beq a c&&beq b d
 |_,_=>false
theorem beq_eq:∀{a b:bH},beq a b=true->a=b
 |lit a,b,h=>by cases b<;>simp[beq]at h;rw[h]
 |eq a b,c,h=>by cases c<;>simp[beq]at h;rw[I.beq_eq h.1,I.beq_eq h.2]
 |lt a b,c,h=>by cases c<;>simp[beq]at h;rw[I.beq_eq h.1,I.beq_eq h.2]
 |le a b,c,h=>by cases c<;>simp[beq]at h;rw[I.beq_eq h.1,I.beq_eq h.2]
 |not a,c,h=>by cases c<;>simp[beq]at h;rw[beq_eq h]
 |and a b,c,h=>by cases c<;>simp[beq]at h;rw[beq_eq h.1,beq_eq h.2]
 |iff a b,c,h=>by cases c<;>simp[beq]at h;rw[beq_eq h.1,beq_eq h.2]
def mkNot:bH->bH
 |lit b=>lit (!b)
 |not a=>a
 |a=>not a
def mkAnd:bH->bH->bH
 |lit true,b=>b
 |lit false,_=>lit false
 |a,lit true=>a
 |a,lit false=>cond true (lit false) a
 |a,b=>and a b
def mkIff (a b:bH):bH:=
 match a with
 |lit true=>b
 |lit false=>mkNot b
 |_=>match b with
  |lit true=>a
  |lit false=>mkNot a
  |_=>cond (beq a b) (lit true) (iff a b)
theorem A0 (ρ:Env) (a:bH):(mkNot a).den ρ= !a.den ρ:=by cases a<;>simp[mkNot,den]
theorem BL {n:Nat} {a:bH} (h:a.bN n):(mkNot a).bN n:=by cases a<;>exact h
theorem QE (ρ:Env) (a b:bH):(mkAnd a b).den ρ=(a.den ρ&&b.den ρ):=by
 unfold mkAnd;split<;>simp[den]
theorem Tx {n:Nat} {a b:bH} (ha:a.bN n) (hb:b.bN n):(mkAnd a b).bN n:=by
 unfold mkAnd;split<;>first|exact hb|exact ha|trivial|exact⟨ha,hb⟩
theorem XL (ρ:Env) (a b:bH):(mkIff a b).den ρ=(a.den ρ==b.den ρ):=by
 unfold mkIff;split
 ·simp[den]
 ·rw[A0];simp[den]
 ·split
  ·simp[den]
  ·rw[A0];simp[den]
  ·cases h:beq a b with
   |true=>have:=beq_eq h;subst this;simp[den]
   |false=>rfl
theorem acU {n:Nat} {a b:bH} (ha:a.bN n) (hb:b.bN n):(mkIff a b).bN n:=by
 unfold mkIff;split
 ·exact hb
 ·exact BL hb
 ·split
  ·exact ha
  ·exact BL ha
  ·cases beq a b with
   |true=>trivial
   |false=>exact⟨ha,hb⟩
def Jt (d:I) (f:Int->Bool) (e:bH):bH:=match d.eT with|some c=>lit (f c)|none=>e
def mkLt (a b:b0):bH:=cond (decide (a.hi<b.lo)) (lit true) (cond (decide (b.hi<=a.lo)) (lit false) (Jt (a.l.sub b.l) (λc=>decide (c<0)) (lt a.l b.l)))
def mkLe (a b:b0):bH:=cond (decide (a.hi<=b.lo)) (lit true) (cond (decide (b.hi<a.lo)) (lit false) (Jt (a.l.sub b.l) (λc=>decide (c<=0)) (le a.l b.l)))
def mkEq (a b:b0):bH:=cond (decide (a.hi<b.lo)) (lit false) (cond (decide (b.hi<a.lo)) (lit false) (cond (a.lo==a.hi&&b.lo==b.hi&&a.lo==b.lo) (lit true) (cond (I.beq a.l b.l) (lit true) (Jt (a.l.sub b.l) (λc=>decide (c=0)) (eq a.l b.l)))))
theorem XK {n:Nat} {ρ:Env} {d:I} {f:Int->Bool} {e:bH} (h:e.den ρ=f (d.den ρ)) (hs:e.bN n):(Jt d f e).den ρ=e.den ρ/\(Jt d f e).bN n:=by
 unfold Jt;split
 ·rename_i c hc;exact⟨by rw[h,I.k9 hc];rfl,trivial⟩
 ·exact⟨rfl,hs⟩
theorem QF {n:Nat} {ρ:Env} {a b:b0} (ha:a.ok n ρ) (hb:b.ok n ρ):(mkLt a b).den ρ=decide (a.l.den ρ<b.l.den ρ)/\(mkLt a b).bN n:=by
 have h1:=ha.2;have h2:=hb.2
 unfold mkLt;by_cases c1:a.hi<b.lo
 ·simp only[decide_eq_true c1,cond_true,den,bN,and_true];symm;simp;omega
 ·by_cases bQ:b.hi<=a.lo
  ·simp only[decide_eq_false c1,decide_eq_true bQ,cond_true,cond_false,den,bN,and_true];symm;simp;omega
  ·simp only[decide_eq_false c1,decide_eq_false bQ,cond_false];have:=XK (n:=n) (ρ:=ρ) (d:=a.l.sub b.l) (f:=λc=>decide (c<0)) (e:=lt a.l b.l) (by simp only[den,I.lZ];congr 1;simp;omega) ⟨ha.1,hb.1⟩;exact⟨this.1,this.2⟩
theorem ahx {n:Nat} {ρ:Env} {a b:b0} (ha:a.ok n ρ) (hb:b.ok n ρ):(mkLe a b).den ρ=decide (a.l.den ρ<=b.l.den ρ)/\(mkLe a b).bN n:=by
 have h1:=ha.2;have h2:=hb.2
 unfold mkLe;by_cases c1:a.hi<=b.lo
 ·simp only[decide_eq_true c1,cond_true,den,bN,and_true];symm;simp;omega
 ·by_cases bQ:b.hi<a.lo
  ·simp only[decide_eq_false c1,decide_eq_true bQ,cond_true,cond_false,den,bN,and_true];symm;simp;omega
  ·simp only[decide_eq_false c1,decide_eq_false bQ,cond_false];have:=XK (n:=n) (ρ:=ρ) (d:=a.l.sub b.l) (f:=λc=>decide (c<=0)) (e:=le a.l b.l) (by simp only[den,I.lZ];congr 1;simp;omega) ⟨ha.1,hb.1⟩;exact⟨this.1,this.2⟩
theorem yl {n:Nat} {ρ:Env} {a b:b0} (ha:a.ok n ρ) (hb:b.ok n ρ):(mkEq a b).den ρ=decide (a.l.den ρ=b.l.den ρ)/\(mkEq a b).bN n:=by
 have h1:=ha.2;have h2:=hb.2
 unfold mkEq;by_cases c1:a.hi<b.lo
 ·simp only[decide_eq_true c1,cond_true,den,bN,and_true];symm;simp;omega
 ·by_cases bQ:b.hi<a.lo
  ·simp only[decide_eq_false c1,decide_eq_true bQ,cond_true,cond_false,den,bN,and_true];symm;simp;omega
  ·cases cF:(a.lo==a.hi&&b.lo==b.hi&&a.lo==b.lo)with
   |true=>
    simp only[bx,beq_iff_eq]at cF;simp only[decide_eq_false c1,decide_eq_false bQ,cond_false,cond_true,den,bN,and_true];symm;simp;omega
   |false=>
    cases dk:I.beq a.l b.l with
    |true=>simp only[decide_eq_false c1,decide_eq_false bQ,cond_false,cond_true,den,bN,and_true,I.beq_eq dk];simp
    |false=>
     simp only[decide_eq_false c1,decide_eq_false bQ,cond_false];have:=XK (n:=n) (ρ:=ρ) (d:=a.l.sub b.l) (f:=λc=>decide (c=0)) (e:=eq a.l b.l) (by simp only[den,I.lZ];congr 1;simp;omega) ⟨ha.1,hb.1⟩;exact⟨this.1,this.2⟩
end bH
end Go.b9
namespace Go.b9
inductive A where
 |int (k:dW) (x:b0)
 |bool (b:bH)
 |ptr (b off:Nat)
 |q1 (b off:Nat) (bp:b0)
 |gptr (g off:Nat)
 |Jx (g off:Nat) (bp:b0)
 |slc (b off len cap:Nat)
 |con (v:aW)
 |str (l:I)
 |rows (sh:List aQ) (off code cap:I) (kind:Nat)
 |sl (b bG:Nat) (o ro len cap:I)
 |ep (b bG:Nat) (o i:I) (j:Nat)
inductive W where
 |one (a:A)
 |agg (l:List A)
inductive V where
 |w (x:W)
 |jh (l:List W)
 |any
 |sL (b len lo:Nat)
 |s5 (f:Nat) (lp:List A)
def eR (op:BinOp) (k:dW) (x y:Int):Int:=
 match op with
 | .and=>k.wrap (wj k.bits x&&&wj k.bits y).toNat
 | .or=>k.wrap (wj k.bits x|||wj k.bits y).toNat
 | .xor=>k.wrap (wj k.bits x^^^wj k.bits y).toNat
 | .andNot=>k.wrap (wj k.bits x&&&~~~(wj k.bits y)).toNat
 |_=>0
inductive T where
 |stuck
 |leaf (v:V)
 |div (n:Nat) (x:I) (d lo hi:Int) (r:T)
 |mul (n:Nat) (x y:I) (lo hi:Int) (r:T)
 |bit (n:Nat) (op:BinOp) (k:dW) (x y:I) (r:T)
 |shr (n:Nat) (x y:I) (lo hi:Int) (r:T)
 |BN (n:Nat) (cs:List I) (bp:I) (lo hi:Int) (r:T)
 |uU (b:bH) (t e:T)
 |call (id:Nat) (args:List I) (n:Nat) (bds:List (Int×Int)) (r:T)
 |loop (lM:Nat) (init:List I) (n:Nat) (bds:List (Int×Int)) (r:T)
 |again (lM:Nat) (vals:List I)
 |both (a b:T)
 |fn (n:Nat) (op:Nat) (args:List I) (lo hi:Int) (r:T)
 |s4 (op:Nat) (args:List I) (r:T)
 |vt (n:Nat) (lo hi:Int) (r:T)
 |nat (n:Nat) (r:T)
 |x9 (op:Nat) (args:List I) (r:T)
 |ind (n:Nat) (b:bH) (r:T)
def kC:List (Int×Int)->(List Int->Prop)->Prop
 |[],P=>P []
 |(l,h)::b,P=>∀r:Int,l<=r->r<=h->kC b (λrs=>P (r::rs))
def ab:List (Int×Int)->List Int->Prop
 |[],[]=>True
 |(l,h)::b,r::rs=>l<=r/\r<=h/\ab b rs
 |_,_=>False
theorem nj:∀{b:List (Int×Int)} {P:List Int->Prop} {rs:List Int},kC b P->ab b rs->P rs
 |[],_,[],h,_=>h
 |(l,u)::b,P,r::rs,h,hi=>nj (b:=b) (P:=λrs=>P (r::rs)) (h r hi.1 hi.2.1) hi.2.2
 |[],_,_::_,_,hi=>hi.elim
 |(_,_)::_,_,[],_,hi=>hi.elim
abbrev fe:=Nat->List Int->Prop
def fe.set (A:fe) (lM:Nat) (p:List Int->Prop):fe:=λi=>cond (aP i lM) p (A i)
def T.holds (S:Nat->List Int->List Int->Prop) (L:V->Env->Prop):T->fe->Env->Prop
 |stuck,_,_=>False
 |leaf v,_,ρ=>L v ρ
 |div n x d lo hi r,A,ρ=>∀q:Int,lo<=q->q<=hi->0<=x.den ρ-d*q->x.den ρ-d*q<d->r.holds S L A (dI ρ n q)
 |mul n x y lo hi r,A,ρ=>∀p:Int,lo<=p->p<=hi->p=x.den ρ*y.den ρ->r.holds S L A (dI ρ n p)
 |bit n op k x y r,A,ρ=>∀z:Int,0<=z->z<=k.max->z=eR op k (x.den ρ) (y.den ρ)->r.holds S L A (dI ρ n z)
 |shr n x y lo hi r,A,ρ=>∀z:Int,lo<=z->z<=hi->z=x.den ρ/2^(y.den ρ).toNat->r.holds S L A (dI ρ n z)
 |BN n cs bp lo hi r,A,ρ=>∀z:Int,lo<=z->z<=hi->z=(cs.map (·.den ρ)).getD (bp.den ρ).toNat 0->r.holds S L A (dI ρ n z)
 |uU b t e,A,ρ=>(b.den ρ=true->t.holds S L A ρ)/\(b.den ρ=false->e.holds S L A ρ)
 |call id args n bds r,A,ρ=>kC bds λrs=>S id (args.map (·.den ρ)) rs->r.holds S L A (bR ρ n rs)
 |loop lM init n bds r,A,ρ=>∃(mi:List Int->Prop) (o5:List Int->Nat),mi (init.map (·.den ρ))/\
  kC bds λzs=>mi zs->r.holds S L (A.set lM λvs=>mi vs/\o5 vs<o5 zs) (bR ρ n zs)
 |again lM vals,A,ρ=>A lM (vals.map (·.den ρ))
 |both a b,A,ρ=>a.holds S L A ρ/\b.holds S L A ρ
 |fn n op args lo hi r,A,ρ=>∀z:Int,lo<=z->z<=hi->z=bM op (args.map (·.den ρ))->r.holds S L A (dI ρ n z)
 |s4 op args r,A,ρ=>ay op (args.map (·.den ρ))/\r.holds S L A ρ
 |vt n lo hi r,A,ρ=>∀z:Int,lo<=z->z<=hi->r.holds S L A (dI ρ n z)
 |nat n r,A,ρ=>∀z:Int,0<=z->r.holds S L A (dI ρ n z)
 |x9 op args r,A,ρ=>ay op (args.map (·.den ρ))->r.holds S L A ρ
 |ind n b r,A,ρ=>∀z:Int,0<=z->z<=1->b.den ρ=decide (z=1)->r.holds S L A (dI ρ n z)
abbrev M (α:Type):=Nat->(α->Nat->T)->T
namespace M
variable {α β:Type}
def pure (a:α):M α:=λn k=>k a n
def bind (x:M α) (f:α->M β):M β:=λn k=>x n λa n'=>f a n' k
def fail:M α:=λ_ _=> .stuck
def aC (S:Nat->List Int->List Int->Prop) (L:V->Env->Prop) (x:M α) (n:Nat) (ρ:Env) (R:Env->Nat->α->Prop):Prop:=
 ∀A k,(x n k).holds S L A ρ->∃ae n' a,n<=n'/\agree n ρ ae/\R ae n' a/\(k a n').holds S L A ae
variable {S:Nat->List Int->List Int->Prop} {L:V->Env->Prop} {n:Nat} {ρ:Env}
theorem aC.pure {a:α} {R:Env->Nat->α->Prop} (h:R ρ n a):aC S L (M.pure a) n ρ R:=
 λ_ _ af=>⟨ρ,n,a,bW _,agree.refl _ _,h,af⟩
theorem aC.fail {R:Env->Nat->α->Prop}:aC S L (M.fail:M α) n ρ R:=λ_ _ af=>af.elim
theorem aC.bind {x:M α} {f:α->M β} {R:Env->Nat->α->Prop} {R':Env->Nat->β->Prop} (hx:aC S L x n ρ R)
 (hf:∀ae n' a,n<=n'->agree n ρ ae->R ae n' a->aC S L (f a) n' ae R'):aC S L (M.bind x f) n ρ R':=by
 intro A k af;obtain⟨ae,n',a,hn,ha,hR,nv⟩:=hx A _ af;obtain⟨zg,Kq,b,yr,nt,wQ,awa⟩:=hf ae n' a hn ha hR A k nv;exact⟨zg,Kq,b,nf hn yr,ha.trans nt hn,wQ,awa⟩
theorem aC.mono {x:M α} {R R':Env->Nat->α->Prop} (hx:aC S L x n ρ R) (h:∀ae n' a,n<=n'->agree n ρ ae->R ae n' a->R' ae n' a):aC S L x n ρ R':=by
 intro A k af;obtain⟨ae,n',a,hn,ha,hR,nv⟩:=hx A k af;exact⟨ae,n',a,hn,ha,h _ _ _ hn ha hR,nv⟩
end M
open M
section
variable {S:Nat->List Int->List Int->Prop} {L:V->Env->Prop} {n:Nat} {ρ:Env}
def Gp:List I->Option (List Int)
 |[]=>some []
 |l::r=>match l.eT,Gp r with|some c,some s=>some (c::s)|_,_=>none
theorem WW {ρ:Env}:∀{l:List I} {cs:List Int},Gp l=some cs->l.map (·.den ρ)=cs
 |[],cs,h=>by simp[Gp]at h;subst h;rfl
 |l::r,cs,h=>by
  simp only[Gp]at h;cases h1:l.eT with
  |none=>simp[h1]at h
  |some c=>
   cases h2:Gp r with
   |none=>simp[h1,h2]at h
   |some s=>
    simp only[h1,h2,bj]at h;subst h;simp only[du,I.k9 h1,WW h2]
def gV (op:Nat) (args:List I) (lo hi:Int):M I:=λn k=>match cO op 5,Gp args with
 |true,some cs=>k (.const (bM op cs)) n
 |_,_=> .fn n op args lo hi (k (.var n) (n+1))
def QA:Nat->List Int->Bool
 |1,[s,i]=>decide (0<=i)&&decide (i<(bF s).length)
 |2,[s,a,b]=>decide (0<=a)&&decide (a<=b)&&decide (b<=(bF s).length)
 |3,[s,t]=>cO ((bF s).length+(bF t).length) 1000000
 |30,[i,n]=>decide (0<=i)&&decide (i<n)
 |32,[a,b,n]=>decide (0<=a)&&decide (a<=b)&&decide (b<=n)
 |39,[x,l,h]=>decide (l<=x)&&decide (x<=h)
 |_,_=>false
theorem asD {op:Nat} {cs:List Int} (h:QA op cs=true):ay op cs:=by
 unfold QA at h;split at h
 ·simp only[bx,decide_eq_true_eq]at h;exact h
 ·simp only[bx,decide_eq_true_eq]at h;exact⟨h.1.1,h.1.2,h.2⟩
 ·have h:=gU h;show _<=m4;unfold m4;omega
 ·simp only[bx,decide_eq_true_eq]at h;exact h
 ·simp only[bx,decide_eq_true_eq]at h;exact⟨h.1.1,h.1.2,h.2⟩
 ·simp only[bx,decide_eq_true_eq]at h;exact h
 ·cases h
def h8 (op:Nat) (args:List I):M Unit:=λn k=>match Gp args with
 |some cs=>cond (QA op cs) (k () n) (.s4 op args (k () n))
 |none=> .s4 op args (k () n)
theorem iQ {op:Nat} {args:List I} {lo hi:Int} (h1:lo<=bM op (args.map (·.den ρ))) (h2:bM op (args.map (·.den ρ))<=hi):
 aC S L (gV op args lo hi) n ρ λae n' l=>l.bN n'/\l.den ae=bM op (args.map (·.den ρ)):=by
 intro A k af;unfold gV at af;split at af
 ·rename_i cs _ dD;exact⟨_,n,_,bW _,agree.refl _ _,⟨I.dF _ _,by rw[I.bq,WW dD]⟩,af⟩
 ·exact⟨_,n+1,_,tJ _,agree.dI _ _ _,⟨I.hj (AE n),by simp[I.db,mA]⟩,af _ h1 h2 rfl⟩
theorem jS {op:Nat} {args:List I} {α:Type} {x:M α} {R:Env->Nat->α->Prop} (h:ay op (args.map (·.den ρ))->aC S L x n ρ R):aC S L (bind (h8 op args) λ_=>x) n ρ R:=by
 intro A k af;unfold M.bind h8 at af;split at af
 ·rename_i cs dD;cases hb:QA op cs with
  |true=>
   rw[hb]at af;exact h (by rw[WW dD];exact asD hb) A k af
  |false=>
   rw[hb]at af;exact h af.1 A k af.2
 ·exact h af.1 A k af.2
def A2 (x:b0) (d:Int):M b0:=λn k=>
 cond (d==1) (k x n) <| cond (x.lo/d==x.hi/d) (k (.const (x.lo/d)) n) (.div n x.l d (x.lo/d) (x.hi/d) (k ⟨.var n,x.lo/d,x.hi/d⟩ (n+1)))
theorem Ev {x:b0} {d:Int} (hd:0<d) (hx:x.ok n ρ):aC S L (A2 x d) n ρ λae n' q=>q.ok n' ae/\q.l.den ae=x.l.den ρ/d/\(q.lo=x.lo/d/\q.hi=x.hi/d):=by
 intro A k af;have h1:=aJb hd hx.2.1;have h2:=aJb hd hx.2.2;unfold A2 at af;cases Yt:(d==1)with
 |true=>
  have e:d=1:=by simpa using Yt
  subst e;simp only[Yt,cond_true]at af;exact⟨ρ,n,x,bW _,agree.refl _ _,⟨hx,by simp,by simp,by simp⟩,af⟩
 |false=>
 simp only[Yt,cond_false]at af;cases hc:(x.lo/d==x.hi/d)with
 |true=>
  simp only[hc,cond_true]at af;have hc:x.lo/d=x.hi/d:=by simpa using hc
  exact⟨ρ,n,_,bW _,agree.refl _ _,⟨b0.qD _ _ _,by simp only[b0.const,I.bq];omega,rfl,hc⟩,af⟩
 |false=>
  simp only[hc,cond_false,T.holds]at af;have hm:=sV (x.l.den ρ) (show d≠0 by omega);have CU:=wg (x.l.den ρ) hd;have he:=apk (x.l.den ρ) d;refine⟨_,n+1,_,tJ _,agree.dI _ _ _,⟨⟨I.hj (AE n),?_,?_⟩,?_,rfl,rfl⟩,af (x.l.den ρ/d) h1 h2 (by omega) (by omega)⟩<;>
   simp only[I.db,mA]<;>omega
def abq (x:b0) (d:Int):M b0:=
 bind (A2 x d) λq=>pure ⟨x.l.sub (q.l.smul d),cond (q.lo==q.hi) (x.lo-d*q.lo) 0,cond (q.lo==q.hi) (x.hi-d*q.lo) (d-1)⟩
theorem alx {x:b0} {d:Int} (hd:0<d) (hx:x.ok n ρ):aC S L (abq x d) n ρ λae n' q=>q.ok n' ae/\q.l.den ae=x.l.den ρ% d:=by
 refine(Ev hd hx).bind λae n' q hn ha ⟨ak,he,zM,aM3⟩=>aC.pure ?_;have oC:=hx.agree ha hn;have hm:=sV (x.l.den ρ) (show d≠0 by omega);have CU:=wg (x.l.den ρ) hd;have avL:=apk (x.l.den ρ) d;have zI:(x.l.sub (q.l.smul d)).den ae=x.l.den ρ% d:=by
  rw[I.lZ,I.mU,I.cf ha hx.1,he];omega
 refine⟨⟨I.xE oC.1 (I.xD ak.1),?_,?_⟩,zI⟩
 ·cases hc:(q.lo==q.hi)with
  |true=>
   have hc:q.lo=q.hi:=by simpa using hc
   have:q.l.den ae=q.lo:=by have:=ak.2;omega
   simp only[cond_true,I.lZ,I.mU,this];have:=oC.2.1;omega
  |false=>simp only[cond_false,zI];omega
 ·cases hc:(q.lo==q.hi)with
  |true=>
   have hc:q.lo=q.hi:=by simpa using hc
   have:q.l.den ae=q.lo:=by have:=ak.2;omega
   simp only[cond_true,I.lZ,I.mU,this];have:=oC.2.2;omega
  |false=>simp only[cond_false,zI];omega
def two (k:dW):Int:=match k with| .i8| .u8=>256| .i16| .u16=>65536| .i32| .u32=>4294967296| .i64| .u64=>18446744073709551616
theorem BP (k:dW):two k=(2:Int)^k.bits:=by cases k<;>rfl
def half (k:dW):Int:=cond k.signed (two k/2) 0
theorem Uf (k:dW) (x:Int):k.wrap x=(x+half k)% two k-half k:=by
 cases k<;>simp only[aJc,Pt,apl,half,two,cond_true,cond_false,aJd,Bool.false_and]<;>
  simp<;>(try split)<;>omega
def BR (k:dW) (x:b0):M b0:=
 cond (decide (-half k<=x.lo)&&decide (x.hi<two k-half k)) (pure x)
  (bind (abq ⟨x.l.add (.const (half k)),x.lo+half k,x.hi+half k⟩ (two k)) λr=>pure ⟨r.l.add (.const (-half k)),r.lo-half k,r.hi-half k⟩)
theorem FO {k:dW} {x:b0} (hx:x.ok n ρ):aC S L (BR k x) n ρ λae n' q=>q.ok n' ae/\q.l.den ae=k.wrap (x.l.den ρ):=by
 have aD:0<two k:=by cases k<;>decide
 unfold BR;cases hc:(decide (-half k<=x.lo)&&decide (x.hi<two k-half k))with
 |true=>
  simp only[bx,decide_eq_true_eq]at hc;refine aC.pure ⟨hx,?_⟩;have h1:=hx.2;rw[Uf,mD (by omega) (by omega)];omega
 |false=>
  refine(alx (x:=⟨x.l.add (.const (half k)),x.lo+half k,x.hi+half k⟩) aD ⟨I.yW hx.1 (I.dF _ _),?_,?_⟩).bind λae n' r hn ha ⟨hr,he⟩=>aC.pure ?_
  ·rw[I.den_add,I.bq];have:=hx.2.1;simp only;omega
  ·rw[I.den_add,I.bq];have:=hx.2.2;simp only;omega
  ·have e:(r.l.add (.const (-half k))).den ae=k.wrap (x.l.den ρ):=by
    rw[I.den_add,I.bq,he,I.den_add,I.bq,Uf];omega
   refine⟨⟨I.yW hr.1 (I.dF _ _),?_,?_⟩,e⟩<;>simp only[I.den_add,I.bq]<;>have:=hr.2<;>omega
def mulM (x y:b0):M b0:=λn k=>
 match x.l.eT,y.l.eT with
 |some c,_=>cond (decide (0<=c)) (k ⟨y.l.smul c,c*y.lo,c*y.hi⟩ n) .stuck
 |none,some c=>cond (decide (0<=c)) (k ⟨x.l.smul c,c*x.lo,c*x.hi⟩ n) .stuck
 |none,none=>cond (decide (0<=x.lo)&&decide (0<=y.lo)) (.mul n x.l y.l (x.lo*y.lo) (x.hi*y.hi) (k ⟨.var n,x.lo*y.lo,x.hi*y.hi⟩ (n+1))) .stuck
theorem abu {x y:b0} (hx:x.ok n ρ) (hy:y.ok n ρ):aC S L (mulM x y) n ρ λae n' q=>q.ok n' ae/\q.l.den ae=x.l.den ρ*y.l.den ρ:=by
 intro A k af;unfold mulM at af;cases h1:x.l.eT with
 |some c=>
  simp only[h1]at af;by_cases hc:0<=c
  ·simp only[decide_eq_true hc,cond_true]at af;refine⟨ρ,n,_,bW _,agree.refl _ _,⟨⟨I.xD hy.1,?_,?_⟩,?_⟩,af⟩
   ·simp only[I.mU];exact F4 hy.2.1 hc
   ·simp only[I.mU];exact F4 hy.2.2 hc
   ·simp only[I.mU,I.k9 h1]
  ·simp only[decide_eq_false hc,cond_false,T.holds]at af
 |none=>
  cases h2:y.l.eT with
  |some c=>
   simp only[h1,h2]at af;by_cases hc:0<=c
   ·simp only[decide_eq_true hc,cond_true]at af;refine⟨ρ,n,_,bW _,agree.refl _ _,⟨⟨I.xD hx.1,?_,?_⟩,?_⟩,af⟩
    ·simp only[I.mU];exact F4 hx.2.1 hc
    ·simp only[I.mU];exact F4 hx.2.2 hc
    ·simp only[I.mU,I.k9 h2];exact lB _ _
   ·simp only[decide_eq_false hc,cond_false,T.holds]at af
  |none=>
   simp only[h1,h2]at af;cases hc:(decide (0<=x.lo)&&decide (0<=y.lo))with
   |false=>simp only[hc,cond_false,T.holds]at af
   |true=>
    simp only[hc,cond_true,T.holds]at af;simp only[bx,decide_eq_true_eq]at hc;have b7:x.lo*y.lo<=x.l.den ρ*y.l.den ρ:=aea hx.2.1 hy.2.1 hc.2 (by have:=hx.2.1;omega);have a2:x.l.den ρ*y.l.den ρ<=x.hi*y.hi:=aea hx.2.2 hy.2.2 (by have:=hy.2.1;omega) (by have:=hx.2;omega);refine⟨_,n+1,_,tJ _,agree.dI _ _ _,⟨⟨I.hj (AE n),?_,?_⟩,?_⟩,af _ b7 a2 rfl⟩<;>simp only[I.db,mA]<;>assumption
def I5 (op:BinOp) (k:dW) (x y:b0):M b0:=λn c=>
 cond k.signed .stuck (.bit n op k x.l y.l (c ⟨.var n,0,k.max⟩ (n+1)))
theorem aIa {k:dW} (af:k.signed=false) (x:Int):0<=k.wrap x/\k.wrap x<=k.max:=by
 cases k<;>simp[Pt]at af<;>simp[aJc,Pt,apl,o0]<;>omega
theorem arY {k:dW} (af:k.signed=false) (op:BinOp) (x y:Int):0<=eR op k x y/\eR op k x y<=k.max:=by
 unfold eR;split
 iterate 4 exact aIa af _
 cases k<;>simp[Pt]at af<;>simp[o0,Pt,apl]
theorem Qa {op:BinOp} {k:dW} {x y:b0}:aC S L (I5 op k x y) n ρ λae n' q=>q.ok n' ae/\q.l.den ae=eR op k (x.l.den ρ) (y.l.den ρ):=by
 intro A c af;unfold I5 at af;cases hs:k.signed with
 |true=>simp only[hs,cond_true,T.holds]at af
 |false=>
  simp only[hs,cond_false,T.holds]at af;have hb:=arY hs op (x.l.den ρ) (y.l.den ρ);refine⟨_,n+1,_,tJ _,agree.dI _ _ _,⟨⟨I.hj (AE n),?_,?_⟩,?_⟩,af _ hb.1 hb.2 rfl⟩<;>simp only[I.db,mA]<;>first|exact hb.1|exact hb.2
def SK (c:Int):Option (Int×Int):=
 match c with
 | .ofNat 0=>none
 | .ofNat c=>
  let b:=2^(re c+1);let a:=b-c
  cond (aP (2^re a) a) (some (a,b)) none
 |_=>none
theorem bv_and {w:Nat} (x y:Int):((wj w x&&&wj w y).toNat:Int)=(((x% 2^w).toNat&&&(y% 2^w).toNat:Nat):Int):=by
 rw[BitVec.toNat_and,UA,UA]
 congr
theorem ar5 {w:Nat} (x y:Int):((wj w x|||wj w y).toNat:Int)=(((x% 2^w).toNat|||(y% 2^w).toNat:Nat):Int):=by
 rw[BitVec.toNat_or,UA,UA]
 congr
theorem arw (x a b:Nat) (aMZ:a<=b):x&&&(2^b-2^a)=2^a*(x/2^a)-2^b*(x/2^b):=by
 have az:2^b-2^a=2^a*(2^(b-a)-1):=by
  rw[Nat.mul_sub,<-D0,Ch];congr 2;omega
 have aI:x&&&(2^b-2^a)=2^a*(x/2^a% 2^(b-a)):=by
  rw[az];apply Nat.eq_of_testBit_eq;intro i;rw[Nat.testBit_and,zc (2^a) (2^(b-a)-1),zc (2^a),aJe,aJe,Nat.testBit_two_pow_sub_one,Nat.testBit_mod_two_pow,Nat.testBit_div_two_pow];by_cases h:a<=i
  ·simp only[h,decide_true,aJd];rw[show i-a+a=i by omega,Bool.and_comm]
  ·simp[h]
 rw[aI];have cn:x/2^b=x/2^a/2^(b-a):=by
  rw[Ph,<-D0];congr 2;omega
 have iC:2^b=2^a*2^(b-a):=by rw[<-D0];congr 1;omega
 have hC:=Up (x/2^a) (2^(b-a));rw[cn,iC,Us,<-Nat.mul_sub]
 congr 1
 omega
theorem ay7 {c a b:Int} (h:SK c=some (a,b)):∃i j:Nat,i<=j/\a=2^i/\b=2^j/\c=b-a/\0<a/\0<b:=by
 unfold SK at h;split at h
 ·cases h
 ·rename_i c hc;have hc0:c≠0:=λe=>hc (by rw[e]);cases hb:aP (2^re (2^(re c+1)-c)) (2^(re c+1)-c)with
  |false=>simp[hb]at h
  |true=>
   simp only[hb,cond_true,bj,eO]at h;obtain⟨rfl,rfl⟩:=h;have e:=b1 hb;have hlt:c<2^(re c+1):=aJf;have hp:0<2^re (2^(re c+1)-c):=IA _;refine⟨re (2^(re c+1)-c),re c+1,?_,?_,?_,?_,?_,?_⟩
   ·rcases LJ (re c+1) (re (2^(re c+1)-c))with ag|ag
    ·have:=Nat.pow_lt_pow_right (a:=2) (by omega) ag;omega
    ·exact ag
   ·rw[<-e];simp
   ·simp
   ·have:((2^(re c+1)-c:Nat):Int)=((2^(re c+1):Nat):Int)-(c:Int):=by omega
    simp only[Int.ofNat_eq_natCast];omega
   ·omega
   ·have:0<2^(re c+1):=IA _;omega
 ·cases h
def andM (x:b0) (a b:Int):M b0:=
 bind (A2 x a) λp=>bind (A2 x b) λq=>
  pure ⟨(p.l.smul a).sub (q.l.smul b),cond (q.lo==q.hi) (a*p.lo-b*q.lo) 0,cond (q.lo==q.hi) (a*p.hi-b*q.lo) (b-a)⟩
theorem arv {x:b0} {i j:Nat} (JR:i<=j) (hx:x.ok n ρ) (h0:0<=x.lo):aC S L (andM x (2^i) (2^j)) n ρ λae n' q=>q.ok n' ae/\q.l.den ae=((x.l.den ρ).toNat&&&(2^j-2^i):Nat):=by
 have hi:(0:Int)<2^i:=by have:=IA i;exact_mod_cast this
 have aM:(0:Int)<2^j:=by have:=IA j;exact_mod_cast this
 refine(Ev hi hx).bind λaN a6 p ia gk ⟨hp,ep,_,_⟩=>?_;refine(Ev aM (hx.agree gk ia)).bind λb5 gd q gm eb ⟨ak,eq,_,_⟩=>aC.pure ?_;rw[I.cf gk hx.1]at eq;have JY:=hp.agree eb gm;have X6:p.l.den b5=x.l.den ρ/2^i:=by rw[I.cf eb hp.1,ep]
 obtain⟨X,cg⟩:=oY (show 0<=x.l.den ρ by have:=hx.2.1;omega);have e:((p.l.smul (2^i)).sub (q.l.smul (2^j))).den b5=((x.l.den ρ).toNat&&&(2^j-2^i):Nat):=by
  rw[I.lZ,I.mU,I.mU,X6,eq,cg,qm,arw X i j JR];have h1:2^j*(X/2^j)<=2^i*(X/2^i):=by
   have cn:X/2^j=X/2^i/2^(j-i):=by rw[Ph,<-D0];congr 2;omega
   have iC:2^j=2^i*2^(j-i):=by rw[<-D0];congr 1;omega
   rw[cn]
   conv=>lhs;rw[iC,Us]
   exact Nat.mul_le_mul_left _ (Nat.mul_div_le _ _)
  rw[apm h1];simp
 refine⟨⟨I.xE (I.xD JY.1) (I.xD ak.1),?_,?_⟩,e⟩
 ·cases hc:(q.lo==q.hi)with
  |true=>
   have hc:q.lo=q.hi:=by simpa using hc
   have h1:q.l.den b5=q.lo:=by have:=ak.2;omega
   simp only[cond_true,I.lZ,I.mU,h1];have:=F4 JY.2.1 (sd hi);omega
  |false=>simp only[cond_false,e];omega
 ·cases hc:(q.lo==q.hi)with
  |true=>
   have hc:q.lo=q.hi:=by simpa using hc
   have h1:q.l.den b5=q.lo:=by have:=ak.2;omega
   simp only[cond_true,I.lZ,I.mU,h1];have:=F4 JY.2.2 (sd hi);omega
  |false=>
   simp only[cond_false,e];have h2:(x.l.den ρ).toNat&&&(2^j-2^i)<=2^j-2^i:=Nat.and_le_right;have h3:2^i<=2^j:=Pk (by omega) JR;have h4:((2^j-2^i:Nat):Int)=2^j-2^i:=by rw[apm h3];simp
   omega
end
end Go.b9
namespace Go.b9
open M
def A.den (ρ:Env) (m:Nat->Nat):A->aW
 | .int k x=> .int k (x.l.den ρ)
 | .bool b=> .bool (b.den ρ)
 | .ptr b off=> .pointer (some ⟨m b,off,none⟩)
 | .q1 b off bp=> .pointer (some ⟨m b,off+(bp.l.den ρ).toNat,none⟩)
 | .gptr g off=> .pointer (some ⟨g,off,none⟩)
 | .Jx g off bp=> .pointer (some ⟨g,off+(bp.l.den ρ).toNat,none⟩)
 | .slc b off len cap=> .slice (some ⟨m b,off,none⟩) len cap
 | .con v=>v
 | .str l=> .string (en (bF (l.den ρ)))
 | .rows _ _ code _ _=> .int .u8 (code.den ρ)
 | .sl b bG o ro len cap=>if cap.den ρ<0 then .slice none 0 0 else .slice (some ⟨m b,(o.den ρ).toNat+(ro.den ρ).toNat*bG,none⟩) (len.den ρ).toNat (cap.den ρ).toNat
 | .ep b bG o i j=> .pointer (some ⟨m b,(o.den ρ).toNat+(i.den ρ).toNat*bG+j,none⟩)
def Ii (o ro len cap:Int):Prop:=(0<=o/\0<=ro/\0<=len/\len<=9223372036854775807)/\(-1<=cap/\ro+cap<=9223372036854775807)/\(cap<0->len=0)/\(0<=cap->len<=cap)
def A.ok (n nb:Nat) (ρ:Env):A->Prop
 | .int _ x=>x.ok n ρ
 | .bool b=>b.bN n
 | .ptr b _=>b<nb
 | .q1 b _ bp=>b<nb/\bp.ok n ρ/\0<=bp.lo
 | .gptr .. =>True
 | .Jx _ _ bp=>bp.ok n ρ/\0<=bp.lo
 | .slc b .. =>b<nb
 | .con v=>v.oneCell'=true
 | .str l=>l.bN n/\0<=l.den ρ/\l.den ρ<=qu
 | .rows _ off code cap _=>(off.bN n/\code.bN n/\cap.bN n)/\(0<=code.den ρ/\code.den ρ<=b6)/\-1<=cap.den ρ/\cap.den ρ<=9223372036854775807
 | .sl b _ o ro len cap=>b<nb/\(o.bN n/\ro.bN n/\len.bN n/\cap.bN n)/\Ii (o.den ρ) (ro.den ρ) (len.den ρ) (cap.den ρ)
 | .ep b _ o i _=>b<nb/\(o.bN n/\i.bN n)/\0<=o.den ρ/\0<=i.den ρ
theorem A.ok.ext {n n' nb nD:Nat} {ρ ae:Env} {a:A} (h:a.ok n nb ρ) (ha:agree n ρ ae) (hn:n<=n') (hb:nb<=nD):a.ok n' nD ae:=by
 cases a<;>simp only[A.ok]at h⊢
 ·exact h.agree ha hn
 ·exact bH.bN.mono hn h
 ·omega
 ·exact⟨by omega,h.2.1.agree ha hn,h.2.2⟩
 ·exact⟨h.1.agree ha hn,h.2⟩
 ·omega
 ·exact h
 ·exact⟨h.1.mono hn,by rw[I.cf ha h.1];exact h.2⟩
 ·obtain⟨⟨h1,h2,h3⟩,h4⟩:=h;exact⟨⟨h1.mono hn,h2.mono hn,h3.mono hn⟩,by rw[I.cf ha h2,I.cf ha h3];exact h4⟩
 ·obtain⟨h1,⟨h2,h3,h4,h5⟩,h6⟩:=h;exact⟨by omega,⟨h2.mono hn,h3.mono hn,h4.mono hn,h5.mono hn⟩,by rw[I.cf ha h2,I.cf ha h3,I.cf ha h4,I.cf ha h5];exact h6⟩
 ·obtain⟨h1,⟨h2,h3⟩,h4⟩:=h;exact⟨by omega,⟨h2.mono hn,h3.mono hn⟩,by rw[I.cf ha h2,I.cf ha h3];exact h4⟩
theorem A.nW {n nb:Nat} {ρ ae:Env} {m m':Nat->Nat} {a:A} (h:a.ok n nb ρ) (ha:agree n ρ ae) (hm:∀b,b<nb->m' b=m b):a.den ae m'=a.den ρ m:=by
 cases a<;>simp only[A.ok]at h<;>simp only[A.den]
 ·rw[I.cf ha h.1]
 ·rw[bH.cf ha h]
 ·rw[hm _ h]
 ·rw[hm _ h.1,I.cf ha h.2.1.1]
 ·rw[I.cf ha h.1.1]
 ·rw[hm _ h]
 ·rw[I.cf ha h.1]
 ·rw[I.cf ha h.1.2.1]
 ·obtain⟨h1,⟨h2,h3,h4,h5⟩,h6⟩:=h;rw[hm _ h1,I.cf ha h2,I.cf ha h3,I.cf ha h4,I.cf ha h5]
 ·rw[hm _ h.1,I.cf ha h.2.1.1,I.cf ha h.2.1.2]
theorem A.S0 {n nb:Nat} {ρ:Env} {m:Nat->Nat} {a:A} (h:a.ok n nb ρ):(a.den ρ m).oneCell'=true:=by
 cases a<;>first|rfl|exact h|(simp only[A.den];split<;>rfl)
def W.den (ρ:Env) (m:Nat->Nat):W->aW
 | .one a=>a.den ρ m
 | .agg l=> .agg (l.map (A.den ρ m)).toArray
def W.ok (n nb:Nat) (ρ:Env):W->Prop
 | .one a=>a.ok n nb ρ
 | .agg l=>∀a∈l,a.ok n nb ρ
theorem W.ok.ext {n n' nb nD:Nat} {ρ ae:Env} {x:W} (h:x.ok n nb ρ) (ha:agree n ρ ae) (hn:n<=n') (hb:nb<=nD):x.ok n' nD ae:=by
 cases x with
 |one a=>exact A.ok.ext h ha hn hb
 |agg l=>exactλa bm=>(h a bm).ext ha hn hb
theorem yG {n nb:Nat} {ρ ae:Env} {m m':Nat->Nat} {l:List A} (h:∀a∈l,a.ok n nb ρ) (ha:agree n ρ ae) (hm:∀b,b<nb->m' b=m b):l.map (A.den ae m')=l.map (A.den ρ m):=
 kU λa bm=>A.nW (h a bm) ha hm
theorem W.nW {n nb:Nat} {ρ ae:Env} {m m':Nat->Nat} {x:W} (h:x.ok n nb ρ) (ha:agree n ρ ae) (hm:∀b,b<nb->m' b=m b):x.den ae m'=x.den ρ m:=by
 cases x with
 |one a=>exact A.nW h ha hm
 |agg l=>simp only[W.den,yG h ha hm]
def V.rel (ρ:Env) (m:Nat->Nat):V->aW->Prop
 | .w x,v=>v=x.den ρ m
 | .jh l,v=>v= .tuple (l.map (W.den ρ m)).toArray
 | .any,_=>True
 | .sL b len lo,v=>∃c:Nat,lo<=c/\v= .slice (some ⟨m b,0,none⟩) len c
 | .s5 f lp,v=>v= .func (.func f) #[] (lp.map (A.den ρ m)).toArray
def V.ok (n nb:Nat) (ρ:Env):V->Prop
 | .w x=>x.ok n nb ρ
 | .jh l=>∀x∈l,x.ok n nb ρ
 | .any=>True
 | .sL b _ _=>b<nb
 | .s5 _ lp=>∀a∈lp,A.ok n nb ρ a
theorem V.ok.ext {n n' nb nD:Nat} {ρ ae:Env} {x:V} (h:x.ok n nb ρ) (ha:agree n ρ ae) (hn:n<=n') (hb:nb<=nD):x.ok n' nD ae:=by
 cases x with
 |w x=>exact W.ok.ext h ha hn hb
 |jh l=>exactλa bm=>(h a bm).ext ha hn hb
 |any=>trivial
 |sL b len lo=>exact IB h hb
 |s5 f lp=>exactλa bm=>(h a bm).ext ha hn hb
theorem V.rel.ext {n nb:Nat} {ρ ae:Env} {m m':Nat->Nat} {x:V} {v:aW} (hr:x.rel ρ m v) (h:x.ok n nb ρ) (ha:agree n ρ ae) (hm:∀b,b<nb->m' b=m b):x.rel ae m' v:=by
 cases x with
 |w x=>simp only[V.rel]at hr⊢;rw[W.nW h ha hm];exact hr
 |jh l=>simp only[V.rel]at hr⊢;rw[hr];congr 2;exact(kU λa bm=>W.nW (h a bm) ha hm).symm
 |any=>trivial
 |sL b len lo=>obtain⟨c,h1,h2⟩:=hr;exact⟨c,h1,by rw[hm b h];exact h2⟩
 |s5 f lp=>simp only[V.rel]at hr⊢;rw[hr];congr 2;exact(kU λa bm=>A.nW (h a bm) ha hm).symm
section
variable {S:Nat->List Int->List Int->Prop} {L:V->Env->Prop} {n:Nat} {ρ:Env}
def P0 (s:Int):List (Int×Nat)->Bool
 |[]=>true
 |(k,_)::r=>k% s==0&&P0 s r
theorem afN {s:Int} (ρ:Env):∀{l},P0 s l=true->kk ρ l% s=0
 |[],_=>by simp[kk]
 |(k,i)::r,h=>by
  simp only[P0,bx,beq_iff_eq]at h;have h1:=afN ρ h.2;obtain⟨c,hc⟩:=Iy h.1;obtain⟨d,hd⟩:=Iy h1;simp only[kk,hc,hd,DY];rw[<-LD];exact apn _ _
def I.Cw (s:Int) (l:I):Bool:=l.c% s==0&&P0 s l.ts
theorem I.WU {s:Int} (ρ:Env) {l:I} (h:l.Cw s=true):l.den ρ% s=0:=by
 simp only[Cw,bx,beq_iff_eq]at h;have h1:=afN ρ h.2;obtain⟨c,hc⟩:=Iy h.1;obtain⟨d,hd⟩:=Iy h1;simp only[den,hc,hd];rw[<-LD];exact apn _ _
def Eh (h:Int):Nat:=2^(re h.toNat+1)
theorem afC {x h:Int} (hx:x<=h) (h0:0<=x):x<(Eh h:Int):=by
 have:h.toNat<2^(re h.toNat+1):=aJf;unfold Eh;omega
theorem eM {c:Bool} {α:Type} {x:M α} {R:Env->Nat->α->Prop} (h:c=true->aC S L x n ρ R):aC S L (cond c x fail) n ρ R:=by
 cases c with
 |true=>exact h rfl
 |false=>exact aC.fail
def pq (k:dW):Int:=two k-half k
theorem SI (k:dW):pq k<=two k:=by cases k<;>decide
theorem ayN (k:dW):∃i:Nat,pq k=2^i/\i<=k.bits:=by cases k<;>first|exact⟨7,by decide,by decide⟩|exact⟨8,by decide,by decide⟩|exact⟨15,by decide,by decide⟩|exact⟨16,by decide,by decide⟩|exact⟨31,by decide,by decide⟩|exact⟨32,by decide,by decide⟩|exact⟨63,by decide,by decide⟩|exact⟨64,by decide,by decide⟩
def PZ (x:I):List Nat->Nat
 |[]=>1
 |i::r=>cond (x.Cw (2^i)) (2^i) (PZ x r)
def orM (k:dW) (x y:b0):M b0:=
 cond (!(decide (0<=x.lo)&&decide (0<=y.lo)&&decide (x.hi<pq k)&&decide (y.hi<pq k))) (cond (decide (0<=x.lo)&&decide (x.hi<pq k)) (
  let s:=PZ x.l [24,18,16,12,8,6,4]
  cond (x.l.Cw s&&decide (y.hi<pq k)&&decide (x.hi+s<pq k)) (bind (h8 30 [y.l,.const s]) λ_=>pure ⟨x.l.add y.l,x.lo,x.hi+s⟩) fail) fail) <|
 cond (x.l.Cw (Eh y.hi)) (pure ⟨x.l.add y.l,x.lo+y.lo,cond (decide (x.hi+y.hi<two k)) (x.hi+y.hi) (two k-1)⟩) <|
 cond (y.l.Cw (Eh x.hi)) (pure ⟨x.l.add y.l,x.lo+y.lo,cond (decide (x.hi+y.hi<two k)) (x.hi+y.hi) (two k-1)⟩) (I5 .or k x y)
theorem abS {X Y s:Nat} (hs:∃i,s=2^i) (hx:X% s=0) (hy:Y<s):X|||Y=X+Y:=by
 obtain⟨i,rfl⟩:=hs;have e:=Up X (2^i);rw[hx,oX]at e;rw[<-e,<-Nat.two_pow_add_eq_or_of_lt hy]
theorem adJ {k:dW} {z:Int} (h0:0<=z) (h1:z<pq k):k.wrap z=z:=by
 rw[Uf];have ag:0<=half k:=by cases k<;>decide
 unfold pq at h1;rw[mD (by omega) (by omega)];omega
theorem agM {k:dW} {x y:Int} (hx:0<=x) (hy:0<=y) (Bk:x<pq k) (Z1:y<pq k):eR .or k x y=((x.toNat|||y.toNat:Nat):Int):=by
 have hl:=SI k;have ZX:x<2^k.bits:=by rw[<-BP];omega
 have Z2:y<2^k.bits:=by rw[<-BP];omega
 obtain⟨i,hi,_⟩:=ayN k;obtain⟨X,rfl⟩:=oY hx;obtain⟨Y,rfl⟩:=oY hy;have cg:X<2^i:=by rw[hi]at Bk;exact_mod_cast Bk
 have hY:Y<2^i:=by rw[hi]at Z1;exact_mod_cast Z1
 have h1:X|||Y<2^i:=aJg cg hY;unfold eR;simp only;rw[ar5,mD hx ZX,mD hy Z2];simp only[qm];exact adJ (by omega) (by rw[hi];exact_mod_cast h1)
theorem agL {k:dW} {x y:Int} (hx:0<=x) (hy:0<=y) (Bk:x<pq k) (Z1:y<two k):eR .and k x y=((x.toNat&&&y.toNat:Nat):Int):=by
 have hl:=SI k;have ZX:x<2^k.bits:=by rw[<-BP];omega
 have Z2:y<2^k.bits:=by rw[<-BP];omega
 obtain⟨X,rfl⟩:=oY hx;obtain⟨Y,rfl⟩:=oY hy;have h1:X&&&Y<=X:=Nat.and_le_left;unfold eR;simp only;rw[bv_and,mD hx ZX,mD hy Z2];simp only[qm];exact adJ (by omega) (by omega)
theorem toNat_mod {x:Int} {s:Nat} (hx:0<=x) (h:x% (s:Int)=0):x.toNat% s=0:=by
 obtain⟨X,rfl⟩:=oY hx;simp only[qm]
 exact_mod_cast h
theorem aA3 {k:dW} {x y:b0} (hx:x.ok n ρ) (hy:y.ok n ρ):aC S L (orM k x y) n ρ λae n' q=>q.ok n' ae/\q.l.den ae=eR .or k (x.l.den ρ) (y.l.den ρ):=by
 unfold orM;cases hc:(!(decide (0<=x.lo)&&decide (0<=y.lo)&&decide (x.hi<pq k)&&decide (y.hi<pq k)))with
 |true=>
  simp only[cond_true];refine eM λh1=>eM λh2=>jS λh3=>aC.pure ?_;simp only[bx,decide_eq_true_eq]at h1 h2;simp only[du,gQ,ay,I.bq]at h3;obtain⟨⟨h4,h6⟩,h5⟩:=h2;have CA:=hx.2;have Mg:=hy.2
  generalize hs:PZ x.l [24,18,16,12,8,6,4]=s at*;have hm:=I.WU ρ h4;have awE:∃i,s=2^i:=by
   rw[<-hs];generalize [24,18,16,12,8,6,4]=l;induction l with
   |nil=>exact⟨0,rfl⟩
   |cons i r ih=>
    unfold PZ;cases x.l.Cw (2^i)with
    |true=>exact⟨i,rfl⟩
    |false=>exact ih
  have e:x.l.den ρ+y.l.den ρ=eR .or k (x.l.den ρ) (y.l.den ρ):=by
   rw[agM (by omega) h3.1 (by omega) (by omega),abS awE (toNat_mod (by omega) hm) (by omega)];omega
  exact⟨⟨I.yW hx.1 hy.1,by simp only[I.den_add];omega,by simp only[I.den_add];omega⟩,by rw[I.den_add];exact e⟩
 |false=>
  simp only[dd,bx,decide_eq_true_eq]at hc;obtain⟨⟨⟨h1,h2⟩,ES⟩,aMS⟩:=hc;have Zu:=SI k;have h3:x.hi<two k:=by omega
  have h4:y.hi<two k:=by omega
  have CA:=hx.2;have Mg:=hy.2
  have hb:=agM (k:=k) (x:=x.l.den ρ) (y:=y.l.den ρ) (by omega) (by omega) (by omega) (by omega);have hlt:eR .or k (x.l.den ρ) (y.l.den ρ)<two k:=by
   have az:x.l.den ρ<2^k.bits:=by rw[<-BP];omega
   have aI:y.l.den ρ<2^k.bits:=by rw[<-BP];omega
   have h1:(x.l.den ρ).toNat|||(y.l.den ρ).toNat<2^k.bits:=aJg (by
    have:(x.l.den ρ).toNat=x.l.den ρ:=by omega
    exact_mod_cast (show((x.l.den ρ).toNat:Int)<2^k.bits by omega)) (by exact_mod_cast (show((y.l.den ρ).toNat:Int)<2^k.bits by omega))
   rw[hb,BP]
   exact_mod_cast h1
  have ok:∀q:Int,q=eR .or k (x.l.den ρ) (y.l.den ρ)->x.l.den ρ+y.l.den ρ=q->(b0.mk (x.l.add y.l) (x.lo+y.lo) (cond (decide (x.hi+y.hi<two k)) (x.hi+y.hi) (two k-1))).ok n ρ:=λq zP wU=>⟨I.yW hx.1 hy.1,by simp only[I.den_add];omega,by
   simp only[I.den_add];cases hd:decide (x.hi+y.hi<two k)with
   |true=>simp only[cond_true];omega
   |false=>simp only[cond_false];omega⟩
  simp only[cond_false];cases h5:x.l.Cw (Eh y.hi)with
  |true=>
   have hm:=I.WU ρ h5;have hl:=afC Mg.2 (by omega);have hs:x.l.den ρ+y.l.den ρ=eR .or k (x.l.den ρ) (y.l.den ρ):=by
    rw[hb,abS (s:=Eh y.hi) ⟨_,rfl⟩ (toNat_mod (by omega) hm) (by omega)];omega
   exact aC.pure ⟨ok _ rfl hs,by rw[I.den_add];exact hs⟩
  |false=>
   simp only[cond_false];cases h6:y.l.Cw (Eh x.hi)with
   |true=>
    have hm:=I.WU ρ h6;have hl:=afC CA.2 (by omega);have hs:x.l.den ρ+y.l.den ρ=eR .or k (x.l.den ρ) (y.l.den ρ):=by
     rw[hb,Nat.or_comm,abS (s:=Eh x.hi) ⟨_,rfl⟩ (toNat_mod (by omega) hm) (by omega)];omega
    exact aC.pure ⟨ok _ rfl hs,by rw[I.den_add];exact hs⟩
   |false=>exact Qa
def P5 (k:dW) (x:b0) (c:Int):M b0:=
 match SK c with
 |some (a,b)=>cond (!(decide (0<=x.lo)&&decide (x.hi<pq k)&&decide (c<two k)&&decide (0<=c))) fail (andM x a b)
 |none=>cond (c==0&&decide (0<=x.lo)&&decide (x.hi<pq k)) (pure (.const 0)) fail
theorem afQ {k:dW} {x:b0} {c:Int} (hx:x.ok n ρ):aC S L (P5 k x c) n ρ λae n' q=>q.ok n' ae/\q.l.den ae=eR .and k (x.l.den ρ) c:=by
 unfold P5;have CA:=hx.2;cases hm:SK c with
 |some p=>
  obtain⟨a,b⟩:=p;simp only;cases hc:(!(decide (0<=x.lo)&&decide (x.hi<pq k)&&decide (c<two k)&&decide (0<=c)))with
  |true=>exact aC.fail
  |false=>
   simp only[dd,bx,decide_eq_true_eq]at hc;obtain⟨⟨⟨h1,h2⟩,h3⟩,h4⟩:=hc;obtain⟨i,j,JR,rfl,rfl,Rc,_,_⟩:=ay7 hm;refine(arv JR hx h1).mono λae n' q _ _ ⟨aA,he⟩=>⟨aA,?_⟩;rw[he,agL (by omega) h4 (by omega) h3]
   congr 2
   have h3:2^i<=2^j:=Pk (by omega) JR;have h5:((2^j-2^i:Nat):Int)=2^j-2^i:=by rw[apm h3];simp
   omega
 |none=>
  simp only;cases hc:(c==0&&decide (0<=x.lo)&&decide (x.hi<pq k))with
  |false=>exact aC.fail
  |true=>
   simp only[bx,beq_iff_eq,decide_eq_true_eq]at hc;obtain⟨⟨rfl,h1⟩,h2⟩:=hc;refine aC.pure ⟨b0.qD _ _ _,?_⟩;rw[agL (by omega) (di _) (by omega) (by cases k<;>decide)];simp[b0.const,I.bq]
theorem arX (k:dW) (x y:Int):eR .and k x y=eR .and k y x:=by simp only[eR,BitVec.and_comm]
def WZ (k:dW) (x y:b0):M b0:=
 match y.l.eT,x.l.eT with
 |some c,_=>P5 k x c
 |none,some c=>P5 k y c
 |none,none=>I5 .and k x y
theorem aru {k:dW} {x y:b0} (hx:x.ok n ρ) (hy:y.ok n ρ):aC S L (WZ k x y) n ρ λae n' q=>q.ok n' ae/\q.l.den ae=eR .and k (x.l.den ρ) (y.l.den ρ):=by
 unfold WZ;cases h1:y.l.eT with
 |some c=>simp only[I.k9 h1];exact afQ hx
 |none=>
  cases h2:x.l.eT with
  |some c=>simp only[I.k9 h2];rw[arX];exact afQ hy
  |none=>exact Qa
def ac1 (x y:b0):M b0:=λn k=> .shr n x.l y.l 0 x.hi (k ⟨.var n,0,x.hi⟩ (n+1))
theorem aFd {x y:b0} (hx:x.ok n ρ) (h0:0<=x.lo):aC S L (ac1 x y) n ρ λae n' q=>q.ok n' ae/\q.l.den ae=x.l.den ρ/2^(y.l.den ρ).toNat:=by
 intro A k af;simp only[ac1,T.holds]at af;have hp:(0:Int)<2^(y.l.den ρ).toNat:=by have:=IA (y.l.den ρ).toNat;exact_mod_cast this
 have fV:0<=x.l.den ρ:=by have:=hx.2;omega
 have b7:0<=x.l.den ρ/2^(y.l.den ρ).toNat:=ad8 fV (sd hp);have a2:x.l.den ρ/2^(y.l.den ρ).toNat<=x.hi:=Int.le_trans (aJh _ fV) hx.2.2;exact⟨_,n+1,_,tJ _,agree.dI _ _ _,⟨⟨I.hj (AE n),by simp only[I.db,mA];exact b7,by simp only[I.db,mA];exact a2⟩,by simp only[I.db,mA]⟩,af _ b7 a2 rfl⟩
def isInt (k:dW) (x:M b0):M A:=bind x λr=>pure (.int k r)
def Fy (x:b0):M b0:=cond (decide (0<=x.lo)) (pure x) (bind (h8 77 [x.l]) λ_=>pure ⟨x.l,0,x.hi⟩)
def er (x y:b0):M b0:=match x.l.eT,y.l.eT with
 |none,none=>bind (Fy x) λx=>bind (Fy y) λy=>mulM x y
 |_,_=>mulM x y
def Xi (op:BinOp) (k:dW) (x:b0) (bI:dW) (y:b0):M A:=
 match op with
 | .shl=>match y.l.eT with
  |some c=>cond (decide (0<=c)) (let s:Int:=2^min c.toNat k.bits;isInt k (BR k ⟨x.l.smul s,x.lo*s,x.hi*s⟩)) fail
  |none=>cond (decide (0<=x.lo)&&decide (0<=y.lo)&&decide (y.hi<=62)&&decide (x.hi*2^y.hi.toNat<pq k)) (isInt k (bind (gV 37 [x.l,y.l] 0 (x.hi*2^y.hi.toNat)) λl=>pure ⟨l,0,x.hi*2^y.hi.toNat⟩)) fail
 | .shr=>match y.l.eT with
  |some c=>cond (decide (0<=c)) (isInt k (A2 x (2^min c.toNat k.bits))) fail
  |none=>cond (decide (0<=x.lo)&&decide (0<=y.lo)&&decide (y.hi<=(k.bits:Int))) (isInt k (ac1 x y)) fail
 | .add=>cond (decide (k=bI)) (isInt k (BR k ⟨x.l.add y.l,x.lo+y.lo,x.hi+y.hi⟩)) fail
 | .sub=>cond (decide (k=bI)) (isInt k (BR k ⟨x.l.sub y.l,x.lo-y.hi,x.hi-y.lo⟩)) fail
 | .mul=>cond (decide (k=bI)) (isInt k (bind (er x y) (BR k))) fail
 | .quo=>match y.l.eT with
  |some c=>cond (decide (k=bI)&&decide (0<c)) (bind (Fy x) λx=>isInt k (bind (A2 x c) (BR k))) fail
  |none=>cond (decide (k=bI)) (bind (Fy x) λx=>bind (h8 36 [y.l]) λ_=>isInt k (bind (bind (gV 76 [x.l,y.l] 0 x.hi) λl=>pure ⟨l,0,x.hi⟩) (BR k))) fail
 | .rem=>match y.l.eT with
  |some c=>cond (decide (k=bI)&&decide (0<c)) (bind (Fy x) λx=>isInt k (abq x c)) fail
  |none=>cond (decide (k=bI)) (bind (Fy x) λx=>bind (h8 36 [y.l]) λ_=>isInt k (bind (gV 38 [x.l,y.l] 0 (cond (decide (y.hi-1<=x.hi)) (y.hi-1) x.hi)) λl=>pure ⟨l,0,cond (decide (y.hi-1<=x.hi)) (y.hi-1) x.hi⟩)) fail
 | .and=>cond (decide (k=bI)) (isInt k (WZ k x y)) fail
 | .or=>cond (decide (k=bI)) (isInt k (orM k x y)) fail
 | .xor=>cond (decide (k=bI)) (isInt k (I5 .xor k x y)) fail
 | .andNot=>cond (decide (k=bI)) (isInt k (I5 .andNot k x y)) fail
 | .eql=>cond (decide (k=bI)) (pure (.bool (.mkEq x y))) fail
 | .neq=>cond (decide (k=bI)) (pure (.bool (.mkNot (.mkEq x y)))) fail
 | .lss=>cond (decide (k=bI)) (pure (.bool (.mkLt x y))) fail
 | .leq=>cond (decide (k=bI)) (pure (.bool (.mkLe x y))) fail
 | .gtr=>cond (decide (k=bI)) (pure (.bool (.mkLt y x))) fail
 | .geq=>cond (decide (k=bI)) (pure (.bool (.mkLe y x))) fail
theorem um {k:dW} {x:M b0} {R:Env->Nat->A->Prop} {v:Int} (h:aC S L x n ρ λae n' q=>q.ok n' ae/\q.l.den ae=v)
 (hR:∀ae n' (q:b0),n<=n'->agree n ρ ae->q.ok n' ae->q.l.den ae=v->R ae n' (.int k q)):aC S L (isInt k x) n ρ R:=
 h.bind λae n' q hn ha ⟨aA,he⟩=>aC.pure (hR ae n' q hn ha aA he)
theorem KB {x:b0} (hx:x.ok n ρ):aC S L (Fy x) n ρ λae n' q=>q.ok n' ae/\q.l=x.l/\q.hi=x.hi/\0<=q.lo/\x.l.den ae=x.l.den ρ:=by
 unfold Fy;cases h:decide (0<=x.lo)with
 |true=>exact aC.pure ⟨hx,rfl,rfl,of_decide_eq_true h,rfl⟩
 |false=>
  refine jS λaf=>aC.pure ⟨⟨hx.1,?_,hx.2.2⟩,rfl,rfl,di _,rfl⟩;simpa [ay,Ml]using af
theorem azd {x y:b0} (hx:x.ok n ρ) (hy:y.ok n ρ):aC S L (er x y) n ρ λae n' q=>q.ok n' ae/\q.l.den ae=x.l.den ρ*y.l.den ρ:=by
 unfold er;split
 ·refine(KB hx).bind λaN a6 hI ia gk ⟨oC,ex,_,_,wN⟩=>(KB (hy.agree gk ia)).bind λb5 gd nH gm eb ⟨ZZ,aty,_,_,atz⟩=>(abu (oC.agree eb gm) ZZ).mono λiL ur q _ _ ⟨h1,h2⟩=>⟨h1,?_⟩;rw[h2,aty,atz,I.cf gk hy.1,I.cf eb oC.1,ex,wN]
 ·exact abu hx hy
theorem arW {nb:Nat} {m:Nat->Nat} (P:b4) {op:BinOp} {k bI:dW} {x y:b0} (t:br) (hx:x.ok n ρ) (hy:y.ok n ρ):
 aC S L (Xi op k x bI y) n ρ λae n' a=>a.ok n' nb ae/\∀w,(binOp op t (.int k (x.l.den ρ)) (.int bI (y.l.den ρ))).run P w= .ok (a.den ae m) w:=by
 have cC:∀s:Nat,(0:Int)<2^s:=λs=>by have:=IA s;exact_mod_cast this
 cases op<;>simp only[Xi]
 case shl=>
  cases hc:y.l.eT with
  |none=>
   refine eM λh0=>?_;simp only[bx,decide_eq_true_eq]at h0;obtain⟨⟨⟨h1,h2⟩,h3⟩,h4⟩:=h0;have Hq:=hx.2;have E6:=hy.2
   have hp:=cC (y.l.den ρ).toNat;have az:(0:Int)<=x.l.den ρ*2^(y.l.den ρ).toNat:=api (by omega) (sd hp);have aI:x.l.den ρ*2^(y.l.den ρ).toNat<=x.hi*2^y.hi.toNat:=aea Hq.2 (by
    have:=Pk (n:=2) (by decide) (show(y.l.den ρ).toNat<=y.hi.toNat by omega)
    exact_mod_cast this) (sd hp) (by omega)
   have hf:bM 37 ([x.l,y.l].map (·.den ρ))=x.l.den ρ*2^(y.l.den ρ).toNat:=rfl;refine um (v:=x.l.den ρ*2^(y.l.den ρ).toNat) ((iQ (by rw[hf];exact az) (by rw[hf];exact aI)).bind λaN a6 l _ _ ⟨g1,g2⟩=>aC.pure ⟨⟨g1,by simp only;rw[g2,hf];exact az,by simp only;rw[g2,hf];exact aI⟩,by simp only;rw[g2,hf]⟩) λae n' q _ _ aA he=>⟨aA,λw=>?_⟩;simp only[A.den,he,binOp,Op.shift];have avw:(y.l.den ρ).toNat<=k.bits∨x.l.den ρ=0:=by
    rcases Nat.le_total (y.l.den ρ).toNat k.bits with h|h
    ·exact .inl h
    ·refine .inr ?_;have h5:x.l.den ρ*2^(y.l.den ρ).toNat<pq k:=by omega
     have h6:=SI k;rw[BP]at h6;have h7:(2:Int)^k.bits<=2^(y.l.den ρ).toNat:=by
      have:=Pk (n:=2) (by decide) h
      exact_mod_cast this
     rcases mE 0 (x.l.den ρ)with fq|fq
     ·have:(1:Int)*2^(y.l.den ρ).toNat<=x.l.den ρ*2^(y.l.den ρ).toNat:=Int.mul_le_mul_of_nonneg_right (by omega) (sd hp);omega
     ·omega
   rw[if_neg (by omega)];rcases avw with h|h
   ·rw[show min (y.l.den ρ).toNat k.bits=(y.l.den ρ).toNat by omega];simp[adJ az (show x.l.den ρ*2^(y.l.den ρ).toNat<pq k by omega)]
   ·have hw:k.wrap 0=0:=by cases k<;>decide
    simp[h,hw]
  |some c=>
   refine eM λh0=>?_;simp only[decide_eq_true_eq]at h0;have hp:=cC (min c.toNat k.bits);refine um (FO (x:=⟨x.l.smul (2^min c.toNat k.bits),x.lo*2^min c.toNat k.bits,x.hi*2^min c.toNat k.bits⟩) ⟨I.xD hx.1,?_,?_⟩) λae n' q _ _ aA he=>⟨aA,λw=>?_⟩
   ·simp only[I.mU];rw[lB];exact F4 hx.2.1 (sd hp)
   ·simp only[I.mU];rw[lB x.hi];exact F4 hx.2.2 (sd hp)
   ·simp only[A.den,he,I.mU,I.k9 hc,binOp,Op.shift];rw[if_neg (by omega)];simp[lB]
 case shr=>
  cases hc:y.l.eT with
  |some c=>
   refine eM λh0=>?_;simp only[decide_eq_true_eq]at h0;have hp:=cC (min c.toNat k.bits);refine um ((Ev hp hx).mono λ_ _ q _ _ h=>⟨h.1,h.2.1⟩) λae n' q _ _ aA he=>⟨aA,λw=>?_⟩;simp only[A.den,he,I.k9 hc,binOp,Op.shift];rw[if_neg (by omega)];simp[aJi _ (sd hp)]
  |none=>
   refine eM λh0=>?_;simp only[bx,decide_eq_true_eq]at h0;refine um (aFd hx h0.1.1) λae n' q _ _ aA he=>⟨aA,λw=>?_⟩;have E6:=hy.2;simp only[A.den,he,binOp,Op.shift];rw[if_neg (by omega),show min (y.l.den ρ).toNat k.bits=(y.l.den ρ).toNat by omega];simp[aJi _ (sd (cC _))]
 case add=>
  refine eM λh0=>?_;simp only[decide_eq_true_eq]at h0;subst h0;have Hq:=hx.2;have E6:=hy.2
  refine um (FO (x:=⟨x.l.add y.l,x.lo+y.lo,x.hi+y.hi⟩) ⟨I.yW hx.1 hy.1,by simp only[I.den_add];omega,by simp only[I.den_add];omega⟩) λae n' q _ _ aA he=>⟨aA,λw=>?_⟩;simp[A.den,he,I.den_add,binOp,Op.intArith]
 case sub=>
  refine eM λh0=>?_;simp only[decide_eq_true_eq]at h0;subst h0;have Hq:=hx.2;have E6:=hy.2
  refine um (FO (x:=⟨x.l.sub y.l,x.lo-y.hi,x.hi-y.lo⟩) ⟨I.xE hx.1 hy.1,by simp only[I.lZ];omega,by simp only[I.lZ];omega⟩) λae n' q _ _ aA he=>⟨aA,λw=>?_⟩;simp[A.den,he,I.lZ,binOp,Op.intArith]
 case mul=>
  refine eM λh0=>?_;simp only[decide_eq_true_eq]at h0;subst h0;refine um (v:=k.wrap (x.l.den ρ*y.l.den ρ)) ((azd hx hy).bind λaN a6 p _ _ ⟨hp,ep⟩=>by rw[<-ep];exact FO hp) λae n' q _ _ aA he=>⟨aA,λw=>?_⟩;simp[A.den,he,binOp,Op.intArith]
 case quo=>
  cases hc:y.l.eT with
  |none=>
   refine eM λh0=>(KB hx).bind λcB gS hI ue CJ ⟨oC,ex,X5,zM,wN⟩=>jS λaf=>?_;have h0:=of_decide_eq_true h0;subst h0;simp only[du,gQ,ay]at af;have NR:=I.cf CJ hy.1;have Hq:=oC.2;have az:=ad8 (show 0<=hI.l.den cB by omega) (sd af);have cn:hI.l.den cB/y.l.den cB<=hI.l.den cB:=by
    have h5:=aJh (y.l.den cB) (show 0<=hI.l.den cB by omega);exact h5
   have iC:hI.l.den cB/y.l.den cB<=hI.hi:=by omega
   have hf:bM 76 ([hI.l,y.l].map (·.den cB))=hI.l.den cB/y.l.den cB:=rfl;refine um (v:=k.wrap (hI.l.den cB/y.l.den cB)) (((iQ (by rw[hf];exact az) (by rw[hf];exact iC)).bind λaN a6 l _ _ ⟨g1,g2⟩=>aC.pure (R:=λae n' (q:b0)=>q.ok n' ae/\q.l.den ae=hI.l.den cB/y.l.den cB) ⟨⟨g1,by simp only;rw[g2,hf];exact az,by simp only;rw[g2,hf];exact iC⟩,by simp only;rw[g2,hf]⟩).bind λaN a6 p _ _ ⟨hp,ep⟩=>by rw[<-ep];exact FO hp) λae n' q _ _ aA he=>⟨aA,λw=>?_⟩;simp only[A.den,he,binOp,Op.intDiv];have NQ:0<y.l.den ρ:=NR▸af;have CZ:0<=x.l.den ρ:=by rw[<-wN,<-ex];omega
   rw[NR,ex,wN,if_neg (by simp),if_neg (by omega),aJj CZ];simp
  |some c=>
   refine eM λh0=>(KB hx).bind λcB gS hI ue CJ ⟨oC,ex,X5,zM,wN⟩=>?_;simp only[bx,decide_eq_true_eq]at h0;obtain⟨h0,h1⟩:=h0;subst h0;have Hq:=oC.2;refine um (v:=k.wrap (hI.l.den cB/c)) ((Ev h1 oC).bind λaN a6 p _ _ ⟨hp,ep,_⟩=>by rw[<-ep];exact FO hp) λae n' q _ _ aA he=>⟨aA,λw=>?_⟩;have CZ:0<=x.l.den ρ:=by rw[<-wN,<-ex];omega
   simp only[A.den,he,I.k9 hc,binOp,Op.intDiv];rw[ex,wN,if_neg (by simp),if_neg (by omega),aJj CZ];simp
 case rem=>
  cases hc:y.l.eT with
  |none=>
   refine eM λh0=>(KB hx).bind λcB gS hI ue CJ ⟨oC,ex,X5,zM,wN⟩=>jS λaf=>?_;have h0:=of_decide_eq_true h0;subst h0;simp only[du,gQ,ay]at af;have NR:=I.cf CJ hy.1;have Hq:=oC.2;have E6:=(hy.agree CJ ue).2
   have az:=sV (hI.l.den cB) (show y.l.den cB≠0 by omega);have aI:=wg (hI.l.den cB) af;have cn:hI.l.den cB% y.l.den cB<=hI.l.den cB:=by
    have h5:=apk (hI.l.den cB) (y.l.den cB);have h6:=api (sd af) (ad8 (show 0<=hI.l.den cB by omega) (sd af));omega
   have hf:bM 38 ([hI.l,y.l].map (·.den cB))=hI.l.den cB% y.l.den cB:=rfl;have iC:hI.l.den cB% y.l.den cB<=cond (decide (y.hi-1<=hI.hi)) (y.hi-1) hI.hi:=by
    cases decide (y.hi-1<=hI.hi)with
    |true=>simp only[cond_true];omega
    |false=>simp only[cond_false];omega
   refine um (v:=hI.l.den cB% y.l.den cB) ((iQ (by rw[hf];exact az) (by rw[hf];exact iC)).bind λaN a6 l _ _ ⟨g1,g2⟩=>aC.pure ⟨⟨g1,by simp only;rw[g2,hf];exact az,by simp only;rw[g2,hf];exact iC⟩,by simp only;rw[g2,hf]⟩) λae n' q _ _ aA he=>⟨aA,λw=>?_⟩;simp only[A.den,he,binOp,Op.intDiv];have NQ:0<y.l.den ρ:=NR▸af;have CZ:0<=x.l.den ρ:=by rw[<-wN,<-ex];omega
   rw[NR,ex,wN,if_neg (by simp),if_neg (by omega),aJk CZ];simp
  |some c=>
   refine eM λh0=>(KB hx).bind λcB gS hI ue CJ ⟨oC,ex,X5,zM,wN⟩=>?_;simp only[bx,decide_eq_true_eq]at h0;obtain⟨h0,h1⟩:=h0;subst h0;have Hq:=oC.2;refine um (alx h1 oC) λae n' q _ _ aA he=>⟨aA,λw=>?_⟩;have CZ:0<=x.l.den ρ:=by rw[<-wN,<-ex];omega
   simp only[A.den,he,I.k9 hc,binOp,Op.intDiv];rw[ex,wN,if_neg (by simp),if_neg (by omega),aJk CZ];simp
 case and=>
  refine eM λh0=>?_;simp only[decide_eq_true_eq]at h0;subst h0;refine um (aru hx hy) λae n' q _ _ aA he=>⟨aA,λw=>?_⟩;simp[A.den,he,binOp,UC,eR]
 case or=>
  refine eM λh0=>?_;simp only[decide_eq_true_eq]at h0;subst h0;refine um (aA3 hx hy) λae n' q _ _ aA he=>⟨aA,λw=>?_⟩;simp[A.den,he,binOp,UC,eR]
 case xor=>
  refine eM λh0=>?_;simp only[decide_eq_true_eq]at h0;subst h0;refine um Qa λae n' q _ _ aA he=>⟨aA,λw=>?_⟩;simp[A.den,he,binOp,UC,eR]
 case andNot=>
  refine eM λh0=>?_;simp only[decide_eq_true_eq]at h0;subst h0;refine um Qa λae n' q _ _ aA he=>⟨aA,λw=>?_⟩;simp[A.den,he,binOp,UC,eR]
 all_goals
  refine eM λh0=>?_;simp only[decide_eq_true_eq]at h0;subst h0;have az:=bH.yl hx hy;have aI:=bH.QF hx hy;have cn:=bH.ahx hx hy;have iC:=bH.QF hy hx;have hC:=bH.ahx hy hx;refine aC.pure ⟨?_,λw=>?_⟩
  ·first|exact az.2|exact bH.BL az.2|exact aI.2|exact cn.2|exact iC.2|exact hC.2
  ·simp[A.den,bH.A0,az.1,aI.1,cn.1,iC.1,hC.1,binOp,Op.intCmp]
   try rfl
end
end Go.b9
namespace Go.b9
open M
abbrev aJ:=List A×(br×Bool)
abbrev fP:=List (Nat×List (dW×Int))
structure eL where
 b:aG
 r:aG
 ex:Nat->Prop
 ro:Nat->Prop
 ds:List Deferred
def cl:List A->Bool
 |[.rows _ _ _ _ _]=>false
 |_=>true
noncomputable def bU (ρ:Env):List A->Nat
 |[.rows _ _ _ cap k]=>if cap.den ρ<0 then 0 else k
 |_=>2
def cM:List aQ->List Int->Prop
 |[],[]=>True
 |c::sh,z::r=>(c.hA.1<=z/\z<=c.hA.2)/\cM sh r
 |_,_=>False
def dS:List aQ->List Int->List aW
 |c::sh,z::r=>c.val z::dS sh r
 |_,_=>[]
def cj (sh:List aQ) (rows:List (List Int)):List aW:=rows.flatMap (dS sh)
def o8 (cells:Array aW) (off:Nat) (sh:List aQ) (rows:List (List Int)):Prop:=
 (∀row∈rows,cM sh row)/\∃pre post,cells.toList=pre++cj sh rows++post/\pre.length=off
theorem cM.len:∀{sh:List aQ} {row:List Int},cM sh row->row.length=sh.length
 |[],[],_=>rfl
 |_::_,_::_,h=>by simp[cM.len h.2]
 |[],_::_,h=>h.elim
 |_::_,[],h=>h.elim
theorem cM.get:∀{sh:List aQ} {row:List Int} {j:Nat} {c:aQ},cM sh row->sh[j]?=some c->∃z,row[j]?=some z/\c.hA.1<=z/\z<=c.hA.2/\(dS sh row)[j]?=some (c.val z)
 |e3::sh,z::r,0,c,h,hc=>by
  simp only[xY,bj]at hc;subst hc;exact⟨z,rfl,h.1.1,h.1.2,rfl⟩
 |e3::sh,z::r,j+1,c,h,hc=>cM.get (sh:=sh) (row:=r) (j:=j) h.2 (by simpa using hc)
 |[],_,_,_,_,hc=>by simp at hc
 |_::_,[],_,_,h,_=>h.elim
theorem H8:∀{sh:List aQ} {row:List Int},cM sh row->(dS sh row).length=sh.length
 |[],[],_=>rfl
 |_::_,_::_,h=>by simp[dS,H8 h.2]
 |[],_::_,h=>h.elim
 |_::_,[],h=>h.elim
theorem qG {sh:List aQ}:∀{rows:List (List Int)},(∀row∈rows,cM sh row)->(cj sh rows).length=rows.length*sh.length
 |[],_=>by simp[cj]
 |r::rs,h=>by
  have ih:=qG (rows:=rs) λrow hr=>h row (eI _ hr);have h1:=H8 (h r (by simp));simp only[cj,wk,gY,ke]at ih⊢;rw[ih,h1,AF];omega
theorem Yi {sh:List aQ}:∀{rows:List (List Int)} {i j:Nat} {row:List Int} {v:aW},(∀row∈rows,cM sh row)->rows[i]?=some row->(dS sh row)[j]?=some v->(cj sh rows)[i*sh.length+j]?=some v
 |r::rs,0,j,row,v,h,hi,aM=>by
  simp only[xY,bj]at hi;subst hi;have hlt:=(List.getElem?_eq_some_iff.1 aM).1;simp only[cj,wk,Nat.zero_mul,zd];rw[AA hlt];exact aM
 |r::rs,i+1,j,row,v,h,hi,aM=>by
  have ih:=Yi (rows:=rs) (i:=i) (λrow hr=>h row (eI _ hr)) (by simpa using hi) aM;have h1:=H8 (h r (by simp));simp only[cj,wk]at ih⊢;rw[LF (by rw[h1,AF];omega),h1,AF];rw[show i*sh.length+sh.length+j-sh.length=i*sh.length+j by omega];exact ih
 |[],i,_,_,_,_,hi,_=>by simp at hi
theorem zC (sh:List aQ) (a b:List (List Int)):cj sh (a++b)=cj sh a++cj sh b:=by simp[cj]
def Co (kind:Nat) (fz:Nat×Nat) (n:Nat):Prop:=(kind=2/\fz=(0,0))∨(kind≠2/\fz=(n,n+1))
theorem Co.two {fz:Nat×Nat} {n:Nat} (h:Co 2 fz n):fz=(0,0):=by
 rcases h with h|h
 ·exact h.2
 ·exact absurd rfl h.1
theorem Co.N9 {n:Nat}:Co 2 (0,0) n:= .inl ⟨rfl,rfl⟩
def wo (w0:eL) (ρ:Env) (g:Nat) (sh:List aQ) (off code cap:I) (kind:Nat) (t:br) (w:aG):Prop:=
 kind≠0->(cap.den ρ<0->ao (code.den ρ)=[])/\(0<=cap.den ρ->(w0.ex g∨w0.ro g∨w0.r.heap.size<=g)/\∃cells t' fz,w.heap[g]?=some (.cells cells t' fz)/\(0<=off.den ρ/\o8 cells (off.den ρ).toNat sh (ao (code.den ρ)))/\
  (2<=kind->t'=t/\off.den ρ=0/\Co kind fz cells.size/\cells.size=(cap.den ρ).toNat*sh.length/\w0.b.heap.size<=g/\(w0.ex g∨w0.r.heap.size<=g)))
structure Mem (w0:eL) (ρ:Env) (m:Nat->Nat) (bl:List aJ) (w:aG):Prop where
 ext:w0.b.Extends w
 j7:w.os=w0.r.os
 mw:w.tape=w0.r.tape
 lH:w.output=w0.r.output
 ib:w0.r.heap.size<=w.heap.size
 jU:∀i:Nat,i<w0.r.heap.size->¬w0.ex i->w.heap[i]?=w0.r.heap[i]?
 gZ:∀(i:Nat) (cs:List A) (t:br×Bool),bl[i]?=some (cs,t)->cl cs=true->w0.b.heap.size<=m i/\(w0.ex (m i)∨w0.r.heap.size<=m i)/\∃r:List aW,(t.2=false->r=[])/\w.heap[m i]?=some (.cells (cs.map (A.den ρ m)++r).toArray t.1 (0,0))
 rws:∀(i:Nat) (sh:List aQ) (off code cap:I) (kind:Nat) (t:br×Bool),bl[i]?=some ([.rows sh off code cap kind],t)->wo w0 ρ (m i) sh off code cap kind t.1 w
 inj:∀(i j:Nat) (p q:aJ),bl[i]?=some p->bl[j]?=some q->m i=m j->i=j∨(bU ρ p.1<=1/\bU ρ q.1<=1)∨bU ρ p.1=0∨bU ρ q.1=0
theorem Mem.lt {w0:eL} {ρ:Env} {m:Nat->Nat} {bl:List aJ} {w:aG} (h:Mem w0 ρ m bl w) {i:Nat} {p:aJ} (hi:bl[i]?=some p) (af:bU ρ p.1≠0):m i<w.heap.size:=by
 obtain⟨cs,t⟩:=p;by_cases aA:cl cs=true
 ·obtain⟨_,_,r,_,h2⟩:=h.gZ i cs t hi aA;exact(Array.getElem?_eq_some_iff.1 h2).1
 ·unfold cl at aA;split at aA
  ·rename_i sh off code cap k;simp only[bU]at af;split at af
   ·exact absurd rfl af
   ·rename_i dC;obtain⟨_,cells,t',fz,h2,_⟩:=(h.rws i _ _ _ _ _ t hi af).2 (by omega);exact(Array.getElem?_eq_some_iff.1 h2).1
  ·exact absurd rfl aA
theorem nA {ρ:Env} {cs:List A} (h:cl cs=true):bU ρ cs=2:=by
 unfold cl at h;unfold bU;split<;>simp_all
def dj (n nb:Nat) (ρ:Env) (bl:List aJ):Prop:=∀p∈bl,∀a∈p.1,A.ok n nb ρ a
def gM (gl:fP) (w0:eL):Prop:=∀g cs,(g,cs)∈gl->g<w0.b.heap.size/\∃t EM,w0.b.heap[g]?=some (.cells (cs.map λp=>Value.int p.1 p.2).toArray t EM)
theorem dj.ext {n n' nb nD:Nat} {ρ ae:Env} {bl:List aJ} (h:dj n nb ρ bl) (ha:agree n ρ ae) (hn:n<=n') (hb:nb<=nD):dj n' nD ae bl:=
 λp hp a bm=>(h p hp a bm).ext ha hn hb
theorem wo.sP {w0:eL} {n nb:Nat} {ρ ae:Env} {g:Nat} {sh:List aQ} {off code cap:I} {kind:Nat} {t:br} {w:aG} (h:wo w0 ρ g sh off code cap kind t w) (cb:(A.rows sh off code cap kind).ok n nb ρ) (ha:agree n ρ ae):wo w0 ae g sh off code cap kind t w:=by
 unfold wo at*;rw[I.cf ha cb.1.1,I.cf ha cb.1.2.1,I.cf ha cb.1.2.2];exact h
theorem yD {n nb:Nat} {ρ ae:Env} {cs:List A} (cb:∀a∈cs,A.ok n nb ρ a) (ha:agree n ρ ae):bU ae cs=bU ρ cs:=by
 unfold bU;split
 ·rename_i sh off code cap k;have h1:A.ok n nb ρ (.rows sh off code cap k):=cb _ (by simp);rw[I.cf ha h1.1.2.2]
 ·rfl
theorem agree.sym {n:Nat} {ρ ae:Env} (h:agree n ρ ae):agree n ae ρ:=λi hi=>(h i hi).symm
theorem Mem.sP {w0:eL} {n:Nat} {ρ ae:Env} {m:Nat->Nat} {bl:List aJ} {w:aG} (h:Mem w0 ρ m bl w) (hb:dj n bl.length ρ bl) (ha:agree n ρ ae):Mem w0 ae m bl w:=
 ⟨h.ext,h.j7,h.mw,h.lH,h.ib,h.jU,λi cs t hi aA=>by
  obtain⟨h1,h2,r,hr,h3⟩:=h.gZ i cs t hi aA;exact⟨h1,h2,r,hr,by rw[yG (hb _ (fC hi)) ha (λ_ _=>rfl)];exact h3⟩,
  λi sh off code cap kind t hi=>(h.rws i sh off code cap kind t hi).sP (hb _ (fC hi) _ (by simp)) ha,λi j p q hi aM he=>by
   rw[yD (hb _ (fC hi)) ha,yD (hb _ (fC aM)) ha];exact h.inj i j p q hi aM he⟩
theorem wo.grow {w0:eL} {ρ:Env} {g:Nat} {sh:List aQ} {off code cap:I} {kind:Nat} {t:br} {w w':aG} (h:wo w0 ρ g sh off code cap kind t w) (he:kind≠0->0<=cap.den ρ->w'.heap[g]?=w.heap[g]?):wo w0 ρ g sh off code cap kind t w':=by
 intro af;obtain⟨h1,h2⟩:=h af;refine⟨h1,λhc=>?_⟩;rw[he af hc];exact h2 hc
theorem w2 {ρ:Env} {sh:List aQ} {off code cap:I} {k:Nat} (af:k≠0) (hc:0<=cap.den ρ):bU ρ [.rows sh off code cap k]=k:=by
 simp only[bU];rw[if_neg (by omega)]
theorem Mem.grow {w0:eL} {ρ:Env} {m:Nat->Nat} {bl:List aJ} {w w':aG} (h:Mem w0 ρ m bl w) (he:w.Extends w'):Mem w0 ρ m bl w':=
 ⟨h.ext.trans he,he.os.trans h.j7,he.tape.trans h.mw,he.output.trans h.lH,nf h.ib he.size,λi hi hx=>(he.block i (IB hi h.ib)).trans (h.jU i hi hx),λi cs t hi aA=>by
  obtain⟨h1,h2,r,hr,h3⟩:=h.gZ i cs t hi aA;exact⟨h1,h2,r,hr,by rw[he.block _ (h.lt hi (by rw[nA aA];decide))];exact h3⟩,λi sh off code cap kind t hi=>(h.rws i sh off code cap kind t hi).grow λaf hc=>he.block _ (h.lt hi (by simp only[w2 af hc];exact af)),h.inj⟩
theorem Mem.ne {w0:eL} {ρ:Env} {m:Nat->Nat} {bl:List aJ} {w:aG} (h:Mem w0 ρ m bl w) {i j:Nat} {p q:aJ} (hi:bl[i]?=some p) (aM:bl[j]?=some q) (hp:2<=bU ρ p.1) (ak:bU ρ q.1≠0) (dA:i≠j):m i≠m j:=λe=>by
 rcases h.inj i j p q hi aM e with h|h|h|h
 ·exact dA h
 ·omega
 ·omega
 ·exact ak h
def eW (n nb:Nat) (ρ:Env) (m:Nat->Nat) (tm:List V) (tmps:Array aW):Prop:=
 tm.length=tmps.size/\∀(i:Nat) (v:V),tm[i]?=some v->v.ok n nb ρ/\∃x,tmps[i]?=some x/\v.rel ρ m x
theorem eW.ext {n n' nb nD:Nat} {ρ ae:Env} {m m':Nat->Nat} {tm:List V} {tmps:Array aW} (h:eW n nb ρ m tm tmps) (ha:agree n ρ ae) (hn:n<=n') (hb:nb<=nD) (hm:∀b,b<nb->m' b=m b):eW n' nD ae m' tm tmps:=
 ⟨h.1,λi v hv=>by obtain⟨h1,x,h2,h3⟩:=h.2 i v hv;exact⟨h1.ext ha hn hb,x,h2,h3.ext h1 ha hm⟩⟩
def xF:List V->Nat->V->List V
 |[],_,_=>[]
 |_::r,0,v=>v::r
 |x::r,i+1,v=>x::xF r i v
theorem acZ:∀(l:List V) (i:Nat) (v:V),xF l i v=l.set i v
 |[],_,_=>rfl
 |_::_,0,_=>rfl
 |_::r,i+1,v=>by simp[xF,acZ r i v]
def hG (tm:List V) (d:Option Tmp) (v:V):List V:=match d with|some d=>xF tm d v|none=>tm
theorem eW.put {n nb:Nat} {ρ:Env} {m:Nat->Nat} {tm:List V} {a:Act} {v:V} {x:aW} (h:eW n nb ρ m tm a.tmps) (d:Option Tmp) (hv:v.ok n nb ρ) (hx:v.rel ρ m x):eW n nb ρ m (hG tm d v) (a.put d x).tmps:=by
 cases d with
 |none=>exact h
 |some d=>
  simp only[hG,LK,acZ];refine⟨by simp[h.1],λi u hu=>?_⟩;rw[List.getElem?_set]at hu;by_cases hd:d=i
  ·subst hd;simp only[if_true]at hu;split at hu
   ·rename_i hlt;simp only[bj]at hu;subst hu;exact⟨hv,x,by simp[<-h.1,hlt],hx⟩
   ·cases hu
  ·rw[if_neg hd]at hu;obtain⟨h1,y,h2,h3⟩:=h.2 i u hu;exact⟨h1,y,by rw[aJl (by omega)];exact h2,h3⟩
def Jd:aW->Option A
 | .int k n=>some (.int k (.const n))
 | .bool b=>some (.bool (.lit b))
 | .string s=>cond (cO s.size 1000000) (some (.str (.const (kJ s.data.toList)))) none
 |v=>cond v.oneCell' (some (.con v)) none
theorem ahj {v:aW} {a:A} (h:Jd v=some a) (n nb:Nat) (ρ:Env) (m:Nat->Nat):a.ok n nb ρ/\a.den ρ m=v:=by
 unfold Jd at h;split at h
 ·simp only[bj]at h;subst h;exact⟨b0.qD _ _ _,by simp[A.den,b0.const,I.bq]⟩
 ·simp only[bj]at h;subst h;exact⟨trivial,rfl⟩
 ·rename_i s;cases hc:cO s.size 1000000 with
  |false=>simp[hc]at h
  |true=>
   simp only[hc,cond_true,bj]at h;subst h;have hl:s.data.toList.length<=m4:=by
    have:=gU hc;have h2:s.data.toList.length=s.size:=by simp
    unfold m4;omega
   refine⟨⟨I.dF _ _,by rw[I.bq];exact zv _,by rw[I.bq];exact x2 hl⟩,?_⟩;simp[A.den,I.bq,BK,en]
 ·cases hc:v.oneCell' with
  |false=>simp[hc]at h
  |true=>simp only[hc,cond_true,bj]at h;subst h;exact⟨hc,rfl⟩
def CC:List aW->Option (List A)
 |[]=>some []
 |v::r=>match Jd v,CC r with|some a,some l=>some (a::l)|_,_=>none
theorem CD:∀{vs:List aW} {l:List A},CC vs=some l->∀(n nb:Nat) (ρ:Env) (m:Nat->Nat),(∀a∈l,A.ok n nb ρ a)/\l.map (A.den ρ m)=vs
 |[],l,h,n,nb,ρ,m=>by simp[CC]at h;subst h;simp
 |v::r,l,h,n,nb,ρ,m=>by
  simp only[CC]at h;cases h1:Jd v with
  |none=>simp[h1]at h
  |some a=>
   cases h2:CC r with
   |none=>simp[h1,h2]at h
   |some l'=>
    simp only[h1,h2,bj]at h;subst h;have az:=ahj h1 n nb ρ m;have aI:=CD h2 n nb ρ m;exact⟨λa ha=>by rcases List.mem_cons.1 ha with rfl|ha;exact az.1;exact aI.1 a ha,by simp[az.2,aI.2]⟩
def QC:aW->V
 | .agg cs=>match CC cs.toList with|some l=> .w (.agg l)|none=> .any
 | .tuple _=> .any
 |v=>match Jd v with|some a=> .w (.one a)|none=> .any
theorem asK (v:aW) (n nb:Nat) (ρ:Env) (m:Nat->Nat):(QC v).ok n nb ρ/\(QC v).rel ρ m v:=by
 unfold QC;split
 ·rename_i cs;cases h:CC cs.toList with
  |none=>exact⟨trivial,trivial⟩
  |some l=>have e:=CD h n nb ρ m;exact⟨e.1,by simp[V.rel,W.den,e.2]⟩
 ·exact⟨trivial,trivial⟩
 ·cases h:Jd v with
  |none=>exact⟨trivial,trivial⟩
  |some a=>have e:=ahj h n nb ρ m;exact⟨e.1,by simp[V.rel,W.den,e.2]⟩
def cp (tm:List V):rf->V
 | .tmp t=>(tm[t]?).getD .any
 | .const v=>QC v
 | .global g=> .w (.one (.gptr g 0))
 | .func f=> .w (.one (.con (.func (.func f) #[] #[])))
theorem cS {n nb:Nat} {ρ:Env} {m:Nat->Nat} {tm:List V} {a:Act} (h:eW n nb ρ m tm a.tmps) (x:rf):(cp tm x).ok n nb ρ/\(cp tm x).rel ρ m (a.eval x):=by
 cases x with
 |tmp t=>
  simp only[cp,Act.eval];cases aD:tm[t]? with
  |none=>exact⟨trivial,trivial⟩
  |some v=>
   obtain⟨h1,y,h2,h3⟩:=h.2 t v aD;exact⟨h1,by simp only[D1];rw[show a.tmps.getD t undef=y by simp[h2]];exact h3⟩
 |const v=>exact asK v n nb ρ m
 |global g=>exact⟨trivial,rfl⟩
 |func f=>exact⟨rfl,rfl⟩
def lf (P:b4) (t:br):Option Bool:=
 match P.underlying t with|some (.struct _)=>some true|some (.array _ _)=>some true|some _=>some false|none=>none
def gT (P:b4) (t:br):Option Nat:=match P.info? t with|some i=>some i.size|none=>none
theorem tz {P:b4} {t:br} {b:Bool} (h:lf P t=some b) (w:aG):(isAgg t).run P w= .ok b w:=by
 unfold lf at h;cases hu:P.underlying t with
 |none=>simp[hu]at h
 |some d=>cases d<;>simp[hu]at h<;>subst h<;>simp[isAgg,gJ hu]
theorem kq {P:b4} {t:br} {k:Nat} (h:gT P t=some k) (w:aG):(sizeOf t).run P w= .ok k w:=by
 unfold gT at h;cases hi:P.info? t with
 |none=>simp[hi]at h
 |some i=>simp[hi]at h;subst h;simp[sizeOf,typeInfo,hi]
def Ja (bl:List aJ) (gl:fP):A->Option (List A)
 | .ptr b off=>match bl[b]? with|some (cs,_)=>cond (cl cs) (some (cs.drop off)) none|none=>none
 | .gptr g off=>match gl.find? (λp=>aP p.1 g)with|some (_,cs)=>some ((cs.drop off).map λp=> .int p.1 (.const p.2))|none=>none
 |_=>none
theorem kX (g o j:Nat):(⟨g,o,none⟩:Addr).add j=⟨g,o+j,none⟩:=by unfold Addr.add;split<;>simp_all
theorem Xz {w0:eL} {w:aG} {n:Nat} {ρ:Env} {m:Nat->Nat} {bl:List aJ} {gl:fP} {p:A} {cs:List A} (hm:Mem w0 ρ m bl w) (hb:dj n bl.length ρ bl) (hg:gM gl w0) (h:Ja bl gl p=some cs):
 ∃g o,p.den ρ m= .pointer (some ⟨g,o,none⟩)/\(∀a∈cs,A.ok n bl.length ρ a)/\∀j a,cs[j]?=some a->w.cell? ⟨g,o+j,none⟩=some (a.den ρ m):=by
 unfold Ja at h;split at h
 ·rename_i b off;cases aZ:bl[b]? with
  |none=>simp[aZ]at h
  |some q=>
   obtain⟨C,t⟩:=q;simp only[aZ]at h;cases oA:cl C with
   |false=>simp[oA]at h
   |true=>
   simp only[oA,cond_true,bj]at h;subst h;obtain⟨h1,_,r,_,h2⟩:=hm.gZ b C t aZ oA;refine⟨m b,off,rfl,λa ha=>hb _ (fC aZ) a (rh ha),λj a aM=>?_⟩;rw[Cj]at aM;have hlt:off+j<C.length:=(List.getElem?_eq_some_iff.1 aM).1;simp only[nK,h2,xR,xS,if_false,Pu];rw[AA (by simpa using hlt),se,aM];rfl
 ·rename_i g off;cases hf:gl.find? (λp=>aP p.1 g)with
  |none=>simp[hf]at h
  |some q=>
   obtain⟨ns,C⟩:=q;simp only[hf,bj]at h;subst h;have Bh:ns=g:=by have:=Uu hf;exact b1 this
   subst Bh;obtain⟨h1,t,EM,h2⟩:=hg ns C (ID hf);refine⟨ns,off,rfl,λa ha=>?_,λj a aM=>?_⟩
   ·obtain⟨p,_,rfl⟩:=List.mem_map.1 ha;exact b0.qD _ _ _
   ·rw[se,Cj]at aM;cases ak:C[off+j]? with
    |none=>simp[ak]at aM
    |some q=>
     simp only[ak,Az,bj]at aM;subst aM;have:=hm.ext.cell ⟨ns,off+j,none⟩ h1;rw[this];simp[nK,h2,ak,A.den,b0.const,I.bq]
 ·cases h
def abi (P:b4) (bl:List aJ) (gl:fP) (ty:br) (p:A):M V:=
 match Ja bl gl p,lf P ty,gT P ty with
 |some cs,some true,some k=>cond (cO k cs.length) (pure (.w (.agg (cs.take k)))) fail
 |some (a::_),some false,_=>pure (.w (.one a))
 |_,_,_=>fail
section
variable {S:Nat->List Int->List Int->Prop} {L:V->Env->Prop} {n:Nat} {ρ:Env} {m:Nat->Nat} {bl:List aJ} {gl:fP} {w0:eL} {P:b4}
def o7 (w0:eL) (m:Nat->Nat) (bl:List aJ) (n:Nat) (ρ:Env) (run:aG->Result aW) (ae:Env) (n':Nat) (v:V):Prop:=
 v.ok n' bl.length ae/\∃val,v.rel ae m val/\∀w,Mem w0 ρ m bl w->run w= .ok val w
theorem ayU (hb:dj n bl.length ρ bl) (hg:gM gl w0) (hex:∃w,Mem w0 ρ m bl w) (ty:br) (p:A):aC S L (abi P bl gl ty p) n ρ (o7 w0 m bl n ρ λw=>(pH ty (p.den ρ m)).run P w):=by
 obtain⟨BS,hx⟩:=hex;unfold abi;cases hc:Ja bl gl p with
 |none=>exact aC.fail
 |some cs=>
  obtain⟨g,o,hp,cb,_⟩:=Xz hx hb hg hc;have hcell:∀w,Mem w0 ρ m bl w->∀j a,cs[j]?=some a->w.cell? ⟨g,o+j,none⟩=some (a.den ρ m):=λw hw=>by
   obtain⟨ns,cL,E4,_,bm⟩:=Xz hw hb hg hc;rw[hp]at E4;simp only[aPt,bj,Addr.mk.injEq,and_true]at E4;obtain⟨rfl,rfl⟩:=E4;exact bm
  cases ha:lf P ty with
  |none=>exact aC.fail
  |some b=>
   cases b with
   |true=>
    cases hs:gT P ty with
    |none=>exact aC.fail
    |some k=>
     refine eM λaf=>aC.pure ⟨λa h=>cb a (nd h),_,rfl,λw hw=>?_⟩;have af:k<=cs.length:=gU af;have hl:=Pp (P:=P) w ⟨g,o,none⟩ ((cs.take k).map (A.den ρ m)) λj v aM=>by
      rw[kX];rw[se]at aM;cases ak:(cs.take k)[j]? with
      |none=>simp[ak]at aM
      |some a=>
       simp only[ak,Az,bj]at aM;subst aM;refine hcell w hw j a ?_;rw[tI]at ak;split at ak
       ·exact ak
       ·cases ak
     simp only[pG,sf,F2 af]at hl;simp[pH,o2,hp,loadVar,tz ha,kq hs,hl,W.den]
   |false=>
    cases cs with
    |nil=>exact aC.fail
    |cons a r=>
     refine aC.pure ⟨cb a (by simp),_,rfl,λw hw=>?_⟩;have:=hcell w hw 0 a rfl;simp only[oX]at this;simp[pH,o2,hp,loadVar,tz ha,this,W.den]
def sG (k:dW):List A->Option (List b0)
 |[]=>some []
 | .int bI x::r=>cond (decide (k=bI)) (match sG k r with|some l=>some (x::l)|none=>none) none
 |_::_=>none
theorem ake {k:dW}:∀{cs:List A} {l:List b0},sG k cs=some l->cs=l.map (.int k)
 |[],l,h=>by simp[sG]at h;subst h;rfl
 | .int bI x::r,l,h=>by
  simp only[sG]at h;by_cases af:k=bI
  ·subst af;simp only[decide_true,cond_true]at h;cases h1:sG k r with
   |none=>simp[h1]at h
   |some l'=>simp only[h1,bj]at h;subst h;simp[ake h1]
  ·simp[af]at h
 | .bool _::_,_,h=>by simp[sG]at h
 | .ptr .. ::_,_,h=>by simp[sG]at h
 | .q1 .. ::_,_,h=>by simp[sG]at h
 | .gptr .. ::_,_,h=>by simp[sG]at h
 | .slc .. ::_,_,h=>by simp[sG]at h
 | .con _::_,_,h=>by simp[sG]at h
 | .str _::_,_,h=>by simp[sG]at h
 | .rows .. ::_,_,h=>by simp[sG]at h
 | .sl .. ::_,_,h=>by simp[sG]at h
 | .ep .. ::_,_,h=>by simp[sG]at h
def Kn:List b0->Int
 |[]=>0
 |[x]=>x.lo
 |x::r=>min x.lo (Kn r)
def Kl:List b0->Int
 |[]=>0
 |[x]=>x.hi
 |x::r=>max x.hi (Kl r)
theorem als {n:Nat} {ρ:Env}:∀{l:List b0},(∀x∈l,x.ok n ρ)->∀x∈l,Kn l<=x.l.den ρ/\x.l.den ρ<=Kl l
 |[],_,x,hx=>by simp at hx
 |[y],h,x,hx=>by
  simp at hx;subst hx;have:=(h x (by simp)).2;exact this
 |y::z::r,h,x,hx=>by
  have ih:=als (l:=z::r) (λx hx=>h x (eI _ hx));simp only[Kn,Kl];rcases List.mem_cons.1 hx with rfl|hx
  ·have:=(h x (by simp)).2;omega
  ·have:=ih x hx;omega
def kindOf (P:b4) (ty:br):Option dW:=match P.underlying ty with|some (.int k)=>some k|_=>none
def Bw:List Int->Int
 |[]=>0
 |[x]=>x
 |x::r=>cond (decide (x<=Bw r)) x (Bw r)
def Bv:List Int->Int
 |[]=>0
 |[x]=>x
 |x::r=>cond (decide (Bv r<=x)) x (Bv r)
theorem alu:∀(l:List Int),∀z∈l,Bw l<=z/\z<=Bv l
 |[],_,h=>by cases h
 |[x],z,h=>by simp at h;subst h;simp[Bw,Bv]
 |x::y::r,z,h=>by
  unfold Bw Bv;have ih:=alu (y::r);rcases List.mem_cons.1 h with rfl|h
  ·refine⟨?_,?_⟩
   ·cases hc:decide (z<=Bw (y::r))with
    |true=>simp
    |false=>simp at hc⊢;omega
   ·cases hc:decide (Bv (y::r)<=z)with
    |true=>simp
    |false=>simp at hc⊢;omega
  ·have:=ih z h;refine⟨?_,?_⟩
   ·cases hc:decide (x<=Bw (y::r))with
    |true=>simp at hc⊢;omega
    |false=>simp;exact this.1
   ·cases hc:decide (Bv (y::r)<=x)with
    |true=>simp at hc⊢;omega
    |false=>simp;exact this.2
def acY (P:b4) (bl:List aJ) (ty:br) (b off:Nat) (bp:b0):M V:=λn c=>
 match bl[b]?,kindOf P ty with
 |some (cs,_),some k=>match sG k ((cs.drop off).take (bp.hi.toNat+1))with
  |some l=>cond (aP l.length (bp.hi.toNat+1)&&decide (0<=bp.lo)&&cl cs) (.BN n (l.map (·.l)) bp.l (Kn l) (Kl l) (c (.w (.one (.int k ⟨.var n,Kn l,Kl l⟩))) (n+1))) .stuck
  |none=> .stuck
 |_,_=> .stuck
theorem aE9 (hb:dj n bl.length ρ bl) (ty:br) (b off:Nat) {bp:b0} (No:bp.ok n ρ):aC S L (acY P bl ty b off bp) n ρ (o7 w0 m bl n ρ λw=>(pH ty ((A.q1 b off bp).den ρ m)).run P w):=by
 intro apT c af;unfold acY at af;cases aZ:bl[b]? with
 |none=>simp[aZ,T.holds]at af
 |some q=>
  obtain⟨cs,t⟩:=q;cases jt:kindOf P ty with
  |none=>simp[aZ,jt,T.holds]at af
  |some k=>
   cases hi:sG k ((cs.drop off).take (bp.hi.toNat+1))with
   |none=>simp[aZ,jt,hi,T.holds]at af
   |some l=>
    cases hc:(aP l.length (bp.hi.toNat+1)&&decide (0<=bp.lo)&&cl cs)with
    |false=>simp[aZ,jt,hi,hc,T.holds]at af
    |true=>
     simp only[aZ,jt,hi,hc,cond_true,T.holds]at af;simp only[bx,decide_eq_true_eq]at hc;obtain⟨hc,ak⟩:=hc;have hlen:=b1 hc.1;have e:=ake hi;have CA:=No.2;have hlt:(bp.l.den ρ).toNat<l.length:=by omega
     have awv:∀x∈l,x.ok n ρ:=λx hx=>by
      have:A.int k x∈(cs.drop off).take (bp.hi.toNat+1):=by rw[e];exact aJm hx
      exact hb _ (fC aZ) _ (rh (nd this))
     have hz:((l.map (·.l)).map (·.den ρ)).getD (bp.l.den ρ).toNat 0=(l[(bp.l.den ρ).toNat]).l.den ρ:=by
      simp[U,hlt]
     have p7:=als awv _ (IE hlt);refine⟨_,n+1,_,tJ _,agree.dI _ _ _,(show o7 w0 m bl n ρ _ (dI ρ n (((l.map (·.l)).map (·.den ρ)).getD (bp.l.den ρ).toNat 0)) (n+1) (.w (.one (.int k ⟨.var n,Kn l,Kl l⟩))) from⟨⟨I.hj (AE n),?_,?_⟩,_,rfl,?_⟩),af _ (by rw[hz];exact p7.1) (by rw[hz];exact p7.2) rfl⟩
     ·simp only[I.db,mA,hz];exact p7.1
     ·simp only[I.db,mA,hz];exact p7.2
     ·intro w hw;obtain⟨_,_,r,_,h2⟩:=hw.gZ b cs t aZ ak;have hu:lf P ty=some false:=by
       unfold kindOf at jt;unfold lf;cases ak:P.underlying ty with
       |none=>simp[ak]at jt
       |some d=>cases d<;>simp[ak]at jt<;>rfl
      have dD:cs[off+(bp.l.den ρ).toNat]?=some (.int k (l[(bp.l.den ρ).toNat])):=by
       have h3:((cs.drop off).take (bp.hi.toNat+1))[(bp.l.den ρ).toNat]?=some (.int k (l[(bp.l.den ρ).toNat])):=by rw[e];simp[hlt]
       rw[tI,if_pos (by omega),Cj]at h3;exact h3
      have hcell:w.cell? ⟨m b,off+(bp.l.den ρ).toNat,none⟩=some (.int k ((l[(bp.l.den ρ).toNat]).l.den ρ)):=by
       have awf:off+(bp.l.den ρ).toNat<cs.length:=(List.getElem?_eq_some_iff.1 dD).1;simp only[nK,h2,xR,xS,if_false,Pu];rw[AA (by simpa using awf),se,dD];rfl
      simp only[W.den,A.den,I.db,mA,hz];simp[pH,o2,loadVar,tz hu,hcell]
def acX (P:b4) (gl:fP) (ty:br) (g off:Nat) (bp:b0):M V:=λn c=>
 match gl.find? (λp=>aP p.1 g),kindOf P ty with
 |some (_,cs),some k=>cond (((cs.drop off).take (bp.hi.toNat+1)).all (λp=>decide (p.1=k))&&aP ((cs.drop off).take (bp.hi.toNat+1)).length (bp.hi.toNat+1)&&decide (0<=bp.lo))
  (.BN n (((cs.drop off).take (bp.hi.toNat+1)).map λp=> .const p.2) bp.l (Bw (((cs.drop off).take (bp.hi.toNat+1)).map (·.2))) (Bv (((cs.drop off).take (bp.hi.toNat+1)).map (·.2)))
    (c (.w (.one (.int k ⟨.var n,Bw (((cs.drop off).take (bp.hi.toNat+1)).map (·.2)),Bv (((cs.drop off).take (bp.hi.toNat+1)).map (·.2))⟩))) (n+1))) .stuck
 |_,_=> .stuck
theorem aE8 (hg:gM gl w0) (ty:br) (g off:Nat) {bp:b0} (No:bp.ok n ρ):aC S L (acX P gl ty g off bp) n ρ (o7 w0 m bl n ρ λw=>(pH ty ((A.Jx g off bp).den ρ m)).run P w):=by
 intro apT c af;unfold acX at af;cases hf:gl.find? (λp=>aP p.1 g)with
 |none=>simp[hf,T.holds]at af
 |some q=>
  obtain⟨ns,cs⟩:=q;have Bh:ns=g:=by have:=Uu hf;exact b1 this
  subst Bh;cases jt:kindOf P ty with
  |none=>simp[hf,jt,T.holds]at af
  |some k=>
   simp only[hf,jt]at af;generalize jL:(cs.drop off).take (bp.hi.toNat+1)=C at af;cases hc:(C.all (λp=>decide (p.1=k))&&aP C.length (bp.hi.toNat+1)&&decide (0<=bp.lo))with
   |false=>simp[hc,T.holds]at af
   |true=>
    simp only[hc,cond_true,T.holds]at af;simp only[bx,decide_eq_true_eq]at hc;obtain⟨⟨c1,bQ⟩,cF⟩:=hc;have bQ:=b1 bQ;have CA:=No.2;have hlt:(bp.l.den ρ).toNat<C.length:=by omega
    have hz:((C.map λp=>I.const p.2).map (·.den ρ)).getD (bp.l.den ρ).toNat 0=(C[(bp.l.den ρ).toNat]).2:=by
     simp[U,hlt,I.bq]
    have p7:=alu (C.map (·.2)) _ (aJm (IE hlt));refine⟨_,n+1,_,tJ _,agree.dI _ _ _,(show o7 w0 m bl n ρ _ (dI ρ n (((C.map λp=>I.const p.2).map (·.den ρ)).getD (bp.l.den ρ).toNat 0)) (n+1) (.w (.one (.int k ⟨.var n,Bw (C.map (·.2)),Bv (C.map (·.2))⟩))) from⟨⟨I.hj (AE n),?_,?_⟩,_,rfl,?_⟩),af _ (by rw[hz];exact p7.1) (by rw[hz];exact p7.2) rfl⟩
    ·simp only[I.db,mA,hz];exact p7.1
    ·simp only[I.db,mA,hz];exact p7.2
    ·intro w hw;have hu:lf P ty=some false:=by
      unfold kindOf at jt;unfold lf;cases ak:P.underlying ty with
      |none=>simp[ak]at jt
      |some d=>cases d<;>simp[ak]at jt<;>rfl
     have mX:(C[(bp.l.den ρ).toNat]).1=k:=by simpa using List.all_eq_true.1 c1 _ (IE hlt)
     have dD:cs[off+(bp.l.den ρ).toNat]?=some (C[(bp.l.den ρ).toNat]):=by
      have h3:C[(bp.l.den ρ).toNat]?=some (C[(bp.l.den ρ).toNat]):=pF hlt;have h4:C[(bp.l.den ρ).toNat]?=cs[off+(bp.l.den ρ).toNat]?:=by rw[<-jL,tI,if_pos (by omega),Cj]
      rw[<-h4,h3]
     obtain⟨Rg,t,EM,avB⟩:=hg ns cs (ID hf);have hcell:w.cell? ⟨ns,off+(bp.l.den ρ).toNat,none⟩=some (.int k (C[(bp.l.den ρ).toNat]).2):=by
      rw[hw.ext.cell _ Rg];simp only[nK,avB,xR,xS,if_false,Pu];rw[se,dD,Az,mX]
     simp only[W.den,A.den,I.db,mA,hz];simp[pH,o2,loadVar,tz hu,hcell]
end
end Go.b9
namespace Go.b9
open M
abbrev gL:=dL->Option (List aJ->List V->M V)
def Ga (P:b4) (o:Oper) (a:Act) (w:aG) (val:aW):Prop:=
 (execOp a.eval o).run P w= .ok (.value val) w∨
 ∃f args,(execOp a.eval o).run P w= .ok (.enter f args) w/\Calls P f args w λe sS=>e= .returned val/\w.Extends sS
def x1 (P:b4) (f:dL) (args:Array aW) (w:aG) (val:aW):Prop:=
 (callFunc f args).run P w= .ok (.value val) w∨
 ((callFunc f args).run P w= .ok (.enter f args) w/\Calls P f args w λe sS=>e= .returned val/\w.Extends sS)
def fQ (ρ:Env) (m:Nat->Nat):List V->List aW->Prop
 |[],[]=>True
 |v::r,x::s=>v.rel ρ m x/\fQ ρ m r s
 |_,_=>False
def iM (S:Nat->List Int->List Int->Prop) (P:b4) (gl:fP) (w0:eL) (cal:gL):Prop:=
 ∀f g,cal f=some g->∀(L:V->Env->Prop) (n:Nat) (ρ:Env) (m:Nat->Nat) (bl:List aJ) (vs:List V) (xs:List aW),dj n bl.length ρ bl->(∃w,Mem w0 ρ m bl w)->(∀v∈vs,v.ok n bl.length ρ)->fQ ρ m vs xs->
  aC S L (g bl vs) n ρ λae n' v=>v.ok n' bl.length ae/\∃val,v.rel ae m val/\∀w,Mem w0 ρ m bl w->x1 P f xs.toArray w val
def MG (P:b4) (s:br) (f:Nat):Option Field:=match P.underlying s with|some (.struct fs)=>fs[f]?|_=>none
def wC (P:b4) (t:br):Option (Nat×br):=match P.underlying t with|some (.array n e)=>some (n,e)|_=>none
def kr (P:b4) (t:br):Option br:=match P.underlying t with|some (.slice e)=>some e|_=>none
def S9 (P:b4) (t:br) (l:List A) (off:Nat):M V:=
 match lf P t,gT P t with
 |some true,some k=>pure (.w (.agg ((l.drop off).take k)))
 |some false,_=>match l[off]? with|some a=>pure (.w (.one a))|none=>fail
 |_,_=>fail
def Z6 (P:b4) (t:br) (x:V) (bp:b0):M V:=
 match x with
 | .w (.one (.ptr b off))=>match wC P t with
  |some (len,e)=>match gT P e with
   |some s=>match bp.l.eT with
    |some i=>cond (decide (0<=i)&&decide (i<len)) (pure (.w (.one (.ptr b (off+i.toNat*s))))) fail
    |none=>cond (aP s 1&&decide (0<=bp.lo)&&decide (bp.hi<len)) (pure (.w (.one (.q1 b off bp)))) fail
   |none=>fail
  |none=>fail
 | .w (.one (.gptr g off))=>match wC P t with
  |some (len,e)=>match gT P e with
   |some s=>match bp.l.eT with
    |some i=>cond (decide (0<=i)&&decide (i<len)) (pure (.w (.one (.gptr g (off+i.toNat*s))))) fail
    |none=>cond (aP s 1) (bind (h8 74 [bp.l,.const len]) λ_=>pure (.w (.one (.Jx g off ⟨bp.l,0,(len:Int)-1⟩)))) fail
   |none=>fail
  |none=>fail
 | .w (.one (.slc b off len _))=>match kr P t with
  |some e=>match gT P e with
   |some s=>match bp.l.eT with
    |some i=>cond (decide (0<=i)&&decide (i<len)) (pure (.w (.one (.ptr b (off+i.toNat*s))))) fail
    |none=>cond (aP s 1&&decide (0<=bp.lo)&&decide (bp.hi<len)) (pure (.w (.one (.q1 b off bp)))) fail
   |none=>fail
  |none=>fail
 | .sL b len _=>match kr P t with
  |some e=>match gT P e with
   |some s=>match bp.l.eT with
    |some i=>cond (decide (0<=i)&&decide (i<len)) (pure (.w (.one (.ptr b (i.toNat*s))))) fail
    |none=>fail
   |none=>fail
  |none=>fail
 |_=>fail
def Dn:List V->Option (List A)
 |[]=>some []
 | .w (.one a)::r=>match Dn r with|some l=>some (a::l)|none=>none
 |_::_=>none
def EJ:List A->List A->Option bH
 |[],[]=>some (.lit true)
 | .int k x::r,.int bI y::r'=>cond (decide (k=bI)) (match EJ r r' with|some b=>some (.mkAnd (.mkEq x y) b)|none=>none) none
 |_,_=>none
def X9 (P:b4) (t:br) (x y:List A):Option bH:=
 match wC P t with
 |some (len,e)=>match kindOf P e,gT P e with
  |some _,some 1=>cond (aP x.length len&&aP y.length len&& !P.eqGuardType P.depth t) (EJ x y) none
  |_,_=>none
 |none=>none
def Jr (P:b4):Nat->List Field->Bool
 |_,[]=>true
 |i,f::r=>(f.name != "_")&&aP f.offset i&&Jr P (i+1) r
noncomputable def wL (P:b4):List Field->List A->List A->M bH
 |[],[],[]=>pure (.lit true)
 |f::fs,.int k a::xs,.int bI b::ix=>match kindOf P f.type with
  |some k2=>cond (decide (k=bI)) (bind (wL P fs xs ix) λr=>pure (.mkAnd (.mkEq a b) r)) fail
  |none=>fail
 |f::fs,.str a::xs,.str b::ix=>match P.underlying f.type with
  |some .string=>bind (gV 4 [a,b] 0 1) λl=>bind (wL P fs xs ix) λr=>pure (.mkAnd (.mkEq ⟨l,0,1⟩ (.const 1)) r)
  |_=>fail
 |_,_,_=>fail
noncomputable def QN (P:b4) (g:br->List A->List A->M bH):Nat->List Field->List A->List A->M bH
 |_,[],_,_=>pure (.lit true)
 |o,f::fs,x,y=>match gT P f.type with
  |some s=>cond ((f.name != "_")&&aP f.offset o) (bind (g f.type (x.take s) (y.take s)) λb=>bind (QN P g (o+s) fs (x.drop s) (y.drop s)) λr=>pure (.mkAnd b r)) fail
  |none=>fail
noncomputable def Jo (P:b4):Nat->br->List A->List A->M bH
 |0,_,_,_=>fail
 |d+1,t,x,y=>match P.underlying t with
  |some (.int k)=>match x,y with
   |[.int k1 a],[.int k2 b]=>cond (decide (k1=k2)) (pure (.mkEq a b)) fail
   |_,_=>fail
  |some .string=>match x,y with
   |[.str a],[.str b]=>bind (gV 4 [a,b] 0 1) λl=>pure (.mkEq ⟨l,0,1⟩ (.const 1))
   |_,_=>fail
  |some .bool=>match x,y with
   |[.bool a],[.bool b]=>pure (.mkIff a b)
   |_,_=>fail
  |some (.struct fs)=>cond (!P.stoodInHeld t) (QN P (Jo P d) 0 fs.toList x y) fail
  |_=>fail
noncomputable def QO (P:b4) (t:br) (x y:List A):M bH:=
 match P.underlying t with
 |some (.struct fs)=>cond (Jr P 0 fs.toList&& !P.stoodInHeld t&& !P.eqGuardType P.depth t) (cond (fs.toList.all λf=>match P.underlying f.type with|some (.int _)=>true|some .string=>true|_=>false) (wL P fs.toList x y) (Jo P 8 t x y))
  (cond (!P.eqGuardType P.depth t) (Jo P 8 t x y) fail)
 |_=>fail
noncomputable def adh (op:BinOp) (a b:I):M V:=
 match op with
 | .add=>bind (h8 3 [a,b]) λ_=>bind (gV 3 [a,b] 0 qu) λl=>pure (.w (.one (.str l)))
 | .eql=>bind (gV 4 [a,b] 0 1) λl=>pure (.w (.one (.bool (.mkEq ⟨l,0,1⟩ (.const 1)))))
 | .neq=>bind (gV 4 [a,b] 0 1) λl=>pure (.w (.one (.bool (.mkNot (.mkEq ⟨l,0,1⟩ (.const 1))))))
 | .lss=>bind (gV 5 [a,b] 0 1) λl=>pure (.w (.one (.bool (.mkEq ⟨l,0,1⟩ (.const 1)))))
 | .geq=>bind (gV 5 [a,b] 0 1) λl=>pure (.w (.one (.bool (.mkNot (.mkEq ⟨l,0,1⟩ (.const 1))))))
 |_=>fail
def anq (s:I):M V:=bind (gV 0 [s] 0 9223372036854775807) λl=>pure (.w (.one (.int .i64 ⟨l,0,9223372036854775807⟩)))
def anp (s i:I):M V:=bind (h8 1 [s,i]) λ_=>bind (gV 1 [s,i] 0 255) λl=>pure (.w (.one (.int .u8 ⟨l,0,255⟩)))
noncomputable def TI (s a b:I):M V:=bind (h8 2 [s,a,b]) λ_=>bind (gV 2 [s,a,b] 0 qu) λl=>pure (.w (.one (.str l)))
def uk (v:V):Option I:=match v with| .w (.one (.int _ a))=>some a.l|_=>none
noncomputable def adi (tm:List V) (s:I) (lo hi:Option rf):M V:=
 match(match lo with|none=>some (I.const 0)|some x=>uk (cp tm x))with
 |none=>fail
 |some a=>match hi with
  |none=>bind (gV 0 [s] 0 9223372036854775807) λb=>TI s a b
  |some y=>match uk (cp tm y)with
   |some b=>TI s a b
   |none=>fail
noncomputable def agK (P:b4) (op:BinOp) (t:br) (x y:V):M V:=
 match x,y with
 | .w (.one (.int k a)),.w (.one (.int bI b))=>bind (Xi op k a bI b) λr=>pure (.w (.one r))
 | .w (.agg a),.w (.agg b)=>match op,X9 P t a b with
  | .eql,some e=>pure (.w (.one (.bool e)))
  | .neq,some e=>pure (.w (.one (.bool (.mkNot e))))
  | .eql,none=>bind (QO P t a b) λe=>pure (.w (.one (.bool e)))
  | .neq,none=>bind (QO P t a b) λe=>pure (.w (.one (.bool (.mkNot e))))
  |_,_=>fail
 | .w (.one (.str a)),.w (.one (.str b))=>adh op a b
 | .w (.one (.bool a)),.w (.one (.bool b))=>match op,P.underlying t with
  | .eql,some .bool=>pure (.w (.one (.bool (.mkIff a b))))
  | .neq,some .bool=>pure (.w (.one (.bool (.mkNot (.mkIff a b)))))
  |_,_=>fail
 |_,_=>fail
def anW (op:UnOp) (x:V):M V:=
 match op,x with
 | .not,.w (.one (.bool b))=>pure (.w (.one (.bool (.mkNot b))))
 | .xor,.w (.one (.int k a))=>cond (!k.signed&&decide (0<=a.lo)&&decide (a.hi<two k)) (pure (.w (.one (.int k ⟨(I.const (two k-1)).sub a.l,two k-1-a.hi,two k-1-a.lo⟩)))) fail
 | .neg,.w (.one (.int k a))=>bind (BR k ⟨a.l.smul (-1),-a.hi,-a.lo⟩) λr=>pure (.w (.one (.int k r)))
 |_,_=>fail
def ahk (P:b4) (src dst:br) (x:V):M V:=
 match P.underlying src,P.underlying dst,x with
 |some _,some .string,.w (.one (.int _ a))=>match a.l.eT with
  |some c=>cond (cO (UD c).size 1000) (pure (.w (.one (.str (.const (kJ (UD c).data.toList)))))) fail
  |none=>fail
 |_,_,_=>match P.underlying src,kindOf P dst,x with
 |some _,some k,.w (.one (.int _ a))=>bind (BR k a) λr=>pure (.w (.one (.int k r)))
 |_,_,_=>fail
def QB (v:V):Option Int:=match v with| .w (.one (.int _ a))=>a.l.eT|_=>none
def S4 (tm:List V):Option rf->Option (Option Int)
 |none=>some none
 |some x=>match QB (cp tm x)with|some c=>some (some c)|none=>none
def ang (P:b4) (t:br) (x:V) (lo hi:Option Int):M V:=
 match x,wC P t with
 | .w (.one (.ptr b off)),some (n,e)=>match gT P e with
  |some s=>cond (decide (0<=lo.getD 0)&&decide (lo.getD 0<=hi.getD n)&&decide (hi.getD n<=n)&&decide (lo.getD 0<n)) (pure (.w (.one (.slc b (off+(lo.getD 0).toNat*s) ((hi.getD n).toNat-(lo.getD 0).toNat) (n-(lo.getD 0).toNat))))) fail
  |none=>fail
 | .w (.one (.slc b off len cap)),none=>match kr P t with
  |some e=>match gT P e with
   |some s=>cond (decide (0<=lo.getD 0)&&decide (lo.getD 0<=hi.getD len)&&decide (hi.getD len<=cap)&&decide (lo.getD 0<cap)) (pure (.w (.one (.slc b (off+(lo.getD 0).toNat*s) ((hi.getD len).toNat-(lo.getD 0).toNat) (cap-(lo.getD 0).toNat))))) fail
   |none=>fail
  |none=>fail
 |_,_=>fail
def alO (x:V):M V:=
 match x with
 | .w (.one (.ptr b o))=>pure (.w (.one (.ptr b o)))
 | .w (.one (.q1 b o i))=>pure (.w (.one (.q1 b o i)))
 | .w (.one (.gptr g o))=>pure (.w (.one (.gptr g o)))
 |_=>fail
def W.cells:W->List A
 | .one a=>[a]
 | .agg l=>l
def ql (P:b4) (t:br):Option (List A):=
 match P.info? t with
 |some i=>match i.zero with
  |some z=>CC z.cells.toList
  |none=>none
 |none=>none
def Bb (place:Nat->Option (Nat×Nat)):List A->List (Nat×V)->Option (List A)
 |cells,[]=>some cells
 |cells,(i,.w u)::r=>match place i with
  |some (off,size)=>cond (aP u.cells.length size&&cO (off+size) cells.length) (Bb place (cells.take off++u.cells++cells.drop (off+size)) r) none
  |none=>none
 |_,_::_=>none
def Xo (P:b4) (t:br) (parts:List (Nat×V)):Option (List A):=
 match ql P t,P.underlying t with
 |some z,some (.array _ e)=>match gT P e with
  |some s=>Bb (λi=>some (i*s,s)) z parts
  |none=>none
 |some z,some (.struct fields)=>match fields.toList.mapM (λf=>(P.info? f.type).map λi=>(f.offset,i.size))with
  |some places=>Bb (places.toArray[·]?) z parts
  |none=>none
 |_,_=>none
noncomputable def acr (P:b4) (cal:gL) (gl:fP) (bl:List aJ) (tm:List V) (o:Oper):M V:=
 match o.op with
 | .move x| .assign x=>pure (cp tm x)
 | .load t x=>match cp tm x with
  | .w (.one (.q1 b off bp))=>acY P bl t b off bp
  | .w (.one (.Jx g off bp))=>acX P gl t g off bp
  | .w (.one p)=>abi P bl gl t p
  |_=>fail
 | .nilCheck x=>alO (cp tm x)
 | .pick c x y=>match cp tm c with
  | .w (.one (.bool (.lit v)))=>pure (cond v (cp tm x) (cp tm y))
  |_=>fail
 | .binOp op t x y _=>agK P op t (cp tm x) (cp tm y)
 | .unOp op _ x=>anW op (cp tm x)
 | .convert s d x=>ahk P s d (cp tm x)
 | .indexAddr t x bp=>match cp tm bp with
  | .w (.one (.int _ i))=>Z6 P t (cp tm x) i
  |_=>fail
 | .index t x bp=>match cp tm x with
  | .w (.one (.str s))=>match P.underlying t,uk (cp tm bp)with
   |some .string,some i=>anp s i
   |_,_=>fail
  |_=>match cp tm x,QB (cp tm bp),wC P t with
   | .w (.agg l),some i,some (len,e)=>match gT P e with
    |some s=>cond (decide (0<=i)&&decide (i<len)) (S9 P e l (i.toNat*s)) fail
    |none=>fail
   |_,_,_=>fail
 | .fieldAddr s x f=>match cp tm x,MG P s f with
  | .w (.one (.ptr b off)),some fd=>match gT P fd.type with
   |some (_+1)=>pure (.w (.one (.ptr b (off+fd.offset))))
   |_=>fail
  |_,_=>fail
 | .field s x f=>match cp tm x,MG P s f with
  | .w (.agg l),some fd=>S9 P fd.type l fd.offset
  |_,_=>fail
 | .extract x i=>match cp tm x with
  | .jh l=>match l[i]? with|some u=>pure (.w u)|none=>fail
  |_=>fail
 | .slice t x lo hi none=>match cp tm x,P.underlying t with
  | .w (.one (.str s)),some .string=>adi tm s lo hi
  |_,_=>match S4 tm lo,S4 tm hi with
   |some l,some h=>ang P t (cp tm x) l h
   |_,_=>fail
 | .call c=>match c.callee with
  | .value (.func f)=>match cal f with
   |some g=>g bl (c.args.toList.map (cp tm))
   |none=>fail
  | .builtin .len=>match c.args.toList,c.argTypes.toList with
   |[x],[t]=>match cp tm x,P.underlying t with
    | .w (.one (.str s)),some .string=>anq s
    |_,_=>match cp tm x,kr P t with
     | .w (.one (.slc _ _ len _)),some _=>pure (.w (.one (.int .i64 (.const len))))
     | .sL _ len _,some _=>pure (.w (.one (.int .i64 (.const len))))
     |_,_=>fail
   |_,_=>fail
  |_=>fail
 | .makeFunc (.func f) first lp=>match first.toList,Dn (lp.toList.map (cp tm))with
  |[],some l=>pure (.s5 f l)
  |_,_=>fail
 | .build t parts=>match Xo P t (parts.toList.map λp=>(p.1,cp tm p.2))with
  |some l=>pure (.w (.agg l))
  |none=>fail
 | .sliceToArrayPointer t x=>match cp tm x,wC P t with
  | .sL b len _,some (k,_)=>cond (cO k len) (pure (.w (.one (.ptr b 0)))) fail
  | .w (.one (.slc b off len _)),some (k,_)=>cond (cO k len) (pure (.w (.one (.ptr b off)))) fail
  |_,_=>fail
 |_=>fail
section
variable {S:Nat->List Int->List Int->Prop} {L:V->Env->Prop} {n:Nat} {ρ:Env} {m:Nat->Nat} {bl:List aJ} {gl:fP} {w0:eL} {P:b4} {tm:List V} {a:Act}
def o6 (w0:eL) (m:Nat->Nat) (bl:List aJ) (n:Nat) (ρ:Env) (P:b4) (o:Oper) (a:Act) (ae:Env) (n':Nat) (v:V):Prop:=
 v.ok n' bl.length ae/\∃val,v.rel ae m val/\∀w,Mem w0 ρ m bl w->Ga P o a w val
theorem o6.of_run {o:Oper} {s:Sem aW} {ae:Env} {n':Nat} {v:V} (he:execOp a.eval o=(do pure (mh (<-s)))) (h:o7 w0 m bl n ρ (λw=>s.run P w) ae n' v):o6 w0 m bl n ρ P o a ae n' v:=by
 obtain⟨h1,val,h2,h3⟩:=h;exact⟨h1,val,h2,λw hw=> .inl (by rw[he];simp[h3 w hw])⟩
theorem W.Qx {n nb:Nat} {ρ:Env} {m:Nat->Nat} (u:W) (hu:u.ok n nb ρ):(u.den ρ m).cells=(u.cells.map (A.den ρ m)).toArray:=by
 cases u with
 |one a=>
  have:=A.S0 (m:=m) hu;simp only[W.den,W.cells,du,gQ];generalize A.den ρ m a=v at*;cases v<;>first|rfl|simp[Value.oneCell']at this
 |agg l=>simp[W.den,W.cells,Value.cells]
theorem W.Jb {n nb:Nat} {ρ:Env} {u:W} (hu:u.ok n nb ρ):∀a∈u.cells,A.ok n nb ρ a:=by
 cases u with
 |one a=>intro x hx;simp[W.cells]at hx;subst hx;exact hu
 |agg l=>exact hu
def PO (n nb:Nat) (ρ:Env) (m:Nat->Nat):List (Nat×V)->List (Nat×aW)->Prop
 |[],[]=>True
 |p::r,q::s=>(p.1=q.1/\V.ok n nb ρ p.2/\V.rel ρ m p.2 q.2)/\PO n nb ρ m r s
 |_,_=>False
theorem ah9 (off:Nat):∀(src:List aW) (dst:Array aW) (k:Nat),off+k+src.length<=dst.size->
 ((src.zipIdx k).foldl (λcs (c,j)=>cs.setIfInBounds (off+j) c) dst)=(dst.toList.take (off+k)++src++dst.toList.drop (off+k+src.length)).toArray
 |[],dst,k,h=>by simp
 |c::src,dst,k,h=>by
  simp only[ke]at h;rw[List.zipIdx_cons,List.foldl_cons,ah9 off src _ (k+1) (by simp;omega)]
  congr 1
  simp only[Array.toList_setIfInBounds,ke];have h1:off+k<dst.toList.length:=by simp;omega
  rw[List.take_set,show off+(k+1)=off+k+1 by omega,List.drop_set_of_lt (by omega),List.take_add_one,pF h1];rw[show off+k+1+src.length=off+k+(src.length+1) by omega];simp only[Option.toList_some];rw[List.set_append_right _ _ (by simp;omega)];have hm:min (off+k) dst.size=off+k:=F2 (by omega);simp[hm]
theorem QS {n nb:Nat} {ρ:Env} {m:Nat->Nat} {place:Nat->Option (Nat×Nat)}:∀{parts:List (Nat×V)} {vals:List (Nat×aW)} {cells l:List A},Bb place cells parts=some l->(∀a∈cells,A.ok n nb ρ a)->
 PO n nb ρ m parts vals->(∀a∈l,A.ok n nb ρ a)/\apo place (cells.map (A.den ρ m)).toArray vals=some (l.map (A.den ρ m)).toArray
 |[],[],cells,l,h,hc,_=>by simp[Bb]at h;subst h;exact⟨hc,rfl⟩
 |(i,.w u)::r,(E8,x)::s,cells,l,h,hc,⟨⟨az,aI,cn⟩,hr⟩=>by
  simp only at az;subst az;simp only[V.rel]at cn;have cn:x=u.den ρ m:=cn;subst cn;simp only[Bb]at h;cases hp:place i with
  |none=>simp[hp]at h
  |some q=>
   obtain⟨off,size⟩:=q;simp only[hp]at h;cases ak:(aP u.cells.length size&&cO (off+size) cells.length)with
   |false=>simp[ak]at h
   |true=>
    simp only[ak,cond_true]at h;simp only[bx]at ak;have bg:=b1 ak.1;have b3:=gU ak.2;have Y6:=W.Qx (m:=m) u aI;obtain⟨g1,g2⟩:=QS (m:=m) h (λa ha=>by
     rcases List.mem_append.1 ha with ha|ha
     ·rcases List.mem_append.1 ha with ha|ha
      ·exact hc a (nd ha)
      ·exact W.Jb aI a ha
     ·exact hc a (rh ha)) hr
    refine⟨g1,?_⟩;simp only[apo,hp,Y6,List.size_toArray,pG,bg];rw[if_neg (by simp;omega)];rw[<-g2]
    congr 1
    have:=ah9 off (u.cells.map (A.den ρ m)) (cells.map (A.den ρ m)).toArray 0 (by simp;omega);simp only[oX]at this;rw[<-Array.foldl_toList];simp only[Array.toList_zipIdx];rw[this];simp[LH,LI,bg]
 |(_,.jh _)::_,_,_,_,h,_,_=>by simp[Bb]at h
 |(_,.any)::_,_,_,_,h,_,_=>by simp[Bb]at h
 |[],_::_,_,_,_,_,hr=>hr.elim
 |(_,.w _)::_,[],_,_,_,_,hr=>hr.elim
theorem ar4 {n nb:Nat} {ρ:Env} {m:Nat->Nat} {t:br} {parts:List (Nat×V)} {vals:List (Nat×aW)} {l:List A} (h:Xo P t parts=some l)
 (hr:PO n nb ρ m parts vals):(∀a∈l,A.ok n nb ρ a)/\P.built t vals=some (l.map (A.den ρ m)).toArray:=by
 unfold Xo at h;unfold Program.built;cases hz:ql P t with
 |none=>simp[hz]at h
 |some z=>
  unfold ql at hz;cases hi:P.info? t with
  |none=>simp[hi]at hz
  |some it=>
   simp only[hi]at hz;cases E7:it.zero with
   |none=>simp[E7]at hz
   |some z0=>
    simp only[E7]at hz;have J2:=CD hz n nb ρ m;have hz1:z0.cells=(z.map (A.den ρ m)).toArray:=by rw[J2.2]
    cases hu:P.underlying t with
    |none=>simp[ql,hi,E7,hz,hu]at h
    |some d=>
     cases d<;>try(simp[ql,hi,E7,hz,hu]at h;done)
     case array len e=>
      simp only[ql,hi,E7,hz,hu,gT]at h;cases Zj:P.info? e with
      |none=>simp[Zj]at h
      |some aNm=>
       simp only[Zj]at h;simp only[E7,Zj,hz1];exact QS h J2.1 hr
     case struct fields=>
      simp only[ql,hi,E7,hz,hu]at h;cases hp:fields.toList.mapM (λf=>(P.info? f.type).map λi=>(f.offset,i.size))with
      |none=>simp[hp]at h
      |some places=>
       simp only[hp]at h;simp only[E7,hp,hz1];exact QS h J2.1 hr
theorem amd {t:br} {l:List A} {off:Nat} (hl:∀x∈l,A.ok n bl.length ρ x):aC S L (S9 P t l off) n ρ (o7 w0 m bl n ρ λw=>(part t (l.map (A.den ρ m)).toArray off).run P w):=by
 unfold S9;cases h1:lf P t with
 |none=>exact aC.fail
 |some b=>
  cases b with
  |true=>
   cases h2:gT P t with
   |none=>exact aC.fail
   |some k=>
    refine aC.pure ⟨λx hx=>hl x (rh (nd hx)),_,rfl,λw _=>?_⟩;simp[part,tz h1,kq h2,W.den,LH,LI,aJr]
    try congr 1
  |false=>
   cases h3:l[off]? with
   |none=>exact aC.fail
   |some x=>
    refine aC.pure ⟨hl x (fC h3),_,rfl,λw _=>?_⟩;simp[part,tz h1,h3,W.den]
theorem zn {t:br} {len:Nat} {e:br} (h:wC P t=some (len,e)):P.underlying t=some (.array len e):=by
 unfold wC at h;cases hu:P.underlying t with
 |none=>simp[hu]at h
 |some d=>cases d<;>simp[hu]at h<;>simp[h]
theorem jg {t e:br} (h:kr P t=some e):P.underlying t=some (.slice e):=by
 unfold kr at h;cases hu:P.underlying t with
 |none=>simp[hu]at h
 |some d=>cases d<;>simp[hu]at h<;>simp[h]
theorem aaL {t:br} {k:dW} (h:kindOf P t=some k):P.underlying t=some (.int k):=by
 unfold kindOf at h;cases hu:P.underlying t with
 |none=>simp[hu]at h
 |some d=>cases d<;>simp[hu]at h<;>simp[h]
theorem Yc {s:br} {f:Nat} {fd:Field} (h:MG P s f=some fd):∃fs,P.underlying s=some (.struct fs)/\fs[f]?=some fd:=by
 unfold MG at h;cases hu:P.underlying s with
 |none=>simp[hu]at h
 |some d=>cases d<;>simp[hu]at h<;>exact⟨_,rfl,h⟩
theorem axW {t:br} {x:V} {k:dW} {bp:b0} {X:aW} (hx:x.ok n bl.length ρ) (cg:x.rel ρ m X) (hi:bp.ok n ρ):
 aC S L (Z6 P t x bp) n ρ (o7 w0 m bl n ρ λw=>(xQ t X (.int k (bp.l.den ρ))).run P w):=by
 unfold Z6;split
 ·rename_i b off;simp only[V.rel,W.den,A.den]at cg;subst cg;cases h1:wC P t with
  |none=>exact aC.fail
  |some q=>
   obtain⟨len,e⟩:=q;cases h2:gT P e with
   |none=>simp only[h2];exact aC.fail
   |some s=>
    simp only[h2];cases h3:bp.l.eT with
    |some i=>
     refine eM λhc=>aC.pure ⟨hx,_,rfl,λw _=>?_⟩;simp only[bx,decide_eq_true_eq]at hc;simp[xQ,asIntOf,gJ (zn h1),o2,I.k9 h3,hc,kq h2,kX,W.den,A.den]
    |none=>
     refine eM λhc=>aC.pure ⟨?_,_,rfl,λw _=>?_⟩
     ·simp only[bx,decide_eq_true_eq]at hc;exact⟨hx,hi,hc.1.2⟩
     ·simp only[bx,decide_eq_true_eq]at hc;have hs:=b1 hc.1.1;subst hs;have ca:=hi.2;have c1:0<=bp.l.den ρ:=by omega
      have bQ:bp.l.den ρ<len:=by omega
      simp[xQ,asIntOf,gJ (zn h1),o2,c1,bQ,kq h2,kX,W.den,A.den]
 ·rename_i g off;simp only[V.rel,W.den,A.den]at cg;subst cg;cases h1:wC P t with
  |none=>exact aC.fail
  |some q=>
   obtain⟨len,e⟩:=q;cases h2:gT P e with
   |none=>simp only[h2];exact aC.fail
   |some s=>
    simp only[h2];cases h3:bp.l.eT with
    |some i=>
     refine eM λhc=>aC.pure ⟨trivial,_,rfl,λw _=>?_⟩;simp only[bx,decide_eq_true_eq]at hc;simp[xQ,asIntOf,gJ (zn h1),o2,I.k9 h3,hc,kq h2,kX,W.den,A.den]
    |none=>
     refine eM λhc=>jS λak=>aC.pure ⟨?_,_,rfl,λw _=>?_⟩
     ·simp only[du,gQ,I.bq,ay,Ml]at ak;exact⟨⟨hi.1,by show(0:Int)<=_;exact ak.1,by show _<=((len:Int)-1);have:=ak.2;simp only;omega⟩,di _⟩
     ·simp only[du,gQ,I.bq,ay,Ml]at ak;have hs:=b1 hc;subst hs;simp[xQ,asIntOf,gJ (zn h1),o2,ak.1,ak.2,kq h2,kX,W.den,A.den]
 ·rename_i b off len cap;simp only[V.rel,W.den,A.den]at cg;subst cg;cases h1:kr P t with
  |none=>exact aC.fail
  |some e=>
   cases h2:gT P e with
   |none=>simp only[h2];exact aC.fail
   |some s=>
    simp only[h2];cases h3:bp.l.eT with
    |some i=>
     refine eM λhc=>aC.pure ⟨hx,_,rfl,λw _=>?_⟩;simp only[bx,decide_eq_true_eq]at hc;simp[xQ,asIntOf,gJ (jg h1),o2,I.k9 h3,hc,kq h2,kX,W.den,A.den]
    |none=>
     refine eM λhc=>aC.pure ⟨?_,_,rfl,λw _=>?_⟩
     ·simp only[bx,decide_eq_true_eq]at hc;exact⟨hx,hi,hc.1.2⟩
     ·simp only[bx,decide_eq_true_eq]at hc;have hs:=b1 hc.1.1;subst hs;have ca:=hi.2;have c1:0<=bp.l.den ρ:=by omega
      have bQ:bp.l.den ρ<len:=by omega
      simp[xQ,asIntOf,gJ (jg h1),o2,c1,bQ,kq h2,kX,W.den,A.den]
 ·rename_i b len lo;obtain⟨c,_,cg⟩:=cg;subst cg;cases h1:kr P t with
  |none=>exact aC.fail
  |some e=>
   cases h2:gT P e with
   |none=>simp only[h2];exact aC.fail
   |some s=>
    simp only[h2];cases h3:bp.l.eT with
    |some i=>
     refine eM λhc=>aC.pure ⟨hx,_,rfl,λw _=>?_⟩;simp only[bx,decide_eq_true_eq]at hc;simp[xQ,asIntOf,gJ (jg h1),o2,I.k9 h3,hc,kq h2,kX,W.den,A.den]
    |none=>exact aC.fail
 ·exact aC.fail
theorem aAZ {vs:List V}:∀{l:List A} {xs:List aW},Dn vs=some l->(∀v∈vs,V.ok n bl.length ρ v)->fQ ρ m vs xs->(∀a∈l,A.ok n bl.length ρ a)/\xs=l.map (A.den ρ m):=by
 induction vs with
 |nil=>
  intro l xs h _ hr;simp[Dn]at h;subst h;cases xs with
  |nil=>exact⟨λ_ h=>by simp at h,rfl⟩
  |cons _ _=>exact hr.elim
 |cons v r ih=>
  intro l xs h cb hr;cases xs with
  |nil=>cases v<;>exact hr.elim
  |cons x s=>
   cases v with
   |w y=>
    cases y with
    |agg q=>simp[Dn]at h
    |one a=>
     cases h1:Dn r with
     |none=>simp[Dn,h1]at h
     |some l'=>
      simp only[Dn,h1,bj]at h;subst h;obtain⟨az,aI⟩:=ih h1 (λv hv=>cb v (eI _ hv)) hr.2;have h0:x=a.den ρ m:=hr.1;exact⟨λb hb=>by rcases List.mem_cons.1 hb with rfl|hb;exact cb (.w (.one b)) (by simp);exact az b hb,by rw[h0,aI];rfl⟩
   |_=>simp[Dn]at h
theorem atw {e:br} {k:dW} (he:P.underlying e=some (.int k)) (d:Nat) (xs ix:Array aW) (w:aG):∀(l l':List A) (i:Nat) (b:bH),EJ l l'=some b->(∀x∈l,A.ok n bl.length ρ x)->(∀x∈l',A.ok n bl.length ρ x)->
 xs.toList.drop i=l.map (A.den ρ m)->ix.toList.drop i=l'.map (A.den ρ m)->b.bN n/\(Op.eqItems (d+1) e 1 xs ix (List.range' i l.length)).run P w= .ok (b.den ρ) w:=by
 intro l;induction l with
 |nil=>
  intro l' i b h _ _ _ _;cases l' with
  |nil=>simp[EJ]at h;subst h;exact⟨trivial,by simp[Op.eqItems,bH.den]⟩
  |cons y r'=>simp[EJ]at h
 |cons x r ih=>
  intro l' i b h hl E2 hx hy;cases l' with
  |nil=>cases x<;>simp[EJ]at h
  |cons y r'=>
   cases x<;>cases y<;>simp only[EJ]at h<;>try(cases h;done)
   rename_i k1 x k2 y;by_cases af:k1=k2
   ·subst af;simp only[decide_true,cond_true]at h;cases hr:EJ r r' with
    |none=>simp[hr]at h
    |some b'=>
     simp only[hr,bj]at h;subst h;have awy:x.ok n ρ:=hl (.int k1 x) (by simp);have awz:y.ok n ρ:=E2 (.int k1 y) (by simp);have az:=bH.yl awy awz;have MO:xs[i]?=some (.int k1 (x.l.den ρ)):=by
      have:=congrArg LL hx;simpa [A.den]using this
     have MP:ix[i]?=some (.int k1 (y.l.den ρ)):=by
      have:=congrArg LL hy;simpa [A.den]using this
     have GI:xs.toList.drop (i+1)=r.map (A.den ρ m):=by
      have:=congrArg Pv hx;simpa using this
     have ba:ix.toList.drop (i+1)=r'.map (A.den ρ m):=by
      have:=congrArg Pv hy;simpa using this
     obtain⟨s2,r2⟩:=ih r' (i+1) b' hr (λz hz=>hl z (eI _ hz)) (λz hz=>E2 z (eI _ hz)) GI ba;refine⟨bH.Tx az.2 s2,?_⟩;simp only[ke,List.range'_succ,Op.eqItems,jl];have Dr:(part e xs (i*1)).run P w= .ok (.int k1 (x.l.den ρ)) w:=by simp[part,isAgg,gJ he,MO]
     have Ds:(part e ix (i*1)).run P w= .ok (.int k1 (y.l.den ρ)) w:=by simp[part,isAgg,gJ he,MP]
     simp only[Dr,Ds,jF,run_equalIn_int w d e k1 k _ _ he,bH.QE,az.1];by_cases ak:x.l.den ρ=y.l.den ρ
     ·simp[ak,r2]
     ·simp[ak]
   ·simp[af]at h
theorem ahI {t:br} {x y:List A} {b:bH} (h:X9 P t x y=some b) (hx:∀z∈x,A.ok n bl.length ρ z) (hy:∀z∈y,A.ok n bl.length ρ z):
 b.bN n/\P.eqGuardType P.depth t=false/\∀w,(UE 10000 t (.agg (x.map (A.den ρ m)).toArray) (.agg (y.map (A.den ρ m)).toArray)).run P w= .ok (b.den ρ) w:=by
 unfold X9 at h;cases h1:wC P t with
 |none=>simp[h1]at h
 |some q=>
  obtain⟨len,e⟩:=q;simp only[h1]at h;cases h2:kindOf P e with
  |none=>simp[h2]at h
  |some k=>
   cases h3:gT P e with
   |none=>simp[h2,h3]at h
   |some s=>
    match s,h3 with
    |0,h3=>simp[h2,h3]at h
    |s+2,h3=>simp[h2,h3]at h
    |1,h3=>
     simp only[h2,h3]at h;cases hc:(aP x.length len&&aP y.length len&& !P.eqGuardType P.depth t)with
     |false=>simp[hc]at h
     |true=>
      simp only[hc,cond_true]at h;simp only[bx,cI]at hc;have hl:=b1 hc.1.1;have av5:∃i,P.info? e=some i/\P.cellsOf e=1:=by
       unfold gT at h3;cases ak:P.info? e with
       |none=>simp[ak]at h3
       |some i=>simp[ak]at h3;exact⟨i,rfl,by simp[Program.cellsOf,ak,h3]⟩
      obtain⟨i,CS,eo⟩:=av5;have wV:=λw=>atw (P:=P) (bl:=bl) (n:=n) (ρ:=ρ) (m:=m) (aaL h2) 9998 (x.map (A.den ρ m)).toArray (y.map (A.den ρ m)).toArray w x y 0 b h hx hy (by simp) (by simp);refine⟨(wV default).1,hc.2,λw=>?_⟩;rw[show(10000:Nat)=9999+1 from rfl,run_equalIn_array w 9999 _ _ (zn h1) CS,eo,List.range_eq_range',<-hl];exact(wV w).2
theorem Gv (l:List UInt8):(en l).toList=l:=aPH l
theorem Cz (l:List UInt8):(en l).size=l.length:=by simp[en,aPI]
theorem agJ (l l':List UInt8):(l==l')=decide ((if l=l' then(1:Int)else 0)=1):=by
 by_cases h:l=l'
 ·subst h;simp
 ·rw[if_neg h];simp[h]
theorem Mc (p:Prop) [Decidable p]:(0:Int)<=(if p then 1 else 0)/\(if p then(1:Int)else 0)<=1:=by split<;>decide
theorem akV (b:Bool):b=decide ((if b=true then(1:Int)else 0)=1):=by cases b<;>rfl
theorem aFF {op:BinOp} {t:br} {x y:rf} {p q:I} (hp:(A.str p).ok n bl.length ρ) (ak:(A.str q).ok n bl.length ρ):
 aC S L (adh op p q) n ρ (o7 w0 m bl n ρ λw=>(do eqGuard op t x y (.string (en (bF (p.den ρ)))) (.string (en (bF (q.den ρ))));binOp op t (.string (en (bF (p.den ρ)))) (.string (en (bF (q.den ρ)))):Sem aW).run P w):=by
 have ca:=Mc (bF (p.den ρ)=bF (q.den ρ));have cc:=Mc (Op.bytesLess (bF (p.den ρ)) (bF (q.den ρ))=true);unfold adh;split
 ·refine jS λhc=>?_;have hc:(bF (p.den ρ)).length+(bF (q.den ρ)).length<=m4:=hc;have hl:(bF (p.den ρ)++bF (q.den ρ)).length<=m4:=by simpa using hc
  refine(iQ (op:=3) (args:=[p,q]) (zv _) (x2 hl)).bind λaN a6 l _ _ ⟨h1,h2⟩=>?_;have h2:l.den aN=kJ (bF (p.den ρ)++bF (q.den ρ)):=h2;refine aC.pure ⟨⟨h1,by rw[h2];exact zv _,by rw[h2];exact x2 hl⟩,_,rfl,λw _=>?_⟩;have hr:=run_string_add_sum (P:=P) w (en (bF (p.den ρ))) (en (bF (q.den ρ))) (by rw[Cz,Cz];unfold m4 at hc;omega);simp only[eqGuard,binOp_string_add,W.den,A.den,h2,BK];simp[hr];exact aPJ _ _
 ·refine(iQ (op:=4) (args:=[p,q]) ca.1 ca.2).bind λaN a6 l _ _ ⟨h1,h2⟩=>?_;have h2:l.den aN=if bF (p.den ρ)=bF (q.den ρ)then 1 else 0:=h2
  have e:=bH.yl (n:=a6) (ρ:=aN) (a:=⟨l,0,1⟩) (b:= .const 1) ⟨h1,by simp only[h2];exact ca.1,by simp only[h2];exact ca.2⟩ (b0.qD _ _ _);refine aC.pure ⟨e.2,_,rfl,λw _=>?_⟩;simp only[W.den,A.den,binOp_string_eql,Gv];rw[e.1];simp only[h2,b0.const,I.bq,agJ];simp[eqGuard]
 ·refine(iQ (op:=4) (args:=[p,q]) ca.1 ca.2).bind λaN a6 l _ _ ⟨h1,h2⟩=>?_;have h2:l.den aN=if bF (p.den ρ)=bF (q.den ρ)then 1 else 0:=h2
  have e:=bH.yl (n:=a6) (ρ:=aN) (a:=⟨l,0,1⟩) (b:= .const 1) ⟨h1,by simp only[h2];exact ca.1,by simp only[h2];exact ca.2⟩ (b0.qD _ _ _);refine aC.pure ⟨bH.BL e.2,_,rfl,λw _=>?_⟩;simp only[W.den,A.den,bH.A0,binOp_string_neq,Gv];rw[e.1];simp only[h2,b0.const,I.bq,agJ];simp[eqGuard]
 ·refine(iQ (op:=5) (args:=[p,q]) cc.1 cc.2).bind λaN a6 l _ _ ⟨h1,h2⟩=>?_;have h2:l.den aN=if Op.bytesLess (bF (p.den ρ)) (bF (q.den ρ))=true then 1 else 0:=h2
  have e:=bH.yl (n:=a6) (ρ:=aN) (a:=⟨l,0,1⟩) (b:= .const 1) ⟨h1,by simp only[h2];exact cc.1,by simp only[h2];exact cc.2⟩ (b0.qD _ _ _);refine aC.pure ⟨e.2,_,rfl,λw _=>?_⟩;simp only[W.den,A.den,binOp_string_lss,Gv];rw[e.1];simp only[h2,b0.const,I.bq];rw[<-akV];simp[eqGuard]
 ·refine(iQ (op:=5) (args:=[p,q]) cc.1 cc.2).bind λaN a6 l _ _ ⟨h1,h2⟩=>?_;have h2:l.den aN=if Op.bytesLess (bF (p.den ρ)) (bF (q.den ρ))=true then 1 else 0:=h2
  have e:=bH.yl (n:=a6) (ρ:=aN) (a:=⟨l,0,1⟩) (b:= .const 1) ⟨h1,by simp only[h2];exact cc.1,by simp only[h2];exact cc.2⟩ (b0.qD _ _ _);refine aC.pure ⟨bH.BL e.2,_,rfl,λw _=>?_⟩;simp only[W.den,A.den,bH.A0,binOp_string_geq,Gv];rw[e.1];simp only[h2,b0.const,I.bq];rw[<-akV];simp[eqGuard]
 ·exact aC.fail
theorem aFH {t ty:br} {p:I} (hu:P.underlying t=some .string) (hp:(A.str p).ok n bl.length ρ):
 aC S L (anq p) n ρ (o7 w0 m bl n ρ λw=>(LM #[t] ty #[.string (en (bF (p.den ρ)))]).run P w):=by
 have hl:=LW hp.2.2;unfold m4 at hl;refine(iQ (op:=0) (args:=[p]) (LB _) (by show((bF (p.den ρ)).length:Int)<=_;omega)).bind λaN a6 l _ _ ⟨h1,h2⟩=>?_;have h2:l.den aN=((bF (p.den ρ)).length:Int):=h2;refine aC.pure ⟨⟨h1,by simp only[h2];omega,by simp only[h2];omega⟩,_,rfl,λw _=>?_⟩;simp[LM,gJ hu,goInt,W.den,A.den,h2,Cz]
theorem aFG {t:br} {k:dW} {p i:I} (hu:P.underlying t=some .string) (hp:(A.str p).ok n bl.length ρ):
 aC S L (anp p i) n ρ (o7 w0 m bl n ρ λw=>(aeb t (.string (en (bF (p.den ρ)))) (.int k (i.den ρ))).run P w):=by
 refine jS λhc=>?_;have hc:0<=i.den ρ/\i.den ρ<((bF (p.den ρ)).length:Int):=hc;have hlt:(i.den ρ).toNat<(bF (p.den ρ)).length:=by omega
 have hb:=((bF (p.den ρ)).getD (i.den ρ).toNat 0).toNat_lt;refine(iQ (op:=1) (args:=[p,i]) (LB _) (by show(((bF (p.den ρ)).getD (i.den ρ).toNat 0).toNat:Int)<=_;omega)).bind λaN a6 l _ _ ⟨h1,h2⟩=>?_;have h2:l.den aN=(((bF (p.den ρ)).getD (i.den ρ).toNat 0).toNat:Int):=h2;refine aC.pure ⟨⟨h1,by simp only[h2];omega,by simp only[h2];omega⟩,_,rfl,λw _=>?_⟩;have e:(en (bF (p.den ρ)))[(i.den ρ).toNat]?=some ((bF (p.den ρ)).getD (i.den ρ).toNat 0):=by
  rw[aPK _ _ (by rw[Cz];exact hlt)];simp[en,U,hlt];rfl
 simp[aeb,asIntOf,gJ hu,hc.1,e,W.den,A.den,h2]
theorem aFJ {p a b:I} (hp:(A.str p).ok n bl.length ρ):aC S L (TI p a b) n ρ λae n' v=>v.ok n' bl.length ae/\v.rel ae m (.string ((en (bF (p.den ρ))).extract (a.den ρ).toNat (b.den ρ).toNat))/\0<=a.den ρ/\a.den ρ<=b.den ρ/\b.den ρ<=((bF (p.den ρ)).length:Int):=by
 refine jS λhc=>?_;have hc:0<=a.den ρ/\a.den ρ<=b.den ρ/\b.den ρ<=((bF (p.den ρ)).length:Int):=hc;have hl:=LW hp.2.2;have Hg:(((bF (p.den ρ)).drop (a.den ρ).toNat).take ((b.den ρ).toNat-(a.den ρ).toNat)).length<=m4:=by simp;omega
 refine(iQ (op:=2) (args:=[p,a,b]) (zv _) (x2 Hg)).bind λaN a6 l _ _ ⟨h1,h2⟩=>?_;have h2:l.den aN=kJ (((bF (p.den ρ)).drop (a.den ρ).toNat).take ((b.den ρ).toNat-(a.den ρ).toNat)):=h2;refine aC.pure ⟨⟨h1,by rw[h2];exact zv _,by rw[h2];exact x2 Hg⟩,?_,hc⟩;show _=_;simp only[W.den,A.den,h2,BK]
 congr 1
 exact aPL _ _ _
theorem Hx {v:V} {l:I} {x:aW} (h:uk v=some l) (hr:v.rel ρ m x) (cb:v.ok n bl.length ρ):∃k,x= .int k (l.den ρ)/\l.bN n:=by
 unfold uk at h;split at h
 ·rename_i k a;simp only[bj]at h;subst h;exact⟨k,hr,cb.1⟩
 ·cases h
theorem xI {k:dW} {i:Int} {y:Nat} {dv:BoundsCode} (cG:0<=i) (cC:i<=y) (w:aG):(Pw (.int k i) y dv).run P w= .ok i.toNat w:=by
 simp[Pw,asIntOf,cG,cC]
theorem aFI {t:br} {p:I} {lo hi:Option rf} (hu:P.underlying t=some .string) (hp:(A.str p).ok n bl.length ρ) (aD:eW n bl.length ρ m tm a.tmps):
 aC S L (adi tm p lo hi) n ρ (o7 w0 m bl n ρ λw=>(uL t (.string (en (bF (p.den ρ)))) (lo.map a.eval) (hi.map a.eval) none).run P w):=by
 unfold adi;split
 ·exact aC.fail
 ·rename_i hU JU;have zM:∃f:Option aW,lo.map a.eval=f/\(f=none/\hU.den ρ=0∨∃k,f=some (.int k (hU.den ρ))):=by
   cases lo with
   |none=>simp only[bj]at JU;subst JU;exact⟨none,rfl,.inl ⟨rfl,I.bq _ _⟩⟩
   |some x=>
    obtain⟨k,af,_⟩:=Hx (m:=m) (bl:=bl) JU (cS aD x).2 (cS aD x).1;exact⟨_,rfl,.inr ⟨k,by rw[<-af];rfl⟩⟩
  obtain⟨ahW,az,lG⟩:=zM;have key:∀(gO:I) (aN:Env) (a6:Nat),n<=a6->agree n ρ aN->(hi.map a.eval=none/\gO.den aN=((bF (p.den ρ)).length:Int)∨∃k,hi.map a.eval=some (.int k (gO.den aN)))->hU.bN n->
   aC S L (TI p hU gO) a6 aN (o7 w0 m bl n ρ λw=>(uL t (.string (en (bF (p.den ρ)))) (lo.map a.eval) (hi.map a.eval) none).run P w):=λgO aN a6 hn ha ag ZJ=>by
   have awA:(A.str p).ok a6 bl.length aN:=hp.ext ha hn (bW _);have ep:p.den aN=p.den ρ:=I.cf ha hp.1;have MF:hU.den aN=hU.den ρ:=I.cf ha ZJ;refine(aFJ (m:=m) (bl:=bl) (a:=hU) (b:=gO) awA).mono λb5 gd v _ _ ⟨bg,b3,cy,et,j8⟩=>⟨bg,_,b3,λw _=>?_⟩;rw[ep,MF]at*;have ua:(o3 false (en (bF (p.den ρ))).size (en (bF (p.den ρ))).size ahW (hi.map a.eval) none).run P w= .ok ((hU.den ρ).toNat,(gO.den aN).toNat,(en (bF (p.den ρ))).size) w:=by
    rw[Cz];rcases lG with⟨rfl,hz⟩|⟨k,rfl⟩<;>rcases ag with⟨h1,h2⟩|⟨k2,h1⟩
    ·rw[h1,hz,h2];simp[o3]
    ·rw[h1,hz];simp[o3,xI (P:=P) (by omega:0<=gO.den aN) j8]
    ·rw[h1,h2];simp[o3,xI (P:=P) (y:=(bF (p.den ρ)).length) cy (by omega)]
    ·rw[h1];simp[o3,xI (P:=P) (by omega:0<=gO.den aN) j8,xI (P:=P) (y:=(gO.den aN).toNat) cy (by omega)]
   rw[az];simp[uL,aec,gJ hu,ua]
  have JV:hU.bN n:=by
   cases lo with
   |none=>simp only[bj]at JU;subst JU;exact I.dF _ _
   |some x=>exact(Hx (m:=m) (bl:=bl) JU (cS aD x).2 (cS aD x).1).choose_spec.2
  cases hi with
  |none=>
   have hl:=LW hp.2.2;unfold m4 at hl;exact(iQ (op:=0) (args:=[p]) (LB _) (by show((bF (p.den ρ)).length:Int)<=_;omega)).bind λaN a6 l hn ha ⟨h1,h2⟩=>key l aN a6 hn ha (.inl ⟨rfl,h2⟩) JV
  |some y=>
   simp only;cases hy:uk (cp tm y)with
   |none=>exact aC.fail
   |some b=>
    obtain⟨k,af,_⟩:=Hx (m:=m) (bl:=bl) hy (cS aD y).2 (cS aD y).1;exact key b ρ n (bW _) (agree.refl _ _) (.inr ⟨k,by rw[<-af];rfl⟩) JV
theorem PM {xs:List rf} (h:eW n bl.length ρ m tm a.tmps):fQ ρ m (xs.map (cp tm)) (xs.map a.eval):=by
 induction xs with
 |nil=>trivial
 |cons x r ih=>exact⟨(cS h x).2,ih⟩
theorem acH {c:Call} {f:dL} (hc:c.callee= .value (.func f)) (o:Oper) (aA:o.op= .call c):execOp a.eval o=callFunc f (c.args.map a.eval):=by
 simp only[execOp,aA,resolve,hc,Act.eval,apq];simp[invoke,bind_pure_comp]
theorem X8 {nb:Nat} {m:Nat->Nat}:∀(fs:List Field) (x y:List A) (i n:Nat) (ρ:Env),Jr P i fs=true->(∀a∈x,A.ok n nb ρ a)->(∀a∈y,A.ok n nb ρ a)->
 aC S L (wL P fs x y) n ρ λae n' b=>b.bN n'/\∀(w:aG) (d:Nat) (xs ix:Array aW),xs.toList.drop i=x.map (A.den ρ m)->ix.toList.drop i=y.map (A.den ρ m)->(LN (d+1) xs ix fs).run P w= .ok (b.den ae) w
 |[],[],[],i,n,ρ,_,_,_=>aC.pure ⟨trivial,λw d xs ix _ _=>by simp[LN,bH.den]⟩
 |f::fs,x::xs,y::ix,i,n,ρ,hf,hx,hy=>by
  cases x with
  |int k a=>
   cases y with
   |int bI b=>
    unfold Jr at hf;simp only[bx,bne_iff_ne,ne_eq]at hf;obtain⟨⟨hn,aA⟩,hf⟩:=hf;have aA:=b1 aA;unfold wL;split
    ·rename_i k2 rG;have hu:=aaL rG;refine eM λaf=>?_;have af:k=bI:=by simpa using af
     subst af;have Oi:a.ok n ρ:=hx (.int k a) (by simp);have ob:b.ok n ρ:=hy (.int k b) (by simp);refine(X8 (nb:=nb) (m:=m) fs xs ix (i+1) n ρ hf (λz hz=>hx z (eI _ hz)) (λz hz=>hy z (eI _ hz))).bind λae n' r Ru iD ⟨r1,r2⟩=>aC.pure ?_;have az:=bH.yl (Oi.agree iD Ru) (ob.agree iD Ru);refine⟨bH.Tx az.2 r1,λw d r9 sa NM NO=>?_⟩;have MO:r9[i]?=some (.int k (a.l.den ρ)):=by
      have:=congrArg LL NM;simpa [A.den]using this
     have MP:sa[i]?=some (.int k (b.l.den ρ)):=by
      have:=congrArg LL NO;simpa [A.den]using this
     have GI:r9.toList.drop (i+1)=xs.map (A.den ρ m):=by
      have:=congrArg Pv NM;simpa using this
     have ba:sa.toList.drop (i+1)=ix.map (A.den ρ m):=by
      have:=congrArg Pv NO;simpa using this
     have Dr:(part f.type r9 f.offset).run P w= .ok (.int k (a.l.den ρ)) w:=by simp[part,isAgg,gJ hu,aA,MO]
     have Ds:(part f.type sa f.offset).run P w= .ok (.int k (b.l.den ρ)) w:=by simp[part,isAgg,gJ hu,aA,MP]
     have MF:a.l.den ae=a.l.den ρ:=by
      have:=A.nW (m:=m) (m':=m) (hx (.int k a) (by simp)) iD (λ_ _=>rfl);simpa [A.den]using this
     have EI:b.l.den ae=b.l.den ρ:=by
      have:=A.nW (m:=m) (m':=m) (hy (.int k b) (by simp)) iD (λ_ _=>rfl);simpa [A.den]using this
     simp only[LN,ne_eq,hn,not_false_eq_true,if_true,jl,Dr,Ds,jF,run_equalIn_int w d f.type k k2 _ _ hu,bH.QE,az.1,MF,EI];by_cases ak:a.l.den ρ=b.l.den ρ
     ·simp[ak,r2 w d r9 sa GI ba]
     ·simp[ak]
    ·exact aC.fail
   |_=>unfold wL;exact aC.fail
  |str a=>
   cases y with
   |str b=>
    unfold Jr at hf;simp only[bx,bne_iff_ne,ne_eq]at hf;obtain⟨⟨hn,aA⟩,hf⟩:=hf;have aA:=b1 aA;unfold wL;split
    ·rename_i hu;have ca:=Mc (bF (a.den ρ)=bF (b.den ρ));refine(iQ (op:=4) (args:=[a,b]) ca.1 ca.2).bind λaN a6 l ia G6 ⟨h1,h2⟩=>?_;have h2:l.den aN=if bF (a.den ρ)=bF (b.den ρ)then 1 else 0:=h2
     have th:∀z∈xs,A.ok a6 nb aN z:=λz hz=>(hx z (eI _ hz)).ext G6 ia (bW _);have Z0:∀z∈ix,A.ok a6 nb aN z:=λz hz=>(hy z (eI _ hz)).ext G6 ia (bW _);have ol:(⟨l,0,1⟩:b0).ok a6 aN:=⟨h1,by simp only[h2];exact ca.1,by simp only[h2];exact ca.2⟩;refine(X8 (nb:=nb) (m:=m) fs xs ix (i+1) a6 aN hf th Z0).bind λae n' r Ru iD ⟨r1,r2⟩=>aC.pure ?_;have az:=bH.yl (n:=n') (ρ:=ae) (a:=⟨l,0,1⟩) (b:= .const 1) (ol.agree iD Ru) (b0.qD _ _ _);refine⟨bH.Tx az.2 r1,λw d r9 sa NM NO=>?_⟩;have MO:r9[i]?=some (.string (en (bF (a.den ρ)))):=by
      have:=congrArg LL NM;simpa [A.den]using this
     have MP:sa[i]?=some (.string (en (bF (b.den ρ)))):=by
      have:=congrArg LL NO;simpa [A.den]using this
     have GI:r9.toList.drop (i+1)=xs.map (A.den aN m):=by
      have:=congrArg Pv NM;rw[kU (g:=A.den ρ m) λz hz=>A.nW (hx z (eI _ hz)) G6 (λ_ _=>rfl)];simpa using this
     have ba:sa.toList.drop (i+1)=ix.map (A.den aN m):=by
      have:=congrArg Pv NO;rw[kU (g:=A.den ρ m) λz hz=>A.nW (hy z (eI _ hz)) G6 (λ_ _=>rfl)];simpa using this
     have Dr:(part f.type r9 f.offset).run P w= .ok (.string (en (bF (a.den ρ)))) w:=by simp[part,isAgg,gJ hu,aA,MO]
     have Ds:(part f.type sa f.offset).run P w= .ok (.string (en (bF (b.den ρ)))) w:=by simp[part,isAgg,gJ hu,aA,MP]
     have el:l.den ae=l.den aN:=I.cf iD h1;have aI:(bH.mkEq ⟨l,0,1⟩ (.const 1)).den ae=decide (bF (a.den ρ)=bF (b.den ρ)):=by
      rw[az.1];simp only[b0.const,I.bq,el,h2];by_cases ak:bF (a.den ρ)=bF (b.den ρ)<;>simp[ak]
     simp only[LN,ne_eq,hn,not_false_eq_true,if_true,jl,Dr,Ds,jF,run_equalIn_string w d f.type _ _ hu,bH.QE,aI,Gv];by_cases ak:bF (a.den ρ)=bF (b.den ρ)
     ·simp[ak,r2 w d r9 sa GI ba]
     ·simp[ak]
    ·exact aC.fail
   |_=>unfold wL;exact aC.fail
  |_=>unfold wL;exact aC.fail
 |[],_::_,_,_,_,_,_,_,_=>by unfold wL;exact aC.fail
 |[],[],y::_,_,_,_,_,_,_=>by cases y<;>(unfold wL;exact aC.fail)
 |_::_,[],_,_,_,_,_,_,_=>by unfold wL;exact aC.fail
 |_::_,x::_,[],_,_,_,_,_,_=>by cases x<;>(unfold wL;exact aC.fail)
def L3 (P:b4) (t:br) (l:List aW) (v:aW):Prop:=(lf P t=some true/\v= .agg l.toArray)∨(lf P t=some false/\l=[v])
theorem ame {t:br} {xs:Array aW} {o s:Nat} (hs:gT P t=some s) {v:aW} (h:L3 P t ((xs.toList.drop o).take s) v) (w:aG):(part t xs o).run P w= .ok v w:=by
 obtain⟨l⟩:=xs;rcases h with⟨h1,rfl⟩|⟨h1,h2⟩
 ·simp[part,tz h1,kq hs,aJr]
 ·have h3:(⟨l⟩:Array aW)[o]?=some v:=by
   have h4:=congrArg LL h2;rw[<-Px];cases s with
   |zero=>simp at h2
   |succ s=>simpa [List.head?_take,List.head?_drop]using h4
  simp[part,tz h1,h3]
theorem ahG {nb:Nat} {m:Nat->Nat} {g:br->List A->List A->M bH} {D:Nat}
 (hg:∀(t:br) (x y:List A) (n:Nat) (ρ:Env),(∀a∈x,A.ok n nb ρ a)->(∀a∈y,A.ok n nb ρ a)->aC S L (g t x y) n ρ λae n' b=>b.bN n'/\∃r9 sa,L3 P t (x.map (A.den ρ m)) r9/\L3 P t (y.map (A.den ρ m)) sa/\∀w,(UE D t r9 sa).run P w= .ok (b.den ae) w):
 ∀(fs:List Field) (x y:List A) (o n:Nat) (ρ:Env),(∀a∈x,A.ok n nb ρ a)->(∀a∈y,A.ok n nb ρ a)->
 aC S L (QN P g o fs x y) n ρ λae n' b=>b.bN n'/\∀(w:aG) (xs ix:Array aW),xs.toList.drop o=x.map (A.den ρ m)->ix.toList.drop o=y.map (A.den ρ m)->(LN D xs ix fs).run P w= .ok (b.den ae) w
 |[],x,y,o,n,ρ,_,_=>aC.pure ⟨trivial,λw xs ix _ _=>by simp[LN,bH.den]⟩
 |f::fs,x,y,o,n,ρ,hx,hy=>by
  unfold QN;cases hs:gT P f.type with
  |none=>exact aC.fail
  |some s=>
   simp only;refine eM λhc=>?_;simp only[bx,bne_iff_ne,ne_eq]at hc;obtain⟨hn,aA⟩:=hc;have aA:=b1 aA;refine(hg f.type (x.take s) (y.take s) n ρ (λa ha=>hx a (nd ha)) (λa ha=>hy a (nd ha))).bind λaN a6 b ia gk ⟨ca,r9,sa,cc,dm,mm⟩=>?_;refine(ahG hg fs (x.drop s) (y.drop s) (o+s) a6 aN (λa ha=>(hx a (rh ha)).ext gk ia (bW _)) (λa ha=>(hy a (rh ha)).ext gk ia (bW _))).bind λb5 gd r gm eb ⟨r1,r2⟩=>aC.pure ⟨bH.Tx (ca.mono gm) r1,λw xs ix hE Hr=>?_⟩;have Dr:(part f.type xs f.offset).run P w= .ok r9 w:=ame hs (by rw[aA,hE,<-LH];exact cc) w;have Ds:(part f.type ix f.offset).run P w= .ok sa w:=ame hs (by rw[aA,Hr,<-LH];exact dm) w;have GI:xs.toList.drop (o+s)=(x.drop s).map (A.den aN m):=by
    rw[<-Cg,hE,<-LI];exact(yG (λa ha=>hx a (rh ha)) gk (λ_ _=>rfl)).symm
   have ba:ix.toList.drop (o+s)=(y.drop s).map (A.den aN m):=by
    rw[<-Cg,Hr,<-LI];exact(yG (λa ha=>hy a (rh ha)) gk (λ_ _=>rfl)).symm
   have EI:b.den b5=b.den aN:=bH.cf eb ca;simp only[LN,ne_eq,hn,not_false_eq_true,if_true,jl,Dr,Ds,jF,mm w,bH.QE,EI];cases ak:b.den aN with
   |true=>simp[r2 w xs ix GI ba]
   |false=>simp
theorem ahH {nb:Nat} {m:Nat->Nat}:∀(d:Nat) (t:br) (x y:List A) (n:Nat) (ρ:Env),(∀a∈x,A.ok n nb ρ a)->(∀a∈y,A.ok n nb ρ a)->∀D,d<=D->
 aC S L (Jo P d t x y) n ρ λae n' b=>b.bN n'/\∃r9 sa,L3 P t (x.map (A.den ρ m)) r9/\L3 P t (y.map (A.den ρ m)) sa/\∀w,(UE D t r9 sa).run P w= .ok (b.den ae) w
 |0,t,x,y,n,ρ,_,_,_,_=>aC.fail
 |d+1,t,x,y,n,ρ,hx,hy,D,qJ=>by
  obtain⟨E,rfl⟩:∃E,D=E+1:=⟨D-1,by omega⟩;unfold Jo;split
  ·rename_i k hu;split
   ·rename_i k1 a k2 b;refine eM λaf=>?_;have af:k1=k2:=by simpa using af
    subst af;have Oi:a.ok n ρ:=hx (.int k1 a) (by simp);have ob:b.ok n ρ:=hy (.int k1 b) (by simp);have az:=bH.yl Oi ob;have iD:lf P t=some false:=by simp[lf,hu]
    refine aC.pure ⟨az.2,_,_,.inr ⟨iD,rfl⟩,.inr ⟨iD,rfl⟩,λw=>?_⟩;simp only[A.den];rw[run_equalIn_int w E t k1 k _ _ hu,az.1];rfl
   ·exact aC.fail
  ·rename_i hu;split
   ·rename_i a b;have ca:=Mc (bF (a.den ρ)=bF (b.den ρ));have iD:lf P t=some false:=by simp[lf,hu]
    refine(iQ (op:=4) (args:=[a,b]) ca.1 ca.2).bind λaN a6 l ia G6 ⟨h1,h2⟩=>aC.pure ?_;have h2:l.den aN=if bF (a.den ρ)=bF (b.den ρ)then 1 else 0:=h2
    have ol:(⟨l,0,1⟩:b0).ok a6 aN:=⟨h1,by simp only[h2];exact ca.1,by simp only[h2];exact ca.2⟩;have az:=bH.yl (n:=a6) (ρ:=aN) (a:=⟨l,0,1⟩) (b:= .const 1) ol (b0.qD _ _ _);refine⟨az.2,_,_,.inr ⟨iD,rfl⟩,.inr ⟨iD,rfl⟩,λw=>?_⟩;simp only[A.den];rw[run_equalIn_string w E t _ _ hu,az.1,Gv,Gv];simp only[b0.const,I.bq,h2];by_cases ak:bF (a.den ρ)=bF (b.den ρ)
    ·simp[ak]
    ·simp[ak]
   ·exact aC.fail
  ·rename_i hu;split
   ·rename_i a b;have iD:lf P t=some false:=by simp[lf,hu]
    have Oi:a.bN n:=hx (.bool a) (by simp);have ob:b.bN n:=hy (.bool b) (by simp);refine aC.pure ⟨bH.acU Oi ob,_,_,.inr ⟨iD,rfl⟩,.inr ⟨iD,rfl⟩,λw=>?_⟩;simp only[A.den];rw[run_equalIn_bool w E t _ _ hu,bH.XL]
   ·exact aC.fail
  ·rename_i fs hu;refine eM λhg=>?_;have hg:P.stoodInHeld t=false:=by simpa using hg
   have iD:lf P t=some true:=by simp[lf,hu]
   refine(ahG (m:=m) (D:=E) (λt x y n ρ h1 h2=>ahH d t x y n ρ h1 h2 E (by omega)) fs.toList x y 0 n ρ hx hy).mono λae n' b _ _ ⟨h1,h2⟩=>⟨h1,_,_,.inl ⟨iD,rfl⟩,.inl ⟨iD,rfl⟩,λw=>?_⟩;have hf:P.fieldsOf t=fs:=by simp[aJs,hu]
   rw[run_equalIn_struct w E t _ _ (by rw[hf];exact hu) hg,hf];exact h2 w _ _ (by simp) (by simp)
  ·exact aC.fail
theorem ahJ {nb:Nat} {m:Nat->Nat} {t:br} {x y:List A} (hx:∀a∈x,A.ok n nb ρ a) (hy:∀a∈y,A.ok n nb ρ a):
 aC S L (QO P t x y) n ρ λae n' b=>b.bN n'/\P.eqGuardType P.depth t=false/\∀w,(UE 10000 t (.agg (x.map (A.den ρ m)).toArray) (.agg (y.map (A.den ρ m)).toArray)).run P w= .ok (b.den ae) w:=by
 unfold QO;split
 ·rename_i fs hu;have rE:lf P t=some true:=by simp[lf,hu]
  have deep:P.eqGuardType P.depth t=false->aC S L (Jo P 8 t x y) n ρ λae n' b=>b.bN n'/\P.eqGuardType P.depth t=false/\∀w,(UE 10000 t (.agg (x.map (A.den ρ m)).toArray) (.agg (y.map (A.den ρ m)).toArray)).run P w= .ok (b.den ae) w:=λhg=>
   (ahH (m:=m) 8 t x y n ρ hx hy 10000 (by decide)).mono λae n' b _ _ ⟨h1,r9,sa,h2,h3,h4⟩=>⟨h1,hg,λw=>by
     rcases h2 with⟨_,rfl⟩|⟨h2,_⟩
     ·rcases h3 with⟨_,rfl⟩|⟨h3,_⟩
      ·exact h4 w
      ·rw[rE]at h3;cases h3
     ·rw[rE]at h2;cases h2⟩
  cases hg:(Jr P 0 fs.toList&& !P.stoodInHeld t&& !P.eqGuardType P.depth t)with
  |true=>
   simp only[cond_true];simp only[bx,cI]at hg;generalize (fs.toList.all λf=>match P.underlying f.type with|some (.int _)=>true|some .string=>true|_=>false)=flat;cases flat with
   |true=>
    simp only[cond_true];refine(X8 (nb:=nb) (m:=m) fs.toList x y 0 n ρ hg.1.1 hx hy).mono λae n' b _ _ ⟨h1,h2⟩=>⟨h1,hg.2,λw=>?_⟩;have hf:P.fieldsOf t=fs:=by simp[aJs,hu]
    rw[run_equalIn_struct w 9999 t _ _ (by rw[hf];exact hu) hg.1.2,hf];exact h2 w 9998 _ _ (by simp) (by simp)
   |false=>exact deep hg.2
  |false=>
   simp only[cond_false];refine eM λCQ=>deep (by simpa using CQ)
 ·exact aC.fail
theorem aEb {cal:gL} (dy:iM S P gl w0 cal) (hb:dj n bl.length ρ bl) (hg:gM gl w0) (hex:∃w,Mem w0 ρ m bl w) (aD:eW n bl.length ρ m tm a.tmps) (o:Oper):
 aC S L (acr P cal gl bl tm o) n ρ (o6 w0 m bl n ρ P o a):=by
 unfold acr;split
 case h_1 x h=>
  exact aC.pure ⟨(cS aD x).1,_,(cS aD x).2,λw _=> .inl (by simp[execOp,h])⟩
 case h_2 x h=>
  exact aC.pure ⟨(cS aD x).1,_,(cS aD x).2,λw _=> .inl (by simp[execOp,h])⟩
 case h_3 t x h=>
  have hx:=cS aD x;have he:execOp a.eval o=(do pure (mh (<-pH t (a.eval x)))):=by simp only[execOp,h]
  split
  ·rename_i b off bp hv;rw[hv]at hx;have dN:a.eval x=(A.q1 b off bp).den ρ m:=hx.2;rw[dN]at he;exact(aE9 hb t b off hx.1.2.1).mono λ_ _ _ _ _ ak=>o6.of_run he ak
  ·rename_i g off bp hv;rw[hv]at hx;have dN:a.eval x=(A.Jx g off bp).den ρ m:=hx.2;rw[dN]at he;exact(aE8 hg t g off hx.1.1).mono λ_ _ _ _ _ ak=>o6.of_run he ak
  ·rename_i p _ _ hv;rw[hv]at hx;have dN:a.eval x=p.den ρ m:=hx.2;rw[dN]at he;exact(ayU hb hg hex t p).mono λ_ _ _ _ _ ak=>o6.of_run he ak
  ·exact aC.fail
 case h_4 x h=>
  have hx:=cS aD x;unfold alO;split<;>first
   |exact aC.fail
   |(rename_i hv
     rw[hv]at hx;refine aC.pure ⟨hx.1,_,rfl,λw _=> .inl ?_⟩;have dN:=hx.2;simp only[V.rel,W.den,A.den]at dN;simp[execOp,h,dN,W.den,A.den])
 case h_5 c x y h=>
  have hc:=cS aD c;split
  ·rename_i v hv;rw[hv]at hc;have az:a.eval c= .bool v:=hc.2;cases v with
   |true=>exact aC.pure ⟨(cS aD x).1,_,(cS aD x).2,λw _=> .inl (by simp[execOp,h,az,asBool])⟩
   |false=>exact aC.pure ⟨(cS aD y).1,_,(cS aD y).2,λw _=> .inl (by simp[execOp,h,az,asBool])⟩
  ·exact aC.fail
 case h_6 op t x y t' h=>
  have hx:=cS aD x;have hy:=cS aD y;unfold agK;split
  ·rename_i k p bI q uj mZ;rw[uj]at hx;rw[mZ]at hy;have az:a.eval x= .int k (p.l.den ρ):=hx.2;have aI:a.eval y= .int bI (q.l.den ρ):=hy.2;refine(arW (nb:=bl.length) (m:=m) P t hx.1 hy.1).bind λaN a6 r _ _ ⟨h1,h2⟩=>aC.pure ⟨h1,_,rfl,λw _=> .inl ?_⟩;have js:(eqGuard op t x y (.int k (p.l.den ρ)) (.int bI (q.l.den ρ))).run P w= .ok () w:=by cases op<;>simp[eqGuard]
   simp only[execOp,h,az,aI];simp[js,h2,W.den]
  ·rename_i p q uj mZ;rw[uj]at hx;rw[mZ]at hy;have az:a.eval x= .agg (p.map (A.den ρ m)).toArray:=hx.2;have aI:a.eval y= .agg (q.map (A.den ρ m)).toArray:=hy.2;split
   ·rename_i b heq;obtain⟨s1,g1,r1⟩:=ahI (m:=m) heq hx.1 hy.1;refine aC.pure ⟨s1,_,rfl,λw _=> .inl ?_⟩;simp only[execOp,h,az,aI];simp[run_eqGuard_agg w .eql t x y _ _ g1,run_eql_struct,r1,W.den,A.den]
   ·rename_i b heq;obtain⟨s1,g1,r1⟩:=ahI (m:=m) heq hx.1 hy.1;refine aC.pure ⟨bH.BL s1,_,rfl,λw _=> .inl ?_⟩;simp only[execOp,h,az,aI];simp[run_eqGuard_agg w .neq t x y _ _ g1,run_neq_struct,r1,W.den,A.den,bH.A0]
   ·rename_i heq;refine(ahJ (m:=m) (t:=t) hx.1 hy.1).bind λae n' r _ _ ⟨r1,g1,r2⟩=>aC.pure ⟨r1,_,rfl,λw _=> .inl ?_⟩;simp only[execOp,h,az,aI];simp[run_eqGuard_agg w .eql t x y _ _ g1,run_eql_struct,r2,W.den,A.den]
   ·rename_i heq;refine(ahJ (m:=m) (t:=t) hx.1 hy.1).bind λae n' r _ _ ⟨r1,g1,r2⟩=>aC.pure ⟨bH.BL r1,_,rfl,λw _=> .inl ?_⟩;simp only[execOp,h,az,aI];simp[run_eqGuard_agg w .neq t x y _ _ g1,run_neq_struct,r2,W.den,A.den,bH.A0]
   ·exact aC.fail
  ·rename_i p q uj mZ;rw[uj]at hx;rw[mZ]at hy;have az:a.eval x= .string (en (bF (p.den ρ))):=hx.2;have aI:a.eval y= .string (en (bF (q.den ρ))):=hy.2;have he:execOp a.eval o=(do pure (mh (<-(do eqGuard op t x y (.string (en (bF (p.den ρ)))) (.string (en (bF (q.den ρ))));binOp op t (.string (en (bF (p.den ρ)))) (.string (en (bF (q.den ρ)))):Sem aW)))):=by simp only[execOp,h,az,aI]
   exact(aFF (op:=op) (t:=t) (x:=x) (y:=y) (w0:=w0) (m:=m) hx.1 hy.1).mono λ_ _ _ _ _ ak=>o6.of_run he ak
  ·rename_i p q uj mZ;rw[uj]at hx;rw[mZ]at hy;have az:a.eval x= .bool (p.den ρ):=hx.2;have aI:a.eval y= .bool (q.den ρ):=hy.2;have js:(eqGuard op t x y (.bool (p.den ρ)) (.bool (q.den ρ))).run P=λw=> .ok () w:=by funext w;cases op<;>simp[eqGuard]
   split
   ·rename_i hu;refine aC.pure ⟨bH.acU hx.1 hy.1,_,rfl,λw _=> .inl ?_⟩;simp only[execOp,h,az,aI];simp[js,run_eql_bool w t _ _ hu,W.den,A.den,bH.XL]
   ·rename_i hu;refine aC.pure ⟨bH.BL (bH.acU hx.1 hy.1),_,rfl,λw _=> .inl ?_⟩;simp only[execOp,h,az,aI];simp[js,run_neq_bool w t _ _ hu,W.den,A.den,bH.XL,bH.A0]
   ·exact aC.fail
  ·exact aC.fail
 case h_7 op t x h=>
  have hx:=cS aD x;unfold anW;split
  ·rename_i b hv;rw[hv]at hx;have az:a.eval x= .bool (b.den ρ):=hx.2;refine aC.pure ⟨bH.BL hx.1,_,rfl,λw _=> .inl ?_⟩;simp[execOp,h,az,Op.unary,W.den,A.den,bH.A0]
  ·rename_i k p hv;rw[hv]at hx;have az:a.eval x= .int k (p.l.den ρ):=hx.2;refine eM λhc=>?_;simp only[bx,cI,decide_eq_true_eq]at hc;have hp:=hx.1;have agT:=b0.ok.agree (n':=n) hp (agree.refl n ρ) (bW _);have cc:=agT.2;have aI:((I.const (two k-1)).sub p.l).den ρ=two k-1-p.l.den ρ:=by rw[I.lZ,I.bq]
   refine aC.pure ⟨⟨I.xE (I.dF _ _) agT.1,by simp only[aI];omega,by simp only[aI];omega⟩,_,rfl,λw _=> .inl ?_⟩;have key:k.wrap (wj k.bits (if k.signed=true then-1 else k.max)^^^wj k.bits (p.l.den ρ)).toNat=two k-1-p.l.den ρ:=by
    have af:=hc.1.1;obtain⟨X,cg⟩:=oY (show 0<=p.l.den ρ by omega);have hlt:X<2^k.bits:=by
     have:(X:Int)<2^k.bits:=by rw[<-BP,<-cg];omega
     exact_mod_cast this
    have jM:(wj k.bits (if k.signed=true then-1 else k.max))=BitVec.allOnes k.bits:=by
     cases k<;>simp[Pt]at af<;>rfl
    rw[jM,BitVec.allOnes_xor,BitVec.toNat_not,cg,UA];have cn:((X:Int)% ((2^k.bits:Nat):Int)).toNat=X:=by
     rw[mD (by omega) (by exact_mod_cast hlt)];rfl
    rw[cn,Uf];have ag:half k=0:=by simp[half,af]
    have h2:two k=((2^k.bits:Nat):Int):=by rw[BP];simp
    rw[ag,h2,Int.add_zero,Int.sub_zero,mD (by omega) (by omega)];omega
   simp only[execOp,h,az,Op.unary,UC,W.den,A.den,aI];simp at key;simp[key]
  ·rename_i k p hv;rw[hv]at hx;have az:a.eval x= .int k (p.l.den ρ):=hx.2;have cc:=b0.ok.agree (n':=n) hx.1 (agree.refl n ρ) (bW _);have dm:=cc.2;have aI:(p.l.smul (-1)).den ρ=-p.l.den ρ:=by rw[I.mU];omega
   refine(FO (k:=k) (x:=⟨p.l.smul (-1),-p.hi,-p.lo⟩) ⟨I.xD cc.1,by simp only[aI];omega,by simp only[aI];omega⟩).bind λaN a6 r _ _ ⟨h1,h2⟩=>aC.pure ⟨h1,_,rfl,λw _=> .inl ?_⟩;simp only[aI]at h2;simp[execOp,h,az,Op.unary,Op.intArith,W.den,A.den,h2]
  ·exact aC.fail
 case h_8 s d x h=>
  have hx:=cS aD x;unfold ahk;split
  ·rename_i bI p hu af hv;rw[hv]at hx;have az:a.eval x= .int bI (p.l.den ρ):=hx.2;split
   ·rename_i c hc;refine eM λhsz=>?_;have hl:(UD c).data.toList.length<=m4:=by
     have:=gU hsz;have h2:(UD c).data.toList.length=(UD c).size:=by simp
     unfold m4;omega
    refine aC.pure ⟨⟨I.dF _ _,by rw[I.bq];exact zv _,by rw[I.bq];exact x2 hl⟩,_,rfl,λw _=> .inl ?_⟩;simp[execOp,h,az,convert,gJ hu,gJ af,Conv.intToString,W.den,A.den,I.bq,BK,en,I.k9 hc]
   ·exact aC.fail
  ·split
   rotate_left
   ·exact aC.fail
   rename_i k bI p hu af hv;rw[hv]at hx;have az:a.eval x= .int bI (p.l.den ρ):=hx.2;refine(FO (k:=k) hx.1).bind λaN a6 r _ _ ⟨h1,h2⟩=>aC.pure ⟨h1,_,rfl,λw _=> .inl ?_⟩;simp[execOp,h,az,convert,gJ hu,gJ (aaL af),Conv.intToInt,W.den,A.den,h2]
 case h_9 t x bp h=>
  have hx:=cS aD x;have hi:=cS aD bp;split
  ·rename_i k i hv;rw[hv]at hi;have az:a.eval bp= .int k (i.l.den ρ):=hi.2;have he:execOp a.eval o=(do pure (mh (<-xQ t (a.eval x) (.int k (i.l.den ρ))))):=by simp only[execOp,h,az]
   exact(axW hx.1 hx.2 hi.1).mono λ_ _ _ _ _ ak=>o6.of_run he ak
  ·exact aC.fail
 case h_10 t x bp h=>
  have hx:=cS aD x;have hi:=cS aD bp;split
  ·rename_i s hv;rw[hv]at hx;have az:a.eval x= .string (en (bF (s.den ρ))):=hx.2;split
   ·rename_i i hu EW;obtain⟨k,af,_⟩:=Hx (m:=m) (bl:=bl) EW hi.2 hi.1;have he:execOp a.eval o=(do pure (mh (<-aeb t (.string (en (bF (s.den ρ)))) (.int k (i.den ρ))))):=by simp only[execOp,h,az,af]
    exact(aFG (w0:=w0) (m:=m) hu hx.1).mono λ_ _ _ _ _ ak=>o6.of_run he ak
   ·exact aC.fail
  split
  ·rename_i l i len e hv EW JF;rw[hv]at hx;have az:a.eval x= .agg (l.map (A.den ρ m)).toArray:=hx.2;have aI:∃k,a.eval bp= .int k i:=by
    unfold QB at EW;split at EW
    ·rename_i k p mZ;rw[mZ]at hi;have:a.eval bp= .int k (p.l.den ρ):=hi.2;exact⟨k,by rw[this,I.k9 EW]⟩
    ·cases EW
   obtain⟨k,aI⟩:=aI;split
   ·rename_i s hs;refine eM λhc=>?_;simp only[bx,decide_eq_true_eq]at hc;refine(amd (w0:=w0) (m:=m) (bl:=bl) hx.1).mono λaN a6 v _ _ ⟨bg,val,b3,cy⟩=>⟨bg,val,b3,λw hw=> .inl ?_⟩;have:=cy w hw;simp[execOp,h,az,aI,aeb,asIntOf,gJ (zn JF),hc,kq hs,this]
   ·exact aC.fail
  ·exact aC.fail
 case h_11 s x f h=>
  have hx:=cS aD x;split
  ·rename_i b off fd hv hf;rw[hv]at hx;have az:a.eval x= .pointer (some ⟨m b,off,none⟩):=hx.2;obtain⟨fs,hu,Ng⟩:=Yc hf;split
   ·rename_i k hs;refine aC.pure ⟨hx.1,_,rfl,λw _=> .inl ?_⟩;simp[execOp,h,az,apg,gJ hu,Ng,o2,fieldPlace,kq hs,kX,W.den,A.den]
   ·exact aC.fail
  ·exact aC.fail
 case h_12 s x f h=>
  have hx:=cS aD x;split
  ·rename_i l fd hv hf;rw[hv]at hx;have az:a.eval x= .agg (l.map (A.den ρ m)).toArray:=hx.2;obtain⟨fs,hu,Ng⟩:=Yc hf;refine(amd (w0:=w0) (m:=m) (bl:=bl) hx.1).mono λaN a6 v _ _ ⟨bg,val,b3,cy⟩=>⟨bg,val,b3,λw hw=> .inl ?_⟩;have:=cy w hw;simp[execOp,h,az,Instr.field,asAgg,gJ hu,Ng,this]
  ·exact aC.fail
 case h_13 x i h=>
  have hx:=cS aD x;split
  ·rename_i l hv;rw[hv]at hx;have az:a.eval x= .tuple (l.map (W.den ρ m)).toArray:=hx.2;split
   ·rename_i u hu;refine aC.pure ⟨hx.1 u (fC hu),_,rfl,λw _=> .inl ?_⟩;simp[execOp,h,az,apf,hu]
   ·exact aC.fail
  ·exact aC.fail
 case h_14 t x lo hi h=>
  have hx:=cS aD x;split
  ·rename_i s hv hu;rw[hv]at hx;have az:a.eval x= .string (en (bF (s.den ρ))):=hx.2;have he:execOp a.eval o=(do pure (mh (<-uL t (.string (en (bF (s.den ρ)))) (lo.map a.eval) (hi.map a.eval) none))):=by simp only[execOp,h,az];rfl
   exact(aFI (w0:=w0) (m:=m) hu hx.1 aD).mono λ_ _ _ _ _ ak=>o6.of_run he ak
  have key:∀(y:Option rf) (c:Option Int),S4 tm y=some c->∃f:Int->aW,(∀c,∃k,f c= .int k c)/\y.map a.eval=c.map f:=by
   intro y c hy;unfold S4 at hy;cases y with
   |none=>simp at hy;subst hy;exact⟨λc=> .int .i64 c,λc=>⟨_,rfl⟩,rfl⟩
   |some y=>
    simp only at hy;have hi:=cS aD y;unfold QB at hy;split at hy
    ·rename_i e3 ak;split at ak
     ·rename_i k p mZ;simp only[bj]at hy;subst hy;rw[mZ]at hi;have:a.eval y= .int k (p.l.den ρ):=hi.2;exact⟨λc=> .int k c,λc=>⟨_,rfl⟩,by simp[this,I.k9 ak]⟩
     ·cases ak
    ·cases hy
  split
  ·rename_i l ag h1 h2;obtain⟨ahW,ahX,ahY⟩:=key lo l h1;obtain⟨aK7,QR,ahO⟩:=key hi ag h2;unfold ang;split
   ·rename_i b off HH e hv JF;rw[hv]at hx;have az:a.eval x= .pointer (some ⟨m b,off,none⟩):=hx.2;split
    ·rename_i s hs;refine eM λhc=>?_;simp only[bx,decide_eq_true_eq]at hc;refine aC.pure ⟨hx.1,_,rfl,λw _=> .inl ?_⟩;have p4:(o3 false HH HH (lo.map a.eval) (hi.map a.eval) none).run P w= .ok ((l.getD 0).toNat,(ag.getD HH).toNat,HH) w:=by
      rw[ahY,ahO];have c1:∀(k:dW) (i:Int) (y:Nat) (dv:BoundsCode),0<=i->i<=y->(Pw (.int k i) y dv).run P w= .ok i.toNat w:=λk i y dv cG cC=>by
       simp[Pw,asIntOf,cG,cC]
      cases l with
      |none=>
       cases ag with
       |none=>simp[o3]
       |some bm=>
        obtain⟨bI,nv⟩:=QR bm;simp only[aed,D1]at hc;simp[o3,nv,c1 bI bm HH _ (by omega) (by omega)]
      |some l'=>
       obtain⟨k1,mX⟩:=ahX l';cases ag with
       |none=>
        simp only[aed,D1]at hc;simp[o3,mX,c1 k1 l' HH _ (by omega) (by omega)]
       |some bm=>
        obtain⟨bI,nv⟩:=QR bm;simp only[D1]at hc;simp[o3,nv,mX,c1 bI bm HH _ (by omega) (by omega),c1 k1 l' bm.toNat _ (by omega) (by omega)]
     simp only[execOp,h,az,aJt,uL];simp[gJ (zn JF),o2,p4,kq hs,kX,W.den,A.den];intro ak;have h3:=hc.2;omega
    ·exact aC.fail
   ·rename_i b off len cap hv JF;rw[hv]at hx;have az:a.eval x= .slice (some ⟨m b,off,none⟩) len cap:=hx.2;split
    ·rename_i e yx;split
     ·rename_i s hs;refine eM λhc=>?_;simp only[bx,decide_eq_true_eq]at hc;refine aC.pure ⟨hx.1,_,rfl,λw _=> .inl ?_⟩;have p4:(o3 true len cap (lo.map a.eval) (hi.map a.eval) none).run P w= .ok ((l.getD 0).toNat,(ag.getD len).toNat,cap) w:=by
       rw[ahY,ahO];have c1:∀(k:dW) (i:Int) (y:Nat) (dv:BoundsCode),0<=i->i<=y->(Pw (.int k i) y dv).run P w= .ok i.toNat w:=λk i y dv cG cC=>by
        simp[Pw,asIntOf,cG,cC]
       cases l with
       |none=>
        cases ag with
        |none=>simp[o3]
        |some bm=>
         obtain⟨bI,nv⟩:=QR bm;simp only[aed,D1]at hc;simp[o3,nv,c1 bI bm cap _ (by omega) (by omega)]
       |some l'=>
        obtain⟨k1,mX⟩:=ahX l';cases ag with
        |none=>
         simp only[aed,D1]at hc;simp[o3,mX,c1 k1 l' len _ (by omega) (by omega)]
        |some bm=>
         obtain⟨bI,nv⟩:=QR bm;simp only[D1]at hc;simp[o3,nv,mX,c1 bI bm cap _ (by omega) (by omega),c1 k1 l' bm.toNat _ (by omega) (by omega)]
      simp only[execOp,h,az,aJt,uL];simp[gJ (jg yx),aec,p4,kq hs,kX,W.den,A.den];intro ak;have h3:=hc.2;omega
     ·exact aC.fail
    ·exact aC.fail
   ·exact aC.fail
  ·exact aC.fail
 case h_15 c h=>
  split
  ·rename_i f hc;split
   ·rename_i g Zh;have tc:∀v∈c.args.toList.map (cp tm),V.ok n bl.length ρ v:=λv hv=>by
     obtain⟨x,_,rfl⟩:=List.mem_map.1 hv;exact(cS aD x).1
    refine(dy f g Zh L n ρ m bl _ _ hb hex tc (PM (xs:=c.args.toList) aD)).mono λaN a6 v _ _ ⟨bg,val,b3,cy⟩=>⟨bg,val,b3,λw hw=>?_⟩;have he:=acH (a:=a) hc o h;have ha:(c.args.toList.map a.eval).toArray=c.args.map a.eval:=by
     rw[<-AG]
    have et:=cy w hw;rw[ha]at et;rcases et with et|⟨et,j8⟩
    ·exact .inl (by rw[he];exact et)
    ·exact .inr ⟨f,_,by rw[he];exact et,j8⟩
   ·exact aC.fail
  ·rename_i hc;split
   ·rename_i x t hE oB;have hx:=cS aD x;split
    ·rename_i s hv hu;rw[hv]at hx;have az:a.eval x= .string (en (bF (s.den ρ))):=hx.2;have b7:c.args=#[x]:=by rw[<-lO (xs:=c.args),hE]
     have a2:c.argTypes=#[t]:=by rw[<-lO (xs:=c.argTypes),oB]
     have he:execOp a.eval o=(do pure (mh (<-LM #[t] o.type #[.string (en (bF (s.den ρ)))]))):=by
      simp[execOp,h,resolve,hc,b7,a2,az,invoke,builtin]
     exact(aFH (w0:=w0) (m:=m) hu hx.1).mono λ_ _ _ _ _ ak=>o6.of_run he ak
    split
    ·rename_i b off len cap e hv hs;rw[hv]at hx;have az:a.eval x= .slice (some ⟨m b,off,none⟩) len cap:=hx.2;refine aC.pure ⟨b0.qD _ _ _,_,rfl,λw _=> .inl ?_⟩;have b7:c.args=#[x]:=by rw[<-lO (xs:=c.args),hE]
     have a2:c.argTypes=#[t]:=by rw[<-lO (xs:=c.argTypes),oB]
     simp[execOp,h,resolve,hc,b7,a2,az,invoke,builtin,LM,gJ (jg hs),goInt,W.den,A.den,b0.const,I.bq]
    ·rename_i b len lo e hv hs;rw[hv]at hx;obtain⟨nV,_,az⟩:=hx.2;refine aC.pure ⟨b0.qD _ _ _,_,rfl,λw _=> .inl ?_⟩;have b7:c.args=#[x]:=by rw[<-lO (xs:=c.args),hE]
     have a2:c.argTypes=#[t]:=by rw[<-lO (xs:=c.argTypes),oB]
     simp[execOp,h,resolve,hc,b7,a2,az,invoke,builtin,LM,gJ (jg hs),goInt,W.den,A.den,b0.const,I.bq]
    ·exact aC.fail
   ·exact aC.fail
  ·exact aC.fail
 case h_16 f first lp h=>
  split
  ·rename_i l hf hl;obtain⟨g1,g2⟩:=aAZ (m:=m) hl (λv hv=>by obtain⟨x,_,rfl⟩:=List.mem_map.1 hv;exact(cS aD x).1) (PM (xs:=lp.toList) aD);have ajg:first=#[]:=by rw[<-lO (xs:=first),hf]
   have EV:lp.map a.eval=(l.map (A.den ρ m)).toArray:=by rw[<-g2,<-AG]
   refine aC.pure ⟨g1,_,rfl,λw _=> .inl ?_⟩;simp only[execOp,h,EV,ajg];simp[Instr.makeFunc]
  ·exact aC.fail
 case h_17 t parts h=>
  split
  ·rename_i l hl;obtain⟨g1,g2⟩:=ar4 (n:=n) (nb:=bl.length) (ρ:=ρ) (m:=m) (vals:=(parts.map λ(i,x)=>(i,a.eval x)).toList) hl (by
    rw[AG];generalize parts.toList=lh;induction lh with
    |nil=>exact trivial
    |cons p r ih=>exact⟨⟨rfl,cS aD p.2⟩,ih⟩)
   refine aC.pure ⟨g1,_,rfl,λw _=> .inl ?_⟩;simp only[execOp,h];simp[run_build w t _ _ g2,W.den]
  ·exact aC.fail
 case h_18 t x h=>
  have hx:=cS aD x;split
  ·rename_i b len lo k e hv ha;rw[hv]at hx;refine eM λhc=>aC.pure ⟨hx.1,_,rfl,λw _=> .inl ?_⟩;obtain⟨c,iw,hc2⟩:=hx.2;have hle:¬len<k:=by have:=gU hc;omega
   simp only[execOp,h];rw[hc2];simp[apr,gJ (zn ha),hle,W.den,A.den]
  ·rename_i b off len cap k e hv ha;rw[hv]at hx;refine eM λhc=>aC.pure ⟨by simpa [V.ok,W.ok,A.ok]using hx.1,_,rfl,λw _=> .inl ?_⟩;have hle:¬len<k:=by have:=gU hc;omega
   have az:a.eval x=_:=hx.2;simp only[execOp,h];rw[az];simp[apr,gJ (zn ha),hle,W.den,A.den]
  ·exact aC.fail
 case h_19=>exact aC.fail
end
end Go.b9
namespace Go.b9
open M
noncomputable def Qv (c:aQ) (code i:I) (j:Nat):M A:=
 match c with
 | .int k lo hi=>bind (gV 21 [code,i,.const j] lo hi) λl=>pure (.int k ⟨l,lo,hi⟩)
 | .str=>bind (gV 21 [code,i,.const j] 0 qu) λl=>pure (.str l)
 | .bool=>bind (gV 21 [code,i,.const j] 0 1) λl=>pure (.bool (.mkEq ⟨l,0,1⟩ (.const 1)))
noncomputable def Qw (code i:I):Nat->List aQ->M (List A)
 |_,[]=>pure []
 |j,c::r=>bind (Qv c code i j) λa=>bind (Qw code i (j+1) r) λl=>pure (a::l)
noncomputable def acD (c:aQ) (code:I):Nat->I->M (List A)
 |0,_=>pure []
 |q+1,i=>bind (h8 21 [code,i]) λ_=>bind (Qv c code i 0) λa=>bind (acD c code q (i.add (.const 1))) λl=>pure (a::l)
noncomputable def X7 (P:b4) (bl:List aJ) (t:br) (b bG:Nat) (o i:I) (j:Nat):M V:=
 match bl[b]? with
 |some ([.rows sh off code cap kind],_)=>cond (dX 0 kind&&aP bG sh.length&&I.beq o off) (bind (h8 21 [code,i]) λ_=>match lf P t,gT P t with
  |some true,some k=>cond (cO (j+k) sh.length) (bind (Qw code i j ((sh.drop j).take k)) λl=>pure (.w (.agg l))) (match sh,j with
   |[c],0=>bind (acD c code k i) λl=>pure (.w (.agg l))
   |_,_=>fail)
  |some false,_=>match sh[j]? with
   |some c=>bind (Qv c code i j) λa=>pure (.w (.one a))
   |none=>fail
  |_,_=>fail) fail
 |_=>fail
def ac2 (P:b4) (t:br) (b bG:Nat) (o ro len:I) (bp:I):M V:=
 match kr P t with
 |some e=>match gT P e with
  |some s=>cond (aP s bG) (bind (h8 30 [bp,len]) λ_=>pure (.w (.one (.ep b bG o (ro.add bp) 0)))) fail
  |none=>fail
 |none=>fail
def I0 (op:Nat) (ls:List I):M Unit:=λn k=> .x9 op ls (k () n)
def ac4 (P:b4) (t:br) (b bG:Nat) (o ro len cap:I) (x y:I):M V:=
 match kr P t with
 |some e=>match gT P e with
  |some s=>cond (aP s bG) (bind (h8 32 [x,y,len]) λ_=>match x.eT with
   |some 0=>pure (.w (.one (.sl b bG o ro y cap)))
   |_=>bind (I0 68 [len,cap]) λ_=>bind (gV 33 [ro,x,cap] 0 9223372036854775808) λr=>pure (.w (.one (.sl b bG o r (y.sub x) (cap.sub x))))) fail
  |none=>fail
 |none=>fail
def Er (tm:List V) (d:I):Option rf->Option I
 |none=>some d
 |some x=>uk (cp tm x)
def Qh:List aQ->Bool
 |[.int .u8 lo hi]=>decide (lo=0)&&decide (hi=255)
 |_=>false
noncomputable def ac3 (bl:List aJ) (b bG:Nat) (o ro len:I):M V:=
 match bl[b]? with
 |some ([.rows sh off code cap kind],_)=>cond (dX 0 kind&&aP bG 1&&I.beq o off&&Qh sh) (bind (h8 35 [code,ro,ro.add len]) λ_=>bind (gV 34 [code,ro,ro.add len] 0 qu) λl=>pure (.w (.one (.str l)))) fail
 |_=>fail
def Qf {α:Type} (b:bH) (x y:M α):M α:=λn k=>match b with
 | .lit v=>cond v (x n k) (y n k)
 |b=> .uU b (x n k) (y n k)
def alr (k:dW) (x y:b0):M V:=Qf (.mkLt y x) (pure (.w (.one (.int k y)))) (pure (.w (.one (.int k x))))
def alo (k:dW) (x y:b0):M V:=Qf (.mkLt x y) (pure (.w (.one (.int k y)))) (pure (.w (.one (.int k x))))
def rm:List A->Option (List Bool)
 |[]=>some []
 | .bool (.lit b)::r=>match rm r with|some l=>some (b::l)|none=>none
 |_::_=>none
def C1:Nat->List Bool->List UInt8
 |_,[]=>[]
 |i,b::r=>cond b (Ay i::C1 (i+1) r) (C1 (i+1) r)
def acW (bl:List aJ) (b off:Nat) (bp:b0):M V:=
 match bl[b]? with
 |some (cs,_)=>match rm ((cs.drop off).take (bp.hi.toNat+1))with
  |some l=>cond (aP l.length (bp.hi.toNat+1)&&cO bp.hi.toNat 255&&decide (0<=bp.lo)&&cl cs) (bind (gV 43 [.const (kJ (C1 0 l)),bp.l] 0 1) λr=>pure (.w (.one (.bool (.mkEq ⟨r,0,1⟩ (.const 1)))))) fail
  |none=>fail
 |none=>fail
noncomputable def acE (P:b4) (bl:List aJ) (tm:List V) (o:Oper):Option (M V):=
 match o.op with
 | .load t x=>match cp tm x with
  | .w (.one (.ep b bG o i j))=>some (X7 P bl t b bG o i j)
  | .w (.one (.q1 b off bp))=>match P.underlying t with
   |some .bool=>some (acW bl b off bp)
   |_=>none
  |_=>none
 | .nilCheck x=>match cp tm x with
  | .w (.one (.ep b bG o i j))=>some (pure (.w (.one (.ep b bG o i j))))
  |_=>none
 | .indexAddr t x bp=>match cp tm x,cp tm bp with
  | .w (.one (.sl b bG o ro len cap)),.w (.one (.int _ i))=>some (ac2 P t b bG o ro len i.l)
  |_,_=>none
 | .sliceToArrayPointer t x=>match cp tm x,wC P t with
  | .w (.one (.sl b bG o ro len cap)),some (k,_)=>some (cond (dX 0 k) (bind (h8 30 [.const ((k:Int)-1),len]) λ_=>pure (.w (.one (.ep b bG o ro 0)))) fail)
  |_,_=>none
 | .fieldAddr s x f=>match cp tm x,MG P s f with
  | .w (.one (.ep b bG o i j)),some fd=>match gT P fd.type with
   |some (_+1)=>some (pure (.w (.one (.ep b bG o i (j+fd.offset)))))
   |_=>none
  |_,_=>none
 | .slice t x lo hi none=>match cp tm x with
  | .w (.one (.sl b bG o ro len cap))=>match Er tm (.const 0) lo,Er tm len hi with
   |some p,some q=>some (ac4 P t b bG o ro len cap p q)
   |_,_=>none
  |_=>none
 | .convert s d x=>match cp tm x,kr P s,P.underlying d with
  | .w (.one (.sl b bG o ro len cap)),some e,some .string=>match P.underlying e with
   |some (.int .u8)=>some (ac3 bl b bG o ro len)
   |_=>none
  |_,_,_=>none
 | .call c=>match c.callee with
  | .builtin .len=>match c.args.toList,c.argTypes.toList with
   |[x],[t]=>match cp tm x,kr P t with
    | .w (.one (.sl b bG o ro len cap)),some _=>some (pure (.w (.one (.int .i64 ⟨len,0,9223372036854775807⟩))))
    |_,_=>none
   |_,_=>none
  | .builtin .min=>match c.args.toList with
   |[x,y]=>match cp tm x,cp tm y with
    | .w (.one (.int k p)),.w (.one (.int bI q))=>cond (decide (k=bI)) (some (alr k p q)) none
    |_,_=>none
   |_=>none
  | .builtin .max=>match c.args.toList with
   |[x,y]=>match cp tm x,cp tm y with
    | .w (.one (.int k p)),.w (.one (.int bI q))=>cond (decide (k=bI)) (some (alo k p q)) none
    |_,_=>none
   |_=>none
  |_=>none
 | .binOp op t x y _=>match kr P t,cp tm x,cp tm y with
  |some _,.w (.one (.sl b bG o ro len cap)),.w (.one (.con (.slice none 0 0)))=>match op with
   | .eql=>some (bind (I0 53 [cap,len]) λ_=>pure (.w (.one (.bool (.lt cap (.const 0))))))
   | .neq=>some (bind (I0 53 [cap,len]) λ_=>pure (.w (.one (.bool (.mkNot (.lt cap (.const 0)))))))
   |_=>none
  |_,_,_=>none
 |_=>none
def P6 (bl:List aJ) (b off:Nat):Option (List aQ×I×Nat):=
 match bl[b]? with
 |some ([.rows sh o code cap kind],_)=>match cap.eT with
  |some c=>cond (aP off 0&&dX 0 kind&&I.beq o (.const 0)&&decide (0<=c)) (some (sh,code,c.toNat)) none
  |none=>none
 |_=>none
noncomputable def P2 (code:I) (sh:List aQ):Nat->Nat->M (List A)
 |_,0=>pure []
 |i,k+1=>bind (Qw code (.const i) 0 sh) λa=>bind (P2 code sh (i+1) k) λl=>pure (a++l)
def ac5 (P:b4) (t:br) (b bG:Nat) (o ro len cap:I) (x y z:I):M V:=
 match kr P t with
 |some e=>match gT P e with
  |some s=>cond (aP s bG) (bind (cond (I.beq z len) (h8 78 [x,y,z,cap]) (h8 64 [x,y,z,len])) λ_=>bind (gV 33 [ro,x,z] 0 9223372036854775808) λr=>pure (.w (.one (.sl b bG o r (y.sub x) (z.sub x))))) fail
  |none=>fail
 |none=>fail
noncomputable def Tq (P:b4) (bl:List aJ) (tm:List V) (o:Oper):Option (M V):=
 match o.op with
 | .indexAddr t x bp=>match cp tm x,cp tm bp with
  | .w (.one (.ptr b off)),.w (.one (.int _ i))=>match P6 bl b off,wC P t with
   |some (sh,code,c),some (len,e)=>match gT P e with
    |some s=>cond (aP s sh.length&&aP len c) (some (bind (h8 30 [i.l,.const len]) λ_=>pure (.w (.one (.ep b s (.const 0) i.l 0))))) none
    |none=>none
   |_,_=>none
  |_,_=>none
 | .load t x=>match cp tm x with
  | .w (.one (.ptr b off))=>match P6 bl b off,lf P t,gT P t with
   |some (sh,code,c),some true,some k=>cond (aP k (c*sh.length)) (some (bind (h8 31 [code,.const c]) λ_=>bind (P2 code sh 0 c) λl=>pure (.w (.agg l)))) none
   |_,_,_=>none
  |_=>none
 | .slice t x lo (some hi) (some gx)=>match cp tm x with
  | .w (.one (.sl b bG cL ro len cap))=>match Er tm (.const 0) lo,uk (cp tm hi),uk (cp tm gx)with
   |some p,some q,some r=>some (ac5 P t b bG cL ro len cap p q r)
   |_,_,_=>none
  |_=>none
 | .call c=>match c.callee with
  | .builtin .len=>match c.args.toList,c.argTypes.toList with
   |[x],[t]=>match cp tm x,kr P t with
    | .w (.one (.con (.slice none 0 0))),some _=>some (pure (.w (.one (.int .i64 (.const 0)))))
    |_,_=>none
   |_,_=>none
  |_=>none
 |_=>none
noncomputable def QH (cal:gL) (bl:List aJ) (tm:List V) (o:Oper):Option (M V):=
 match o.op with
 | .call c=>match c.callee with
  | .value (.tmp x)=>match cp tm (.tmp x)with
   | .w (.one (.con (.func (.func f) QP QQ)))=>cond (aP QP.size 0&&aP QQ.size 0) ((cal f).map λg=>g bl (c.args.toList.map (cp tm))) none
   |_=>none
  |_=>none
 |_=>none
noncomputable def Dv (P:b4) (cal:gL) (gl:fP) (bl:List aJ) (tm:List V) (o:Oper):M V:=
 match acE P bl tm o with
 |some x=>x
 |none=>match Tq P bl tm o with
  |some x=>x
  |none=>match QH cal bl tm o with
   |some x=>x
   |none=>acr P cal gl bl tm o
theorem o8.get {cells:Array aW} {off:Nat} {sh:List aQ} {rows:List (List Int)} (h:o8 cells off sh rows) {i j:Nat} {row:List Int} {v:aW} (hi:rows[i]?=some row) (aM:(dS sh row)[j]?=some v):cells[off+i*sh.length+j]?=some v:=by
 obtain⟨h1,pre,post,h2,h3⟩:=h;have h4:=Yi h1 hi aM;rw[<-Px,h2,List.append_assoc,LF (by omega),AA]
 ·rw[show off+i*sh.length+j-pre.length=i*sh.length+j by omega];exact h4
 ·have:=(List.getElem?_eq_some_iff.1 h4).1;omega
section
variable {S:Nat->List Int->List Int->Prop} {L:V->Env->Prop} {n:Nat} {ρ:Env} {m:Nat->Nat} {bl:List aJ} {gl:fP} {w0:eL} {P:b4} {tm:List V} {a:Act}
theorem agU {α:Type} {b:bH} {x y:M α} {R:Env->Nat->α->Prop} (h1:b.den ρ=true->aC S L x n ρ R) (h2:b.den ρ=false->aC S L y n ρ R):aC S L (Qf b x y) n ρ R:=by
 intro A k af;unfold Qf at af;cases hb:b.den ρ with
 |true=>
  cases b with
  |lit v=>simp only[bH.den]at hb;subst hb;exact h1 rfl A k af
  |_=>exact h1 hb A k (af.1 hb)
 |false=>
  cases b with
  |lit v=>simp only[bH.den]at hb;subst hb;exact h2 rfl A k af
  |_=>exact h2 hb A k (af.2 hb)
theorem Xx {nb:Nat} {c:aQ} {code i:I} {j:Nat} {z:Int} {row:List Int} (kN:(ao (code.den ρ))[(i.den ρ).toNat]?=some row) (hz:row[j]?=some z) (h1:c.hA.1<=z) (h2:z<=c.hA.2):
 aC S L (Qv c code i j) n ρ λae n' x=>x.ok n' nb ae/\x.den ae m=c.val z:=by
 have hf:bM 21 ([code,i,I.const (j:Nat)].map (·.den ρ))=z:=by
  simp only[du,gQ,I.bq,bM,qm];simp[U,kN,hz]
 cases c with
 |int k lo hi=>
  refine(iQ (by rw[hf];exact h1) (by rw[hf];exact h2)).bind λaN a6 l _ _ ⟨g1,g2⟩=>aC.pure ⟨⟨g1,?_,?_⟩,?_⟩
  ·rw[g2,hf];exact h1
  ·rw[g2,hf];exact h2
  ·simp only[A.den,aQ.val];rw[g2,hf]
 |str=>
  refine(iQ (by rw[hf];exact h1) (by rw[hf];exact h2)).bind λaN a6 l _ _ ⟨g1,g2⟩=>aC.pure ⟨⟨g1,?_,?_⟩,?_⟩
  ·rw[g2,hf];exact h1
  ·rw[g2,hf];exact h2
  ·simp only[A.den,aQ.val];rw[g2,hf]
 |bool=>
  refine(iQ (by rw[hf];exact h1) (by rw[hf];exact h2)).bind λaN a6 l _ _ ⟨g1,g2⟩=>aC.pure ?_;have cb:b0.ok a6 aN ⟨l,0,1⟩:=⟨g1,by simp only;rw[g2,hf];exact h1,by simp only;rw[g2,hf];exact h2⟩;have e:=bH.yl cb (b0.qD a6 aN 1);refine⟨e.2,?_⟩;simp only[A.den,aQ.val];rw[e.1];simp only[b0.const,I.bq];rw[g2,hf]
theorem XA {nb:Nat} {sh:List aQ} {row:List Int} (cb:cM sh row):∀{r:List aQ} {n:Nat} {ρ:Env} {code i:I} {j:Nat},code.bN n->i.bN n->(ao (code.den ρ))[(i.den ρ).toNat]?=some row->(∀(x:Nat) (c:aQ),r[x]?=some c->sh[j+x]?=some c)->
 aC S L (Qw code i j r) n ρ λae n' l=>(∀a∈l,A.ok n' nb ae a)/\l.length=r.length/\∀(x:Nat) (a:A),l[x]?=some a->(dS sh row)[j+x]?=some (a.den ae m)
 |[],n,ρ,code,i,j,_,_,_,_=>aC.pure ⟨λ_ h=>by simp at h,rfl,λx a h=>by simp at h⟩
 |c::r,n,ρ,code,i,j,CW,zR,kN,hr=>by
  have h0:=hr 0 c rfl;obtain⟨z,h1,h2,h3,h4⟩:=cb.get h0;refine(Xx (nb:=nb) (m:=m) kN h1 h2 h3).bind λaN a6 y hn ha ⟨g1,g2⟩=>?_;refine(XA (nb:=nb) (r:=r) (n:=a6) (ρ:=aN) (code:=code) (i:=i) (j:=j+1) cb (CW.mono hn) (zR.mono hn) (by rw[I.cf ha CW,I.cf ha zR];exact kN) (λx c hx=>by
   have:=hr (x+1) c (by simpa using hx);rw[show j+1+x=j+(x+1) by omega];exact this)).bind λb5 gd l gm eb ⟨k1,k2,k3⟩=>aC.pure ⟨λb hb=>?_,by simp[k2],λx b hb=>?_⟩
  ·rcases List.mem_cons.1 hb with rfl|hb
   ·exact g1.ext eb gm (bW _)
   ·exact k1 b hb
  ·cases x with
   |zero=>
    simp only[xY,bj]at hb;subst hb;rw[A.nW g1 eb (λ_ _=>rfl),g2];exact h4
   |succ x=>
    have:=k3 x b (by simpa using hb);rw[show j+(x+1)=j+1+x by omega];exact this
theorem amH {nb:Nat} {c:aQ} {code:I}:∀{q n:Nat} {ρ:Env} {i:I},(∀row∈ao (code.den ρ),cM [c] row)->code.bN n->i.bN n->
 aC S L (acD c code q i) n ρ λae n' l=>(∀a∈l,A.ok n' nb ae a)/\l.length=q/\∀(x:Nat) (a:A),l[x]?=some a->∃row,(ao (code.den ρ))[(i.den ρ).toNat+x]?=some row/\(dS [c] row)[0]?=some (a.den ae m)
 |0,n,ρ,i,_,_,_=>aC.pure ⟨λ_ h=>by simp at h,rfl,λx a h=>by simp at h⟩
 |q+1,n,ρ,i,lI,CW,zR=>by
  refine jS λaf=>?_;simp only[du,gQ,ay]at af;have hlt:(i.den ρ).toNat<(ao (code.den ρ)).length:=by omega
  have kN:(ao (code.den ρ))[(i.den ρ).toNat]?=some (ao (code.den ρ))[(i.den ρ).toNat]:=pF hlt;have cb:=lI _ (IE hlt);generalize (ao (code.den ρ))[(i.den ρ).toNat]=row at kN cb;obtain⟨z,h1,h2,h3,h4⟩:=cb.get (show([c]:List aQ)[0]?=some c from rfl);refine(Xx (nb:=nb) (m:=m) kN h1 h2 h3).bind λaN a6 y hn ha ⟨g1,g2⟩=>?_;have ld:=I.cf ha CW;have hid:=I.cf ha zR;refine(amH (nb:=nb) (q:=q) (n:=a6) (ρ:=aN) (i:=i.add (.const 1)) (by rw[ld];exact lI) (CW.mono hn) (I.yW (zR.mono hn) (I.dF _ _))).bind λb5 gd l gm eb ⟨k1,k2,k3⟩=>aC.pure ⟨λb hb=>?_,by simp[k2],λx b hb=>?_⟩
  ·rcases List.mem_cons.1 hb with rfl|hb
   ·exact g1.ext eb gm (bW _)
   ·exact k1 b hb
  ·cases x with
   |zero=>
    simp only[xY,bj]at hb;subst hb;exact⟨row,by simpa using kN,by rw[A.nW g1 eb (λ_ _=>rfl),g2];exact h4⟩
   |succ x=>
    obtain⟨H7,r1,r2⟩:=k3 x b (by simpa using hb);rw[ld,I.den_add,I.bq,hid]at r1;exact⟨H7,by rw[<-r1];congr 1;omega,r2⟩
theorem atv (hb:dj n bl.length ρ bl) (hex:∃w,Mem w0 ρ m bl w) (t:br) {b bG:Nat} {o i:I} {j:Nat} (hx:(A.ep b bG o i j).ok n bl.length ρ):
 aC S L (X7 P bl t b bG o i j) n ρ (o7 w0 m bl n ρ λw=>(pH t ((A.ep b bG o i j).den ρ m)).run P w):=by
 obtain⟨BS,yz⟩:=hex;unfold X7;split
 ·rename_i sh off code cap kind t' aZ;refine eM λhc=>jS λaf=>?_;simp only[bx]at hc;obtain⟨⟨c1,bQ⟩,cF⟩:=hc;have c1:0<kind:=gU c1;have bQ:=b1 bQ;have cF:=I.beq_eq cF;subst cF;have Ho:(A.rows sh o code cap kind).ok n bl.length ρ:=hb _ (fC aZ) _ (by simp);simp only[du,gQ,ay]at af;have hlt:(i.den ρ).toNat<(ao (code.den ρ)).length:=by omega
  have kN:(ao (code.den ρ))[(i.den ρ).toNat]?=some (ao (code.den ρ))[(i.den ρ).toNat]:=pF hlt;generalize (ao (code.den ρ))[(i.den ρ).toNat]=row at kN;have dC:0<=cap.den ρ:=by
   rcases mE (cap.den ρ) 0 with h|h
   ·have:=(yz.rws b sh o code cap kind t' aZ (by omega)).1 h;rw[this]at hlt;simp at hlt
   ·exact h
  have mY:∀w,Mem w0 ρ m bl w->cM sh row/\∀(x:Nat) (v:aW),(dS sh row)[x]?=some v->w.cell? ⟨m b,(o.den ρ).toNat+(i.den ρ).toNat*bG+x,none⟩=some v:=λw hw=>by
   obtain⟨_,cells,ma,fz,g1,⟨g2,g3⟩,_⟩:=(hw.rws b sh o code cap kind t' aZ (by omega)).2 dC;refine⟨g3.1 _ (fC kN),λx v hv=>?_⟩;have:=g3.get kN hv;simp only[nK,g1,xR,xS,if_false];rw[bQ];exact this
  have lI:=(mY BS yz).1;cases rE:lf P t with
  |none=>exact aC.fail
  |some ari=>
   cases ari with
   |true=>
    cases hs:gT P t with
    |none=>exact aC.fail
    |some k=>
     simp only;cases rG:cO (j+k) sh.length with
     |false=>
      simp only[cond_false];split
      ·rename_i c _;have jM:∀row∈ao (code.den ρ),cM [c] row:=by
        obtain⟨_,cells,ma,fz,g1,⟨g2,g3⟩,_⟩:=(yz.rws b [c] o code cap kind t' aZ (by omega)).2 dC;exact g3.1
       refine(amH (nb:=bl.length) (m:=m) (q:=k) (i:=i) jM Ho.1.2.1 hx.2.1.2).bind λaN a6 l hn ha ⟨g1,g2,g3⟩=>aC.pure ⟨g1,_,rfl,λw hw=>?_⟩;have hl:=Pp (P:=P) w ⟨m b,(o.den ρ).toNat+(i.den ρ).toNat*bG+0,none⟩ (l.map (A.den aN m)) λx v aM=>by
        rw[kX];rw[se]at aM;cases ak:l[x]? with
        |none=>simp[ak]at aM
        |some y=>
         simp only[ak,Az,bj]at aM;subst aM;obtain⟨H7,r1,r2⟩:=g3 x y ak;obtain⟨_,cells,ma,fz,az,⟨aI,cn⟩,_⟩:=(hw.rws b [c] o code cap kind t' aZ (by omega)).2 dC;have:=cn.get r1 r2;simp only[nK,az,xR,xS,if_false];simp only[ke,qo]at bQ this;rw[bQ];rw[<-this];congr 1;omega
       simp only[pG,g2,oX]at hl;simp[pH,o2,A.den,loadVar,tz rE,kq hs,hl,W.den]
      ·exact aC.fail
     |true=>
     simp only[cond_true];have rG:=gU rG;refine(XA (nb:=bl.length) (m:=m) (r:=(sh.drop j).take k) lI Ho.1.2.1 hx.2.1.2 kN (λx c NP=>by
      rw[tI]at NP;split at NP
      ·rw[Cj]at NP;exact NP
      ·cases NP)).bind λaN a6 l hn ha ⟨g1,g2,g3⟩=>aC.pure ⟨g1,_,rfl,λw hw=>?_⟩
     have hl:=Pp (P:=P) w ⟨m b,(o.den ρ).toNat+(i.den ρ).toNat*bG+j,none⟩ (l.map (A.den aN m)) λx v aM=>by
      rw[kX];rw[se]at aM;cases ak:l[x]? with
      |none=>simp[ak]at aM
      |some y=>
       simp only[ak,Az,bj]at aM;subst aM;rw[Iz];exact(mY w hw).2 (j+x) _ (g3 x y ak)
     simp only[pG,g2,sf,List.length_drop,F2 (show k<=sh.length-j by omega)]at hl;simp[pH,o2,A.den,loadVar,tz rE,kq hs,hl,W.den]
   |false=>
    cases hc:sh[j]? with
    |none=>simp only;exact aC.fail
    |some c=>
     simp only;obtain⟨z,h1,h2,h3,h4⟩:=lI.get hc;refine(Xx (nb:=bl.length) (m:=m) kN h1 h2 h3).bind λaN a6 y hn ha ⟨g1,g2⟩=>aC.pure ⟨g1,_,rfl,λw hw=>?_⟩;have:=(mY w hw).2 j _ h4;have ZE:(A.ep b bG o i j).den ρ m= .pointer (some ⟨m b,(o.den ρ).toNat+(i.den ρ).toNat*bG+j,none⟩):=rfl;simp[pH,o2,ZE,loadVar,tz rE,this,W.den,g2]
 ·exact aC.fail
theorem xH {b bG:Nat} {o ro len cap:I} (hx:(A.sl b bG o ro len cap).ok n bl.length ρ):∃p,(A.sl b bG o ro len cap).den ρ m= .slice p (len.den ρ).toNat (if cap.den ρ<0 then 0 else(cap.den ρ).toNat)/\(cap.den ρ<0->p=none)/\(0<=cap.den ρ->p=some ⟨m b,(o.den ρ).toNat+(ro.den ρ).toNat*bG,none⟩):=by
 obtain⟨_,_,_,_,h3,_⟩:=hx;simp only[A.den];by_cases hc:cap.den ρ<0
 ·rw[if_pos hc,if_pos hc,h3 hc];exact⟨none,rfl,λ_=>rfl,λh=>by omega⟩
 ·rw[if_neg hc,if_neg hc];exact⟨_,rfl,λh=>absurd h hc,λ_=>rfl⟩
theorem aFi {t:br} {b bG:Nat} {o ro len cap bp:I} {k:dW} (hx:(A.sl b bG o ro len cap).ok n bl.length ρ) (hi:bp.bN n):
 aC S L (ac2 P t b bG o ro len bp) n ρ (o7 w0 m bl n ρ λw=>(xQ t ((A.sl b bG o ro len cap).den ρ m) (.int k (bp.den ρ))).run P w):=by
 unfold ac2;cases h1:kr P t with
 |none=>exact aC.fail
 |some e=>
  cases h2:gT P e with
  |none=>simp only[h2];exact aC.fail
  |some s=>
   simp only[h2];refine eM λhs=>jS λaf=>aC.pure ?_;have hs:=b1 hs;subst hs;simp only[du,gQ,ay]at af;obtain⟨aj,⟨ah,au,de,iK⟩,⟨jz,mc,me,mf⟩,mB,hW,jy⟩:=hx;have dC:¬(cap.den ρ<0):=λh=>by have:=hW h;omega
   refine⟨⟨aj,⟨ah,I.yW au hi⟩,jz,by rw[I.den_add];omega⟩,_,rfl,λw _=>?_⟩;have bQ:bp.den ρ<((len.den ρ).toNat:Int):=by omega
   have az:(ro.den ρ+bp.den ρ).toNat=(ro.den ρ).toNat+(bp.den ρ).toNat:=by omega
   simp only[A.den,if_neg dC,W.den,I.den_add,az];simp[-aJF,xQ,asIntOf,gJ (jg h1),af.1,bQ,kq h2,kX,AH,Iz]
theorem Xk {d:I} {y:Option rf} {l:I} (h:Er tm d y=some l) (aD:eW n bl.length ρ m tm a.tmps):(y=none/\l=d)∨∃k,y.map a.eval=some (.int k (l.den ρ))/\l.bN n:=by
 cases y with
 |none=>exact .inl ⟨rfl,by simpa [Er]using h.symm⟩
 |some x=>
  obtain⟨k,af,h2⟩:=Hx (m:=m) (bl:=bl) h (cS aD x).2 (cS aD x).1;exact .inr ⟨k,by rw[<-af];rfl,h2⟩
theorem P7 {op:Nat} {ls:List I} (h:ay op (ls.map (·.den ρ))):aC S L (I0 op ls) n ρ λae n' _=>ae=ρ/\n'=n:=λA k af=>⟨ρ,n,(),bW _,agree.refl _ _,⟨rfl,rfl⟩,af h⟩
theorem aFl {t:br} {b bG:Nat} {o ro len cap p q:I} {lo hi:Option rf} (hx:(A.sl b bG o ro len cap).ok n bl.length ρ) (aD:eW n bl.length ρ m tm a.tmps) (hp:Er tm (.const 0) lo=some p) (ak:Er tm len hi=some q):
 aC S L (ac4 P t b bG o ro len cap p q) n ρ (o7 w0 m bl n ρ λw=>(uL t ((A.sl b bG o ro len cap).den ρ m) (lo.map a.eval) (hi.map a.eval) none).run P w):=by
 unfold ac4;cases h1:kr P t with
 |none=>exact aC.fail
 |some e=>
  cases h2:gT P e with
  |none=>simp only[h2];exact aC.fail
  |some s=>
   simp only[h2];refine eM λhs=>jS λaf=>?_;have hs:=b1 hs;subst hs;simp only[du,gQ,ay]at af;obtain⟨k1,k2,k3⟩:=af;have oC:=hx;obtain⟨aj,⟨ah,au,de,iK⟩,⟨jz,mc,me,mf⟩,⟨mB,mb⟩,hW,jy⟩:=hx;have wV:=Xk hp aD;have RA:=Xk ak aD;have Ig:p.bN n:=by rcases wV with⟨_,rfl⟩|⟨_,_,h⟩;exact I.dF _ _;exact h
   have KZ:q.bN n:=by rcases RA with⟨_,rfl⟩|⟨_,_,h⟩;exact de;exact h
   obtain⟨ptr,az,aI,cn⟩:=xH (m:=m) oC;have ua:∀w,(o3 true (len.den ρ).toNat (if cap.den ρ<0 then 0 else(cap.den ρ).toNat) (lo.map a.eval) (hi.map a.eval) none).run P w= .ok ((p.den ρ).toNat,(q.den ρ).toNat,(if cap.den ρ<0 then 0 else(cap.den ρ).toNat)) w:=λw=>by
    have hle:(len.den ρ)<=((if cap.den ρ<0 then 0 else(cap.den ρ).toNat:Nat):Int):=by
     split
     ·rename_i h;rw[hW h];simp
     ·rename_i h;have:=jy (by omega);omega
    generalize (if cap.den ρ<0 then 0 else(cap.den ρ).toNat)=C at hle;rcases wV with⟨rfl,rfl⟩|⟨ayr,E4,_⟩<;>rcases RA with⟨rfl,rfl⟩|⟨ays,zN,_⟩
    ·simp[o3,I.bq]
    ·rw[zN];simp[o3,I.bq,xI (P:=P) (by omega:0<=q.den ρ) (by omega:q.den ρ<=(C:Int))]
    ·rw[E4];simp[o3,xI (P:=P) (y:=(q.den ρ).toNat) k1 (by omega)]
    ·rw[E4,zN];simp[o3,xI (P:=P) (by omega:0<=q.den ρ) (by omega:q.den ρ<=(C:Int)),xI (P:=P) (y:=(q.den ρ).toNat) k1 (by omega)]
   have jv:∀(w:aG) (r:Int),r=(if p.den ρ=cap.den ρ then ro.den ρ else ro.den ρ+p.den ρ)->
    (uL t ((A.sl b s o ro len cap).den ρ m) (lo.map a.eval) (hi.map a.eval) none).run P w= .ok (if cap.den ρ-p.den ρ<0 then .slice none 0 0 else .slice (some ⟨m b,(o.den ρ).toNat+r.toNat*s,none⟩) (q.den ρ-p.den ρ).toNat (cap.den ρ-p.den ρ).toNat) w:=λw r hr=>by
    rw[az];have iC:(q.den ρ).toNat-(p.den ρ).toNat=(q.den ρ-p.den ρ).toNat:=by omega
    simp only[uL,jl,gJ (jg h1),jF,aec,ua w,kq h2,kv,iC];by_cases hc:cap.den ρ<0
    ·have hl:=hW hc;have Rw:p.den ρ=0:=by omega
     rw[if_pos hc,aI hc,if_pos (by omega)];have:q.den ρ=0:=by omega
     simp[Rw,this,hc]
    ·rw[if_neg hc,cn (by omega)];have jV:=jy (by omega);have EY:¬(cap.den ρ-p.den ρ<0):=by omega
     rw[if_neg EY];have hC:(cap.den ρ).toNat-(p.den ρ).toNat=(cap.den ρ-p.den ρ).toNat:=by omega
     rw[hC];by_cases Nw:p.den ρ=cap.den ρ
     ·rw[if_pos Nw]at hr;have h7:(cap.den ρ).toNat=(p.den ρ).toNat:=by omega
      rw[if_pos h7,hr]
     ·rw[if_neg Nw]at hr;have h7:¬(cap.den ρ).toNat=(p.den ρ).toNat:=by omega
      rw[if_neg h7,hr];have wJ:(ro.den ρ+p.den ρ).toNat=(ro.den ρ).toNat+(p.den ρ).toNat:=by omega
      rw[wJ,AH,<-Iz];simp[kX]
   split
   ·rename_i h0;have Rw:=I.k9 h0 (ρ:=ρ);refine aC.pure ⟨⟨aj,⟨ah,au,KZ,iK⟩,⟨jz,mc,by omega,by omega⟩,⟨mB,mb⟩,λh=>?_,λh=>?_⟩,_,rfl,λw _=>?_⟩
    ·have:=hW h;omega
    ·have:=jy h;omega
    ·have hr:=jv w (ro.den ρ) (by rw[Rw];split<;>omega);rw[Rw]at hr;simp only[Int.sub_zero]at hr;simp only[W.den,A.den]at hr⊢;exact hr
   ·have p4:(0:Int)<=bM 33 ([ro,p,cap].map (·.den ρ)):=by
     simp only[du,gQ,bM];split<;>omega
    have qK:bM 33 ([ro,p,cap].map (·.den ρ))<=9223372036854775808:=by
     simp only[du,gQ,bM];by_cases hc:cap.den ρ<0
     ·have:=hW hc;split<;>omega
     ·have:=jy (by omega);split<;>omega
    refine(P7 (op:=68) (ls:=[len,cap]) (show len.den ρ<=cap.den ρ∨len.den ρ=0 from by
     by_cases hc:cap.den ρ<0
     ·exact .inr (hW hc)
     ·exact .inl (jy (by omega)))).bind λcB gS _ _ _ ⟨Hs,ue⟩=>?_
    have Hs:=Hs.symm;have ue:=ue.symm
    subst Hs;subst ue;refine(iQ p4 qK).bind λaN a6 r hn ha ⟨g1,g2⟩=>aC.pure ?_;simp only[du,gQ,bM]at g2;have b7:=I.cf ha ah;have a2:=I.cf ha KZ;have a3:=I.cf ha Ig;have a4:=I.cf ha iK
    refine⟨⟨aj,⟨ah.mono hn,g1,I.xE (KZ.mono hn) (Ig.mono hn),I.xE (iK.mono hn) (Ig.mono hn)⟩,?_⟩,_,rfl,λw _=>?_⟩
    ·rw[I.lZ,I.lZ,b7,a2,a3,a4,g2];refine⟨⟨jz,?_,by omega,by omega⟩,⟨?_,?_⟩,λh=>?_,λh=>?_⟩
     ·split<;>omega
     ·by_cases hc:cap.den ρ<0
      ·have:=hW hc;omega
      ·have:=jy (by omega);omega
     ·split<;>omega
     ·by_cases hc:cap.den ρ<0
      ·have:=hW hc;omega
      ·have:=jy (by omega);omega
     ·by_cases hc:cap.den ρ<0
      ·have:=hW hc;omega
      ·have:=jy (by omega);omega
    ·refine(jv w (r.den aN) g2).trans ?_;simp only[W.den,A.den,I.lZ,b7,a2,a3,a4]
theorem aFj (hb:dj n bl.length ρ bl) (hex:∃w,Mem w0 ρ m bl w) {src dst e:br} (hs:P.underlying src=some (.slice e)) (he:P.underlying e=some (.int .u8)) (hd:P.underlying dst=some .string) {b bG:Nat} {o ro len cap:I} (hx:(A.sl b bG o ro len cap).ok n bl.length ρ):
 aC S L (ac3 bl b bG o ro len) n ρ (o7 w0 m bl n ρ λw=>(convert src dst ((A.sl b bG o ro len cap).den ρ m)).run P w):=by
 obtain⟨BS,yz⟩:=hex;unfold ac3;split
 ·rename_i sh off code kK kind t' aZ;refine eM λhc=>jS λaf=>?_;simp only[bx]at hc;obtain⟨⟨⟨c1,bQ⟩,cF⟩,dk⟩:=hc;have c1:0<kind:=gU c1;have bQ:=b1 bQ;have cF:=I.beq_eq cF;subst cF;subst bQ;simp only[du,gQ,ay,I.den_add]at af;obtain⟨ptr,az,aI,cn⟩:=xH (m:=m) hx;obtain⟨aj,⟨ah,au,de,iK⟩,⟨jz,mc,me,mf⟩,⟨mB,mb⟩,hW,jy⟩:=hx;generalize hR:ao (code.den ρ)=rows at af;have rH:kK.den ρ<0->rows=[]:=λh=>by rw[<-hR];exact(yz.rws b sh o code kK kind t' aZ (by omega)).1 h
  have hE:(((rows.drop (ro.den ρ).toNat).take (len.den ρ).toNat).map λrow=>row.getD 0 0).length=(len.den ρ).toNat:=by
   simp;omega
  have hf:bM 34 ([code,ro,ro.add len].map (·.den ρ))=kJ ((((rows.drop (ro.den ρ).toNat).take (len.den ρ).toNat).map λrow=>row.getD 0 0).map λz=>Ay z.toNat):=by
   simp only[du,gQ,bM,I.den_add,hR];have:(ro.den ρ+len.den ρ).toNat-(ro.den ρ).toNat=(len.den ρ).toNat:=by omega
   rw[this,pD];rfl
  generalize cg:(((rows.drop (ro.den ρ).toNat).take (len.den ρ).toNat).map λrow=>row.getD 0 0)=xs at hE hf;have hl:(xs.map λz=>Ay z.toNat).length<=m4:=by
   have:(xs.map λz=>Ay z.toNat).length=(len.den ρ).toNat:=by simp[hE]
   unfold m4;omega
  refine(iQ (by rw[hf];exact zv _) (by rw[hf];exact x2 hl)).bind λaN a6 l _ _ ⟨g1,g2⟩=>aC.pure ⟨⟨g1,by rw[g2,hf];exact zv _,by rw[g2,hf];exact x2 hl⟩,_,rfl,λw hw=>?_⟩;have qQ:(W.one (A.str l)).den aN m= .string (strOfNums xs):=by
   simp only[W.den,A.den,g2,hf,BK];rfl
  rw[qQ];show(convert src dst ((A.sl b 1 o ro len cap).den ρ m)).run P w=_;rw[az];by_cases dC:cap.den ρ<0
  ·have ph:=hW dC;rw[aI dC,if_pos dC];have ajT:xs=[]:=zb (by rw[hE,ph];rfl);rw[ajT,run_convert_bytes_nil w src e hs he _ _ dst hd];rfl
  ·rw[cn (by omega),if_neg dC];by_cases M6:kK.den ρ<0
   ·have ju:=rH M6;have ph:len.den ρ=0:=by rw[ju]at af;simp at af;omega
    have ajT:xs=[]:=zb (by rw[hE,ph];rfl);exact run_convert_bytes_arg w src e hs he (m b) _ _ _ xs hE (λi hi=>by rw[ph]at hi;simp at hi) dst hd
   ·obtain⟨_,cells,ma,fz,k1,⟨k2,k3⟩,_⟩:=(hw.rws b sh o code kK kind t' aZ (by omega)).2 (by omega);refine run_convert_bytes_arg w src e hs he (m b) _ _ _ xs hE (λi hi=>?_) dst hd;have hlt:(ro.den ρ).toNat+i<rows.length:=by omega
    have kN:(ao (code.den ρ))[(ro.den ρ).toNat+i]?=some rows[(ro.den ρ).toNat+i]:=by rw[hR];exact pF hlt
    have l3:∃lo hi,sh=[.int .u8 lo hi]:=by
     unfold Qh at dk;split at dk
     ·exact⟨_,_,rfl⟩
     ·cases dk
    obtain⟨lo,eo,rfl⟩:=l3;have Ho:=k3.1 _ (fC kN);obtain⟨z,bg,_,_,et⟩:=Ho.get (j:=0) (c:= .int .u8 lo eo) rfl;have:=k3.get kN et;have hz:xs.getD i 0=z:=by
     rw[<-cg];have:i<(len.den ρ).toNat:=hi;simp[U,tI,this,hlt,bg]
    simp only[nK,k1,xR,xS,if_false,hz];simp only[ke,qo,oX,zd,Ch]at this;rw[show(o.den ρ).toNat+(ro.den ρ).toNat*1+i=(o.den ρ).toNat+((ro.den ρ).toNat+i) by omega];exact this
 ·exact aC.fail
theorem ay9 {k:dW} {x y:b0} {t:br} {ts:Array br} (hx:x.ok n ρ) (hy:y.ok n ρ):aC S L (alr k x y) n ρ (o7 w0 m bl n ρ λw=>(aej ts t #[.int k (x.l.den ρ),.int k (y.l.den ρ)]).run P w):=by
 have e:=bH.QF hy hx;have hr:∀w,(aej ts t #[.int k (x.l.den ρ),.int k (y.l.den ρ)]).run P w= .ok (.int k (if y.l.den ρ<x.l.den ρ then y.l.den ρ else x.l.den ρ)) w:=λw=>by
  simp[aej,Builtin.min2]
 refine agU (λhb=>aC.pure ⟨hy,_,rfl,λw _=>?_⟩) λhb=>aC.pure ⟨hx,_,rfl,λw _=>?_⟩
 ·rw[e.1]at hb;simp only[hr,if_pos (of_decide_eq_true hb)];rfl
 ·rw[e.1]at hb;simp only[hr,if_neg (of_decide_eq_false hb)];rfl
theorem ay8 {k:dW} {x y:b0} {t:br} {ts:Array br} (hx:x.ok n ρ) (hy:y.ok n ρ):aC S L (alo k x y) n ρ (o7 w0 m bl n ρ λw=>(aek ts t #[.int k (x.l.den ρ),.int k (y.l.den ρ)]).run P w):=by
 have e:=bH.QF hx hy;have hr:∀w,(aek ts t #[.int k (x.l.den ρ),.int k (y.l.den ρ)]).run P w= .ok (.int k (if x.l.den ρ<y.l.den ρ then y.l.den ρ else x.l.den ρ)) w:=λw=>by
  simp[aek,Builtin.max2]
 refine agU (λhb=>aC.pure ⟨hy,_,rfl,λw _=>?_⟩) λhb=>aC.pure ⟨hx,_,rfl,λw _=>?_⟩
 ·rw[e.1]at hb;simp only[hr,if_pos (of_decide_eq_true hb)];rfl
 ·rw[e.1]at hb;simp only[hr,if_neg (of_decide_eq_false hb)];rfl
theorem agS:∀{cs:List A} {l:List Bool},rm cs=some l->cs=l.map λb=>A.bool (.lit b)
 |[],l,h=>by simp[rm]at h;subst h;rfl
 | .bool (.lit b)::r,l,h=>by
  simp only[rm]at h;cases hr:rm r with
  |none=>simp[hr]at h
  |some l'=>
   simp only[hr,bj]at h;subst h;simp[agS hr]
 | .bool (.eq ..)::_,_,h| .bool (.lt ..)::_,_,h| .bool (.le ..)::_,_,h| .bool (.not ..)::_,_,h| .bool (.and ..)::_,_,h| .bool (.iff ..)::_,_,h=>by simp[rm]at h
 | .int .. ::_,_,h=>by simp[rm]at h
 | .ptr .. ::_,_,h=>by simp[rm]at h
 | .q1 .. ::_,_,h=>by simp[rm]at h
 | .gptr .. ::_,_,h=>by simp[rm]at h
 | .slc .. ::_,_,h=>by simp[rm]at h
 | .con _::_,_,h=>by simp[rm]at h
 | .str _::_,_,h=>by simp[rm]at h
 | .rows .. ::_,_,h=>by simp[rm]at h
 | .sl .. ::_,_,h=>by simp[rm]at h
 | .ep .. ::_,_,h=>by simp[rm]at h
theorem aj5:∀(l:List Bool) (s:Nat),s+l.length<=256->∀i:Nat,i<256->(Ay i∈C1 s l↔s<=i/\l[i-s]?=some true)
 |[],s,_,i,_=>by simp[C1]
 |b::r,s,h,i,hi=>by
  simp only[ke]at h;have ih:=aj5 r (s+1) (by omega) i hi;have dA:s≠i->Ay i≠Ay s:=λdA he=>by
   have:=congrArg UInt8.toNat he;simp at this;omega
  have key:(s+1<=i/\r[i-(s+1)]?=some true)↔(s<i/\(b::r)[i-s]?=some true):=by
   constructor
   ·rintro⟨h1,h2⟩
    refine⟨h1,?_⟩;rw[show i-s=(i-(s+1))+1 by omega];simpa using h2
   ·rintro⟨h1,h2⟩
    refine⟨h1,?_⟩;rw[show i-s=(i-(s+1))+1 by omega]at h2;simpa using h2
  unfold C1;cases b with
  |true=>
   simp only[cond_true,oW,ih,key];by_cases he:s=i
   ·subst he;simp
   ·constructor
    ·rintro(h1|h1)
     ·exact absurd h1 (dA he)
     ·exact⟨by omega,h1.2⟩
    ·rintro⟨h1,h2⟩;exact .inr ⟨by omega,h2⟩
  |false=>
   simp only[cond_false,ih,key];by_cases he:s=i
   ·subst he;simp
   ·constructor
    ·rintro⟨h1,h2⟩;exact⟨by omega,h2⟩
    ·rintro⟨h1,h2⟩;exact⟨by omega,h2⟩
theorem aE7 (hb:dj n bl.length ρ bl) {ty:br} (hu:P.underlying ty=some .bool) (b off:Nat) {bp:b0} (No:bp.ok n ρ):aC S L (acW bl b off bp) n ρ (o7 w0 m bl n ρ λw=>(pH ty ((A.q1 b off bp).den ρ m)).run P w):=by
 unfold acW;cases aZ:bl[b]? with
 |none=>exact aC.fail
 |some q=>
  obtain⟨cs,t⟩:=q;simp only;cases hi:rm ((cs.drop off).take (bp.hi.toNat+1))with
  |none=>exact aC.fail
  |some l=>
   refine eM λhc=>?_;simp only[bx,decide_eq_true_eq]at hc;obtain⟨⟨⟨iw,hc2⟩,ai2⟩,ak⟩:=hc;have hlen:=b1 iw;have aMR:=gU hc2;have e:=agS hi;have CA:=No.2;have hlt:(bp.l.den ρ).toNat<l.length:=by omega
   have n1:kJ (C1 0 l)=(I.const (kJ (C1 0 l))).den ρ:=(I.bq _ _).symm;have hf:bM 43 ([I.const (kJ (C1 0 l)),bp.l].map (·.den ρ))=if l[(bp.l.den ρ).toNat]=true then 1 else 0:=by
    simp only[du,gQ,bM,I.bq,BK];have:=aj5 l 0 (by omega) (bp.l.den ρ).toNat (by omega);simp only[Nat.sub_zero,LC,true_and,pF hlt,bj]at this;simp only[this]
   have ca:=Mc (l[(bp.l.den ρ).toNat]=true);refine(iQ (by rw[hf];exact ca.1) (by rw[hf];exact ca.2)).bind λaN a6 r hn ha ⟨g1,g2⟩=>?_;rw[hf]at g2;have aI:=bH.yl (n:=a6) (ρ:=aN) (a:=⟨r,0,1⟩) (b:= .const 1) ⟨g1,by simp only[g2];exact ca.1,by simp only[g2];exact ca.2⟩ (b0.qD _ _ _);refine aC.pure ⟨aI.2,_,rfl,λw hw=>?_⟩;obtain⟨_,_,KV,_,h2⟩:=hw.gZ b cs t aZ ak;have dD:cs[off+(bp.l.den ρ).toNat]?=some (.bool (.lit l[(bp.l.den ρ).toNat])):=by
    have h1:((cs.drop off).take (bp.hi.toNat+1))[(bp.l.den ρ).toNat]?=some (.bool (.lit l[(bp.l.den ρ).toNat])):=by rw[e];simp[hlt]
    rw[tI]at h1;split at h1
    ·rw[Cj]at h1;exact h1
    ·cases h1
   have avD:=(List.getElem?_eq_some_iff.1 dD).1;have hcell:w.cell? ⟨m b,off+(bp.l.den ρ).toNat,none⟩=some (.bool l[(bp.l.den ρ).toNat]):=by
    simp only[nK,h2,xR,xS,if_false,Pu];rw[AA (by simpa using avD),se,dD];rfl
   have rE:lf P ty=some false:=by unfold lf;rw[hu]
   have ZE:(A.q1 b off bp).den ρ m= .pointer (some ⟨m b,off+(bp.l.den ρ).toNat,none⟩):=rfl;simp only[W.den,A.den];rw[aI.1];simp only[g2,b0.const,I.bq];have avv:decide ((if l[(bp.l.den ρ).toNat]=true then(1:Int)else 0)=1)=l[(bp.l.den ρ).toNat]:=by
    cases l[(bp.l.den ρ).toNat]<;>rfl
   rw[avv];have awB:=ZE;simp only[A.den]at awB;simp[pH,o2,loadVar,tz rE,hcell]
theorem aEz (w:aG) {t e:br} (hu:P.underlying t=some (.slice e)) (p:Option Addr) (l c:Nat):(binOp .eql t (.slice p l c) (.slice none 0 0)).run P w= .ok (.bool p.isNone) w:=by
 have h:binOp .eql t (.slice p l c) (.slice none 0 0)=(do pure (.bool (<-Op.equal t (.slice p l c) (.slice none 0 0)))):=rfl;rw[h];simp only[jl,run_equal_slice_nil w t e p l c hu,jF,kv]
theorem aEB (w:aG) {t e:br} (hu:P.underlying t=some (.slice e)) (p:Option Addr) (l c:Nat):(binOp .neq t (.slice p l c) (.slice none 0 0)).run P w= .ok (.bool !p.isNone) w:=by
 have h:binOp .neq t (.slice p l c) (.slice none 0 0)=(do pure (.bool (!(<-Op.equal t (.slice p l c) (.slice none 0 0))))):=rfl;rw[h];simp only[jl,run_equal_slice_nil w t e p l c hu,jF,kv]
theorem afT {b off:Nat} {sh:List aQ} {code:I} {c:Nat} (h:P6 bl b off=some (sh,code,c)):off=0/\∃cap kind t,bl[b]?=some ([.rows sh (.const 0) code cap kind],t)/\0<kind/\∀ρ,cap.den ρ=(c:Int):=by
 unfold P6 at h;split at h
 ·rename_i hk o code' cap kind t aZ;split at h
  ·rename_i q ak;cases hc:(aP off 0&&dX 0 kind&&I.beq o (.const 0)&&decide (0<=q))with
   |false=>rw[hc]at h;cases h
   |true=>
    rw[hc]at h;simp only[cond_true,bj,eO]at h;obtain⟨rfl,rfl,rfl⟩:=h;simp only[bx,decide_eq_true_eq]at hc;obtain⟨⟨⟨c1,bQ⟩,cF⟩,dk⟩:=hc;have cF:=I.beq_eq cF;subst cF;exact⟨b1 c1,cap,kind,t,aZ,gU bQ,λρ=>by rw[I.k9 ak];omega⟩
  ·cases h
 ·cases h
theorem afP {nb:Nat} {sh:List aQ}:∀{k i:Nat} {n:Nat} {ρ:Env} {code:I},code.bN n->(∀row∈ao (code.den ρ),cM sh row)->(ao (code.den ρ)).length=i+k->
 aC S L (P2 code sh i k) n ρ λae n' l=>(∀a∈l,A.ok n' nb ae a)/\l.length=k*sh.length/\∀(x:Nat) (a:A),l[x]?=some a->(cj sh (ao (code.den ρ)))[i*sh.length+x]?=some (a.den ae m)
 |0,i,n,ρ,code,_,_,_=>aC.pure ⟨λ_ h=>by simp at h,by simp,λx a h=>by simp at h⟩
 |k+1,i,n,ρ,code,hs,lI,hl=>by
  unfold P2;have hlt:i<(ao (code.den ρ)).length:=by omega
  have kN:(ao (code.den ρ))[i]?=some (ao (code.den ρ))[i]:=pF hlt;generalize (ao (code.den ρ))[i]=row at kN;refine(XA (nb:=nb) (m:=m) (r:=sh) (j:=0) (i:= .const (i:Nat)) (code:=code) (lI row (fC kN)) hs (I.dF _ _) (by rw[I.bq,qm];exact kN) (λx c hx=>by rw[zd];exact hx)).bind λaN a6 l1 ia gk ⟨g1,g2,g3⟩=>?_;have az:code.den aN=code.den ρ:=I.cf gk hs;refine(afP (nb:=nb) (k:=k) (i:=i+1) (code:=code) (hs.mono ia) (by rw[az];exact lI) (by rw[az];omega)).bind λb5 gd l2 gm eb ⟨k1,k2,k3⟩=>aC.pure ⟨λa ha=>?_,by rw[gY,g2,k2,AF];omega,λx a hx=>?_⟩
  ·rcases List.mem_append.1 ha with ha|ha
   ·exact(g1 a ha).ext eb gm (bW _)
   ·exact k1 a ha
  ·rw[List.getElem?_append]at hx;split at hx
   ·rename_i hlt;have:=g3 x a hx;rw[zd]at this;rw[A.nW (g1 a (fC hx)) eb (λ_ _=>rfl)];exact Yi lI kN this
   ·rename_i td;have:=k3 (x-l1.length) a hx;rw[az,g2]at this;rw[g2]at td;rw[show i*sh.length+x=(i+1)*sh.length+(x-sh.length) by rw[AF];omega];exact this
theorem asC {α:Type} {p q r len cap:I} {f:Unit->M α} {R:Env->Nat->α->Prop} (qH:cap.den ρ<0->len.den ρ=0) (jV:0<=cap.den ρ->len.den ρ<=cap.den ρ) (h:(0<=p.den ρ/\p.den ρ<=q.den ρ/\q.den ρ<=r.den ρ/\r.den ρ<=cap.den ρ)->aC S L (f ()) n ρ R):
 aC S L (bind (cond (I.beq r len) (h8 78 [p,q,r,cap]) (h8 64 [p,q,r,len])) f) n ρ R:=by
 cases I.beq r len with
 |true=>exact jS λaf=>h af
 |false=>
  refine jS λaf=>h ?_;have af:0<=p.den ρ/\p.den ρ<=q.den ρ/\q.den ρ<=r.den ρ/\r.den ρ<=len.den ρ/\0<len.den ρ:=af;have hc:0<=cap.den ρ:=by
   rcases mE (cap.den ρ) 0 with h|h
   ·have:=qH h;omega
   ·exact h
  have:=jV hc;omega
theorem aFk {t:br} {b bG:Nat} {o ro len cap p q r:I} {lo:Option rf} {hi gx:rf} (hx:(A.sl b bG o ro len cap).ok n bl.length ρ) (aD:eW n bl.length ρ m tm a.tmps) (hp:Er tm (.const 0) lo=some p) (ak:uk (cp tm hi)=some q) (hr:uk (cp tm gx)=some r):
 aC S L (ac5 P t b bG o ro len cap p q r) n ρ (o7 w0 m bl n ρ λw=>(uL t ((A.sl b bG o ro len cap).den ρ m) (lo.map a.eval) (some (a.eval hi)) (some (a.eval gx))).run P w):=by
 unfold ac5;cases h1:kr P t with
 |none=>exact aC.fail
 |some e=>
  cases h2:gT P e with
  |none=>simp only[h2];exact aC.fail
  |some s=>
   simp only[h2];refine eM λhs=>asC (λh=>hx.2.2.2.2.1 h) (λh=>hx.2.2.2.2.2 h) λaf=>?_;have hs:=b1 hs;subst hs;obtain⟨k1,k2,k3,k4⟩:=af;have oC:=hx;obtain⟨aj,⟨ah,au,de,iK⟩,⟨jz,mc,me,mf⟩,⟨mB,mb⟩,hW,jy⟩:=hx;have wV:=Xk hp aD;have Ig:p.bN n:=by rcases wV with⟨_,rfl⟩|⟨_,_,h⟩;exact I.dF _ _;exact h
   obtain⟨ays,zN,KZ⟩:=Hx (m:=m) (bl:=bl) ak (cS aD hi).2 (cS aD hi).1;obtain⟨aNB,E5,ana⟩:=Hx (m:=m) (bl:=bl) hr (cS aD gx).2 (cS aD gx).1;obtain⟨ptr,az,aI,cn⟩:=xH (m:=m) oC;have hc:¬(cap.den ρ<0):=by omega
   have jV:=jy (by omega);have QI:=az;rw[if_neg hc,cn (by omega)]at QI;have hf:bM 33 ([ro,p,r].map (·.den ρ))=(if p.den ρ=r.den ρ then ro.den ρ else ro.den ρ+p.den ρ):=rfl;refine(iQ (by rw[hf];split<;>omega) (by rw[hf];split<;>omega)).bind λaN a6 KV hn ha ⟨g1,g2⟩=>aC.pure ?_;rw[hf]at g2;have b7:=I.cf ha ah;have a2:=I.cf ha KZ;have a3:=I.cf ha Ig;have a4:=I.cf ha ana
   refine⟨⟨aj,⟨ah.mono hn,g1,I.xE (KZ.mono hn) (Ig.mono hn),I.xE (ana.mono hn) (Ig.mono hn)⟩,?_⟩,_,rfl,λw _=>?_⟩
   ·rw[I.lZ,I.lZ,b7,a2,a3,a4,g2];refine⟨⟨jz,?_,by omega,by omega⟩,⟨by omega,?_⟩,λh=>by omega,λh=>by omega⟩
    ·split<;>omega
    ·split<;>omega
   ·rw[QI];have ua:(o3 true (len.den ρ).toNat (cap.den ρ).toNat (lo.map a.eval) (some (a.eval hi)) (some (a.eval gx))).run P w= .ok ((p.den ρ).toNat,(q.den ρ).toNat,(r.den ρ).toNat) w:=by
     rw[zN,E5];rcases wV with⟨rfl,rfl⟩|⟨ayr,E4,_⟩
     ·simp[o3,I.bq,xI (P:=P) (y:=(cap.den ρ).toNat) (by omega:0<=r.den ρ) (by omega),xI (P:=P) (y:=(r.den ρ).toNat) (by omega:0<=q.den ρ) (by omega)]
     ·rw[E4];simp[o3,xI (P:=P) (y:=(cap.den ρ).toNat) (by omega:0<=r.den ρ) (by omega),xI (P:=P) (y:=(r.den ρ).toNat) (by omega:0<=q.den ρ) (by omega),xI (P:=P) (y:=(q.den ρ).toNat) k1 (by omega)]
    have iC:(q.den ρ).toNat-(p.den ρ).toNat=(q.den ρ-p.den ρ).toNat:=by omega
    have hC:(r.den ρ).toNat-(p.den ρ).toNat=(r.den ρ-p.den ρ).toNat:=by omega
    simp only[uL,jl,gJ (jg h1),jF,aec,ua,kq h2,kv,iC,hC,W.den,A.den,I.lZ,b7,a2,a3,a4,g2];rw[if_neg (show ¬(r.den ρ-p.den ρ<0) by omega)];by_cases Nw:p.den ρ=r.den ρ
    ·rw[if_pos Nw,if_pos (by omega)]
    ·rw[if_neg Nw,if_neg (by omega)];have wJ:(ro.den ρ+p.den ρ).toNat=(ro.den ρ).toNat+(p.den ρ).toNat:=by omega
     rw[wJ,AH,<-Iz];simp[kX]
theorem aEv (hb:dj n bl.length ρ bl) (hex:∃w,Mem w0 ρ m bl w) (aD:eW n bl.length ρ m tm a.tmps) (o:Oper) {q:M V} (ak:Tq P bl tm o=some q):aC S L q n ρ (o6 w0 m bl n ρ P o a):=by
 obtain⟨BS,yz⟩:=hex;unfold Tq at ak;split at ak
 ·rename_i t x bp h;have hx:=cS aD x;have hi:=cS aD bp;split at ak
  ·rename_i b off k i hv ZT;rw[hv]at hx;rw[ZT]at hi;split at ak
   ·rename_i sh code c len e G7 JF;split at ak
    ·rename_i s hs;cases hc:(aP s sh.length&&aP len c)with
     |false=>rw[hc]at ak;cases ak
     |true=>
      rw[hc]at ak;simp only[cond_true,bj]at ak;subst ak;simp only[bx]at hc;have bQ:=b1 hc.2;subst bQ;obtain⟨rfl,cap,kind,dQ,aZ,af,dC⟩:=afT G7;refine jS λRj=>aC.pure ?_;simp only[du,gQ,ay,I.bq]at Rj;have dN:a.eval x= .pointer (some ⟨m b,0,none⟩):=hx.2;have qM:a.eval bp= .int k (i.l.den ρ):=hi.2;have Zm:b0.ok n ρ i:=hi.1;have rK:b<bl.length:=hx.1;refine⟨⟨rK,⟨I.dF _ _,Zm.1⟩,by rw[I.bq];omega,Rj.1⟩,_,rfl,λw _=> .inl ?_⟩;have c1:i.l.den ρ<((len:Nat):Int):=Rj.2;simp[execOp,h,dN,qM,xQ,asIntOf,gJ (zn JF),o2,Rj.1,c1,kq hs,kX,W.den,A.den,I.bq]
    ·cases ak
   ·cases ak
  ·cases ak
 ·rename_i t x h;have hx:=cS aD x;split at ak
  ·rename_i b off hv;rw[hv]at hx;split at ak
   ·rename_i sh code c k G7 rE hs;cases hc:(aP k (c*sh.length))with
    |false=>rw[hc]at ak;cases ak
    |true=>
     rw[hc]at ak;simp only[cond_true,bj]at ak;subst ak;have hc:=b1 hc;subst hc;obtain⟨rfl,cap,kind,dQ,aZ,af,dC⟩:=afT G7;refine jS λRk=>?_;simp only[du,gQ,ay,I.bq]at Rk;have hD:(A.rows sh (.const 0) code cap kind).ok n bl.length ρ:=hb _ (fC aZ) _ (by simp);have mY:∀w,Mem w0 ρ m bl w->∃cells t' fz,w.heap[m b]?=some (.cells cells t' fz)/\o8 cells 0 sh (ao (code.den ρ)):=λw hw=>by
      obtain⟨_,cells,ma,fz,g1,⟨g2,g3⟩,_⟩:=(hw.rws b sh (.const 0) code cap kind dQ aZ (by omega)).2 (by rw[dC];omega);rw[I.bq]at g3;exact⟨cells,ma,fz,g1,g3⟩
     obtain⟨_,_,_,_,awM⟩:=mY BS yz;refine(afP (nb:=bl.length) (m:=m) (k:=c) (i:=0) hD.1.2.1 awM.1 (by omega)).bind λaN a6 l hn ha ⟨g1,g2,g3⟩=>aC.pure ⟨g1,_,rfl,λw hw=> .inl ?_⟩;obtain⟨cells,ma,fz,bg,b3⟩:=mY w hw;have hl:=Pp (P:=P) w ⟨m b,0,none⟩ (l.map (A.den aN m)) λx v aM=>by
      rw[kX];rw[se]at aM;cases ak:l[x]? with
      |none=>simp[ak]at aM
      |some y=>
       simp only[ak,Az,bj]at aM;subst aM;have h3:=g3 x y ak;rw[Nat.zero_mul,zd]at h3;simp only[nK,bg,xR,xS,if_false];obtain⟨_,pre,post,cG,cC⟩:=b3;have rJ:pre=[]:=zb cC;subst rJ;have hlt:=(List.getElem?_eq_some_iff.1 h3).1;rw[<-Px,cG,List.nil_append,AA (by omega),zd];exact h3
     simp only[pG,g2]at hl;have dN:a.eval x= .pointer (some ⟨m b,0,none⟩):=hx.2;simp[execOp,h,dN,pH,o2,loadVar,tz rE,kq hs,hl,W.den]
   ·cases ak
  ·cases ak
 ·rename_i t x lo hi gx h;have hx:=cS aD x;split at ak
  ·rename_i b bG off ro len cap hv;rw[hv]at hx;have dN:a.eval x=(A.sl b bG off ro len cap).den ρ m:=hx.2;have he:execOp a.eval o=(do pure (mh (<-uL t ((A.sl b bG off ro len cap).den ρ m) (lo.map a.eval) (some (a.eval hi)) (some (a.eval gx))))):=by simp only[execOp,h,dN];rfl
   split at ak
   ·rename_i p fA r hp zN hr;cases ak;exact(aFk hx.1 aD hp zN hr).mono λ_ _ _ _ _ ak=>o6.of_run he ak
   ·cases ak
  ·cases ak
 ·rename_i c h;split at ak
  ·rename_i hc;split at ak
   ·rename_i x t hE oB;have hx:=cS aD x;split at ak
    ·rename_i e hv hs;cases ak;rw[hv]at hx;have dN:a.eval x= .slice none 0 0:=hx.2;have b7:c.args=#[x]:=by rw[<-lO (xs:=c.args),hE]
     have a2:c.argTypes=#[t]:=by rw[<-lO (xs:=c.argTypes),oB]
     refine aC.pure ⟨b0.qD _ _ _,_,rfl,λw _=> .inl ?_⟩;simp[execOp,h,resolve,hc,b7,a2,dN,invoke,builtin,LM,gJ (jg hs),goInt,W.den,A.den,b0.const,I.bq]
    ·cases ak
   ·cases ak
  ·cases ak
 ·cases ak
theorem acs {cal:gL} (dy:iM S P gl w0 cal) (hb:dj n bl.length ρ bl) (hg:gM gl w0) (hex:∃w,Mem w0 ρ m bl w) (aD:eW n bl.length ρ m tm a.tmps) (o:Oper):
 aC S L (Dv P cal gl bl tm o) n ρ (o6 w0 m bl n ρ P o a):=by
 unfold Dv;cases ak:acE P bl tm o with
 |none=>
  simp only;cases wU:Tq P bl tm o with
  |some q=>exact aEv hb hex aD o wU
  |none=>
  simp only;cases hd:QH cal bl tm o with
  |none=>exact aEb dy hb hg hex aD o
  |some q=>
   simp only;unfold QH at hd;split at hd
   ·rename_i c aA;split at hd
    ·rename_i x hc;split at hd
     ·rename_i f QP QQ hv;cases hz:(aP QP.size 0&&aP QQ.size 0)with
      |false=>rw[hz]at hd;cases hd
      |true=>
       rw[hz]at hd;simp only[cond_true,Option.map_eq_some_iff]at hd;obtain⟨g,Zh,rfl⟩:=hd;simp only[bx,Nat.beq_eq]at hz;have gE:QP=#[]:=D6 hz.1;have az:QQ=#[]:=D6 hz.2;subst gE az;have hx:=cS aD (.tmp x);rw[hv]at hx;have dN:a.eval (.tmp x)= .func (.func f) #[] #[]:=hx.2;have tc:∀v∈c.args.toList.map (cp tm),V.ok n bl.length ρ v:=λv hv=>by
        obtain⟨x,_,rfl⟩:=List.mem_map.1 hv;exact(cS aD x).1
       have he:execOp a.eval o=callFunc f (c.args.map a.eval):=by
        simp only[execOp,aA,resolve,hc,dN,apq];simp[invoke,bind_pure_comp]
       refine(dy f g Zh L n ρ m bl _ _ hb hex tc (PM (xs:=c.args.toList) aD)).mono λaN a6 v _ _ ⟨bg,val,b3,cy⟩=>⟨bg,val,b3,λw hw=>?_⟩;have ha:(c.args.toList.map a.eval).toArray=c.args.map a.eval:=by
        rw[<-AG]
       have et:=cy w hw;rw[ha]at et;rcases et with et|⟨et,j8⟩
       ·exact .inl (by rw[he];exact et)
       ·exact .inr ⟨f,_,by rw[he];exact et,j8⟩
     ·cases hd
    ·cases hd
   ·cases hd
 |some q=>
  simp only;unfold acE at ak;split at ak
  case h_1 t x h=>
   have hx:=cS aD x;split at ak
   ·rename_i b bG off i j hv;cases ak;rw[hv]at hx;have dN:a.eval x=(A.ep b bG off i j).den ρ m:=hx.2;have he:execOp a.eval o=(do pure (mh (<-pH t ((A.ep b bG off i j).den ρ m)))):=by simp only[execOp,h,dN]
    exact(atv hb hex t hx.1).mono λ_ _ _ _ _ ak=>o6.of_run he ak
   ·rename_i b off bp hv;split at ak
    ·rename_i hu;cases ak;rw[hv]at hx;have dN:a.eval x=(A.q1 b off bp).den ρ m:=hx.2;have he:execOp a.eval o=(do pure (mh (<-pH t ((A.q1 b off bp).den ρ m)))):=by simp only[execOp,h,dN]
     exact(aE7 hb hu b off hx.1.2.1).mono λ_ _ _ _ _ ak=>o6.of_run he ak
    ·cases ak
   ·cases ak
  case h_2 x h=>
   have hx:=cS aD x;split at ak
   ·rename_i b bG off i j hv;cases ak;rw[hv]at hx;refine aC.pure ⟨hx.1,_,rfl,λw _=> .inl ?_⟩;have dN:=hx.2;simp only[V.rel,W.den,A.den]at dN;simp[execOp,h,dN,W.den,A.den]
   ·cases ak
  case h_3 t x bp h=>
   have hx:=cS aD x;have hi:=cS aD bp;split at ak
   ·rename_i b bG off ro len cap k i hv ZT;cases ak;rw[hv]at hx;rw[ZT]at hi;have dN:a.eval x=(A.sl b bG off ro len cap).den ρ m:=hx.2;have qM:a.eval bp= .int k (i.l.den ρ):=hi.2;have he:execOp a.eval o=(do pure (mh (<-xQ t ((A.sl b bG off ro len cap).den ρ m) (.int k (i.l.den ρ))))):=by simp only[execOp,h,dN,qM]
    have Zm:b0.ok n ρ i:=hi.1;exact(aFi hx.1 Zm.1).mono λ_ _ _ _ _ ak=>o6.of_run he ak
   ·cases ak
  case h_4 t x h=>
   have hx:=cS aD x;split at ak
   ·rename_i b bG off ro len cap k e hv ha;cases ak;rw[hv]at hx;refine eM λhc=>jS λaf=>?_;have hc:0<k:=gU hc;simp only[du,gQ,I.bq,ay]at af;have cb:A.ok n bl.length ρ (.sl b bG off ro len cap):=hx.1;obtain⟨h1,⟨h2,h3,h4,h5⟩,h6⟩:=cb;have dC:¬cap.den ρ<0:=λRt=>by have:=h6.2.2.1 Rt;omega
    refine aC.pure ⟨⟨h1,⟨h2,h3⟩,h6.1.1,h6.1.2.1⟩,_,rfl,λw _=> .inl ?_⟩;have dN:a.eval x=(A.sl b bG off ro len cap).den ρ m:=hx.2;have hle:¬(len.den ρ).toNat<k:=by omega
    simp only[execOp,h];rw[dN];simp only[A.den,if_neg dC];simp[apr,gJ (zn ha),hle,W.den,A.den]
   ·cases ak
  case h_5 s x f h=>
   have hx:=cS aD x;split at ak
   ·rename_i b bG off i j fd hv hf;rw[hv]at hx;obtain⟨fs,hu,Ng⟩:=Yc hf;split at ak
    ·rename_i k hs;cases ak;refine aC.pure ⟨hx.1,_,rfl,λw _=> .inl ?_⟩;have dN:=hx.2;simp only[V.rel,W.den,A.den]at dN;simp[execOp,h,dN,apg,gJ hu,Ng,o2,fieldPlace,kq hs,kX,W.den,A.den,Iz]
    ·cases ak
   ·cases ak
  case h_6 t x lo hi h=>
   have hx:=cS aD x;split at ak
   ·rename_i b bG off ro len cap hv;rw[hv]at hx;have dN:a.eval x=(A.sl b bG off ro len cap).den ρ m:=hx.2;have he:execOp a.eval o=(do pure (mh (<-uL t ((A.sl b bG off ro len cap).den ρ m) (lo.map a.eval) (hi.map a.eval) none))):=by simp only[execOp,h,dN];rfl
    split at ak
    ·rename_i p fA hp zN;cases ak;exact(aFl hx.1 aD hp zN).mono λ_ _ _ _ _ ak=>o6.of_run he ak
    ·cases ak
   ·cases ak
  case h_7 s d x h=>
   have hx:=cS aD x;split at ak
   ·rename_i b bG off ro len cap e hv hs hd;split at ak
    ·rename_i avN;cases ak;rw[hv]at hx;have dN:a.eval x=(A.sl b bG off ro len cap).den ρ m:=hx.2;have he:execOp a.eval o=(do pure (mh (<-convert s d ((A.sl b bG off ro len cap).den ρ m)))):=by simp only[execOp,h,dN]
     exact(aFj hb hex (jg hs) avN hd hx.1).mono λ_ _ _ _ _ ak=>o6.of_run he ak
    ·cases ak
   ·cases ak
  case h_8 c h=>
   split at ak
   ·rename_i hc;split at ak
    ·rename_i x t hE oB;have hx:=cS aD x;split at ak
     ·rename_i b bG off ro len cap e hv hs;cases ak;rw[hv]at hx;have dN:a.eval x=(A.sl b bG off ro len cap).den ρ m:=hx.2;have rK:(A.sl b bG off ro len cap).ok n bl.length ρ:=hx.1;obtain⟨ptr,az,_,_⟩:=xH (m:=m) rK;rw[az]at dN;obtain⟨aj,⟨ah,au,de,iK⟩,⟨jz,mc,me,mf⟩,_⟩:=rK;have b7:c.args=#[x]:=by rw[<-lO (xs:=c.args),hE]
      have a2:c.argTypes=#[t]:=by rw[<-lO (xs:=c.argTypes),oB]
      refine aC.pure ⟨⟨de,me,mf⟩,_,rfl,λw _=> .inl ?_⟩;have iC:((len.den ρ).toNat:Int)=len.den ρ:=by omega
      simp[-aJF,execOp,h,resolve,hc,b7,a2,dN,invoke,builtin,LM,gJ (jg hs),goInt,W.den,A.den,iC]
     ·cases ak
    ·cases ak
   ·rename_i hc;split at ak
    ·rename_i x y hE;have hx:=cS aD x;have hy:=cS aD y;split at ak
     ·rename_i k p bI fA uj mZ;by_cases qN:k=bI
      ·subst qN;simp only[decide_true,cond_true]at ak;cases ak;rw[uj]at hx;rw[mZ]at hy;have az:a.eval x= .int k (p.l.den ρ):=hx.2;have aI:a.eval y= .int k (fA.l.den ρ):=hy.2;have b7:c.args=#[x,y]:=by rw[<-lO (xs:=c.args),hE]
       have he:execOp a.eval o=(do pure (mh (<-aej c.argTypes o.type #[.int k (p.l.den ρ),.int k (fA.l.den ρ)]))):=by
        simp[execOp,h,resolve,hc,b7,az,aI,invoke,builtin]
       exact(ay9 hx.1 hy.1).mono λ_ _ _ _ _ ak=>o6.of_run he ak
      ·simp[qN]at ak
     ·cases ak
    ·cases ak
   ·rename_i hc;split at ak
    ·rename_i x y hE;have hx:=cS aD x;have hy:=cS aD y;split at ak
     ·rename_i k p bI fA uj mZ;by_cases qN:k=bI
      ·subst qN;simp only[decide_true,cond_true]at ak;cases ak;rw[uj]at hx;rw[mZ]at hy;have az:a.eval x= .int k (p.l.den ρ):=hx.2;have aI:a.eval y= .int k (fA.l.den ρ):=hy.2;have b7:c.args=#[x,y]:=by rw[<-lO (xs:=c.args),hE]
       have he:execOp a.eval o=(do pure (mh (<-aek c.argTypes o.type #[.int k (p.l.den ρ),.int k (fA.l.den ρ)]))):=by
        simp[execOp,h,resolve,hc,b7,az,aI,invoke,builtin]
       exact(ay8 hx.1 hy.1).mono λ_ _ _ _ _ ak=>o6.of_run he ak
      ·simp[qN]at ak
     ·cases ak
    ·cases ak
   ·cases ak
  case h_9 op t x y eJ h=>
   have hx:=cS aD x;have hy:=cS aD y;split at ak
   ·rename_i e b bG cL ro len cap hs uj mZ;rw[uj]at hx;rw[mZ]at hy;have dN:a.eval x=(A.sl b bG cL ro len cap).den ρ m:=hx.2;have zS:a.eval y= .slice none 0 0:=hy.2;have rK:(A.sl b bG cL ro len cap).ok n bl.length ρ:=hx.1;obtain⟨ptr,az,aI,cn⟩:=xH (m:=m) rK;rw[az]at dN;obtain⟨aj,⟨ah,au,de,iK⟩,_,_,hW,_⟩:=rK;have has:ay 53 ([cap,len].map (·.den ρ)):=hW;have hp:ptr.isNone=decide (cap.den ρ<0):=by
     rcases mE (cap.den ρ) 0 with h0|h0
     ·rw[aI h0,decide_eq_true h0];rfl
     ·rw[cn h0,decide_eq_false (by omega)];rfl
    split at ak
    ·cases ak;refine(P7 has).bind λaN a6 _ _ _ ⟨ti,hn⟩=>?_;have ti:=ti.symm;have hn:=hn.symm;subst ti hn;refine aC.pure ⟨⟨iK,I.dF _ _⟩,_,rfl,λw _=> .inl ?_⟩;have Ni:eqGuard .eql t x y (.slice ptr (len.den ρ).toNat (if cap.den ρ<0 then 0 else(cap.den ρ).toNat)) (.slice none 0 0)=Uw ():=rfl;have he:execOp a.eval o=(do pure (mh (<-binOp .eql t (.slice ptr (len.den ρ).toNat (if cap.den ρ<0 then 0 else(cap.den ρ).toNat)) (.slice none 0 0)))):=by
      simp only[execOp,h,dN,zS,Ni,pure_bind]
     simp only[he,jl,aEz w (jg hs),jF,kv,hp];simp[W.den,A.den,bH.den,I.bq]
    ·cases ak;refine(P7 has).bind λaN a6 _ _ _ ⟨ti,hn⟩=>?_;have ti:=ti.symm;have hn:=hn.symm;subst ti hn;refine aC.pure ⟨bH.BL ⟨iK,I.dF _ _⟩,_,rfl,λw _=> .inl ?_⟩;have Ni:eqGuard .neq t x y (.slice ptr (len.den ρ).toNat (if cap.den ρ<0 then 0 else(cap.den ρ).toNat)) (.slice none 0 0)=Uw ():=rfl;have he:execOp a.eval o=(do pure (mh (<-binOp .neq t (.slice ptr (len.den ρ).toNat (if cap.den ρ<0 then 0 else(cap.den ρ).toNat)) (.slice none 0 0)))):=by
      simp only[execOp,h,dN,zS,Ni,pure_bind]
     simp only[he,jl,aEB w (jg hs),jF,kv,hp];simp[W.den,A.den,bH.den,bH.A0,I.bq]
    ·cases ak
   ·cases ak
  case h_10=>cases ak
end
end Go.b9
namespace Go.b9
def ahy (ops:Array Oper) (n:Nat):Bool:=
 (ht n).all λi=>match ops[i]? with
   |none=>false
   |some m6=>(m6.after.all λe=> !aee .any e||dX e.on i)&&(match m6.op with| .select .. =>false|_=>true)&&
    (ht n).all λj=>aP i j||match ops[j]? with
      |none=>false
      |some e5=>match e5.dst with
       |none=>true
       |some d=>(!(m6.looksAt ops).contains d||D5 .any ops i j||D5 .any ops j i)&& !(match m6.dst with|some GF=>aP GF d|none=>false)
def Zb (size n:Nat):Array Bool:=((ht size).map λi=>dX i n).toArray
def Js (o:Oper):Bool:=match o.op with| .move _| .assign _| .extract _ _=>true|_=>false
def zD (ops:Array Oper) (i:Nat):Bool:=match ops[i]? with|some o=>Js o|none=>false
def iB (o:Oper):Bool:=match o.op,o.guard,o.dst with| .alloc _,none,some _=>true|_,_,_=>false
def wz (ops:Array Oper) (i:Nat):Bool:=match ops[i]? with|some o=>iB o|none=>false
def alN (ops:Array Oper) (n:Nat):Bool:=
 (ht n).all λi=> !wz ops i||match ops[i]? with
   |some m6=>match m6.dst with
    |some d=>(ht n).all λj=>match ops[j]? with|some e5=> !(e5.looksAt ops).contains d|none=>true
    |none=>false
   |none=>false
def anf (ops:Array Oper) (n:Nat):Bool:=
 (ht n).all λi=>zD ops i||(ht (n+1)).any λj=>dX i j&&D5 .any ops j i&&(aP j n|| !zD ops j)
def aus (ops:Array Oper) (n:Nat):Bool:=
 (ht n).all λi=> !zD ops i||(ht ops.size).all λj=>dX j n||D5 .any ops j i||(match ops[i]?,ops[j]? with|some m6,some e5=>m6.apart ops e5|_,_=>false)
def K4 (ops:Array Oper) (n:Nat):Bool:=
 Ut ops&&aus ops n&&alN ops n&&ahy ops n&&cO n ops.size&&(aP n ops.size||(anf ops n&&aJu .any ops n))&&aJv .any ops (ops.size-n) n (Zb ops.size n)
def calm (Q:Exit->Act->aG->Prop):Exit->Act->aG->Prop
 | .panic _,_,_=>False
 |e,a,w=>Q e a w
theorem uR {a b:Nat} (h:dX a b=true):a<b:=gU h
theorem ayZ {a b:Nat} (h:a<b):dX a b=true:=Nat.ble_eq_true_of_le h
section
variable {P:b4} {ops:Array Oper} {C:aG->Prop}
def AR (P:b4) (ops:Array Oper) (C:aG->Prop) (o:Oper) (v:aW) (a:Act):Prop:=
 (Cl o (yielded ops a.tmps)=true/\∀w,C w->Ga P o a w v)∨(Cl o (yielded ops a.tmps)=false/\v=undef)
def F8 (P:b4) (ops:Array Oper) (C:aG->Prop) (F:Act->Prop):List Oper->Act->Prop
 |[],a=>F a
 |o::r,a=>cond (iB o) (F8 P ops C F r a) (∃v,AR P ops C o v a/\F8 P ops C F r (a.put o.dst v))
theorem acu {Q:Act->Prop}:∀(l:List Oper) (a:Act),F8 P ops C Q l a->∃(as:Nat->Act) (vs:Nat->aW),as 0=a/\(∀i o,l[i]?=some o->(iB o=false->AR P ops C o (vs i) (as i)/\as (i+1)=(as i).put o.dst (vs i))/\(iB o=true->as (i+1)=as i))/\Q (as l.length)
 |[],a,h=>⟨λ_=>a,λ_=>undef,rfl,λi o hi=>by simp at hi,h⟩
 |o::r,a,h=>by
  unfold F8 at h;cases gG:iB o with
  |true=>
   simp only[gG,cond_true]at h;obtain⟨as,vs,gE,hs,wP⟩:=acu r _ h;refine⟨λi=>match i with|0=>a|i+1=>as i,λi=>match i with|0=>undef|i+1=>vs i,rfl,λi cL hi=>?_,wP⟩;cases i with
   |zero=>
    simp at hi;subst hi;exact⟨λh1=>by(rw[gG]at h1;cases h1),λ_=>gE⟩
   |succ i=>
    simp at hi;exact hs i cL hi
  |false=>
   simp only[gG,cond_false]at h;obtain⟨v,hy,h2⟩:=h;obtain⟨as,vs,gE,hs,wP⟩:=acu r _ h2;refine⟨λi=>match i with|0=>a|i+1=>as i,λi=>match i with|0=>v|i+1=>vs i,rfl,λi cL hi=>?_,wP⟩;cases i with
   |zero=>
    simp at hi;subst hi;exact⟨λ_=>⟨hy,gE⟩,λh1=>by(rw[gG]at h1;cases h1)⟩
   |succ i=>
    simp at hi;exact hs i cL hi
theorem an4 {Q:Exit->Act->aG->Prop} {md:aps}:∀(f:Nat) (listed:Array Bool) (a:Act) (w:aG),wpAny P md ops Q f listed a w->wpAny P md ops Q (f+1) listed a w
 |0,_,_,_,h=>⟨λ_=>h.2,λi hi=>by rw[h.1]at hi;cases hi⟩
 |f+1,_,_,_,h=>⟨h.1,λi hi=>wpOp_mono (λdT w' bm=>an4 f _ dT w' bm) (h.2 i hi)⟩
theorem an3 {Q:Exit->Act->aG->Prop} {md:aps} {listed:Array Bool} {a:Act} {w:aG} {f ta:Nat} (h:wpAny P md ops Q f listed a w) (hle:f<=ta):wpAny P md ops Q ta listed a w:=by
 induction hle with
 |refl=>exact h
 |step _ ih=>exact an4 _ _ _ _ ih
theorem ahm {α:Type} {p q:α->Bool}:∀{l:List α},(∀x∈l,q x=true->p x=true)->(∃x∈l,p x=true/\q x=false)->l.countP q<l.countP p
 |[],_,⟨x,hx,_⟩=>by simp at hx
 |y::r,h1,⟨x,hx,h2,h3⟩=>by
  have hle:r.countP q<=r.countP p:=List.countP_mono_left λz hz=>h1 z (eI _ hz);rw[aJw,aJw];rcases List.mem_cons.1 hx with rfl|hx
  ·simp[h2,h3];omega
  ·have ih:=ahm (l:=r) (λz hz=>h1 z (eI _ hz)) ⟨x,hx,h2,h3⟩;have:=h1 y (by simp);cases ak:q y<;>cases hp:p y<;>simp[ak,hp]at this⊢<;>omega
theorem A1 {n i:Nat} {m6:Oper} (h:ahy ops n=true) (hi:i<n) (aA:ops[i]?=some m6):
 (∀e∈m6.after,aee .any e=true->e.on<i)/\(∀cs b,m6.op≠ .select cs b)/\
 ∀j e5 d,j<n->j≠i->ops[j]?=some e5->e5.dst=some d->m6.dst≠some d/\(d∈m6.looksAt ops->D5 .any ops i j=true∨D5 .any ops j i=true):=by
 have h1:=List.all_eq_true.1 h i (List.mem_range.2 hi);simp only[aA,bx]at h1;obtain⟨⟨h1,h2⟩,h3⟩:=h1;refine⟨λe he hb=>?_,λcs b hc=>by simp[hc]at h2,λj e5 d aM dA yu hd=>?_⟩
 ·have:=Array.all_eq_true_iff_forall_mem.1 h1 e he;simp only[hb,cU,IG]at this;exact uR this
 ·have h4:=List.all_eq_true.1 h3 j (List.mem_range.2 aM);have h5:aP i j=false:=by cases hb:aP i j with|false=>rfl|true=>exact absurd (b1 hb).symm dA
  simp only[h5,IG,yu,hd,bx]at h4;refine⟨λavK=>?_,λmY=>?_⟩
  ·have:=h4.2;simp[avK]at this
  ·have:=h4.1;have hc:(m6.looksAt ops).contains d=true:=by simpa using mY
   simp only[hc,cU,IG,D3]at this;exact this
theorem arb {a b:Act} (h1:a.defers=b.defers) (h2:∀t:Nat,a.tmps[t]?=b.tmps[t]?):a=b:=by
 cases a;cases b;simp only at h1 h2;rw[h1,aJx h2]
theorem BD {a:Act} {o:Option Tmp} {v:aW} {t:Nat} (h:o≠some t):(a.put o v).tmps[t]?=a.tmps[t]?:=by
 cases o with
 |none=>rfl
 |some d=>simp only[LK];rw[aJl (λe=>h (by rw[e]))]
theorem put_defers (a:Act) (o:Option Tmp) (v:aW):(a.put o v).defers=a.defers:=by cases o<;>rfl
theorem HT (a:Act) (o:Option Tmp) (v:aW):(a.put o v).tmps.size=a.tmps.size:=by cases o<;>simp[LK]
theorem auq {o:Oper} {a:Act} {v:aW} {w:aG} (hf:Js o=true) (jL:C w) (h:AR P ops C o v a):Yields P ops o v a:=by
 rcases h with⟨h1,h2⟩|h
 ·refine .inl ⟨h1,λw'=>?_⟩;have h3:=h2 w jL;unfold Ga at h3;unfold Js at hf;split at hf
  ·rename_i x aA;simp only[execOp,aA,kv]at h3⊢;rcases h3 with h3|⟨f,args,h3,_⟩
   ·simp only[aJy,aJz,and_true]at h3;rw[h3]
   ·simp at h3
  ·rename_i x aA;simp only[execOp,aA,kv]at h3⊢;rcases h3 with h3|⟨f,args,h3,_⟩
   ·simp only[aJy,aJz,and_true]at h3;rw[h3]
   ·simp at h3
  ·rename_i x i aA;simp only[execOp,aA,jl]at h3⊢;unfold apf at h3⊢;cases hx:a.eval x<;>simp only[hx]at h3⊢<;>try(simp[aJA]at h3;done)
   rename_i vs;cases hv:vs[i]? with
   |none=>simp[hv,aJA]at h3
   |some u=>simp[hv]at h3;simp[h3]
  ·cases hf
 ·exact .inr h
theorem aFe {n:Nat} {listed:Array Bool} (hs:anf ops n=true) (hc:aJu .any ops n=true) (hn:n<ops.size) (inv:HeadInv .any ops n listed):
 ∀(d i:Nat),n-i=d->i<n->zD ops i=false->listed.getD i false=false->∀t,n<=t->t∉ze .any ops listed:=by
 intro d;induction d using Nat.strongRecOn with
 |_ d ih=>
  intro i hd hi lG wW t aD hr;obtain⟨_,al4,ZD,jM⟩:=mem_ready.1 hr;have aw3:t<ops.size:=(Array.getElem?_eq_some_iff.1 ZD).1;by_cases aw4:t=n
  ·subst aw4;have h1:=List.all_eq_true.1 hs i (List.mem_range.2 hi);simp only[lG,IG]at h1;obtain⟨j,aM,yq⟩:=List.any_eq_true.1 h1;simp only[bx,D3]at yq;obtain⟨⟨ajp,Np⟩,Zn⟩:=yq;have ajp:=uR ajp;obtain⟨e5,yu,e,he,hb,Rv⟩:=IH Np;have aM8:j<=t:=by have:=List.mem_range.1 aM;omega
   by_cases ajs:j=t
   ·subst ajs;have:e5=al4:=jC (yu.symm.trans ZD);subst this;have h2:=jM e he hb;rw[Rv,wW]at h2;cases h2
   ·cases hl:listed.getD j false with
    |true=>
     have h2:=inv.closed j e5 yu hl e he hb;rw[Rv,wW]at h2;cases h2
    |false=>
     have avU:zD ops j=false:=by
      rcases Zn with h3|h3
      ·exact absurd (b1 h3) ajs
      ·simpa using h3
     exact ih (t-j) (by omega) j rfl (by omega) avU hl t (bW _) hr
  ·have h1:=List.all_eq_true.1 hc t (List.mem_range.2 aw3);simp only[D3,decide_eq_true_eq]at h1;rcases h1 with h1|h1
   ·omega
   ·obtain⟨cL,kl,e,he,hb,Rv⟩:=IH h1;have:cL=al4:=jC (kl.symm.trans ZD);subst this;have h2:=jM e he hb;rw[Rv,II (inv.tail (t-1) (by omega) (by omega))]at h2;cases h2
theorem aup {o:Oper} (h:Js o=true):iB o=false:=by
 unfold Js at h;unfold iB;cases aA:o.op<;>simp only[aA]at h⊢<;>cases h
theorem azm {n i j:Nat} {m6 e5:Oper} {d:Tmp} (h:alN ops n=true) (hi:i<n) (aA:ops[i]?=some m6) (gG:iB m6=true) (hd:m6.dst=some d) (aM:j<n) (yu:ops[j]?=some e5):d∉e5.looksAt ops:=by
 have h1:=List.all_eq_true.1 h i (List.mem_range.2 hi);have ha:wz ops i=true:=by simp[wz,aA,gG]
 simp only[ha,cU,IG,aA,hd]at h1;have h2:=List.all_eq_true.1 h1 j (List.mem_range.2 aM);simp only[yu,cI]at h2;intro hm;have:(e5.looksAt ops).contains d=true:=by simpa using hm
 rw[this]at h2;cases h2
theorem aH8 {Q:Exit->Act->aG->Prop} {o:Oper} {i:Nat} {v:aW} {a:Act} {w:aG} {K:Act->aG->Prop} (hi:ops[i]?=some o) (jL:C w) (hy:AR P ops C o v a) (h:∀w',w.Extends w'->K (a.put o.dst v) w'):wpOp P ops Q i K a w:=by
 unfold wpOp;simp only[hi];rcases hy with⟨h1,h2⟩|⟨h1,h2⟩
 ·rw[if_pos h1];refine .inl ?_;unfold o4;rcases h2 w jL with h3|⟨f,args,h3,h4⟩
  ·rw[h3];exact h w (sW w)
  ·rw[h3];refine h4.mono λe sS ⟨he,hx⟩=>?_;subst he;exact h sS hx
 ·rw[if_neg (by simp[h1]),<-h2];exact h w (sW w)
theorem AR.of_same {o:Oper} {v:aW} {a dT:Act} (hy:AR P ops C o v a) (he:execOp dT.eval o=execOp a.eval o) (hw:Cl o (yielded ops dT.tmps)=Cl o (yielded ops a.tmps)):AR P ops C o v dT:=by
 unfold AR Ga at*;rw[he,hw];exact hy
structure ae8 (ops:Array Oper) (n:Nat) (S:Nat->Prop) (a wB b:Act) (im:Nat->Nat):Prop where
 d:b.defers=a.defers
 bG:b.tmps.size=a.tmps.size
 q:∀t:Nat,(∃j o,j<n/\S j/\ops[j]?=some o/\iB o=false/\o.dst=some t)->b.tmps[t]?=wB.tmps[t]?
 al:∀(t:Nat) j o,j<n->S j->ops[j]?=some o->iB o=true->o.dst=some t->t<b.tmps.size->b.tmps[t]?=some (.pointer (some ⟨im j,0,none⟩))
 no:∀t:Nat,(∀j o,j<n->S j->ops[j]?=some o->o.dst≠some t)->b.tmps[t]?=a.tmps[t]?
structure Fin (ops:Array Oper) (n:Nat) (wB b:Act) (im:Nat->Nat):Prop where
 d:b.defers=wB.defers
 bG:b.tmps.size=wB.tmps.size
 al:∀(t:Nat) j o,j<n->ops[j]?=some o->iB o=true->o.dst=some t->t<b.tmps.size->b.tmps[t]?=some (.pointer (some ⟨im j,0,none⟩))
 no:∀t:Nat,(∀j o,j<n->ops[j]?=some o->iB o=true->o.dst≠some t)->b.tmps[t]?=wB.tmps[t]?
def Ed (ops:Array Oper) (n:Nat) (S:Nat->Prop) (Z:Nat->Obj) (im:Nat->Nat) (bG:Nat) (w:aG):Prop:=
 (∀j,j<n->S j->wz ops j=true->bG<=im j/\w.heap[im j]?=some (Z j))/\∀i j,i<n->j<n->S i->S j->wz ops i=true->wz ops j=true->im i=im j->i=j
theorem Ed.grow {n:Nat} {S:Nat->Prop} {Z:Nat->Obj} {im:Nat->Nat} {bG:Nat} {w w':aG} (h:Ed ops n S Z im bG w) (he:w.Extends w'):Ed ops n S Z im bG w':=
 ⟨λj h1 h2 h3=>by
  obtain⟨h4,h5⟩:=h.1 j h1 h2 h3;exact⟨h4,by rw[he.block _ (Array.getElem?_eq_some_iff.1 h5).1];exact h5⟩,h.2⟩
theorem aH9 {Q:Exit->Act->aG->Prop} {a:Act} {w:aG} {l:List Oper} (n:Nat) (Z:Nat->Obj) (hm:P.follows .mixedOrders=true) (ea:K4 l.toArray n=true) (jL:∀w',w.drew.Extends w'->C w')
 (G4:∀j o,j<n->l.toArray[j]?=some o->iB o=true->∀(b:Act) w',(execOp b.eval o).run P w'= .ok (.value (.pointer (some ⟨w'.heap.size,0,none⟩))) (w'.alloc (Z j)))
 (h:F8 P l.toArray C (λwB=>∀im b w',Fin l.toArray n wB b im->w.drew.Extends w'->Ed l.toArray n (λ_=>True) Z im w.drew.heap.size w'->wpList P l.toArray (calm Q) (l.drop n) b w') (l.take n) a):wpAny P .any l.toArray (calm Q) l.toArray.size (Ci l.toArray.size false) a {w with drawn:=w.drawn+1}:=by
 simp only[K4,bx]at ea;obtain⟨⟨⟨⟨⟨⟨awp,avW⟩,ys⟩,Bf⟩,hle⟩,ajK⟩,awS⟩:=ea;have hle:n<=l.length:=by simpa using gU hle
 obtain⟨as,vs,gE,hs,bu⟩:=acu _ _ h;have hlen:(l.take n).length=n:=by simp;omega
 rw[hlen]at bu;have gR:∀i,i<n->∃o,l.toArray[i]?=some o/\(iB o=false->AR P l.toArray C o (vs i) (as i)/\as (i+1)=(as i).put o.dst (vs i))/\(iB o=true->as (i+1)=as i):=λi hi=>by
  have hlt:i<l.length:=by omega
  have h1:(l.take n)[i]?=some l[i]:=by rw[tI,if_pos hi,pF hlt]
  have h2:=hs i _ h1;exact⟨l[i],by simp[hlt],h2⟩
 have Nb:∀i,i<=n->(as i).defers=a.defers/\(as i).tmps.size=a.tmps.size:=by
  intro i;induction i with
  |zero=>intro _;rw[gE];exact⟨rfl,rfl⟩
  |succ i ih=>
   intro hi;obtain⟨o,aA,h1,h2⟩:=gR i (by omega);cases gG:iB o with
   |true=>rw[h2 gG];exact ih (by omega)
   |false=>rw[(h1 gG).2,put_defers,HT];exact ih (by omega)
 have aiL:∀i,i<=n->∀t:Nat,(∀j o,j<i->l.toArray[j]?=some o->iB o=false->o.dst≠some t)->(as i).tmps[t]?=a.tmps[t]?:=by
  intro i;induction i with
  |zero=>intro _ t _;rw[gE]
  |succ i ih=>
   intro hi t mv;obtain⟨o,aA,h1,h2⟩:=gR i (by omega);have aj6:=ih (by omega) t λj o aM=>mv j o (by omega);cases gG:iB o with
   |true=>rw[h2 gG];exact aj6
   |false=>rw[(h1 gG).2,BD (mv i o (by omega) aA gG)];exact aj6
 have aiK:∀(d i:Nat),i+d=n->∀t:Nat,(∃j o,j<i/\l.toArray[j]?=some o/\o.dst=some t)->(as n).tmps[t]?=(as i).tmps[t]?:=by
  intro d;induction d with
  |zero=>intro i hi t _;rw[show i=n by omega]
  |succ d ih=>
   intro i hi t aM;obtain⟨o,aA,h1,h2⟩:=gR i (by omega);rw[ih (i+1) (by omega) t (by obtain⟨j,o,h1,h2⟩:=aM;exact⟨j,o,by omega,h2⟩)];cases gG:iB o with
   |true=>rw[h2 gG]
   |false=>
    rw[(h1 gG).2];obtain⟨j,e5,Np,yq,Zn⟩:=aM;exact BD ((A1 Bf (show i<n by omega) aA).2.2 j e5 t (by omega) (by omega) yq Zn).1
 have hsz:l.toArray.size=l.length:=by simp
 have main:∀(f:Nat) (listed:Array Bool) (b:Act) (eN:aG) (im:Nat->Nat),HeadInv .any l.toArray n listed->w.drew.Extends eN->
  ae8 l.toArray n (λj=>listed.getD j false=true) a (as n) b im->Ed l.toArray n (λj=>listed.getD j false=true) Z im w.drew.heap.size eN->
  (ht n).countP (λi=> !listed.getD i false)+(l.length-n)<=f->wpAny P .any l.toArray (calm Q) f listed b eN:=by
  intro f;have done:∀(listed:Array Bool) (b:Act) (eN:aG) (im:Nat->Nat),HeadInv .any l.toArray n listed->w.drew.Extends eN->
   ae8 l.toArray n (λj=>listed.getD j false=true) a (as n) b im->Ed l.toArray n (λj=>listed.getD j false=true) Z im w.drew.heap.size eN->(∀i,i<n->listed.getD i false=true)->
   wpAny P .any l.toArray (calm Q) (l.drop n).length listed b eN:=by
   intro listed b eN im inv yn ox zF jM;have hl:listed=Zb l.toArray.size n:=by
    apply aJx;intro i;unfold Zb;simp only[Pu,se];rcases LJ i l.length with hi|hi
    ·rw[List.getElem?_range (by simpa using hi)];have eo:i<listed.size:=by rw[inv.size];simpa using hi
     rcases LJ i n with eS|eS
     ·have:=jM i eS;simp[eo]at this;simp[eo,this,ayZ eS]
     ·have:=inv.tail i eS (by simpa using hi);simp[eo]at this;have hb:dX i n=false:=by cases ak:dX i n with|false=>rfl|true=>have:=uR ak;omega
      simp[eo,this,hb]
    ·have h1:listed.size<=i:=by rw[inv.size];simpa using hi
     have h2:(ht l.toArray.size)[i]?=none:=by simp;omega
     rw[h2,UF h1];rfl
   have RA:aJv .any l.toArray (l.drop n).length n listed=true:=by rw[hl];simpa using awS
   refine wpAny_of_seq (P:=P) (md:= .any) (Q':=calm Q) (l.drop n) n listed b eN (λj=>by simp[Cj]) RA (bu im b eN ?_ yn ?_)
   ·refine⟨ox.d.trans (Nb n (bW _)).1.symm,ox.bG.trans (Nb n (bW _)).2.symm,λt j o h1 h3 h4 h5=>ox.al t j o h1 (jM j h1) h3 h4 h5,λt mv=>?_⟩;by_cases ak:∃j o,j<n/\l.toArray[j]?=some o/\iB o=false/\o.dst=some t
    ·obtain⟨j,o,h1,h2,h3,h4⟩:=ak;exact ox.q t ⟨j,o,h1,jM j h1,h2,h3,h4⟩
    ·have zN:∀j o,j<n->l.toArray[j]?=some o->iB o=false->o.dst≠some t:=λj o h1 h2 h3 h4=>ak ⟨j,o,h1,h2,h3,h4⟩;rw[ox.no t λj o h1 _ h3=>(by
      cases gG:iB o with
      |true=>exact mv j o h1 h3 gG
      |false=>exact zN j o h1 h3 gG),aiL n (bW _) t zN]
   ·exact⟨λj h1 _ h3=>zF.1 j h1 (jM j h1) h3,λi j h1 h2 _ _ h5 h6=>zF.2 i j h1 h2 (jM i h1) (jM j h2) h5 h6⟩
  have afO:∀(listed:Array Bool),(ht n).countP (λi=> !listed.getD i false)=0->∀i,i<n->listed.getD i false=true:=λlisted hc i hi=>by
   cases ak:listed.getD i false with
   |true=>rfl
   |false=>
    have:0<(ht n).countP (λi=> !listed.getD i false):=List.countP_pos_iff.2 ⟨i,List.mem_range.2 hi,by simp[ak]⟩;omega
  induction f with
  |zero=>
   intro listed b eN im inv yn ox zF hf;have:=done listed b eN im inv yn ox zF (afO listed (by omega));exact an3 this (by simp;omega)
  |succ f ih=>
   intro listed b eN im inv yn ox zF hf;by_cases avE:(ht n).countP (λi=> !listed.getD i false)=0
   ·exact an3 (done listed b eN im inv yn ox zF (afO listed avE)) (by simp;omega)
   ·
    have rI:∃i,i<n/\listed.getD i false=false:=by
     have h1:0<(ht n).countP (λi=> !listed.getD i false):=by omega
     obtain⟨i,hi,ak⟩:=List.countP_pos_iff.1 h1;exact⟨i,List.mem_range.1 hi,by simpa using ak⟩
    have dA:ze .any l.toArray listed≠[]:=by
     have key:∀k,∀i,i<=k->i<n->listed.getD i false=false->ze .any l.toArray listed≠[]:=by
      intro k;induction k with
      |zero=>
       intro i Zk eS ak rH;obtain⟨o,aA,_,_⟩:=gR i eS;have hlt:i<listed.size:=by rw[inv.size];exact(Array.getElem?_eq_some_iff.1 aA).1
       have:i∈ze .any l.toArray listed:=mem_ready.2 ⟨getD_in hlt ak,o,aA,λe he hb=>by have:=(A1 Bf eS aA).1 e he hb;omega⟩;rw[rH]at this;cases this
      |succ k Z7=>
       intro i Zk eS ak rH;obtain⟨o,aA,_,_⟩:=gR i eS;have hlt:i<listed.size:=by rw[inv.size];exact(Array.getElem?_eq_some_iff.1 aA).1
       have:i∈ze .any l.toArray listed:=mem_ready.2 ⟨getD_in hlt ak,o,aA,λe he hb=>by
        have h1:=(A1 Bf eS aA).1 e he hb;cases wU:listed.getD e.on false with
        |true=>rfl
        |false=>exact absurd rH (Z7 e.on (by omega) (by omega) wU)⟩
       rw[rH]at this;cases this
     obtain⟨i,hi,ak⟩:=rI;exact key i i (bW _) hi ak
    have eC:∀i,i∈ze .any l.toArray listed->∀j,(listed.setIfInBounds i true).getD j false=true↔(j=i∨listed.getD j false=true):=λi hi j=>by
     obtain⟨wW,m6,Hk,jM⟩:=mem_ready.1 hi;have hlt:i<listed.size:=by rw[inv.size];exact(Array.getElem?_eq_some_iff.1 Hk).1
     by_cases aM:i=j
     ·subst aM;simp[hlt]
     ·rw[getD_set_ne false aM];exact⟨.inr,λh=>h.resolve_left (λe=>aM e.symm)⟩
    have ajv:∀i,i∈ze .any l.toArray listed->i<n->(ht n).countP (λj=> !(listed.setIfInBounds i true).getD j false)+(l.length-n)<=f:=λi hi eS=>by
     obtain⟨wW,_⟩:=mem_ready.1 hi;have:(ht n).countP (λj=> !(listed.setIfInBounds i true).getD j false)<(ht n).countP (λj=> !listed.getD j false):=by
      refine ahm (λj _ aM=>?_) ⟨i,List.mem_range.2 eS,?_,?_⟩
      ·cases ak:listed.getD j false with
       |false=>rfl
       |true=>rw[(eC i hi j).2 (.inr ak)]at aM;cases aM
      ·simp only[II wW];rfl
      ·simp only[(eC i hi i).2 (.inl rfl)];rfl
     omega
    have step:∀i,i∈ze .any l.toArray listed->i<n->∀o,l.toArray[i]?=some o->iB o=false->AR P l.toArray C o (vs i) b/\∀w',eN.Extends w'->wpAny P .any l.toArray (calm Q) f (listed.setIfInBounds i true) (b.put o.dst (vs i)) w':=by
     intro i hi eS o aA gG;obtain⟨wW,m6,Hk,jM⟩:=mem_ready.1 hi;have:o=m6:=jC (aA.symm.trans Hk);subst this;obtain⟨cL,kl,ZZ,_⟩:=gR i eS;have:cL=o:=jC (kl.symm.trans aA);subst this;obtain⟨hy,he⟩:=ZZ gG;have E0:=A1 Bf eS aA;have ajM:∀t:Nat,t∈cL.looksAt l.toArray->b.tmps[t]?=(as i).tmps[t]?:=λt aD=>by
      by_cases hw:∃j e5,j<i/\l.toArray[j]?=some e5/\iB e5=false/\e5.dst=some t
      ·obtain⟨j,e5,h1,h2,GY,h3⟩:=hw;rw[<-aiK (n-i) i (by omega) t ⟨j,e5,h1,h2,h3⟩];refine ox.q t ⟨j,e5,by omega,?_,h2,GY,h3⟩;rcases(E0.2.2 j e5 t (by omega) (by omega) h2 h3).2 aD with h4|h4
       ·obtain⟨abI,ZB,e,zJ,zK,CN⟩:=IH h4;have:abI=cL:=jC (ZB.symm.trans aA);subst this;have:=jM e zJ zK
        rwa [CN]at this
       ·obtain⟨Kw,Nv,e,zJ,zK,CN⟩:=IH h4;have:Kw=e5:=jC (Nv.symm.trans h2);subst this;have:=(A1 Bf (show j<n by omega) h2).1 e zJ zK;omega
      ·rw[aiL i (by omega) t λj e5 h1 h2 GY h3=>hw ⟨j,e5,h1,h2,GY,h3⟩];refine ox.no t λj e5 h1 hl h2 h3=>?_;cases aiT:iB e5 with
       |true=>exact azm ys h1 h2 aiT h3 eS aA aD
       |false=>
        by_cases p6:j=i
        ·subst p6;rw[II wW]at hl;cases hl
        ·rcases(E0.2.2 j e5 t h1 p6 h2 h3).2 aD with h4|h4
         ·obtain⟨abI,ZB,e,zJ,zK,CN⟩:=IH h4;have:abI=cL:=jC (ZB.symm.trans aA);subst this;have:=E0.1 e zJ zK;exact hw ⟨j,e5,by omega,h2,aiT,h3⟩
         ·obtain⟨Kw,Nv,e,zJ,zK,CN⟩:=IH h4;have:Kw=e5:=jC (Nv.symm.trans h2);subst this;have:=inv.closed j Kw h2 hl e zJ zK;rw[CN,II wW]at this;cases this
     have avS:∀x∈cL.op.operands,b.eval x=(as i).eval x:=λx hx=>by
      cases x with
      |tmp t=>
       have:=ajM t (List.mem_append_left _ (List.mem_filterMap.2 ⟨.tmp t,by simpa using hx,rfl⟩));simp only[Act.eval];simp[this]
      |_=>rfl
     have hex:execOp b.eval cL=execOp (as i).eval cL:=execOp_congr cL E0.2.1 avS;have axm:Cl cL (yielded l.toArray b.tmps)=Cl cL (yielded l.toArray (as i).tmps):=by
      unfold Cl;cases hg:cL.guard with
      |none=>rfl
      |some Ys=>
       obtain⟨g,want⟩:=Ys;have:yielded l.toArray b.tmps g=yielded l.toArray (as i).tmps g:=by
        unfold yielded;cases aD:(l.toArray[g]?).bind (·.dst)with
        |none=>rfl
        |some t=>
         have:=ajM t (List.mem_append_right _ (by simp only[hg,aD];simp));simp[this]
       simp only[this]
     refine⟨hy.of_same hex axm,λw' yy=>?_⟩;refine ih _ _ _ im (inv.set hi eS) (yn.trans yy) ⟨(put_defers _ _ _).trans ox.d,(HT _ _ _).trans ox.bG,?_,?_,?_⟩ (Ed.grow (w:=eN) ⟨λj h1 h2 h3=>?_,λi1 jc h1 h2 h3 h4 h5 h6=>?_⟩ yy) (ajv i hi eS)
     ·rintro t ⟨j,e5,h1,h2,h3,ES,h4⟩
      by_cases aD:cL.dst=some t
      ·have az:(as n).tmps[t]?=(as (i+1)).tmps[t]?:=aiK (n-(i+1)) (i+1) (by omega) t ⟨i,cL,by omega,aA,aD⟩;rw[az,he,aD];simp only[LK];have ajI:b.tmps.size=(as i).tmps.size:=ox.bG.trans (Nb i (by omega)).2.symm;rcases LJ t b.tmps.size with h5|h5
       ·simp[h5,ajI▸h5]
       ·rw[UF (by simpa using h5),UF (by rw[Array.size_setIfInBounds,<-ajI];exact h5)]
      ·rw[BD aD];rcases(eC i hi j).1 h2 with rfl|h5
       ·have:e5=cL:=jC (h3.symm.trans aA);subst this;exact absurd h4 aD
       ·exact ox.q t ⟨j,e5,h1,h5,h3,ES,h4⟩
     ·intro t j e5 h1 h2 h3 h4 h5 h6;rcases(eC i hi j).1 h2 with rfl|h7
      ·have:e5=cL:=jC (h3.symm.trans aA);subst this;rw[gG]at h4;cases h4
      ·have p6:j≠i:=λe=>by subst e;rw[II wW]at h7;cases h7
       have aD:cL.dst≠some t:=(E0.2.2 j e5 t h1 p6 h3 h5).1;rw[BD aD];rw[HT]at h6;exact ox.al t j e5 h1 h7 h3 h4 h5 h6
     ·intro t mv;have aD:cL.dst≠some t:=mv i cL eS ((eC i hi i).2 (.inl rfl)) aA;rw[BD aD];exact ox.no t λj e5 h1 h2 h3=>mv j e5 h1 ((eC i hi j).2 (.inr h2)) h3
     ·rcases(eC i hi j).1 h2 with rfl|h7
      ·simp[wz,aA,gG]at h3
      ·exact zF.1 j h1 h7 h3
     ·have k1:listed.getD i1 false=true:=by
       rcases(eC i hi i1).1 h3 with rfl|h7
       ·simp[wz,aA,gG]at h5
       ·exact h7
      have k2:listed.getD jc false=true:=by
       rcases(eC i hi jc).1 h4 with rfl|h7
       ·simp[wz,aA,gG]at h6
       ·exact h7
      exact zF.2 i1 jc h1 h2 k1 k2 h5 h6
    by_cases lG:∃i,i∈ze .any l.toArray listed/\i<n/\zD l.toArray i=true
    ·obtain⟨i,hi,eS,uc⟩:=lG;obtain⟨o,aA,_,_⟩:=gR i eS;obtain⟨wW,m6,Hk,jM⟩:=mem_ready.1 hi;have ajh:Js o=true:=by unfold zD at uc;simpa [aA]using uc
     have gG:iB o=false:=aup ajh;obtain⟨E6,Zz⟩:=step i hi eS o aA gG;refine wpAny_first aA (Region.noSelect_spec awp) (λc dT w' ak=>ak.elim) f listed b eN (λj e5 yu p6 av9 av8=>?_) hi (auq ajh (jL eN yn) E6) (Zz eN (sW eN));have Nu:D5 .any l.toArray j i=false:=by
      cases ak:D5 .any l.toArray j i with
      |false=>rfl
      |true=>
       obtain⟨Kw,Nv,e,zJ,zK,CN⟩:=IH ak;have:Kw=e5:=jC (Nv.symm.trans yu);subst this;exact absurd CN (av8 e zJ zK)
     have ajC:j<n->D5 .any l.toArray i j=false:=λJS=>by
      cases ak:D5 .any l.toArray i j with
      |false=>rfl
      |true=>
       obtain⟨cL,kl,e,zJ,zK,CN⟩:=IH ak;have:cL=m6:=jC (kl.symm.trans Hk);subst this;have:=jM e zJ zK;rw[CN,II av9]at this;cases this
     by_cases JS:j<n
     ·have d1:=(A1 Bf eS aA).2.2 j e5;have d2:=(A1 Bf JS yu).2.2 i o;simp only[Oper.apart,bx];constructor
      ·cases hd:o.dst with
       |none=>rfl
       |some d=>
        have:=d2 d eS (λe=>p6 e.symm) aA hd;simp only[bx,cI,bne_iff_ne,ne_eq];refine⟨?_,this.1⟩;cases hc:(e5.looksAt l.toArray).contains d with
        |false=>rfl
        |true=>
         rcases this.2 (by simpa using hc)with h1|h1
         ·rw[Nu]at h1;cases h1
         ·rw[ajC JS]at h1;cases h1
      ·cases hd:e5.dst with
       |none=>rfl
       |some d=>
        have:=d1 d JS p6 yu hd;simp only[cI];cases hc:(o.looksAt l.toArray).contains d with
        |false=>rfl
        |true=>
         rcases this.2 (by simpa using hc)with h1|h1
         ·rw[ajC JS]at h1;cases h1
         ·rw[Nu]at h1;cases h1
     ·have h1:=List.all_eq_true.1 avW i (List.mem_range.2 eS);simp only[uc,cU,IG]at h1;have h2:=List.all_eq_true.1 h1 j (List.mem_range.2 (Array.getElem?_eq_some_iff.1 yu).1);have hb:dX j n=false:=by cases ak:dX j n with|false=>rfl|true=>exact absurd (uR ak) JS
      simp only[hb,Nu,IG,aA,yu]at h2;exact h2
    ·
     have awo:∃i,i<n/\zD l.toArray i=false/\listed.getD i false=false:=by
      have key:∀k,∀i,i<=k->i<n->listed.getD i false=false->∃i,i<n/\zD l.toArray i=false/\listed.getD i false=false:=by
       intro k;induction k with
       |zero=>
        intro i Zk eS ak;cases l0:zD l.toArray i with
        |false=>exact⟨i,eS,l0,ak⟩
        |true=>
         obtain⟨o,aA,_,_⟩:=gR i eS;have hlt:i<listed.size:=by rw[inv.size];exact(Array.getElem?_eq_some_iff.1 aA).1
         exact absurd ⟨i,mem_ready.2 ⟨getD_in hlt ak,o,aA,λe he hb=>by have:=(A1 Bf eS aA).1 e he hb;omega⟩,eS,l0⟩ lG
       |succ k Z7=>
        intro i Zk eS ak;cases l0:zD l.toArray i with
        |false=>exact⟨i,eS,l0,ak⟩
        |true=>
         obtain⟨o,aA,_,_⟩:=gR i eS;have hlt:i<listed.size:=by rw[inv.size];exact(Array.getElem?_eq_some_iff.1 aA).1
         by_cases ai8:∀e∈o.after,aee .any e=true->listed.getD e.on false=true
         ·exact absurd ⟨i,mem_ready.2 ⟨getD_in hlt ak,o,aA,ai8⟩,eS,l0⟩ lG
         ·have hex:∃e,e∈o.after/\aee .any e=true/\¬listed.getD e.on false=true:=by
           apply ad3;intro mv;exact ai8 λe he hb=>ad3 λwU=>mv ⟨e,he,hb,wU⟩
          obtain⟨e,he,hb,wU⟩:=hex;have h1:=(A1 Bf eS aA).1 e he hb;exact Z7 e.on (by omega) (by omega) (by simpa using wU)
      obtain⟨i,hi,ak⟩:=rI;exact key i i (bW _) hi ak
     refine⟨λh0=>absurd h0 dA,λi hi=>?_⟩;have eS:i<n:=by
      rcases LJ i n with h1|h1
      ·exact h1
      ·exfalso;obtain⟨_,m6,Hk,_⟩:=mem_ready.1 hi;have aM5:i<l.toArray.size:=(Array.getElem?_eq_some_iff.1 Hk).1;simp only[D3,bx]at ajK;rcases ajK with h2|⟨h2,h3⟩
       ·have:=b1 h2;omega
       ·obtain⟨i0,av3,JM,zO⟩:=awo;exact aFe h2 h3 (by omega) inv (n-i0) i0 rfl av3 JM zO i h1 hi
     obtain⟨o,aA,_,_⟩:=gR i eS;cases gG:iB o with
     |false=>
      obtain⟨E6,Zz⟩:=step i hi eS o aA gG;exact aH8 aA (jL eN yn) E6 Zz
     |true=>
      obtain⟨wW,_⟩:=mem_ready.1 hi;have js:o.guard=none/\∃d,o.dst=some d:=by
       unfold iB at gG;split at gG
       ·rename_i h1 h2 h3;exact⟨h2,_,h3⟩
       ·cases gG
      obtain⟨js,d,hd⟩:=js;have E0:=A1 Bf eS aA;unfold wpOp;simp only[aA];rw[if_pos (by simp[Cl,js])];refine .inl ?_;unfold o4;rw[G4 i o eS aA gG b eN];show wpAny P .any l.toArray (calm Q) f (listed.setIfInBounds i true) (b.put o.dst _) _;have Z4:∀j,j<n->listed.getD j false=true->wz l.toArray j=true->im j<eN.heap.size:=λj h1 h2 h3=>(Array.getElem?_eq_some_iff.1 (zF.1 j h1 h2 h3).2).1;refine ih _ _ _ (λj=>if j=i then eN.heap.size else im j) (inv.set hi eS) (yn.alloc _) ⟨(put_defers _ _ _).trans ox.d,(HT _ _ _).trans ox.bG,?_,?_,?_⟩ ⟨λj h1 h2 h3=>?_,λi1 jc h1 h2 h3 h4 h5 h6 h7=>?_⟩ (ajv i hi eS)
      ·rintro t ⟨j,e5,h1,h2,h3,ES,h4⟩
       rcases(eC i hi j).1 h2 with rfl|h5
       ·have:e5=o:=jC (h3.symm.trans aA);subst this;rw[gG]at ES;cases ES
       ·have p6:j≠i:=λe=>by subst e;rw[II wW]at h5;cases h5
        rw[BD (E0.2.2 j e5 t h1 p6 h3 h4).1];exact ox.q t ⟨j,e5,h1,h5,h3,ES,h4⟩
      ·intro t j e5 h1 h2 h3 h4 h5 h6;rcases(eC i hi j).1 h2 with rfl|h7
       ·have:e5=o:=jC (h3.symm.trans aA);subst this;rw[h5];simp only[if_true];rw[HT]at h6;simp[LK,h6]
       ·have p6:j≠i:=λe=>by subst e;rw[II wW]at h7;cases h7
        rw[BD (E0.2.2 j e5 t h1 p6 h3 h5).1];rw[HT]at h6;rw[if_neg p6];exact ox.al t j e5 h1 h7 h3 h4 h5 h6
      ·intro t mv;rw[BD (mv i o eS ((eC i hi i).2 (.inl rfl)) aA)];exact ox.no t λj e5 h1 h2 h3=>mv j e5 h1 ((eC i hi j).2 (.inr h2)) h3
      ·show w.drew.heap.size<=(if j=i then eN.heap.size else im j)/\(eN.alloc (Z i)).heap[(if j=i then eN.heap.size else im j)]?=some (Z j);by_cases p6:j=i
       ·subst p6;rw[if_pos rfl];exact⟨yn.size,heap_alloc_new eN (Z j)⟩
       ·rw[if_neg p6];have h7:=((eC i hi j).1 h2).resolve_left p6;obtain⟨fq,ef⟩:=zF.1 j h1 h7 h3;exact⟨fq,by rw[heap_alloc_old eN _ (Z4 j h1 h7 h3)];exact ef⟩
      ·change (if i1=i then eN.heap.size else im i1)=(if jc=i then eN.heap.size else im jc)at h7;by_cases fq:i1=i<;>by_cases ef:jc=i
       ·rw[fq,ef]
       ·rw[if_pos fq,if_neg ef]at h7;have:=Z4 jc h2 (((eC i hi jc).1 h4).resolve_left ef) h6;omega
       ·rw[if_neg fq,if_pos ef]at h7;have:=Z4 i1 h1 (((eC i hi i1).1 h3).resolve_left fq) h5;omega
       ·rw[if_neg fq,if_neg ef]at h7;exact zF.2 i1 jc h1 h2 (((eC i hi i1).1 h3).resolve_left fq) (((eC i hi jc).1 h4).resolve_left ef) h5 h6 h7
 have ax3:HeadInv .any l.toArray n (Ci l.toArray.size false):=
  ⟨by simp,λj e5 _ hl=>(by rw[getD_replicate_false]at hl;cases hl),λt _ aD=>getD_in (by simpa using aD) (getD_replicate_false _ _)⟩
 have SS:∀j,¬(Ci l.toArray.size false).getD j false=true:=λj h=>by rw[getD_replicate_false]at h;cases h
 refine main l.toArray.size _ a _ (λ_=>0) ax3 (sW w.drew) ⟨rfl,rfl,λt ⟨j,o,_,h2,_⟩=>absurd h2 (SS j),λt j o _ h2=>absurd h2 (SS j),λ_ _=>rfl⟩ ⟨λj _ h2=>absurd h2 (SS j),λi j _ _ h3=>absurd h3 (SS i)⟩ ?_;have:(ht n).countP (λi=> !(Ci l.toArray.size false).getD i false)<=n:=by
  have:=List.countP_le_length (p:=λi=> !(Ci l.toArray.size false).getD i false) (l:=ht n);simpa using this
 omega
end
end Go.b9
namespace Go.b9
open M
inductive X where
 |normal
 |exit (id:Nat)
 |ret
def X.to:X->Exit
 |normal=> .normal
 |exit id=> .exit id
 |ret=> .ret
abbrev iz:=Nat->List V->List aJ->T
abbrev x0:=X->iz
abbrev RK:=Nat->V->List aJ->T
abbrev mj:=dL->Nat->List V->List aJ->RK->T
structure hN where
 hT:List Nat
 ints:List (Nat×Int×Int)
 cells:List (Nat×Nat×Int×Int)
 uT:List Nat:=[]
 tL:List (Nat×List aQ×br):=[]
 acF:List (Nat×List aQ×Nat):=[]
 py:List (Nat×List aQ):=[]
def ei:List aJ->Nat->aJ->List aJ
 |[],_,_=>[]
 |_::r,0,b=>b::r
 |x::r,i+1,b=>x::ei r i b
theorem mz:∀(l:List aJ) (i:Nat) (b:aJ),ei l i b=l.set i b
 |[],_,_=>rfl
 |_::_,0,_=>rfl
 |_::r,i+1,b=>by simp[ei,mz r i b]
def aEc (cal:gL) (dyn:Bool) (o:Oper):Bool:=
 match o.op with
 | .alloc _| .box _ _| .store _ _ _| .buildSlice _ _ _| .makeSlice _ _ _=>false
 | .call c=>match c.callee with
  | .value (.func f)=>(cal f).isSome
  | .value (.tmp _)=>dyn
  | .builtin .append=>false
  | .builtin .clear=>false
  | .builtin .copy=>false
  |_=>true
 |_=>true
def OS (z:List A) (len:Nat):List A:=(ht (len*z.length)).map λi=>(z[i% z.length]?).getD (.con undef)
def Xn (P:b4) (t:br) (len:Nat) (parts:List (Nat×V)):Option (List A×br):=
 match kr P t with
 |some e=>match gT P e,ql P e with
  |some s,some z=>cond (aP z.length s&&dX 0 s&&cO (len*s) 16777216) (match Bb (λi=>some (i*s,s)) (OS z len) parts with|some cs=>some (cs,e)|none=>none) none
  |_,_=>none
 |none=>none
def yp (bl:List aJ) (b off k:Nat):Option (List A):=
 match bl[b]? with
 |some (cs,_)=>cond (cO (off+k) cs.length&&cl cs) (some ((cs.drop off).take k)) none
 |none=>none
def QZ (i:TypeInfo) (e:br) (z:List A) (d:Option Tmp) (ik tA len:Nat) (olds news:List A) (n:Nat) (tm:List V) (bl:List aJ) (k:iz):T:=
 cond (cO (ik+len) 1000000&&cO (Builtin.nextslicecap (ik+len) tA*i.bytes) 281474976710656&&dX tA (ik+len)&&dX 0 len&&aP z.length i.size&&dX 0 i.size&&cl (olds++news)&&cl (olds++news++z))
  (.both (k n (hG tm d (.w (.one (.slc bl.length 0 (ik+len) (ik+len))))) (bl++[(olds++news,(e,false))]))
    (k n (hG tm d (.sL bl.length (ik+len) (ik+len+1))) (bl++[(olds++news++z,(e,true))]))) .stuck
def aad:V->Bool
 | .w (.one (.con (.slice none 0 0)))=>true
 |_=>false
def W0 (P:b4) (d:Option Tmp) (t t':br) (s x:V) (n:Nat) (tm:List V) (bl:List aJ) (k:iz):T:=
 match x,kr P t with
 | .w (.one (.slc b' kP qY _)),some e=>match P.info? e,ql P e with
  |some i,some z=>match yp bl b' kP (qY*i.size)with
   |some news=>cond (!(aP t t')) .stuck <| cond (aad s) (QZ i e z d 0 0 qY [] news n tm bl k) <| match s with
    | .w (.one (.slc b off len cap))=>match yp bl b off (len*i.size)with
     |some olds=>QZ i e z d len cap qY olds news n tm bl k
     |none=> .stuck
    | .sL b len lo=>match bl[b]? with
     |some (cs,ty)=>cond (cO (len+qY) lo&&cO ((len+qY)*i.size) cs.length&&dX 0 (qY*i.size)&&cl cs&&cl (cs.take (len*i.size)++news++cs.drop (len*i.size+news.length))) (k n (hG tm d (.sL b (len+qY) lo)) (ei bl b (cs.take (len*i.size)++news++cs.drop (len*i.size+news.length),ty))) .stuck
     |none=> .stuck
    |_=> .stuck
   |none=> .stuck
  |_,_=> .stuck
 |_,_=> .stuck
def qh (sh:List aQ):Bool:=cO sh.length 100&&dX 0 sh.length&&sh.all λc=>match c with
 | .int _ lo hi=>decide (-18446744073709551616<=lo)&&decide (hi<=18446744073709551616)
 |_=>true
def Hv (e:bH):M I:=λn k=> .ind n e (k (.var n) (n+1))
def Xw (c:aQ) (a:A):M I:=
 match c,a with
 | .int k lo hi,.int bI x=>cond (decide (k=bI)&&decide (lo<=x.lo)&&decide (x.hi<=hi)) (pure x.l) fail
 | .str,.str l=>pure l
 | .bool,.bool e=>match e with
  | .lit v=>pure (.const (cond v 1 0))
  |e=>Hv e
 |_,_=>fail
def DF:List aQ->List A->M (List I)
 |[],[]=>pure []
 |c::sh,a::r=>bind (Xw c a) λl=>bind (DF sh r) λls=>pure (l::ls)
 |_,_=>fail
noncomputable def Ek (sh:List aQ):List (List A)->I->M I
 |[],c=>pure c
 |row::rs,c=>bind (DF sh row) λls=>bind (gV 23 (c::ls) 0 b6) λe3=>Ek sh rs e3
def rv (w:Nat):Nat->List A->List (List A)
 |0,_=>[]
 |k+1,l=>l.take w::rv w k (l.drop w)
noncomputable def TG (P:b4) (tE:br) (sh:List aQ) (bl:List aJ) (x:V) (base:I):M (I×I):=
 match x with
 | .w (.one (.slc b off len _))=>match yp bl b off (len*sh.length),kr P tE with
  |some cs,some _=>bind (h8 23 [base,.const len]) λ_=>bind (Ek sh (rv sh.length len cs) base) λc=>pure (c,.const len)
  |_,_=>fail
 | .w (.one (.sl b bG o ro len _))=>match bl[b]?,kr P tE with
  |some ([.rows hk off code fO kind],_),some _=>cond (dX 0 kind&&tB sh hk&&I.beq o off&&aP bG sh.length) (bind (h8 22 [code,ro,ro.add len]) λ_=>bind (h8 23 [base,len]) λ_=>bind (gV 22 [code,ro,ro.add len] 0 b6) λs=>bind (gV 24 [base,s] 0 b6) λc=>pure (c,len)) fail
  |_,_=>fail
 | .w (.one (.str l))=>match P.underlying tE with
  |some .string=>cond (Qh sh) (bind (gV 0 [l] 0 9223372036854775807) λlen=>bind (h8 23 [base,len]) λ_=>bind (gV 27 [l] 0 b6) λs=>bind (gV 24 [base,s] 0 b6) λc=>pure (c,len)) fail
  |_=>fail
 | .w (.one (.con (.slice none 0 0)))=>match kr P tE with
  |some _=>bind (h8 23 [base,.const 0]) λ_=>pure (base,.const 0)
  |none=>fail
 |_=>fail
def aFa (bl:List aJ):V->Option (List aQ)
 | .w (.one (.sl b _ _ _ _ _))=>match bl[b]? with
  |some ([.rows sh _ _ _ _],_)=>some sh
  |_=>none
 |_=>none
def TB:List A->Option (List aQ)
 |[]=>some []
 | .int k _::r=>(TB r).map (.int k k.min k.max::·)
 | .str _::r=>(TB r).map (.str::·)
 | .bool _::r=>(TB r).map (.bool::·)
 |_=>none
def aFb (bl:List aJ) (s x:V) (z:List A):Option (List aQ):=match aFa bl x with
 |some sh=>some sh
 |none=>match s,x with
  | .w (.one (.slc ..)),.w (.one (.slc ..))=>TB z
  |_,_=>none
def adV:V->Bool
 | .w (.one (.sl _ _ _ _ len cap))=>match len.eT,cap.eT with|some l,some c=>decide (l=0)&&decide (c=0)|_,_=>false
 | .w (.one (.slc _ _ len cap))=>aP len 0&&aP cap 0
 | .w (.one (.con (.slice none 0 0)))=>true
 |_=>false
noncomputable def MM (kd:Nat) (e:br) (d:Option Tmp) (sh:List aQ) (code len:I) (n:Nat) (tm:List V) (bl:List aJ) (k:iz):T:=
 .vt n (-1) 9223372036854775807 (k (n+1) (hG tm d (.w (.one (.sl bl.length sh.length (.const 0) (.const 0) len (.var n))))) (bl++[([.rows sh (.const 0) code (.var n) kd],(e,false))]))
noncomputable def Jy (e:br) (d:Option Tmp) (sh:List aQ) (code len:I) (n:Nat) (tm:List V) (bl:List aJ) (k:iz):T:=
 .vt n (-1) 9223372036854775807 (k (n+1) (hG tm d (.w (.one (.sl bl.length sh.length (.const 0) (.const 0) len (.var n))))) (bl++[([.rows sh (.const 0) code (.var n) 2],(e,false))]))
noncomputable def aib (P:b4) (tE e:br) (d:Option Tmp) (sh:List aQ) (s x:V) (n:Nat) (tm:List V) (bl:List aJ) (k:iz):T:=
 TG P tE sh bl x (.const 0) n λp n'=>match p.2.eT with
  |some 0=>k n' (hG tm d s) bl
  |some _=>Jy e d sh p.1 p.2 n' tm bl k
  |none=> .uU (.le p.2 (.const 0)) (k n' (hG tm d s) bl) (Jy e d sh p.1 p.2 n' tm bl k)
def Jw (sh:List aQ) (i:TypeInfo) (z:List A):Bool:=qh sh&&aP i.size sh.length&&aP z.length sh.length&&cO i.bytes 131072
noncomputable def W1 (P:b4) (d:Option Tmp) (t t':br) (s x:V) (n:Nat) (tm:List V) (bl:List aJ) (k:iz):Option T:=
 match kr P t with
 |none=>none
 |some e=>match P.info? e,ql P e with
  |some i,some z=>match adV s with
   |true=>match aFb bl s x z with
    |some sh=>cond (Jw sh i z) (some (aib P t' e d sh s x n tm bl k)) none
    |none=>none
   |false=>match s with
    | .w (.one (.sl b _ o ro len cap))=>match bl[b]? with
     |some ([.rows sh off code fO kind],dQ)=>cond (Jw sh i z&&aP kind 2&&I.beq o (.const 0)&&I.beq off (.const 0)&&I.beq ro (.const 0)&&I.beq cap fO&&aP dQ.1 e)
      (some (.s4 31 [code,len] (TG P t' sh bl x code n λp n'=>Jy e d sh p.1 (len.add p.2) n' tm (ei bl b ([.rows sh off code fO 0],dQ)) k))) none
     |_=>none
    |_=>none
  |_,_=>none
noncomputable def adb (P:b4) (o:Oper) (n:Nat) (tm:List V) (bl:List aJ) (k:iz):Option T:=
 match o.op with
 | .call c=>match c.callee with
  | .builtin .append=>match c.args.toList,c.argTypes.toList with
   |[s,x],[t,t']=>W1 P o.dst t t' (cp tm s) (cp tm x) n tm bl k
   |_,_=>none
  |_=>none
 |_=>none
def j4:List aQ:=[.int .u8 0 255]
def RM (fn:Func):Bool:=fn.name== "internal/bytealg.MakeNoZero" &&fn.body.isNone&&fn.origin== ""
noncomputable def DK (P:b4) (o:Oper) (n:Nat) (tm:List V) (bl:List aJ) (k:iz):Option T:=
 match o.op with
 | .store t p x=>match cp tm p,cp tm x with
  | .w (.one (.ep b bG cL i j)),.w u=>match bl[b]?,gT P t with
   |some ([.rows sh off code cap kind],dQ),some s=>cond (cO 2 kind&&aP bG sh.length&&I.beq cL off&&aP u.cells.length s&&dX 0 s&&cO (j+s) sh.length&&qh sh)
    (some (h8 21 [code,i] n λ_ n=>I0 67 [code,i,.const sh.length] n λ_ n=>DF ((sh.drop j).take s) u.cells n λls n=>gV 42 (code::i:: .const j::ls) 0 b6 n λcode' n=>k n (hG tm o.dst (.jh [])) (ei bl b ([.rows sh off code' cap kind],dQ)))) none
   |_,_=>none
  |_,_=>none
 | .convert s d x=>match cp tm x with
  | .w (.one (.str l))=>match P.underlying s,kr P d with
   |some .string,some e=>match P.underlying e with
    |some (.int .u8)=>some (gV 27 [l] 0 b6 n λcode n=>gV 0 [l] 0 9223372036854775807 n λlen n=>MM 3 e o.dst j4 code len n tm bl k)
    |_=>none
   |_,_=>none
  | .w (.one (.slc b 0 len cap))=>match bl[b]?,kr P d with
   |some (C,t),some e=>match P.underlying e with
    |some (.int .u8)=>cond (aP s d&&cl C&& !t.2&&aP C.length len&&aP cap len&&cO len 1000000)
     (some (Ek j4 (rv 1 len C) (.const 0) n λcode n=>k n (hG tm o.dst (.w (.one (.sl b 1 (.const 0) (.const 0) (.const len) (.const len))))) (ei bl b ([.rows j4 (.const 0) code (.const len) 3],t)))) none
    |_=>none
   |_,_=>none
  |_=>none
 | .makeSlice t x y=>match kr P t,uk (cp tm x),uk (cp tm y)with
  |some e,some qZ,some qc=>match P.info? e with
   |some i=>match i.zero with
    |some (.int .u8 z)=>cond (aP i.size 1&&cO i.bytes 1024&&decide (z=0)) (some (.s4 49 [qZ,qc] (gV 26 [qZ,.const 0] 0 b6 n λcode n=>MM 2 e o.dst j4 code qZ n tm bl k))) none
    |_=>none
   |none=>none
  |_,_,_=>none
 | .call c=>match c.callee with
  | .value (.func f)=>match P.funcs[f]?,c.args.toList with
   |some fn,[x]=>match cp tm x,fn.resultTypes.toList with
    | .w (.one (.int .i64 y)),[t]=>match kr P t with
     |some e=>match P.underlying e with
      |some (.int .u8)=>cond (RM fn) (some (.s4 26 [y.l] (.vt n 0 b6 (.x9 31 [.var n,y.l] (.vt (n+1) 0 9223372036854775807 (.x9 79 [y.l,.var (n+1)]
       (k (n+2) (hG tm o.dst (.w (.one (.sl bl.length 1 (.const 0) (.const 0) y.l (.var (n+1)))))) (bl++[([.rows j4 (.const 0) (.var n) (.var (n+1)) 2],(e,false))]))))))))
       none
      |_=>none
     |none=>none
    |_,_=>none
   |_,_=>none
  |_=>none
 |_=>none
noncomputable def ade (P:b4) (o:Oper) (n:Nat) (tm:List V) (bl:List aJ) (k:iz):Option T:=
 match o.op with
 | .call c=>match c.callee with
  | .builtin .clear=>match c.args.toList,c.argTypes.toList with
   |[x],[t]=>match cp tm x,kr P t with
    | .w (.one (.sl b bG cL ro len cap)),some e=>match bl[b]?,ql P e with
     |some ([.rows sh off code fO kind],dQ),some z=>cond (cO 2 kind&&I.beq cL off&&aP bG sh.length&&qh sh&&aP z.length sh.length)
      (some (h8 65 [code,ro,len] n λ_ n=>DF sh z n λls n=>gV 61 (code::ro::len::ls) 0 b6 n λcode' n=>k n (hG tm o.dst (.jh [])) (ei bl b ([.rows sh off code' fO kind],dQ)))) none
     |_,_=>none
    |_,_=>none
   |_,_=>none
  | .builtin .copy=>match c.args.toList,c.argTypes.toList with
   |[x,y],[t,t']=>match cp tm x,cp tm y,kr P t with
    | .w (.one (.sl b bG cL ro len cap)),.w (.one (.sl cc adl w7 iZ iW AZ)),some e=>match bl[b]?,bl[cc]?,gT P e with
     |some ([.rows sh off code fO kind],dQ),some ([.rows ac0 Dm jT CB De],_),some s=>cond (cO 2 kind&&dX 0 De&&I.beq cL off&&I.beq w7 Dm&&tB sh ac0&&aP bG sh.length&&aP adl sh.length&&aP s sh.length&&qh sh)
      (some (h8 80 [code,ro,len] n λ_ n=>h8 22 [jT,iZ,iZ.add iW] n λ_ n=>gV 62 [iW,len] 0 9223372036854775807 n λq n=>gV 22 [jT,iZ,iZ.add q] 0 b6 n λsrc n=>gV 63 [code,ro,src] 0 b6 n λcode' n=>k n (hG tm o.dst (.w (.one (.int .i64 ⟨q,0,9223372036854775807⟩)))) (ei bl b ([.rows sh off code' fO kind],dQ)))) none
     |_,_,_=>none
    | .w (.one (.sl ..)),.w (.one (.con (.slice none 0 0))),some e=>match gT P e with
     |some _=>some (k n (hG tm o.dst (.w (.one (.int .i64 ⟨.const 0,0,0⟩)))) bl)
     |none=>none
    |_,_,_=>none
   |_,_=>none
  |_=>none
 |_=>none
noncomputable def adf (P:b4) (o:Oper) (n:Nat) (tm:List V) (bl:List aJ) (k:iz):Option T:=
 match o.op with
 | .call c=>match c.callee with
  | .builtin .copy=>match c.args.toList,c.argTypes.toList with
   |[x,y],[t,_]=>match cp tm x,cp tm y,kr P t with
    | .w (.one (.slc b off len _)),.w (.one (.slc cc Dm iW _)),some e=>match bl[b]?,yp bl cc Dm (LO iW len),gT P e with
     |some (C,dQ),some l,some s=>cond (aP s 1&&cO (off+l.length) C.length&&cl C&&cl (C.take off++l++C.drop (off+l.length)))
      (some (k n (hG tm o.dst (.w (.one (.int .i64 (b0.const (LO iW len:Nat)))))) (ei bl b (C.take off++l++C.drop (off+l.length),dQ)))) none
     |_,_,_=>none
    |_,_,_=>none
   |_,_=>none
  |_=>none
 |_=>none
noncomputable def Tl (code:I) (kd:dW) (lo hi:Int):Nat->Nat->M (List A)
 |0,_=>pure []
 |c+1,i=>bind (h8 21 [code,.const i]) λ_=>bind (gV 21 [code,.const i,.const 0] lo hi) λl=>bind (Tl code kd lo hi c (i+1)) λr=>pure (.int kd ⟨l,lo,hi⟩::r)
noncomputable def adg (P:b4) (o:Oper) (n:Nat) (tm:List V) (bl:List aJ) (k:iz):Option T:=
 match o.op with
 | .load t p=>match cp tm p with
  | .w (.one (.ptr b 0))=>match bl[b]?,lf P t,gT P t with
   |some ([.rows [.int kd lo hi] off code cap kind],_),some true,some s=>cond (cO 2 kind&&dX 0 s)
    (some (Tl code kd lo hi s 0 n λl n=>k n (hG tm o.dst (.w (.agg l))) bl)) none
   |_,_,_=>none
  |_=>none
 |_=>none
def XC:V->Option (Nat×List A)
 | .s5 f lp=>some (f,lp)
 | .w (.one (.con (.func (.func f) a b)))=>cond (aP a.size 0&&aP b.size 0) (some (f,[])) none
 |_=>none
noncomputable def ada (P:b4) (gl:fP) (cal:gL) (inl:mj) (o:Oper) (n:Nat) (tm:List V) (bl:List aJ) (k:iz):T:=
 match o.op with
 | .alloc t=>match ql P t with
  |some cs=>cond (cl cs) (k n (hG tm o.dst (.w (.one (.ptr bl.length 0)))) (bl++[(cs,(t,false))])) .stuck
  |none=> .stuck
 | .box t x=>match cp tm x with
  | .w u=>cond (cl u.cells) (k n (hG tm o.dst (.w (.one (.ptr bl.length 0)))) (bl++[(u.cells,(t,false))])) .stuck
  |_=> .stuck
 | .buildSlice t len parts=>match Xn P t len (parts.toList.map λp=>(p.1,cp tm p.2))with
  |some (cs,e)=>cond (cl cs) (k n (hG tm o.dst (.w (.one (.slc bl.length 0 len len)))) (bl++[(cs,(e,false))])) .stuck
  |none=> .stuck
 | .store t p x=>match cp tm p,cp tm x with
  | .w (.one (.ptr b off)),.w u=>match bl[b]?,gT P t with
   |some (cs,dQ),some s=>cond (aP u.cells.length s&&cO (off+s) cs.length&&dX 0 s&&cl cs&&cl (cs.take off++u.cells++cs.drop (off+s))) (k n (hG tm o.dst (.jh [])) (ei bl b (cs.take off++u.cells++cs.drop (off+s),dQ))) .stuck
   |_,_=> .stuck
  |_,_=> .stuck
 | .call c=>match c.callee with
  | .value (.func f)=>match cal f with
   |some _=>Dv P cal gl bl tm o n λv n'=>k n' (hG tm o.dst v) bl
   |none=>inl f n (c.args.toList.map (cp tm)) bl λn' v bt=>k n' (hG tm o.dst v) bt
  | .value (.tmp x)=>match QH cal bl tm o with
   |some _=>Dv P cal gl bl tm o n λv n'=>k n' (hG tm o.dst v) bl
   |none=>match XC (cp tm (.tmp x))with
   |some (f,lp)=>inl f n (c.args.toList.map (cp tm)++lp.map λy=>V.w (.one y)) bl λn' v bt=>k n' (hG tm o.dst v) bt
   |none=> .stuck
  | .builtin .append=>match c.args.toList,c.argTypes.toList with
   |[s,x],[t,t']=>W0 P o.dst t t' (cp tm s) (cp tm x) n tm bl k
   |_,_=> .stuck
  |_=>Dv P cal gl bl tm o n λv n'=>k n' (hG tm o.dst v) bl
 |_=>Dv P cal gl bl tm o n λv n'=>k n' (hG tm o.dst v) bl
noncomputable def TH (P:b4) (gl:fP) (cal:gL) (inl:mj) (o:Oper) (n:Nat) (tm:List V) (bl:List aJ) (k:iz):T:=
 match adb P o n tm bl k with
 |some t=>t
 |none=>match DK P o n tm bl k with
  |some t=>t
  |none=>match ade P o n tm bl k with
   |some t=>t
   |none=>match adf P o n tm bl k with
    |some t=>t
    |none=>match adg P o n tm bl k with
     |some t=>t
     |none=>ada P gl cal inl o n tm bl k
def ye:bH->Bool->Option (I×Option Int×Option Int)
 | .le p q,true=>match p.eT,q.eT with|some c,none=>some (q,some c,none)|none,some c=>some (p,none,some c)|_,_=>none
 | .le p q,false=>match p.eT,q.eT with|some c,none=>some (q,none,some (c-1))|none,some c=>some (p,some (c+1),none)|_,_=>none
 | .lt p q,true=>match p.eT,q.eT with|some c,none=>some (q,some (c+1),none)|none,some c=>some (p,none,some (c-1))|_,_=>none
 | .lt p q,false=>match p.eT,q.eT with|some c,none=>some (q,none,some c)|none,some c=>some (p,some c,none)|_,_=>none
 | .not b,v=>ye b (!v)
 |_,_=>none
def Kk (a:Int):Option Int->Int
 |some b=>cond (decide (a<=b)) b a
 |none=>a
def N8 (a:Int):Option Int->Int
 |some b=>cond (decide (b<=a)) b a
 |none=>a
def QD (b:bH) (v:Bool) (r:Option (I×Option Int×Option Int)):V->V
 | .w (.one (.bool e))=> .w (.one (.bool (cond (bH.beq e b) (.lit v) e)))
 | .w (.one (.int k x))=>match r with
  |some (l,lo,hi)=> .w (.one (.int k (cond (I.beq x.l l) (cond (decide (Kk x.lo lo=N8 x.hi hi)) (.const (Kk x.lo lo)) ⟨x.l,Kk x.lo lo,N8 x.hi hi⟩) x)))
  |none=> .w (.one (.int k x))
 |u=>u
def xJ (b:bH) (v:Bool) (l:List V):List V:=l.map (QD b v (ye b v))
def GW (ops:Array Oper) (tm:List V) (o:Oper) (yes no:List V->T):T:=
 match o.guard with
 |none=>yes tm
 |some (g,want)=>match(ops[g]?).bind (·.dst)with
  |none=> .stuck
  |some d=>match tm[d]? with
   |some (.w (.one (.bool b)))=>match b with
    | .lit v=>cond (v==want) (yes tm) (no tm)
    |b=> .uU b (cond want (yes (xJ b true tm)) (no (xJ b true tm))) (cond want (no (xJ b false tm)) (yes (xJ b false tm)))
   |some (.jh [])=>no tm
   |_=> .stuck
noncomputable def Ky (P:b4) (gl:fP) (cal:gL) (inl:mj) (ops:Array Oper):List Oper->Nat->List V->List aJ->iz->T
 |[],n,tm,bl,k=>k n tm bl
 |o::r,n,tm,bl,k=>GW ops tm o (λtm=>TH P gl cal inl o n tm bl λn' cK bt=>Ky P gl cal inl ops r n' cK bt k) (λtm=>Ky P gl cal inl ops r n (hG tm o.dst (.jh [])) bl k)
def WX (g:Nat->T):List Nat->T
 |[]=> .stuck
 |[i]=>g i
 |i::r=> .both (g i) (WX g r)
noncomputable def JJ (P:b4) (gl:fP) (cal:gL) (ops:Array Oper):List Oper->Nat->List V->List aJ->(Nat->List V->T)->T
 |[],n,tm,bl,k=>k n tm
 |o::r,n,tm,bl,k=>cond (iB o) (JJ P gl cal ops r n tm bl k) (GW ops tm o (λtm=>Dv P cal gl bl tm o n λv n'=>JJ P gl cal ops r n' (hG tm o.dst v) bl k) (λtm=>JJ P gl cal ops r n (hG tm o.dst (.jh [])) bl k))
def L7 (P:b4):List Oper->Nat->List V->List aJ->iz->T
 |[],n,tm,bl,k=>k n tm bl
 |o::r,n,tm,bl,k=>cond (iB o) (match o.op with
  | .alloc t=>match ql P t with
   |some cs=>cond (cl cs) (L7 P r n (hG tm o.dst (.w (.one (.ptr bl.length 0)))) (bl++[(cs,(t,false))]) k) .stuck
   |none=> .stuck
  |_=> .stuck) (L7 P r n tm bl k)
def Um (P:b4) (l:List Oper):Bool:=l.all λo=> !iB o||(match o.op with| .alloc t=>(ql P t).isSome|_=>false)
def JK (cal:gL) (dyn:Bool) (ops:Array Oper):List Tmp->List Oper->Nat
 |_,[]=>0
 |ds,o::r=>cond ((o.looksAt ops).any ds.contains) 0 <| cond (iB o) (JK cal dyn ops (match o.dst with|some d=>d::ds|none=>ds) r+1) <| cond (aEc cal dyn o) (JK cal dyn ops ds r+1) 0
def Nc (P:b4) (cal:gL) (ops:Array Oper):Nat:=
 cond (K4 ops (JK cal false ops [] ops.toList)&&Um P (ops.toList.take (JK cal false ops [] ops.toList))) (JK cal false ops [] ops.toList) (JK cal true ops [] ops.toList)
def Jq:Code->Option Nat
 | .region id _ _=>some id
 | .seq a b=>match Jq a with|some i=>some i|none=>Jq b
 | .block _ c| .loop c| .scope c=>Jq c
 | .cond _ a b=>match Jq a with|some i=>some i|none=>Jq b
 |_=>none
def XD:aW->aW->Bool
 | .pointer none,.pointer none=>true
 | .slice none 0 0,.slice none 0 0=>true
 | .func (.func f) a b,.func (.func ta) dT b'=>aP f ta&&aP a.size 0&&aP b.size 0&&aP dT.size 0&&aP b'.size 0
 |_,_=>false
def A.beq:A->A->Bool
 | .int k x,.int bI y=>decide (k=bI)&&I.beq x.l y.l&&x.lo==y.lo&&x.hi==y.hi
 | .bool a,.bool b=>bH.beq a b
 | .con a,.con b=>XD a b
 | .ptr b o,.ptr b' cL=>aP b b'&&aP o cL
 | .gptr b o,.gptr b' cL=>aP b b'&&aP o cL
 | .slc b o l c,.slc b' cL l' e3=>aP b b'&&aP o cL&&aP l l'&&aP c e3
 | .str a,.str b=>I.beq a b
 | .rows sh o c q k,.rows hk cL e3 fA bI=>tB sh hk&&I.beq o cL&&I.beq c e3&&I.beq q fA&&aP k bI
 | .sl b z o r l c,.sl b' adP cL r' l' e3=>aP b b'&&aP z adP&&I.beq o cL&&I.beq r r'&&I.beq l l'&&I.beq c e3
 | .ep b z o i j,.ep b' adP cL E8 aaf=>aP b b'&&aP z adP&&I.beq o cL&&I.beq i E8&&aP j aaf
 |_,_=>false
def rl:List A->List A->Bool
 |[],[]=>true
 |a::r,b::s=>A.beq a b&&rl r s
 |_,_=>false
def V.beq:V->V->Bool
 | .w (.one a),.w (.one b)=>A.beq a b
 | .w (.agg l),.w (.agg l')=>rl l l'
 | .jh [],.jh []=>true
 | .s5 f l,.s5 ta l'=>aP f ta&&rl l l'
 |_,_=>false
def EL (i:Nat):List (Nat×Int×Int)->Option (Int×Int)
 |[]=>none
 |(j,lo,hi)::r=>cond (aP i j) (some (lo,hi)) (EL i r)
noncomputable def hs (hT:List Nat) (ints:List (Nat×Int×Int)):Nat->Nat->List V->Option (List V×List I×List (Int×Int))
 |_,_,[]=>some ([],[],[])
 |i,s,v::r=>cond (hT.any (aP i)) (match hs hT ints (i+1) s r with|some (t,l,b)=>some (v::t,l,b)|none=>none)
  (match EL i ints with
  |some (lo,hi)=>match v with
   | .w (.one (.int k x))=>cond (decide (lo<=x.lo)&&decide (x.hi<=hi)) (match hs hT ints (i+1) (s+1) r with|some (t,l,b)=>some (.w (.one (.int k ⟨.var s,lo,hi⟩))::t,x.l::l,(lo,hi)::b)|none=>none) none
   | .w (.one (.str x))=>(match hs hT ints (i+1) (s+1) r with|some (t,l,b)=>some (.w (.one (.str (.var s)))::t,x::l,(0,qu)::b)|none=>none)
   |_=>none
  |none=>match hs hT ints (i+1) s r with|some (t,l,b)=>some (.any::t,l,b)|none=>none)
noncomputable def mT (lo hi:Int) (s:Nat):A->Option (A×I×(Int×Int))
 | .int k x=>cond (decide (lo<=x.lo)&&decide (x.hi<=hi)) (some (.int k ⟨.var s,lo,hi⟩,x.l,(lo,hi))) none
 | .str x=>some (.str (.var s),x,(0,qu))
 | .rows sh off code cap k=>some (.rows sh off (.var s) cap k,code,(0,b6))
 |_=>none
noncomputable def ha (ints:List (Nat×Int×Int)):Nat->Nat->List A->Option (List A×List I×List (Int×Int))
 |_,_,[]=>some ([],[],[])
 |i,s,v::r=>match EL i ints with
  |some (lo,hi)=>match mT lo hi s v with
   |some (a,x,hA)=>match ha ints (i+1) (s+1) r with|some (t,l,b)=>some (a::t,x::l,hA::b)|none=>none
   |none=>none
  |none=>match ha ints (i+1) s r with|some (t,l,b)=>some (v::t,l,b)|none=>none
def cellsOf (b:Nat):List (Nat×Nat×Int×Int)->List (Nat×Int×Int)
 |[]=>[]
 |(b',c,q)::r=>cond (aP b b') ((c,q)::cellsOf b r) (cellsOf b r)
noncomputable def hb (cells:List (Nat×Nat×Int×Int)):Nat->Nat->List aJ->Option (List aJ×List I×List (Int×Int))
 |_,_,[]=>some ([],[],[])
 |i,s,(cs,ty)::r=>match ha (cellsOf i cells) 0 s cs with
  |some (c,l,b)=>match hb cells (i+1) (s+l.length) r with
   |some (t,l',b')=>some ((c,ty)::t,l++l',b++b')
   |none=>none
  |none=>none
def p2:List V->List V->Bool
 |[],[]=>true
 | .any::r,_::s=>p2 r s
 |v::r,u::s=>V.beq v u&&p2 r s
 |_,_=>false
def p1:List aJ->List aJ->Bool
 |[],[]=>true
 |(c,t)::r,(e3,t')::s=>rl c e3&&aP t.1 t'.1&&(t.2==t'.2)&&p1 r s
 |_,_=>false
def hB:aJ:=([.rows [] (.const 0) (.const 0) (.const 0) 0],(0,false))
def Bo:List A->Bool
 |[.rows _ _ _ _ k]=>aP k 1
 |_=>false
def j6 (N:Nat):Nat->List aJ->List aJ
 |_,[]=>[]
 |i,p::r=>cond (dX i N&&(cl p.1||Bo p.1)) p hB::j6 N (i+1) r
def Re (N:Nat) (tm:List V) (bl:List aJ) (o:Oper):Bool:=match o.op with
 | .move _| .assign _| .extract _ _| .fieldAddr .. =>true
 | .load _ p=>match cp tm p with
  | .w (.one (.ptr b _))=>dX b N&&(match bl[b]? with|some p=>cl p.1|none=>false)
  |_=>false
 | .slice _ x _ _ _=>match cp tm x with| .w (.one (.sl ..))=>true|_=>false
 |_=>false
def Rf (N:Nat) (tm:List V) (bl:List aJ) (o:Oper):Bool:=match o.op with
 | .binOp _ _ x y _=>match cp tm x,cp tm y with
  | .w (.one (.int ..)),.w (.one (.int ..))=>true
  |_,_=>false
 | .indexAddr _ x _=>match cp tm x with| .w (.one (.sl ..))=>true|_=>false
 | .slice _ x _ _ _=>match cp tm x with| .w (.one (.str _))=>true|_=>false
 | .load _ p=>match cp tm p with
  | .w (.one (.ep b ..))=>dX b N&&(match bl[b]? with|some p=>Bo p.1|none=>false)
  |_=>false
 |_=>false
def RN (o:Oper):Bool:=match o.op with| .store .. =>true|_=>false
def abk (o:Oper):Bool:=match o.op with| .move _| .assign _| .extract _ _| .fieldAddr .. | .load .. | .slice .. =>true|_=>false
def akf (o:Oper):Bool:=match o.op with| .call c=>(match c.callee with| .value _=>true|_=>false)|_=>false
def ax4 (o:Oper):Bool:=match o.op with| .call c=>(match c.callee with| .builtin .copy=>true|_=>false)|_=>false
def azn (ops:List Oper) (p:rf):Bool:=match p with
 | .tmp d=>ops.any λo=>o.dst==some d&&(match o.op with| .alloc .. =>true|_=>false)
 |_=>false
def abm (ops:Array Oper):Bool:=(ops.toList.any (λo=>RN o||akf o)&&cO 7 (ops.toList.filter λo=> !abk o).length)||(ops.toList.any akf&&ops.toList.any RN&&ops.toList.all λo=>match o.op with| .store _ p _=>azn ops.toList p|_=>true)
def Nf (tm:List V) (o:Oper):Bool:=match o.op with
 | .slice _ x _ _ _=>match cp tm x with| .w (.one (.ptr ..))=>true|_=>false
 |_=>false
def aje (N:Nat) (tm:List V) (bl:List aJ) (ops:Array Oper) (listed:Array Bool):Option Nat:=
 cond (Ut ops) ((ze .any ops listed).find? λi=>(match ops[i]? with|some o=>Re N tm bl o||(abm ops&&(Rf N tm bl o||Nf tm o))||(ops.toList.any ax4&&Nf tm o)|none=>false)&&aJB .any ops listed i) none
def azz (ops:Array Oper) (tm:List V) (o:Oper):Bool:=match o.guard with
 |some (g,want)=>match(ops[g]?).bind (·.dst)with
  |some d=>match tm[d]? with
   |some (.w (.one (.bool (.lit v))))=> !(v==want)
   |some (.jh [])=>true
   |_=>false
  |none=>false
 |none=>false
def alX (tm:List V) (ops:Array Oper) (listed:Array Bool):Option Nat:=
 cond (Ut ops) ((ze .any ops listed).find? λi=>(match ops[i]? with|some o=>azz ops tm o|none=>false)&&aJB .any ops listed i) none
def preB:List aJ->List aJ->Bool
 |(c,t)::r,(e3,t')::s=>rl c e3&&aP t.1 t'.1&&(t.2==t'.2)&&preB r s
 |[],_=>true
 |_,_=>false
noncomputable def Cx (P:b4) (gl:fP) (cal:gL) (inl:mj) (ops:Array Oper) (N:Nat) (I6:List aJ):Nat->Array Bool->Nat->List V->List aJ->iz->T
 |0,listed,n,tm,bl,k=>match ze .any ops listed with
  |[]=>k n tm bl
  |_=> .stuck
 |f+1,listed,n,tm,bl,k=>match ze .any ops listed with
  |[]=>k n tm bl
  |l=>match aje N tm bl ops listed with
   |some i=>match ops[i]? with
    |none=> .stuck
    |some o=>GW ops tm o (λtm=>Dv P cal gl (j6 N 0 bl) tm o n λv n'=>Cx P gl cal inl ops N I6 f (listed.setIfInBounds i true) n' (hG tm o.dst v) bl k) (λtm=>Cx P gl cal inl ops N I6 f (listed.setIfInBounds i true) n (hG tm o.dst (.jh [])) bl k)
   |none=>match alX tm ops listed with
    |some i=>match ops[i]? with
     |none=> .stuck
     |some o=>GW ops tm o (λ_=> .stuck) (λtm=>Cx P gl cal inl ops N I6 f (listed.setIfInBounds i true) n (hG tm o.dst (.jh [])) bl k)
    |none=>WX (λi=>match ops[i]? with
    |none=> .stuck
    |some o=>GW ops tm o (λtm=>TH P gl cal inl o n tm bl λn' cK bt=>cond (preB I6 (j6 N 0 bt)) (Cx P gl cal inl ops N I6 f (listed.setIfInBounds i true) n' cK bt k) .stuck) (λtm=>Cx P gl cal inl ops N I6 f (listed.setIfInBounds i true) n (hG tm o.dst (.jh [])) bl k)) l
def arj (ops:List Oper) (tm:List V) (p:rf):Nat:=match p with
 | .tmp d=>match ops.find? λo=>o.dst==some d with
  |some o=>match o.op with
   | .fieldAddr _ x _=>match cp tm x with| .w (.one (.ptr b _))=>b|_=>0
   | .alloc .. =>1000000
   |_=>0
  |none=>match cp tm p with| .w (.one (.ptr b _))=>b|_=>0
 |_=>0
def afH (ops:List Oper) (tm:List V):List Oper->Nat->Nat
 |[],N=>N
 |o::r,N=>afH ops tm r (match o.op with| .store _ p _=>min N (arj ops tm p)|_=>N)
def Nd (ops:Array Oper) (tm:List V) (bl:List aJ):Nat:=cond (abm ops) (min bl.length (afH ops.toList tm ops.toList bl.length)) (cond (ops.toList.any RN) 0 bl.length)
def acA (body:Nat->List V->List aJ->x0->T):Nat->Nat->List V->List aJ->x0->T
 |0,_,_,_,_=> .stuck
 |r+1,n,tm,bl,k=>body n tm bl λx n' cK bt=>match x with
  | .normal=>acA body r n' cK bt k
  |x=>k x n' cK bt
def AT (lo:Nat):List (Nat×List aQ×br)->List V->List aJ->List Nat->Option (List I×List Nat)
 |[],_,_,used=>some ([],used)
 |(s,sh,e)::r,tm,bl,used=>match tm[s]? with
  |some (.w (.one (.con (.slice none 0 0))))=>match AT lo r tm bl used with
   |some (l,u)=>some (.const 0:: .const 0:: .const (-1)::l,u)
   |none=>none
  |some (.w (.one (.sl b bG o ro len cap)))=>match bl[b]? with
   |some ([.rows hk off code fO kind],t)=>cond (tB sh hk&&aP kind 2&&I.beq o (.const 0)&&I.beq off (.const 0)&&I.beq ro (.const 0)&&I.beq cap fO&&aP t.1 e&&aP bG sh.length&&cO lo b&& !(used.any (aP b)))
    (match AT lo r tm bl (b::used)with
    |some (l,u)=>some (code::len::cap::l,u)
    |none=>none) none
   |_=>none
  |_=>none
def qb:List Nat->List aJ->List aJ
 |[],bl=>bl
 |b::r,bl=>match bl[b]? with
  |some ([.rows sh off code cap _],t)=>qb r (ei bl b ([.rows sh off code cap 0],t))
  |_=>qb r bl
def GS:List (Nat×Int×Int)->List V->M (List V)
 |[],tm=>pure tm
 |(s,lo,hi)::r,tm=>match tm[s]? with
  |some (.w (.one (.int k x)))=>cond (decide (lo<=x.lo)&&decide (x.hi<=hi)) (GS r tm) (bind (h8 39 [x.l,.const lo,.const hi]) λ_=>GS r (xF tm s (.w (.one (.int k ⟨x.l,lo,hi⟩)))))
  |_=>GS r tm
def Mf (tm:List V):List Nat->M (List I)
 |[]=>pure []
 |s::r=>match tm[s]? with
  |some (.w (.one (.bool e)))=>bind (match e with| .lit v=>pure (.const (cond v 1 0))|e=>Hv e) λl=>bind (Mf tm r) λls=>pure (l::ls)
  |_=>fail
def zL:List Nat->Nat->List V->List V
 |[],_,tm=>tm
 |s::r,v,tm=>zL r (v+1) (xF tm s (.w (.one (.bool (.eq (.var v) (.const 1))))))
def wT:List (Nat×List aQ×br)->Nat->List V->List aJ->List V×List aJ
 |[],_,tm,bl=>(tm,bl)
 |(s,sh,e)::r,v,tm,bl=>wT r (v+3) (xF tm s (.w (.one (.sl bl.length sh.length (.const 0) (.const 0) (.var (v+1)) (.var (v+2)))))) (bl++[([.rows sh (.const 0) (.var v) (.var (v+2)) 2],(e,false))])
def Qe (l:List Nat):List (Int×Int):=l.map λ_=>(0,1)
noncomputable def Gm (l:List (Nat×List aQ×br)):List (Int×Int):=l.flatMap λ_=>[(0,b6),(0,9223372036854775807),(-1,9223372036854775807)]
noncomputable def OY:List (Nat×List aQ×Nat)->List aJ->M (List aJ)
 |[],bl=>pure bl
 |(b,sh,c)::r,bl=>match bl[b]? with
  |some (C,t)=>cond (cl C) (cond (!t.2&&aP C.length (c*sh.length)&&qh sh&&cO c 1000000) (bind (Ek sh (rv sh.length c C) (.const 0)) λcode=>OY r (ei bl b ([.rows sh (.const 0) code (.const c) 2],t))) fail) (OY r bl)
  |none=>fail
def H2:List (Nat×List aQ)->List V->List aJ->Option (List I)
 |[],_,_=>some []
 |(s,sh)::r,tm,bl=>match tm[s]? with
  |some (.w (.one (.con (.slice none 0 0))))=>match H2 r tm bl with
   |some l=>some (.const 0:: .const 0:: .const (-1)::l)
   |none=>none
  |some (.w (.one (.sl b bG o ro len cap)))=>match bl[b]? with
   |some ([.rows hk off code fO kind],t)=>cond (tB sh hk&&aP kind 1&&I.beq o off&&I.beq ro (.const 0)&&I.beq cap fO&&aP bG sh.length)
    (match H2 r tm bl with
    |some l=>some (code::len::cap::l)
    |none=>none) none
   |_=>none
  |_=>none
def SQ:Nat->M Unit
 |0=>pure ()
 |k+1=>λn IK=> .nat n (SQ k (n+1) IK)
def headD:List (Nat×List aQ)->Nat->Nat->List V->List aJ->List V×List aJ
 |[],_,_,tm,bl=>(tm,bl)
 |(s,sh)::r,v,u,tm,bl=>headD r (v+3) (u+1) (xF tm s (.w (.one (.sl bl.length sh.length (.var u) (.const 0) (.var (v+1)) (.var (v+2)))))) (bl++[([.rows sh (.var u) (.var v) (.var (v+2)) 1],(0,false))])
noncomputable def HZ (l:List (Nat×List aQ)):List (Int×Int):=l.flatMap λ_=>[(0,b6),(0,9223372036854775807),(-1,9223372036854775807)]
noncomputable def abj (li:hN) (body:Nat->List V->List aJ->x0->T) (n:Nat) (tm:List V) (bl:List aJ) (k:x0):T:=
 OY li.acF bl n λbl n=>GS li.ints tm n λtm n=>Mf tm li.uT n λgO n=>match hs li.hT li.ints 0 (n+1) tm,AT 0 li.tL tm bl [],H2 li.py tm bl with
 |some (oQ,l1,ca),some (hU,us),some gH=>match hb li.cells 0 (n+1+l1.length) (qb us bl)with
  |none=> .stuck
  |some (gv,l2,cc)=>cond (!(p2 oQ oQ&&p1 gv gv)) .stuck <| .loop n (l1++l2++(gO++hU++gH)) (n+1) (ca++cc++(Qe li.uT++Gm li.tL++HZ li.py))
   (SQ li.py.length (n+1+l1.length+l2.length+(gO++hU++gH).length) λ_ N=>
   let d:=headD li.py (n+1+l1.length+l2.length+(gO++hU).length) (n+1+l1.length+l2.length+(gO++hU++gH).length) (zL li.uT (n+1+l1.length+l2.length) oQ) gv;let e:=wT li.tL (n+1+l1.length+l2.length+gO.length) d.1 d.2
   body N e.1 e.2 λx n' cK bt=>match x with
   | .normal=>GS li.ints cK n' λcK n'=>Mf cK li.uT n' λakQ n'=>match hs li.hT li.ints 0 (n+1) cK,AT bl.length li.tL cK bt [],H2 li.py cK bt with
    |some (DL,v1,_),some (aa8,_),some ak0=>match hb li.cells 0 (n+1+v1.length) (bt.take bl.length)with
     |none=> .stuck
     |some (so,v2,_)=>cond (p2 oQ DL&&p1 gv so) (.again n (v1++v2++(akQ++aa8++ak0))) .stuck
    |_,_,_=> .stuck
   |x=>k x n' cK bt)
 |_,_,_=> .stuck
noncomputable def pU (P:b4) (gl:fP) (cal:gL) (inl:mj) (li:Nat->Option hN) (rounds:Nat):Code->Nat->List V->List aJ->x0->T
 | .skip,n,tm,bl,k=>k .normal n tm bl
 | .region _ ops draw,n,tm,bl,k=>cond draw
  (let h:=Nc P cal ops
   cond (K4 ops h&&Um P (ops.toList.take h)) (JJ P gl cal ops (ops.toList.take h) n tm bl λn' cK=>L7 P (ops.toList.take h) n' cK bl λn' cK bt=>Ky P gl cal inl ops (ops.toList.drop h) n' cK bt (k .normal)) (cond (cO (ops.toList.filter λo=> !abk o).length 12) (Cx P gl cal inl ops (Nd ops tm bl) (j6 (Nd ops tm bl) 0 bl) ops.size (Ci ops.size false) n tm bl (k .normal)) .stuck))
  (Ky P gl cal inl ops ops.toList n tm bl (k .normal))
 | .seq a b,n,tm,bl,k=>pU P gl cal inl li rounds a n tm bl λx n' cK bt=>match x with
  | .normal=>pU P gl cal inl li rounds b n' cK bt k
  |x=>k x n' cK bt
 | .cond c a b,n,tm,bl,k=>match cp tm c with
  | .w (.one (.bool e))=>match e with
   | .lit v=>cond v (pU P gl cal inl li rounds a n tm bl k) (pU P gl cal inl li rounds b n tm bl k)
   |e=> .uU e (pU P gl cal inl li rounds a n (xJ e true tm) bl k) (pU P gl cal inl li rounds b n (xJ e false tm) bl k)
  |_=> .stuck
 | .block id c,n,tm,bl,k=>pU P gl cal inl li rounds c n tm bl λx n' cK bt=>match x with
  | .exit E9=>cond (aP E9 id) (k .normal n' cK bt) (k (.exit E9) n' cK bt)
  |x=>k x n' cK bt
 | .loop c,n,tm,bl,k=>match(Jq c).bind li with
  |some l=>abj l (λn tm bl k=>pU P gl cal inl li rounds c n tm bl k) n tm bl k
  |none=>acA (λn tm bl k=>pU P gl cal inl li rounds c n tm bl k) rounds n tm bl k
 | .exit id,n,tm,bl,k=>k (.exit id) n tm bl
 | .ret,n,tm,bl,k=>k .ret n tm bl
 |_,_,_,_,_=> .stuck
def OV (P:b4) (gl:fP) (bl:List aJ) (tm:List V):ResultVar->Option W
 | .tmp t=>match tm[t]? with|some (.w u)=>some u|_=>none
 | .cell a t=>match tm[a]? with
  |some (.w (.one p))=>match Ja bl gl p,lf P t,gT P t with
   |some cs,some true,some k=>cond (cO k cs.length) (some (.agg (cs.take k))) none
   |some (x::_),some false,_=>some (.one x)
   |_,_,_=>none
  |_=>none
def H5 (P:b4) (gl:fP) (bl:List aJ) (tm:List V):List ResultVar->Option (List W)
 |[]=>some []
 |r::s=>match OV P gl bl tm r,H5 P gl bl tm s with|some u,some l=>some (u::l)|_,_=>none
def abP (tm:List V):List ResultVar->Option V
 |[.tmp t]=>match tm[t]? with
  |some (.s5 f c)=>some (.s5 f c)
  |some (.sL b l lo)=>some (.sL b l lo)
  |_=>none
 |_=>none
def OT (P:b4) (gl:fP) (fn:Func) (n:Nat) (tm:List V) (bl:List aJ) (k:RK):T:=
 match H5 P gl bl tm fn.results.toList with
 |some [u]=>k n (.w u) bl
 |some l=>k n (.jh l) bl
 |none=>match abP tm fn.results.toList with
  |some v=>k n v bl
  |none=> .stuck
def KR:Nat->List V
 |0=>[]
 |n+1=> .jh []::KR n
noncomputable def Qc (P:b4) (gl:fP) (cal:gL) (inl:mj) (li:dL->Nat->Option hN) (rounds:Nat):mj:=
 λf n vs bl k=>match P.funcs[f]? with
  |none=> .stuck
  |some fn=>match fn.body with
   |none=> .stuck
   |some c=>cond (!(fn.name== "runtime.NumGoroutine")&&cO vs.length fn.ntmps) (pU P gl cal inl (li f) rounds c n (vs++KR (fn.ntmps-vs.length)) bl λx n' cK bt=>match x with
    | .exit _=> .stuck
    |_=>OT P gl fn n' cK bt k) .stuck
noncomputable def Mk (P:b4) (gl:fP) (cal:gL) (li:dL->Nat->Option hN) (rounds:Nat):Nat->mj
 |0=>λ_ _ _ _ _=> .stuck
 |d+1=>Qc P gl cal (Mk P gl cal li rounds d) li rounds
abbrev qq:=dL->Option (Nat->List V->List aJ->RK->T)
noncomputable def abR (bc:qq) (inl:mj):mj:=λf n vs bl k=>match bc f with
 |some g=>g n vs bl k
 |none=>inl f n vs bl k
noncomputable def I9 (bc:qq) (P:b4) (gl:fP) (cal:gL) (li:dL->Nat->Option hN) (rounds:Nat):Nat->mj
 |0=>λ_ _ _ _ _=> .stuck
 |d+1=>Qc P gl cal (abR bc (I9 bc P gl cal li rounds d)) li rounds
end Go.b9
