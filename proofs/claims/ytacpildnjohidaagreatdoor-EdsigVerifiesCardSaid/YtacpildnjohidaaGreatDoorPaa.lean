/- Texts as numbers. -/
import GoSem.ClaimData
import GoSem.Op.String
import Derived.WalkKit
import Derived.Laws.StructEq
import Derived.ChangeKeysEq
import Derived.Laws.Tables
import Derived.Laws.Strings2
import Derived.Laws.Concat
import Derived.Laws.Cover1
import Derived.Laws.Cover3
import Derived.Laws.BytesArg
import Derived.StillTail
import Derived.OrdersHeld
import Derived.Laws.CopyRow
import Derived.Deep.LoopGhost
open Array renaming toArray_toList->m6,replicate->Cu,toList_map->Ed,eq_empty_of_size_eq_zero->Ef,getElem?_toList->QB,getElem?_eq_none->Wh,getElem?_setIfInBounds_ne->aOY,ext_getElem?->aPa
open BitVec renaming ofInt->rE,toNat_ofInt->Qw
open Bool renaming and_eq_true->bA,not_eq_true'->cy,not_true->cL,not_eq_false'->c5,false_eq_true->zz,or_eq_true->Ea,false_or->I0,true_and->aOQ
open ByteArray renaming size->aTX
open Classical renaming byContradiction->afU,choose_spec->ar9,choose->aOD
open Function renaming comp->V5
open Go renaming World->aC,Value->a6,TypeId->bw,Program->bU,FuncId->dD,IntKind->dZ,run_underlying->hV,Operand->rF,getD_both->I2,run_loadCells_list->Qr
open Go.Act renaming put->LQ
open Go.Builtin renaming len_->Qz,min_->af9,max_->aga
open Go.ByteArray renaming toList_mk->aTW
open Go.Deferred renaming ofValue->asp
open Go.Instr renaming sureAddr->px,loadAt->p5,sliceBounds->tt,indexAt->xS,sliceAt->xT,sliceBound->QA,extract->asd,fieldAt->ase,fill->asn,index->aso,slice->asq,arrayAt->asr
open Go.IntKind renaming max->hU,signed->Qv,bits->asj,wrap->aOP
open Go.Next renaming value->m7
open Go.Next.value renaming injEq->aPc
open Go.Op renaming eqFields->LS,intBits->We,equalIn->Wg
open Go.Oper renaming wp->qR
open Go.Program renaming fieldsOf->aO5
open Go.Region renaming ready->zA,wanted->Cy,waitsFor->Ee,waitsFor_spec->I1,noSelect->V6,binds->af5,Mode->ass,chainB->aO7,seqB->aO8,free->aPe
open Go.Result renaming andThen_ok->kg,andThen->aPd
open Go.Result.ok renaming injEq->aPb
open Go.Sem renaming run_bind->jV,run_pure->lH
open Go.Utf8 renaming encode->Wf
open Go.Value.pointer renaming injEq->aTI
open Go.World renaming cell?->pw
open Go.World.Extends renaming refl->sA
open Int renaming le_refl->cF,toNat_natCast->kf,mul_comm->lG,emod_eq_of_lt->mF,lt_or_le->m5,eq_ofNat_of_zero_le->oP,le_of_lt->sz,emod_nonneg->tr,emod_lt_of_pos->vl,mul_assoc->D5,mul_le_mul_of_nonneg_left->Gf,dvd_of_emod_eq_zero->IQ,mul_add->LL,natCast_nonneg->afV,ediv_nonneg->af1,mul_le_mul->af3,mul_nonneg->asg,mul_ediv_add_emod->asi,ofNat_sub->asl,mul_emod_right->asm,ediv_le_ediv->aOO,ediv_le_self->aOU,fdiv_eq_ediv_of_nonneg->aOV,tdiv_eq_ediv_of_nonneg->aOW,tmod_eq_emod_of_nonneg->aOX,ofNat_toNat->aPi
open List renaming getD->I,map_cons->dk,mem_cons_of_mem->eS,replicate->fD,mem_of_getElem?->fZ,range->ga,length_append->gx,map_nil->gZ,length_cons->kJ,map_congr_left->kK,getElem?_eq_getElem->nI,mem_of_mem_take->nJ,map_map->om,mem_cons->pt,length_take->p6,length_map->qQ,getElem?_map->rC,mem_of_mem_drop->rG,getElem?_take->vm,flatMap_cons->wy,getElem?_cons_zero->xZ,getElem?_append_left->zx,drop_drop->Cs,getElem?_drop->Cw,getElem_mem->Gh,mem_of_find?_eq_some->IY,getElem?_append_right->LM,map_take->LO,map_drop->LP,head?->LR,map_id->Qo,getElem?_toArray->Qx,tail->Qy,find?_some->V7,mem_map_of_mem->aOZ,take_drop->aO4,countP_cons->aO9
open Nat renaming beq->aR,le_refl->bS,eq_of_beq_eq_true->bV,ble->cJ,blt->ea,le_of_ble_eq_true->gY,le_trans->nK,add_zero->pv,log2->rB,le_succ->uq,pow_succ->zv,mul_comm->AX,lt_succ_self->A1,zero_add->A2,succ_mul->Cv,add_mul->Cz,pow_add->D8,min_eq_left->Eb,lt_or_ge->Ec,add_assoc->IS,two_pow_pos->IU,zero_le->IV,lt_of_lt_of_le->IW,min->LU,div_div_eq_div_mul->Ql,pow_le_pow_right->Qn,div_add_mod->V1,mul_assoc->V4,mul_div_cancel_left->afW,one_le_two_pow->asa,testBit_mul_two_pow->aOR,lt_log2_self->aOS,or_lt_two_pow->aOT
open Option renaming isSome_none->zy,map_some->AY,getD_some->D9,getD_none->af4,map_none->aO6
open Option.some renaming injEq->bp,inj->iH
open Prod.mk renaming injEq->eZ
open Pure renaming pure->V9
open UInt8 renaming ofNat->Gc
set_option linter.unusedVariables false
set_option linter.unusedSimpArgs false
namespace Go.bX
def q0:List UInt8->Nat
 |[]=>0
 |b::r=>(b.toNat+1)+257*q0 r
def FX:Nat->Nat->List UInt8
 |0,_=>[]
 |f+1,n=>match n with
  |0=>[]
  |k+1=>Gc (k% 257)::FX f ((k+1)/257)
theorem YW (b:UInt8) (r:List UInt8):q0 (b::r)=(b.toNat+1)+257*q0 r:=rfl
theorem au7 (b:UInt8) (r:List UInt8):q0 (b::r)=(b.toNat+257*q0 r)+1:=by rw[YW];omega
theorem apM:∀(l:List UInt8) (f:Nat),l.length<=f->FX f (q0 l)=l
 |[],0,_=>rfl
 |[],f+1,_=>rfl
 |b::r,0,h=>by simp at h
 |b::r,f+1,h=>by
  have hb:=b.toNat_lt;rw[au7];show Gc ((b.toNat+257*q0 r)% 257)::FX f ((b.toNat+257*q0 r+1)/257)=b::r;have ar:(b.toNat+257*q0 r)% 257=b.toNat:=by omega
  have aG:(b.toNat+257*q0 r+1)/257=q0 r:=by omega
  rw[ar,aG,apM r f (by simpa using h)];simp
theorem apN:∀(f n k:Nat),n<257^k->(FX f n).length<=k
 |0,_,_,_=>by simp[FX]
 |f+1,0,k,_=>by simp[FX]
 |f+1,n+1,0,h=>by simp at h
 |f+1,n+1,k+1,h=>by
  have:(n+1)/257<257^k:=by rw[Nat.div_lt_iff_lt_mul (by decide)];rw[zv]at h;exact h
  have ih:=apN f ((n+1)/257) k this;simp only[FX,kJ];omega
theorem ajy:∀(l:List UInt8),q0 l<257^l.length
 |[]=>by simp[q0]
 |b::r=>by
  have ih:=ajy r;have hb:=b.toNat_lt;unfold q0;rw[kJ,zv];omega
theorem ajx:∀(l:List UInt8),l.length<=q0 l
 |[]=>by simp
 |b::r=>by
  have ih:=ajx r;unfold q0;rw[kJ];omega
theorem ajz:∀(l:List UInt8),0<l.length->2^(l.length-1)<=q0 l
 |[b],_=>by rw[YW];show 1<=_;omega
 |b::c::r,_=>by
  have ih:=ajz (c::r) (by simp);rw[YW b];simp only[kJ,Nat.add_sub_cancel]at ih⊢;rw[zv];omega
def cN (z:Int):List UInt8:=FX (rB z.toNat+1) z.toNat
def l5 (l:List UInt8):Int:=q0 l
theorem Iu (l:List UInt8):cN (l5 l)=l:=by
 unfold cN l5;rw[kf];apply apM;by_cases h:l.length=0
 ·omega
 ·have h1:=ajz l (by omega);have h2:q0 l≠0:=by have:=ajx l;omega
  have h3:=(Nat.le_log2 h2).2 h1;omega
theorem Mn (l:List UInt8):0<=l5 l:=afV _
theorem atB (k:Nat):∃H:Int,(∀l:List UInt8,l.length<=k->l5 l<=H)/\∀z:Int,z<=H->(cN z).length<=k:=by
 refine⟨(257^k:Nat)-1,λl h=>?_,λz h=>?_⟩
 ·have h1:=ajy l;have h2:257^l.length<=257^k:=Qn (by decide) h;unfold l5;omega
 ·unfold cN;apply apN;have:=Nat.pow_pos (n:=k) (show 0<257 by decide);omega
def tY:Nat:=140737488351232
theorem Xv:∃H:Int,(∀l:List UInt8,l.length<=tY->l5 l<=H)/\∀z:Int,z<=H->(cN z).length<=tY:=atB tY
noncomputable def tu:Int:=aOD Xv
theorem Jb {l:List UInt8} (h:l.length<=tY):l5 l<=tu:=(ar9 Xv).1 l h
theorem atC {z:Int} (h:z<=tu):(cN z).length<=tY:=(ar9 Xv).2 z h
theorem ahe:0<=tu:=by have:=Jb (l:=[]) (by simp);exact this
def yB (l:List UInt8):List UInt8:=cond (cJ l.length 1000000) l []
theorem aB1 (l:List UInt8):0<=l5 (yB l)/\l5 (yB l)<=tu:=by
 refine⟨Mn _,Jb ?_⟩;unfold yB;cases h:cJ l.length 1000000 with
 |true=>have:=gY h;simp only[cond_true];unfold tY;omega
 |false=>simp
def iu (l:List UInt8):ByteArray:=⟨l.toArray⟩
def CB (z:Int):Nat:=if 0<=z then 2*z.toNat else 2*(-z).toNat-1
def F4 (n:Nat):Int:=if n% 2=0 then((n/2:Nat):Int)else-(((n+1)/2:Nat):Int)
theorem aN0 (z:Int):F4 (CB z)=z:=by
 unfold CB F4;split
 ·rw[if_pos (by omega)];omega
 ·rw[if_neg (by omega)];omega
def lc:List Nat->Nat
 |[]=>0
 |x::r=>2^x*(2*lc r+1)
def uk:Nat->Nat->Nat
 |0,_=>0
 |f+1,n=>if n% 2=0 then uk f (n/2)+1 else 0
theorem aqt (k:Nat):∀(x f:Nat),x<f->uk f (2^x*(2*k+1))=x
 |0,f+1,_=>by
  unfold uk;rw[if_neg (by rw[Nat.pow_zero,Nat.one_mul];omega)]
 |x+1,f+1,h=>by
  unfold uk;have e:2^(x+1)*(2*k+1)=2*(2^x*(2*k+1)):=by rw[zv,AX (2^x) 2,V4]
  rw[e,if_pos (by omega),afW _ (by decide),aqt k x f (by omega)]
def Du:Nat->Nat->List Nat
 |0,_=>[]
 |f+1,n=>if n=0 then []else uk n n::Du f (n/2^uk n n/2)
theorem aCX (x:Nat):x<2^x:=Nat.lt_two_pow_self
theorem acJ:∀l:List Nat,l.length<=lc l
 |[]=>bS _
 |x::r=>by
  have ih:=acJ r;unfold lc;have h1:1<=2^x:=asa;have h2:2*lc r+1<=2^x*(2*lc r+1):=Nat.le_mul_of_pos_left _ h1;rw[kJ];omega
theorem acL:∀(l:List Nat) (f:Nat),l.length<=f->Du f (lc l)=l
 |[],0,_=>rfl
 |[],f+1,_=>by simp[Du,lc]
 |x::r,0,h=>by simp at h
 |x::r,f+1,h=>by
  have h1:1<=2^x:=asa;have h2:2^x<=2^x*(2*lc r+1):=Nat.le_mul_of_pos_right _ (by omega);have h3:=aCX x;have hz:lc (x::r)≠0:=by
   have hl:lc (x::r)=2^x*(2*lc r+1):=rfl;omega
  have aA:uk (lc (x::r)) (lc (x::r))=x:=by
   show uk (2^x*(2*lc r+1)) (2^x*(2*lc r+1))=x;exact aqt _ _ _ (by omega)
  unfold Du;rw[if_neg hz,aA];have e:lc (x::r)/2^x/2=lc r:=by
   have hl:lc (x::r)=2^x*(2*lc r+1):=rfl;rw[hl,afW _ (by omega)];omega
  rw[e,acL r f (by simpa using h)]
theorem acI (X:Nat):∀k:Nat,∃B,∀l:List Nat,l.length<=k->(∀x∈l,x<=X)->lc l<=B
 |0=>⟨0,λl h _=>by
  have:l=[]:=List.length_eq_zero_iff.1 (by omega);subst this;exact bS _⟩
 |k+1=>by
  obtain⟨B,dm⟩:=acI X k;refine⟨2^X*(2*B+1),λl h hx=>?_⟩;cases l with
  |nil=>exact IV _
  |cons x r=>
   unfold lc;have h1:=dm r (by simpa using h) λy hy=>hx y (eS _ hy);exact Nat.mul_le_mul (Qn (by decide) (hx x (by simp))) (by omega)
def rc (l:List (List Int)):Int:=(lc (l.map λrow=>lc (row.map CB)):Nat)
def aj (z:Int):List (List Int):=(Du z.toNat z.toNat).map λn=>(Du n n).map F4
theorem aC3 (l:List Int):(l.map CB).map F4=l:=by
 rw[om]
 conv=>rhs;rw[<-Qo l]
 exact kK λz _=>aN0 z
theorem kp (l:List (List Int)):aj (rc l)=l:=by
 unfold aj rc;rw[kf,acL _ _ (acJ _),om]
 conv=>rhs;rw[<-Qo l]
 refine kK λrow _=>?_;simp only[V5,id];rw[acL _ _ (acJ _),aC3]
theorem k7 (l:List (List Int)):0<=rc l:=afV _
def ad7 (row:List Int):Prop:=row.length<=100/\∀z∈row,-18446744073709551616-tu<=z/\z<=18446744073709551616+tu
theorem ahp:∃H:Int,∀l:List (List Int),l.length<=maxLen->(∀row∈l,ad7 row)->rc l<=H:=by
 obtain⟨B,dm⟩:=acI (2*(18446744073709551616+tu).toNat) 100;obtain⟨C,jQ⟩:=acI B maxLen;refine⟨(C:Nat),λl h hr=>?_⟩;unfold rc;have:=jQ (l.map λrow=>lc (row.map CB)) (by simpa using h) λx hx=>by
  obtain⟨row,l9,rfl⟩:=List.mem_map.1 hx;refine dm _ (by simpa using(hr row l9).1) λy hy=>?_;obtain⟨z,hz,rfl⟩:=List.mem_map.1 hy;have h1:=(hr row l9).2 z hz;have h2:=ahe;unfold CB;split<;>omega
 omega
noncomputable def dN:Int:=aOD ahp
theorem x3 {l:List (List Int)} (h:l.length<=maxLen) (hr:∀row∈l,ad7 row):rc l<=dN:=ar9 ahp l h hr
inductive aV where
 |int (k:dZ) (lo hi:Int)
 |str
 |bool
def aV.beq:aV->aV->Bool
 |int k lo hi,int bD TL q4=>decide (k=bD)&&decide (lo=TL)&&decide (hi=q4)
 |str,str=>true
 |bool,bool=>true
 |_,_=>false
theorem aV.beq_eq:∀{a b:aV},aV.beq a b=true->a=b
 |int k lo hi,int bD TL q4,h=>by
  simp only[aV.beq,bA,decide_eq_true_eq]at h;rw[h.1.1,h.1.2,h.2]
 |str,str,_=>rfl
 |bool,bool,_=>rfl
 |int ..,str,h=>by cases h
 |int ..,bool,h=>by cases h
 |str,int ..,h=>by cases h
 |str,bool,h=>by cases h
 |bool,int ..,h=>by cases h
 |bool,str,h=>by cases h
def tk:List aV->List aV->Bool
 |[],[]=>true
 |a::r,b::s=>aV.beq a b&&tk r s
 |_,_=>false
theorem DP:∀{a b:List aV},tk a b=true->a=b
 |[],[],_=>rfl
 |a::r,b::s,h=>by
  simp only[tk,bA]at h;rw[aV.beq_eq h.1,DP h.2]
 |[],_::_,h=>by cases h
 |_::_,[],h=>by cases h
noncomputable def aV.ia:aV->Int×Int
 |int _ lo hi=>(lo,hi)
 |str=>(0,tu)
 |bool=>(0,1)
def aV.val:aV->Int->a6
 |int k _ _,z=> .int k z
 |str,z=> .string (iu (cN z))
 |bool,z=> .bool (decide (z=1))
def cR:Nat->List Int->Int
 |0,[s]=>(cN s).length
 |1,[s,i]=>((cN s).getD i.toNat 0).toNat
 |2,[s,a,b]=>l5 (((cN s).drop a.toNat).take (b.toNat-a.toNat))
 |3,[s,t]=>l5 (cN s++cN t)
 |4,[s,t]=>if cN s=cN t then 1 else 0
 |5,[s,t]=>if Op.bytesLess (cN s) (cN t)=true then 1 else 0
 |20,[c]=>(aj c).length
 |21,[c,i,j]=>((aj c).getD i.toNat []).getD j.toNat 0
 |22,[c,a,b]=>rc (((aj c).drop a.toNat).take (b.toNat-a.toNat))
 |23,c::row=>rc (aj c++[row])
 |24,[c,e]=>rc (aj c++aj e)
 |25,c::i::row=>rc ((aj c).set i.toNat row)
 |26,n::row=>rc (fD n.toNat row)
 |27,[s]=>rc ((cN s).map λb=>[(b.toNat:Int)])
 |34,[c,a,b]=>l5 ((((aj c).drop a.toNat).take (b.toNat-a.toNat)).map λrow=>Gc (row.getD 0 0).toNat)
 |37,[x,y]=>x*2^y.toNat
 |38,[x,y]=>x% y
 |76,[x,y]=>x/y
 |33,[r,a,c]=>if a=c then r else r+a
 |29,[c,i,j,v]=>rc ((aj c).set i.toNat (((aj c).getD i.toNat []).set j.toNat v))
 |42,c::i::j::vs=>rc ((aj c).set i.toNat (((aj c).getD i.toNat []).take j.toNat++vs++((aj c).getD i.toNat []).drop (j.toNat+vs.length)))
 |43,[s,i]=>if Gc i.toNat∈cN s then 1 else 0
 |61,c::a::k::row=>rc ((aj c).take a.toNat++fD k.toNat row++(aj c).drop (a.toNat+k.toNat))
 |62,[a,b]=>min a b
 |63,[c,a,s]=>rc ((aj c).take a.toNat++aj s++(aj c).drop (a.toNat+(aj s).length))
 |28,[c]=>l5 ((aj c).map λrow=>Gc (row.getD 0 0).toNat)
 |_,_=>0
noncomputable def Mp:Nat->List Int->Prop
 |70,[l,c]=>c∣l
 |71,z::_=>(aj z).length<=1000000000
 |72,z::_=>64∣(aj z).length/\(aj z).length<=1000001000
 |73,z::_=>128∣(aj z).length/\(aj z).length<=1000001000
 |74,[i,l]=>0<=i/\i<l
 |78,[x,y,z,c]=>0<=x/\x<=y/\y<=z/\z<=c
 |79,[l,c]=>l<=c
 |75,l=>∀z∈l,(aj z).length<=100000000
 |77,[x]=>0<=x
 |80,[c,a,k]=>0<=a/\0<=k/\a+k<=(aj c).length
 |81,l=>(cN (l.getD 5 0)).length<=1000000000
 |82,_=>True
 |83,r::_=>0<(aj r).length/\(aj r).length<=1000000000
 |_,_=>False
def az:Nat->List Int->Prop
 |1,[s,i]=>0<=i/\i<(cN s).length
 |2,[s,a,b]=>0<=a/\a<=b/\b<=(cN s).length
 |3,[s,t]=>(cN s).length+(cN t).length<=tY
 |21,[c,i]=>0<=i/\i<(aj c).length
 |30,[i,n]=>0<=i/\i<n
 |31,[c,n]=>n=(aj c).length
 |32,[a,b,n]=>0<=a/\a<=b/\b<=n
 |22,[c,a,b]=>0<=a/\a<=b/\b<=(aj c).length
 |35,[c,a,b]=>(0<=a/\a<=b/\b<=(aj c).length)/\b-a<=140737488351232
 |36,[y]=>0<y
 |39,[x,l,h]=>l<=x/\x<=h
 |40,[a,b]=>0<=a->0<=b
 |41,[s]=>(cN s).length<=4294967280
 |44,[w,s]=>cN w=[]∨(cN s).length<=4294967280
 |23,[c,k]=>(aj c).length+k<=1073741824
 |26,[n]=>0<=n/\n<=1073741824
 |48,r::_=>(aj r).length<=1099511627776
 |50,s::_=>(cN s).length<=1073741824
 |49,[l,c]=>0<=l/\l<=c/\c<=1073741824
 |64,[p,q,r,l]=>0<=p/\p<=q/\q<=r/\r<=l/\0<l
 |65,[c,a,k]=>0<=a/\0<k/\a+k<=(aj c).length
 |66,r::_=>(aj r).length<=1000000
 |68,[l,c]=>l<=c∨l=0
 |67,[c,i,k]=>((aj c).getD i.toNat []).length=k.toNat
 |53,[c,l]=>c<0->l=0
 |52,[c,a,b]=>0<=a/\a<b/\b<=(aj c).length/\(aj c).length<=1073741824
 |51,[c,i,r]=>(0<=i/\i<=(aj c).length)/\(aj r).length=1/\(aj c).length+1<=1073741824
 |op,l=>Mp op l
abbrev zzS:Type:=Nat->List (List Int)->List (List Int)->Prop
abbrev zzK:Type:=List (List Int)->List (List Int)->Prop
end Go.bX
namespace Go.bX
abbrev Env:=Nat->Int
def dQ (ρ:Env) (n:Nat) (z:Int):Env:=λi=>cond (aR i n) z (ρ i)
def bO (ρ:Env):Nat->List Int->Env
 |_,[]=>ρ
 |n,z::zs=>bO (dQ ρ n z) (n+1) zs
def agree (n:Nat) (ρ ad:Env):Prop:=∀i,i<n->ad i=ρ i
theorem agree.refl (n:Nat) (ρ:Env):agree n ρ ρ:=λ_ _=>rfl
theorem agree.trans {n n':Nat} {ρ ad zC:Env} (h:agree n ρ ad) (aP:agree n' ad zC) (hn:n<=n'):agree n ρ zC:=
 λi hi=>(aP i (by omega)).trans (h i hi)
theorem agree.mono {n n':Nat} {ρ ad:Env} (h:agree n' ρ ad) (hn:n<=n'):agree n ρ ad:=λi hi=>h i (by omega)
theorem m4 (ρ:Env) (n:Nat) (z:Int):dQ ρ n z n=z:=by simp[dQ]
theorem afi (ρ:Env) {n i:Nat} (z:Int) (h:i≠n):dQ ρ n z i=ρ i:=by
 unfold dQ;cases hb:aR i n with
 |false=>rfl
 |true=>exact absurd (bV hb) h
theorem agree.dQ (n:Nat) (ρ:Env) (z:Int):agree n ρ (dQ ρ n z):=λi hi=>afi ρ z (by omega)
theorem agree.bO:∀(zs:List Int) (n:Nat) (ρ:Env),agree n ρ (bO ρ n zs)
 |[],n,ρ=>agree.refl n ρ
 |z::zs,n,ρ=>(agree.dQ n ρ z).trans (agree.bO zs (n+1) _) (by omega)
structure U where
 c:Int
 ts:List (Int×Nat)
def kB (ρ:Env):List (Int×Nat)->Int
 |[]=>0
 |(k,i)::r=>k*ρ i+kB ρ r
def U.den (ρ:Env) (l:U):Int:=kB ρ l.ts+l.c
def HE (k:Int) (i:Nat):List (Int×Nat)->List (Int×Nat)
 |[]=>[(k,i)]
 |(bD,j)::r=>cond (ea i j) ((k,i)::(bD,j)::r) (cond (aR i j) (cond (k+bD==0) r ((k+bD,i)::r)) ((bD,j)::HE k i r))
def Ji:List (Int×Nat)->List (Int×Nat)->List (Int×Nat)
 |[],l=>l
 |(k,i)::r,l=>HE k i (Ji r l)
def FZ (m:Int):List (Int×Nat)->List (Int×Nat)
 |[]=>[]
 |(k,i)::r=>(m*k,i)::FZ m r
theorem ajT (ρ:Env) (k:Int) (i:Nat):∀l,kB ρ (HE k i l)=k*ρ i+kB ρ l
 |[]=>rfl
 |(bD,j)::r=>by
  unfold HE;cases h1:ea i j with
  |true=>rfl
  |false=>
   cases h2:aR i j with
   |true=>
    have e:i=j:=bV h2;subst e;cases h3:(k+bD==0)with
    |true=>
     have h3:k+bD=0:=by simpa using h3
     simp only[cond_true,cond_false,kB];rw[<-Int.add_assoc,<-Int.add_mul,h3];simp
    |false=>simp only[cond_true,cond_false,kB];rw[Int.add_mul];omega
   |false=>simp only[cond_false,kB,ajT ρ k i r];omega
theorem ajR (ρ:Env):∀l l',kB ρ (Ji l l')=kB ρ l+kB ρ l'
 |[],l'=>by simp[Ji,kB]
 |(k,i)::r,l'=>by simp only[Ji,ajT,kB,ajR ρ r l'];omega
theorem ajU (ρ:Env) (m:Int):∀l,kB ρ (FZ m l)=m*kB ρ l
 |[]=>by simp[FZ,kB]
 |(k,i)::r=>by simp only[FZ,kB,ajU ρ m r];rw[LL,D5]
def vY (n:Nat) (l:List (Int×Nat)):Prop:=∀t∈l,t.2<n
theorem vY.mono {n n':Nat} {l} (h:vY n l) (hn:n<=n'):vY n' l:=λt aA=>IW (h t aA) hn
theorem apY {n:Nat} {k:Int} {i:Nat} (hi:i<n):∀{l},vY n l->vY n (HE k i l)
 |[],_=>by intro t aA;simp[HE]at aA;subst aA;exact hi
 |(bD,j)::r,h=>by
  have hr:vY n r:=λt aA=>h t (eS _ aA);have aO:j<n:=h (bD,j) (by simp);have ih:=apY (k:=k) hi hr;unfold HE;intro t aA;cases h1:ea i j<;>cases h2:aR i j<;>cases h3:(k+bD==0)<;>simp only[h1,h2,h3,cond_true,cond_false,pt]at aA<;>
   first
   |(rcases aA with rfl|aA<;>first|exact hi|exact aO|(exact hr t aA)|(exact ih t aA)|(rcases aA with rfl|aA<;>first|exact aO|exact hr t aA))
   |exact hr t aA
theorem apX {n:Nat}:∀{l l'},vY n l->vY n l'->vY n (Ji l l')
 |[],_,_,aP=>aP
 |(k,i)::r,_,h,aP=>apY (k:=k) (i:=i) (h (k,i) (by simp)) (apX (l:=r) (λt aA=>h t (eS _ aA)) aP)
theorem apZ {n:Nat} {m:Int}:∀{l},vY n l->vY n (FZ m l)
 |[],_=>λt aA=>by simp[FZ]at aA
 |(k,i)::r,h=>by
  intro t aA;simp only[FZ,pt]at aA;rcases aA with rfl|aA
  ·exact h (k,i) (by simp)
  ·exact apZ (λt aA=>h t (eS _ aA)) t aA
theorem ajS {n:Nat} {ρ ad:Env} (h:agree n ρ ad):∀{l},vY n l->kB ad l=kB ρ l
 |[],_=>rfl
 |(k,i)::r,hs=>by
  simp only[kB,h i (hs (k,i) (by simp)),ajS h (l:=r) (λt aA=>hs t (eS _ aA))]
namespace U
def const (c:Int):U:=⟨c,[]⟩
def var (n:Nat):U:=⟨0,[(1,n)]⟩
def add (a b:U):U:=⟨a.c+b.c,Ji a.ts b.ts⟩
def smul (m:Int) (a:U):U:=cond (m==0) ⟨0,[]⟩ ⟨m*a.c,FZ m a.ts⟩
def sub (a b:U):U:=a.add (b.smul (-1))
def e4 (a:U):Option Int:=match a.ts with|[]=>some a.c|_=>none
def bM (n:Nat) (a:U):Prop:=vY n a.ts
def Jo:List (Int×Nat)->List (Int×Nat)->Bool
 |[],[]=>true
 |(k,i)::r,(bD,Fo)::r'=>k==bD&&aR i Fo&&Jo r r'
 |_,_=>false
def beq (a b:U):Bool:=a.c==b.c&&Jo a.ts b.ts
theorem ai2:∀{a b},Jo a b=true->a=b
 |[],[],_=>rfl
 |(k,i)::r,(bD,Fo)::r',h=>by
  simp only[Jo,bA,beq_iff_eq]at h;obtain⟨⟨h1,h2⟩,h3⟩:=h;rw[h1,bV h2,ai2 h3]
 |[],_::_,h=>by simp[Jo]at h
 |_::_,[],h=>by simp[Jo]at h
theorem beq_eq {a b:U} (h:beq a b=true):a=b:=by
 simp only[beq,bA,beq_iff_eq]at h;cases a;cases b;simp only at h;rw[h.1,ai2 h.2]
theorem bz (ρ:Env) (c:Int):(const c).den ρ=c:=by simp[const,den,kB]
theorem c6 (ρ:Env) (n:Nat):(var n).den ρ=ρ n:=by simp[var,den,kB]
theorem den_add (ρ:Env) (a b:U):(a.add b).den ρ=a.den ρ+b.den ρ:=by simp only[add,den,ajR];omega
theorem nu (ρ:Env) (m:Int) (a:U):(a.smul m).den ρ=m*a.den ρ:=by
 unfold smul;cases h:(m==0)with
 |true=>have h:m=0:=by simpa using h
        subst h;simp[den,kB]
 |false=>simp only[cond_false,den,ajU,LL]
theorem mu (ρ:Env) (a b:U):(a.sub b).den ρ=a.den ρ-b.den ρ:=by simp only[sub,den_add,nu];omega
theorem lp {ρ:Env} {a:U} {c:Int} (h:a.e4=some c):a.den ρ=c:=by
 unfold e4 at h;cases ha:a.ts with
 |nil=>simp[ha]at h;simp[den,ha,kB,h]
 |cons x r=>simp[ha]at h
theorem dK (n:Nat) (c:Int):(const c).bM n:=λt aA=>by simp[const]at aA
theorem hQ {n i:Nat} (h:i<n):(var i).bM n:=λt aA=>by simp[var]at aA;subst aA;exact h
theorem y0 {n:Nat} {a b:U} (ha:a.bM n) (hb:b.bM n):(a.add b).bM n:=apX ha hb
theorem xG {n:Nat} {m:Int} {a:U} (ha:a.bM n):(a.smul m).bM n:=by
 unfold smul;cases(m==0)with
 |true=>exactλt aA=>by simp at aA
 |false=>exact apZ ha
theorem xH {n:Nat} {a b:U} (ha:a.bM n) (hb:b.bM n):(a.sub b).bM n:=y0 ha (xG hb)
theorem bM.mono {n n':Nat} {a:U} (h:a.bM n) (hn:n<=n'):a.bM n':=vY.mono h hn
theorem ch {n:Nat} {ρ ad:Env} (h:agree n ρ ad) {a:U} (ha:a.bM n):a.den ad=a.den ρ:=by simp only[den,ajS h ha]
end U
structure bT where
 l:U
 lo:Int
 hi:Int
def bT.ok (n:Nat) (ρ:Env) (x:bT):Prop:=x.l.bM n/\x.lo<=x.l.den ρ/\x.l.den ρ<=x.hi
theorem bT.ok.agree {n n':Nat} {ρ ad:Env} {x:bT} (h:x.ok n ρ) (ha:agree n ρ ad) (hn:n<=n'):x.ok n' ad:=
 ⟨h.1.mono hn,by rw[U.ch ha h.1];exact h.2.1,by rw[U.ch ha h.1];exact h.2.2⟩
def bT.const (c:Int):bT:=⟨.const c,c,c⟩
theorem bT.uG (n:Nat) (ρ:Env) (c:Int):(bT.const c).ok n ρ:=⟨U.dK n c,by simp[bT.const,U.bz],by simp[bT.const,U.bz]⟩
inductive bH where
 |lit (b:Bool)
 |eq (a b:U)
 |lt (a b:U)
 |le (a b:U)
 |not (a:bH)
 |and (a b:bH)
 |iff (a b:bH)
namespace bH
def den (ρ:Env):bH->Bool
 |lit b=>b
 |eq a b=>decide (a.den ρ=b.den ρ)
 |lt a b=>decide (a.den ρ<b.den ρ)
 |le a b=>decide (a.den ρ<=b.den ρ)
 |not a=> !a.den ρ
 |and a b=>a.den ρ&&b.den ρ
 |iff a b=>a.den ρ==b.den ρ
def bM (n:Nat):bH->Prop
 |lit _=>True
 |eq a b|lt a b|le a b=>a.bM n/\b.bM n
 |not a=>a.bM n
 |and a b=>a.bM n/\b.bM n
 |iff a b=>a.bM n/\b.bM n
theorem bM.mono {n n':Nat} (hn:n<=n'):∀{b:bH},b.bM n->b.bM n'
 |lit _,_=>trivial
 |eq _ _,h|lt _ _,h|le _ _,h=>⟨h.1.mono hn,h.2.mono hn⟩
 |not a,h=>bM.mono (b:=a) hn h
 |and a b,h=>⟨bM.mono (b:=a) hn h.1,bM.mono (b:=b) hn h.2⟩
 |iff a b,h=>⟨bM.mono (b:=a) hn h.1,bM.mono (b:=b) hn h.2⟩
theorem ch {n:Nat} {ρ ad:Env} (ha:agree n ρ ad):∀{b:bH},b.bM n->b.den ad=b.den ρ
 |lit _,_=>rfl
 |eq _ _,h|lt _ _,h|le _ _,h=>by simp only[den,U.ch ha h.1,U.ch ha h.2]
 |not a,h=>by simp only[den,ch (b:=a) ha h]
 |and a b,h=>by simp only[den,ch (b:=a) ha h.1,ch (b:=b) ha h.2]
 |iff a b,h=>by simp only[den,ch (b:=a) ha h.1,ch (b:=b) ha h.2]
def beq:bH->bH->Bool
 |lit a,lit b=>a==b
 |eq a b,eq c d|lt a b,lt c d|le a b,le c d=>U.beq a c&&U.beq b d
 |not a,not b=>beq a b
 |and a b,and c d|iff a b,iff c d=>beq a c&&beq b d
 |_,_=>false
theorem beq_eq:∀{a b:bH},beq a b=true->a=b
 |lit a,b,h=>by cases b<;>simp[beq]at h;rw[h]
 |eq a b,c,h=>by cases c<;>simp[beq]at h;rw[U.beq_eq h.1,U.beq_eq h.2]
 |lt a b,c,h=>by cases c<;>simp[beq]at h;rw[U.beq_eq h.1,U.beq_eq h.2]
 |le a b,c,h=>by cases c<;>simp[beq]at h;rw[U.beq_eq h.1,U.beq_eq h.2]
 |not a,c,h=>by cases c<;>simp[beq]at h;rw[beq_eq h]
 |and a b,c,h=>by cases c<;>simp[beq]at h;rw[beq_eq h.1,beq_eq h.2]
 |iff a b,c,h=>by cases c<;>simp[beq]at h;rw[beq_eq h.1,beq_eq h.2]
def mkNot:bH->bH
 |lit b=>lit (!b)
 |not a=>a
 |a=>not a
def mkAnd:bH->bH->bH
 |lit true,b=>b
 |lit false,_=>lit false
 |a,lit true=>a
 |a,lit false=>cond true (lit false) a
 |a,b=>and a b
def mkIff (a b:bH):bH:=
 match a with
 |lit true=>b
 |lit false=>mkNot b
 |_=>match b with
  |lit true=>a
  |lit false=>mkNot a
  |_=>cond (beq a b) (lit true) (iff a b)
theorem EH (ρ:Env) (a:bH):(mkNot a).den ρ= !a.den ρ:=by cases a<;>simp[mkNot,den]
theorem FY {n:Nat} {a:bH} (h:a.bM n):(mkNot a).bM n:=by cases a<;>exact h
theorem RC (ρ:Env) (a b:bH):(mkAnd a b).den ρ=(a.den ρ&&b.den ρ):=by
 unfold mkAnd;split<;>simp[den]
theorem UM {n:Nat} {a b:bH} (ha:a.bM n) (hb:b.bM n):(mkAnd a b).bM n:=by
 unfold mkAnd;split<;>first|exact hb|exact ha|trivial|exact⟨ha,hb⟩
theorem Zj (ρ:Env) (a b:bH):(mkIff a b).den ρ=(a.den ρ==b.den ρ):=by
 unfold mkIff;split
 ·simp[den]
 ·rw[EH];simp[den]
 ·split
  ·simp[den]
  ·rw[EH];simp[den]
  ·cases h:beq a b with
   |true=>have:=beq_eq h;subst this;simp[den]
   |false=>rfl
theorem aev {n:Nat} {a b:bH} (ha:a.bM n) (hb:b.bM n):(mkIff a b).bM n:=by
 unfold mkIff;split
 ·exact hb
 ·exact FY hb
 ·split
  ·exact ha
  ·exact FY ha
  ·cases beq a b with
   |true=>trivial
   |false=>exact⟨ha,hb⟩
def JK (d:U) (f:Int->Bool) (e:bH):bH:=match d.e4 with|some c=>lit (f c)|none=>e
def mkLt (a b:bT):bH:=cond (decide (a.hi<b.lo)) (lit true) (cond (decide (b.hi<=a.lo)) (lit false) (JK (a.l.sub b.l) (λc=>decide (c<0)) (lt a.l b.l)))
def mkLe (a b:bT):bH:=cond (decide (a.hi<=b.lo)) (lit true) (cond (decide (b.hi<a.lo)) (lit false) (JK (a.l.sub b.l) (λc=>decide (c<=0)) (le a.l b.l)))
def mkEq (a b:bT):bH:=cond (decide (a.hi<b.lo)) (lit false) (cond (decide (b.hi<a.lo)) (lit false) (cond (a.lo==a.hi&&b.lo==b.hi&&a.lo==b.lo) (lit true) (cond (U.beq a.l b.l) (lit true) (JK (a.l.sub b.l) (λc=>decide (c=0)) (eq a.l b.l)))))
theorem Zi {n:Nat} {ρ:Env} {d:U} {f:Int->Bool} {e:bH} (h:e.den ρ=f (d.den ρ)) (hs:e.bM n):(JK d f e).den ρ=e.den ρ/\(JK d f e).bM n:=by
 unfold JK;split
 ·rename_i c hc;exact⟨by rw[h,U.lp hc];rfl,trivial⟩
 ·exact⟨rfl,hs⟩
theorem RD {n:Nat} {ρ:Env} {a b:bT} (ha:a.ok n ρ) (hb:b.ok n ρ):(mkLt a b).den ρ=decide (a.l.den ρ<b.l.den ρ)/\(mkLt a b).bM n:=by
 have h1:=ha.2;have h2:=hb.2
 unfold mkLt;by_cases c1:a.hi<b.lo
 ·simp only[decide_eq_true c1,cond_true,den,bM,and_true];symm;simp;omega
 ·by_cases bN:b.hi<=a.lo
  ·simp only[decide_eq_false c1,decide_eq_true bN,cond_true,cond_false,den,bM,and_true];symm;simp;omega
  ·simp only[decide_eq_false c1,decide_eq_false bN,cond_false];have:=Zi (n:=n) (ρ:=ρ) (d:=a.l.sub b.l) (f:=λc=>decide (c<0)) (e:=lt a.l b.l) (by simp only[den,U.mu];congr 1;simp;omega) ⟨ha.1,hb.1⟩;exact⟨this.1,this.2⟩
theorem ajW {n:Nat} {ρ:Env} {a b:bT} (ha:a.ok n ρ) (hb:b.ok n ρ):(mkLe a b).den ρ=decide (a.l.den ρ<=b.l.den ρ)/\(mkLe a b).bM n:=by
 have h1:=ha.2;have h2:=hb.2
 unfold mkLe;by_cases c1:a.hi<=b.lo
 ·simp only[decide_eq_true c1,cond_true,den,bM,and_true];symm;simp;omega
 ·by_cases bN:b.hi<a.lo
  ·simp only[decide_eq_false c1,decide_eq_true bN,cond_true,cond_false,den,bM,and_true];symm;simp;omega
  ·simp only[decide_eq_false c1,decide_eq_false bN,cond_false];have:=Zi (n:=n) (ρ:=ρ) (d:=a.l.sub b.l) (f:=λc=>decide (c<=0)) (e:=le a.l b.l) (by simp only[den,U.mu];congr 1;simp;omega) ⟨ha.1,hb.1⟩;exact⟨this.1,this.2⟩
theorem EG {n:Nat} {ρ:Env} {a b:bT} (ha:a.ok n ρ) (hb:b.ok n ρ):(mkEq a b).den ρ=decide (a.l.den ρ=b.l.den ρ)/\(mkEq a b).bM n:=by
 have h1:=ha.2;have h2:=hb.2
 unfold mkEq;by_cases c1:a.hi<b.lo
 ·simp only[decide_eq_true c1,cond_true,den,bM,and_true];symm;simp;omega
 ·by_cases bN:b.hi<a.lo
  ·simp only[decide_eq_false c1,decide_eq_true bN,cond_true,cond_false,den,bM,and_true];symm;simp;omega
  ·cases cA:(a.lo==a.hi&&b.lo==b.hi&&a.lo==b.lo)with
   |true=>
    simp only[bA,beq_iff_eq]at cA;simp only[decide_eq_false c1,decide_eq_false bN,cond_false,cond_true,den,bM,and_true];symm;simp;omega
   |false=>
    cases dr:U.beq a.l b.l with
    |true=>simp only[decide_eq_false c1,decide_eq_false bN,cond_false,cond_true,den,bM,and_true,U.beq_eq dr];simp
    |false=>
     simp only[decide_eq_false c1,decide_eq_false bN,cond_false];have:=Zi (n:=n) (ρ:=ρ) (d:=a.l.sub b.l) (f:=λc=>decide (c=0)) (e:=eq a.l b.l) (by simp only[den,U.mu];congr 1;simp;omega) ⟨ha.1,hb.1⟩;exact⟨this.1,this.2⟩
end bH
end Go.bX
namespace Go.bX
inductive A where
 |int (k:dZ) (x:bT)
 |bool (b:bH)
 |ptr (b off:Nat)
 |rp (b off:Nat) (bt:bT)
 |gptr (g off:Nat)
 |JO (g off:Nat) (bt:bT)
 |slc (b off len cap:Nat)
 |con (v:a6)
 |str (l:U)
 |rows (sh:List aV) (off code cap:U) (kind:Nat)
 |sl (b bE:Nat) (o ro len cap:U)
 |ep (b bE:Nat) (o i:U) (j:Nat)
inductive W where
 |one (a:A)
 |agg (l:List A)
inductive V where
 |w (x:W)
 |jG (l:List W)
 |any
 |td (b len lo:Nat)
 |tB (f:Nat) (lL:List A)
def ca (op:BinOp) (k:dZ) (x y:Int):Int:=
 match op with
 | .and=>k.wrap (rE k.bits x&&&rE k.bits y).toNat
 | .or=>k.wrap (rE k.bits x|||rE k.bits y).toNat
 | .xor=>k.wrap (rE k.bits x^^^rE k.bits y).toNat
 | .andNot=>k.wrap (rE k.bits x&&&~~~(rE k.bits y)).toNat
 |_=>0
inductive T where
 |stuck
 |leaf (v:V)
 |div (n:Nat) (x:U) (d lo hi:Int) (r:T)
 |mul (n:Nat) (x y:U) (lo hi:Int) (r:T)
 |bit (n:Nat) (op:BinOp) (k:dZ) (x y:U) (r:T)
 |shr (n:Nat) (x y:U) (lo hi:Int) (r:T)
 |B9 (n:Nat) (cs:List U) (bt:U) (lo hi:Int) (r:T)
 |vx (b:bH) (t e:T)
 |call (id:Nat) (args:List U) (n:Nat) (bds:List (Int×Int)) (r:T)
 |loop (me:Nat) (init:List U) (n:Nat) (bds:List (Int×Int)) (r:T)
 |again (me:Nat) (vals:List U)
 |both (a b:T)
 |fn (n:Nat) (op:Nat) (args:List U) (lo hi:Int) (r:T)
 |tA (op:Nat) (args:List U) (r:T)
 |wa (n:Nat) (lo hi:Int) (r:T)
 |nat (n:Nat) (r:T)
 |wJ (op:Nat) (args:List U) (r:T)
 |ind (n:Nat) (b:bH) (r:T)
def kx:List (Int×Int)->(List Int->Prop)->Prop
 |[],P=>P []
 |(l,h)::b,P=>∀r:Int,l<=r->r<=h->kx b (λrs=>P (r::rs))
def ay:List (Int×Int)->List Int->Prop
 |[],[]=>True
 |(l,h)::b,r::rs=>l<=r/\r<=h/\ay b rs
 |_,_=>False
theorem nh:∀{b:List (Int×Int)} {P:List Int->Prop} {rs:List Int},kx b P->ay b rs->P rs
 |[],_,[],h,_=>h
 |(l,u)::b,P,r::rs,h,hi=>nh (b:=b) (P:=λrs=>P (r::rs)) (h r hi.1 hi.2.1) hi.2.2
 |[],_,_::_,_,hi=>hi.elim
 |(_,_)::_,_,[],_,hi=>hi.elim
abbrev ft:=Nat->List Int->Prop
def ft.set (A:ft) (me:Nat) (p:List Int->Prop):ft:=λi=>cond (aR i me) p (A i)
def T.holds (S:Nat->List Int->List Int->Prop) (L:V->Env->Prop):T->ft->Env->Prop
 |stuck,_,_=>False
 |leaf v,_,ρ=>L v ρ
 |div n x d lo hi r,A,ρ=>∀q:Int,lo<=q->q<=hi->0<=x.den ρ-d*q->x.den ρ-d*q<d->r.holds S L A (dQ ρ n q)
 |mul n x y lo hi r,A,ρ=>∀p:Int,lo<=p->p<=hi->p=x.den ρ*y.den ρ->r.holds S L A (dQ ρ n p)
 |bit n op k x y r,A,ρ=>∀z:Int,0<=z->z<=k.max->z=ca op k (x.den ρ) (y.den ρ)->r.holds S L A (dQ ρ n z)
 |shr n x y lo hi r,A,ρ=>∀z:Int,lo<=z->z<=hi->z=x.den ρ/2^(y.den ρ).toNat->r.holds S L A (dQ ρ n z)
 |B9 n cs bt lo hi r,A,ρ=>∀z:Int,lo<=z->z<=hi->z=(cs.map (·.den ρ)).getD (bt.den ρ).toNat 0->r.holds S L A (dQ ρ n z)
 |vx b t e,A,ρ=>(b.den ρ=true->t.holds S L A ρ)/\(b.den ρ=false->e.holds S L A ρ)
 |call id args n bds r,A,ρ=>kx bds λrs=>S id (args.map (·.den ρ)) rs->r.holds S L A (bO ρ n rs)
 |loop me init n bds r,A,ρ=>∃(fv:List Int->Prop) (hB:List Int->Nat),fv (init.map (·.den ρ))/\
  kx bds λzs=>fv zs->r.holds S L (A.set me λvs=>fv vs/\hB vs<hB zs) (bO ρ n zs)
 |again me vals,A,ρ=>A me (vals.map (·.den ρ))
 |both a b,A,ρ=>a.holds S L A ρ/\b.holds S L A ρ
 |fn n op args lo hi r,A,ρ=>∀z:Int,lo<=z->z<=hi->z=cR op (args.map (·.den ρ))->r.holds S L A (dQ ρ n z)
 |tA op args r,A,ρ=>az op (args.map (·.den ρ))/\r.holds S L A ρ
 |wa n lo hi r,A,ρ=>∀z:Int,lo<=z->z<=hi->r.holds S L A (dQ ρ n z)
 |nat n r,A,ρ=>∀z:Int,0<=z->r.holds S L A (dQ ρ n z)
 |wJ op args r,A,ρ=>az op (args.map (·.den ρ))->r.holds S L A ρ
 |ind n b r,A,ρ=>∀z:Int,0<=z->z<=1->b.den ρ=decide (z=1)->r.holds S L A (dQ ρ n z)
abbrev M (α:Type):=Nat->(α->Nat->T)->T
namespace M
variable {α β:Type}
def pure (a:α):M α:=λn k=>k a n
def bind (x:M α) (f:α->M β):M β:=λn k=>x n λa n'=>f a n' k
def fail:M α:=λ_ _=> .stuck
def aB (S:Nat->List Int->List Int->Prop) (L:V->Env->Prop) (x:M α) (n:Nat) (ρ:Env) (R:Env->Nat->α->Prop):Prop:=
 ∀A k,(x n k).holds S L A ρ->∃ad n' a,n<=n'/\agree n ρ ad/\R ad n' a/\(k a n').holds S L A ad
variable {S:Nat->List Int->List Int->Prop} {L:V->Env->Prop} {n:Nat} {ρ:Env}
theorem aB.pure {a:α} {R:Env->Nat->α->Prop} (h:R ρ n a):aB S L (M.pure a) n ρ R:=
 λ_ _ af=>⟨ρ,n,a,bS _,agree.refl _ _,h,af⟩
theorem aB.fail {R:Env->Nat->α->Prop}:aB S L (M.fail:M α) n ρ R:=λ_ _ af=>af.elim
theorem aB.bind {x:M α} {f:α->M β} {R:Env->Nat->α->Prop} {R':Env->Nat->β->Prop} (hx:aB S L x n ρ R)
 (hf:∀ad n' a,n<=n'->agree n ρ ad->R ad n' a->aB S L (f a) n' ad R'):aB S L (M.bind x f) n ρ R':=by
 intro A k af;obtain⟨ad,n',a,hn,ha,hR,o3⟩:=hx A _ af;obtain⟨zC,KL,b,yr,nV,w3,azQ⟩:=hf ad n' a hn ha hR A k o3;exact⟨zC,KL,b,nK hn yr,ha.trans nV hn,w3,azQ⟩
theorem aB.mono {x:M α} {R R':Env->Nat->α->Prop} (hx:aB S L x n ρ R) (h:∀ad n' a,n<=n'->agree n ρ ad->R ad n' a->R' ad n' a):aB S L x n ρ R':=by
 intro A k af;obtain⟨ad,n',a,hn,ha,hR,o3⟩:=hx A k af;exact⟨ad,n',a,hn,ha,h _ _ _ hn ha hR,o3⟩
end M
open M
section
variable {S:Nat->List Int->List Int->Prop} {L:V->Env->Prop} {n:Nat} {ρ:Env}
def GC:List U->Option (List Int)
 |[]=>some []
 |l::r=>match l.e4,GC r with|some c,some s=>some (c::s)|_,_=>none
theorem Yo {ρ:Env}:∀{l:List U} {cs:List Int},GC l=some cs->l.map (·.den ρ)=cs
 |[],cs,h=>by simp[GC]at h;subst h;rfl
 |l::r,cs,h=>by
  simp only[GC]at h;cases h1:l.e4 with
  |none=>simp[h1]at h
  |some c=>
   cases h2:GC r with
   |none=>simp[h1,h2]at h
   |some s=>
    simp only[h1,h2,bp]at h;subst h;simp only[dk,U.lp h1,Yo h2]
def kC (op:Nat) (args:List U) (lo hi:Int):M U:=λn k=>match cJ op 5,GC args with
 |true,some cs=>k (.const (cR op cs)) n
 |_,_=> .fn n op args lo hi (k (.var n) (n+1))
def Rx:Nat->List Int->Bool
 |1,[s,i]=>decide (0<=i)&&decide (i<(cN s).length)
 |2,[s,a,b]=>decide (0<=a)&&decide (a<=b)&&decide (b<=(cN s).length)
 |3,[s,t]=>cJ ((cN s).length+(cN t).length) 1000000
 |30,[i,n]=>decide (0<=i)&&decide (i<n)
 |32,[a,b,n]=>decide (0<=a)&&decide (a<=b)&&decide (b<=n)
 |39,[x,l,h]=>decide (l<=x)&&decide (x<=h)
 |_,_=>false
theorem avD {op:Nat} {cs:List Int} (h:Rx op cs=true):az op cs:=by
 unfold Rx at h;split at h
 ·simp only[bA,decide_eq_true_eq]at h;exact h
 ·simp only[bA,decide_eq_true_eq]at h;exact⟨h.1.1,h.1.2,h.2⟩
 ·have h:=gY h;show _<=tY;unfold tY;omega
 ·simp only[bA,decide_eq_true_eq]at h;exact h
 ·simp only[bA,decide_eq_true_eq]at h;exact⟨h.1.1,h.1.2,h.2⟩
 ·simp only[bA,decide_eq_true_eq]at h;exact h
 ·cases h
def js (op:Nat) (args:List U):M Unit:=λn k=>match GC args with
 |some cs=>cond (Rx op cs) (k () n) (.tA op args (k () n))
 |none=> .tA op args (k () n)
theorem mQ {op:Nat} {args:List U} {lo hi:Int} (h1:lo<=cR op (args.map (·.den ρ))) (h2:cR op (args.map (·.den ρ))<=hi):
 aB S L (kC op args lo hi) n ρ λad n' l=>l.bM n'/\l.den ad=cR op (args.map (·.den ρ)):=by
 intro A k af;unfold kC at af;split at af
 ·rename_i cs _ dR;exact⟨_,n,_,bS _,agree.refl _ _,⟨U.dK _ _,by rw[U.bz,Yo dR]⟩,af⟩
 ·exact⟨_,n+1,_,uq _,agree.dQ _ _ _,⟨U.hQ (A1 n),by simp[U.c6,m4]⟩,af _ h1 h2 rfl⟩
theorem ln {op:Nat} {args:List U} {α:Type} {x:M α} {R:Env->Nat->α->Prop} (h:az op (args.map (·.den ρ))->aB S L x n ρ R):aB S L (bind (js op args) λ_=>x) n ρ R:=by
 intro A k af;unfold M.bind js at af;split at af
 ·rename_i cs dR;cases hb:Rx op cs with
  |true=>
   rw[hb]at af;exact h (by rw[Yo dR];exact avD hb) A k af
  |false=>
   rw[hb]at af;exact h af.1 A k af.2
 ·exact h af.1 A k af.2
def Bj (x:bT) (d:Int):M bT:=λn k=>
 cond (d==1) (k x n) <| cond (x.lo/d==x.hi/d) (k (.const (x.lo/d)) n) (.div n x.l d (x.lo/d) (x.hi/d) (k ⟨.var n,x.lo/d,x.hi/d⟩ (n+1)))
theorem EI {x:bT} {d:Int} (hd:0<d) (hx:x.ok n ρ):aB S L (Bj x d) n ρ λad n' q=>q.ok n' ad/\q.l.den ad=x.l.den ρ/d/\(q.lo=x.lo/d/\q.hi=x.hi/d):=by
 intro A k af;have h1:=aOO hd hx.2.1;have h2:=aOO hd hx.2.2;unfold Bj at af;cases Z1:(d==1)with
 |true=>
  have e:d=1:=by simpa using Z1
  subst e;simp only[Z1,cond_true]at af;exact⟨ρ,n,x,bS _,agree.refl _ _,⟨hx,by simp,by simp,by simp⟩,af⟩
 |false=>
 simp only[Z1,cond_false]at af;cases hc:(x.lo/d==x.hi/d)with
 |true=>
  simp only[hc,cond_true]at af;have hc:x.lo/d=x.hi/d:=by simpa using hc
  exact⟨ρ,n,_,bS _,agree.refl _ _,⟨bT.uG _ _ _,by simp only[bT.const,U.bz];omega,rfl,hc⟩,af⟩
 |false=>
  simp only[hc,cond_false,T.holds]at af;have hm:=tr (x.l.den ρ) (show d≠0 by omega);have C9:=vl (x.l.den ρ) hd;have he:=asi (x.l.den ρ) d;refine⟨_,n+1,_,uq _,agree.dQ _ _ _,⟨⟨U.hQ (A1 n),?_,?_⟩,?_,rfl,rfl⟩,af (x.l.den ρ/d) h1 h2 (by omega) (by omega)⟩<;>
   simp only[U.c6,m4]<;>omega
def acW (x:bT) (d:Int):M bT:=
 bind (Bj x d) λq=>pure ⟨x.l.sub (q.l.smul d),cond (q.lo==q.hi) (x.lo-d*q.lo) 0,cond (q.lo==q.hi) (x.hi-d*q.lo) (d-1)⟩
theorem aoe {x:bT} {d:Int} (hd:0<d) (hx:x.ok n ρ):aB S L (acW x d) n ρ λad n' q=>q.ok n' ad/\q.l.den ad=x.l.den ρ% d:=by
 refine(EI hd hx).bind λad n' q hn ha ⟨ai,he,J8,aQ6⟩=>aB.pure ?_;have o7:=hx.agree ha hn;have hm:=tr (x.l.den ρ) (show d≠0 by omega);have C9:=vl (x.l.den ρ) hd;have azq:=asi (x.l.den ρ) d;have z8:(x.l.sub (q.l.smul d)).den ad=x.l.den ρ% d:=by
  rw[U.mu,U.nu,U.ch ha hx.1,he];omega
 refine⟨⟨U.xH o7.1 (U.xG ai.1),?_,?_⟩,z8⟩
 ·cases hc:(q.lo==q.hi)with
  |true=>
   have hc:q.lo=q.hi:=by simpa using hc
   have:q.l.den ad=q.lo:=by have:=ai.2;omega
   simp only[cond_true,U.mu,U.nu,this];have:=o7.2.1;omega
  |false=>simp only[cond_false,z8];omega
 ·cases hc:(q.lo==q.hi)with
  |true=>
   have hc:q.lo=q.hi:=by simpa using hc
   have:q.l.den ad=q.lo:=by have:=ai.2;omega
   simp only[cond_true,U.mu,U.nu,this];have:=o7.2.2;omega
  |false=>simp only[cond_false,z8];omega
def two (k:dZ):Int:=match k with| .i8| .u8=>256| .i16| .u16=>65536| .i32| .u32=>4294967296| .i64| .u64=>18446744073709551616
theorem Cb (k:dZ):two k=(2:Int)^k.bits:=by cases k<;>rfl
def half (k:dZ):Int:=cond k.signed (two k/2) 0
theorem VB (k:dZ) (x:Int):k.wrap x=(x+half k)% two k-half k:=by
 cases k<;>simp only[aOP,Qv,asj,half,two,cond_true,cond_false,aOQ,Bool.false_and]<;>
  simp<;>(try split)<;>omega
def Cd (k:dZ) (x:bT):M bT:=
 cond (decide (-half k<=x.lo)&&decide (x.hi<two k-half k)) (pure x)
  (bind (acW ⟨x.l.add (.const (half k)),x.lo+half k,x.hi+half k⟩ (two k)) λr=>pure ⟨r.l.add (.const (-half k)),r.lo-half k,r.hi-half k⟩)
theorem F6 {k:dZ} {x:bT} (hx:x.ok n ρ):aB S L (Cd k x) n ρ λad n' q=>q.ok n' ad/\q.l.den ad=k.wrap (x.l.den ρ):=by
 have aA:0<two k:=by cases k<;>decide
 unfold Cd;cases hc:(decide (-half k<=x.lo)&&decide (x.hi<two k-half k))with
 |true=>
  simp only[bA,decide_eq_true_eq]at hc;refine aB.pure ⟨hx,?_⟩;have h1:=hx.2;rw[VB,mF (by omega) (by omega)];omega
 |false=>
  refine(aoe (x:=⟨x.l.add (.const (half k)),x.lo+half k,x.hi+half k⟩) aA ⟨U.y0 hx.1 (U.dK _ _),?_,?_⟩).bind λad n' r hn ha ⟨hr,he⟩=>aB.pure ?_
  ·rw[U.den_add,U.bz];have:=hx.2.1;simp only;omega
  ·rw[U.den_add,U.bz];have:=hx.2.2;simp only;omega
  ·have e:(r.l.add (.const (-half k))).den ad=k.wrap (x.l.den ρ):=by
    rw[U.den_add,U.bz,he,U.den_add,U.bz,VB];omega
   refine⟨⟨U.y0 hr.1 (U.dK _ _),?_,?_⟩,e⟩<;>simp only[U.den_add,U.bz]<;>have:=hr.2<;>omega
def mulM (x y:bT):M bT:=λn k=>
 match x.l.e4,y.l.e4 with
 |some c,_=>cond (decide (0<=c)) (k ⟨y.l.smul c,c*y.lo,c*y.hi⟩ n) .stuck
 |none,some c=>cond (decide (0<=c)) (k ⟨x.l.smul c,c*x.lo,c*x.hi⟩ n) .stuck
 |none,none=>cond (decide (0<=x.lo)&&decide (0<=y.lo)) (.mul n x.l y.l (x.lo*y.lo) (x.hi*y.hi) (k ⟨.var n,x.lo*y.lo,x.hi*y.hi⟩ (n+1))) .stuck
theorem acZ {x y:bT} (hx:x.ok n ρ) (hy:y.ok n ρ):aB S L (mulM x y) n ρ λad n' q=>q.ok n' ad/\q.l.den ad=x.l.den ρ*y.l.den ρ:=by
 intro A k af;unfold mulM at af;cases h1:x.l.e4 with
 |some c=>
  simp only[h1]at af;by_cases hc:0<=c
  ·simp only[decide_eq_true hc,cond_true]at af;refine⟨ρ,n,_,bS _,agree.refl _ _,⟨⟨U.xG hy.1,?_,?_⟩,?_⟩,af⟩
   ·simp only[U.nu];exact Gf hy.2.1 hc
   ·simp only[U.nu];exact Gf hy.2.2 hc
   ·simp only[U.nu,U.lp h1]
  ·simp only[decide_eq_false hc,cond_false,T.holds]at af
 |none=>
  cases h2:y.l.e4 with
  |some c=>
   simp only[h1,h2]at af;by_cases hc:0<=c
   ·simp only[decide_eq_true hc,cond_true]at af;refine⟨ρ,n,_,bS _,agree.refl _ _,⟨⟨U.xG hx.1,?_,?_⟩,?_⟩,af⟩
    ·simp only[U.nu];exact Gf hx.2.1 hc
    ·simp only[U.nu];exact Gf hx.2.2 hc
    ·simp only[U.nu,U.lp h2];exact lG _ _
   ·simp only[decide_eq_false hc,cond_false,T.holds]at af
  |none=>
   simp only[h1,h2]at af;cases hc:(decide (0<=x.lo)&&decide (0<=y.lo))with
   |false=>simp only[hc,cond_false,T.holds]at af
   |true=>
    simp only[hc,cond_true,T.holds]at af;simp only[bA,decide_eq_true_eq]at hc;have bG:x.lo*y.lo<=x.l.den ρ*y.l.den ρ:=af3 hx.2.1 hy.2.1 hc.2 (by have:=hx.2.1;omega);have a2:x.l.den ρ*y.l.den ρ<=x.hi*y.hi:=af3 hx.2.2 hy.2.2 (by have:=hy.2.1;omega) (by have:=hx.2;omega);refine⟨_,n+1,_,uq _,agree.dQ _ _ _,⟨⟨U.hQ (A1 n),?_,?_⟩,?_⟩,af _ bG a2 rfl⟩<;>simp only[U.c6,m4]<;>assumption
def Jp (op:BinOp) (k:dZ) (x y:bT):M bT:=λn c=>
 cond k.signed .stuck (.bit n op k x.l y.l (c ⟨.var n,0,k.max⟩ (n+1)))
theorem aOi {k:dZ} (af:k.signed=false) (x:Int):0<=k.wrap x/\k.wrap x<=k.max:=by
 cases k<;>simp[Qv]at af<;>simp[aOP,Qv,asj,hU]<;>omega
theorem auU {k:dZ} (af:k.signed=false) (op:BinOp) (x y:Int):0<=ca op k x y/\ca op k x y<=k.max:=by
 unfold ca;split
 iterate 4 exact aOi af _
 cases k<;>simp[Qv]at af<;>simp[hU,Qv,asj]
theorem Q9 {op:BinOp} {k:dZ} {x y:bT}:aB S L (Jp op k x y) n ρ λad n' q=>q.ok n' ad/\q.l.den ad=ca op k (x.l.den ρ) (y.l.den ρ):=by
 intro A c af;unfold Jp at af;cases hs:k.signed with
 |true=>simp only[hs,cond_true,T.holds]at af
 |false=>
  simp only[hs,cond_false,T.holds]at af;have hb:=auU hs op (x.l.den ρ) (y.l.den ρ);refine⟨_,n+1,_,uq _,agree.dQ _ _ _,⟨⟨U.hQ (A1 n),?_,?_⟩,?_⟩,af _ hb.1 hb.2 rfl⟩<;>simp only[U.c6,m4]<;>first|exact hb.1|exact hb.2
def TN (c:Int):Option (Int×Int):=
 match c with
 | .ofNat 0=>none
 | .ofNat c=>
  let b:=2^(rB c+1);let a:=b-c
  cond (aR (2^rB a) a) (some (a,b)) none
 |_=>none
theorem bv_and {w:Nat} (x y:Int):((rE w x&&&rE w y).toNat:Int)=(((x% 2^w).toNat&&&(y% 2^w).toNat:Nat):Int):=by
 rw[BitVec.toNat_and,Qw,Qw]
 congr
theorem au2 {w:Nat} (x y:Int):((rE w x|||rE w y).toNat:Int)=(((x% 2^w).toNat|||(y% 2^w).toNat:Nat):Int):=by
 rw[BitVec.toNat_or,Qw,Qw]
 congr
theorem aup (x a b:Nat) (aQ2:a<=b):x&&&(2^b-2^a)=2^a*(x/2^a)-2^b*(x/2^b):=by
 have ar:2^b-2^a=2^a*(2^(b-a)-1):=by
  rw[Nat.mul_sub,<-D8,Nat.mul_one];congr 2;omega
 have aG:x&&&(2^b-2^a)=2^a*(x/2^a% 2^(b-a)):=by
  rw[ar];apply Nat.eq_of_testBit_eq;intro i;rw[Nat.testBit_and,AX (2^a) (2^(b-a)-1),AX (2^a),aOR,aOR,Nat.testBit_two_pow_sub_one,Nat.testBit_mod_two_pow,Nat.testBit_div_two_pow];by_cases h:a<=i
  ·simp only[h,decide_true,aOQ];rw[show i-a+a=i by omega,Bool.and_comm]
  ·simp[h]
 rw[aG];have cm:x/2^b=x/2^a/2^(b-a):=by
  rw[Ql,<-D8];congr 2;omega
 have iS:2^b=2^a*2^(b-a):=by rw[<-D8];congr 1;omega
 have hX:=V1 (x/2^a) (2^(b-a));rw[cm,iS,V4,<-Nat.mul_sub]
 congr 1
 omega
theorem aC4 {c a b:Int} (h:TN c=some (a,b)):∃i j:Nat,i<=j/\a=2^i/\b=2^j/\c=b-a/\0<a/\0<b:=by
 unfold TN at h;split at h
 ·cases h
 ·rename_i c hc;have hc0:c≠0:=λe=>hc (by rw[e]);cases hb:aR (2^rB (2^(rB c+1)-c)) (2^(rB c+1)-c)with
  |false=>simp[hb]at h
  |true=>
   simp only[hb,cond_true,bp,eZ]at h;obtain⟨rfl,rfl⟩:=h;have e:=bV hb;have hlt:c<2^(rB c+1):=aOS;have hp:0<2^rB (2^(rB c+1)-c):=IU _;refine⟨rB (2^(rB c+1)-c),rB c+1,?_,?_,?_,?_,?_,?_⟩
   ·rcases Ec (rB c+1) (rB (2^(rB c+1)-c))with ae|ae
    ·have:=Nat.pow_lt_pow_right (a:=2) (by omega) ae;omega
    ·exact ae
   ·rw[<-e];simp
   ·simp
   ·have:((2^(rB c+1)-c:Nat):Int)=((2^(rB c+1):Nat):Int)-(c:Int):=by omega
    simp only[Int.ofNat_eq_natCast];omega
   ·omega
   ·have:0<2^(rB c+1):=IU _;omega
 ·cases h
def andM (x:bT) (a b:Int):M bT:=
 bind (Bj x a) λp=>bind (Bj x b) λq=>
  pure ⟨(p.l.smul a).sub (q.l.smul b),cond (q.lo==q.hi) (a*p.lo-b*q.lo) 0,cond (q.lo==q.hi) (a*p.hi-b*q.lo) (b-a)⟩
theorem auo {x:bT} {i j:Nat} (J6:i<=j) (hx:x.ok n ρ) (h0:0<=x.lo):aB S L (andM x (2^i) (2^j)) n ρ λad n' q=>q.ok n' ad/\q.l.den ad=((x.l.den ρ).toNat&&&(2^j-2^i):Nat):=by
 have hi:(0:Int)<2^i:=by have:=IU i;exact_mod_cast this
 have aO:(0:Int)<2^j:=by have:=IU j;exact_mod_cast this
 refine(EI hi hx).bind λbg bk p iM hD ⟨hp,ep,_,_⟩=>?_;refine(EI aO (hx.agree hD iM)).bind λb0 gF q gU eJ ⟨ai,eq,_,_⟩=>aB.pure ?_;rw[U.ch hD hx.1]at eq;have Kb:=hp.agree eJ gU;have ZD:p.l.den b0=x.l.den ρ/2^i:=by rw[U.ch eJ hp.1,ep]
 obtain⟨X,bZ⟩:=oP (show 0<=x.l.den ρ by have:=hx.2.1;omega);have e:((p.l.smul (2^i)).sub (q.l.smul (2^j))).den b0=((x.l.den ρ).toNat&&&(2^j-2^i):Nat):=by
  rw[U.mu,U.nu,U.nu,ZD,eq,bZ,kf,aup X i j J6];have h1:2^j*(X/2^j)<=2^i*(X/2^i):=by
   have cm:X/2^j=X/2^i/2^(j-i):=by rw[Ql,<-D8];congr 2;omega
   have iS:2^j=2^i*2^(j-i):=by rw[<-D8];congr 1;omega
   rw[cm]
   conv=>lhs;rw[iS,V4]
   exact Nat.mul_le_mul_left _ (Nat.mul_div_le _ _)
  rw[asl h1];simp
 refine⟨⟨U.xH (U.xG Kb.1) (U.xG ai.1),?_,?_⟩,e⟩
 ·cases hc:(q.lo==q.hi)with
  |true=>
   have hc:q.lo=q.hi:=by simpa using hc
   have h1:q.l.den b0=q.lo:=by have:=ai.2;omega
   simp only[cond_true,U.mu,U.nu,h1];have:=Gf Kb.2.1 (sz hi);omega
  |false=>simp only[cond_false,e];omega
 ·cases hc:(q.lo==q.hi)with
  |true=>
   have hc:q.lo=q.hi:=by simpa using hc
   have h1:q.l.den b0=q.lo:=by have:=ai.2;omega
   simp only[cond_true,U.mu,U.nu,h1];have:=Gf Kb.2.2 (sz hi);omega
  |false=>
   simp only[cond_false,e];have h2:(x.l.den ρ).toNat&&&(2^j-2^i)<=2^j-2^i:=Nat.and_le_right;have h3:2^i<=2^j:=Qn (by omega) J6;have h4:((2^j-2^i:Nat):Int)=2^j-2^i:=by rw[asl h3];simp
   omega
end
end Go.bX
namespace Go.bX
open M
def A.den (ρ:Env) (m:Nat->Nat):A->a6
 | .int k x=> .int k (x.l.den ρ)
 | .bool b=> .bool (b.den ρ)
 | .ptr b off=> .pointer (some ⟨m b,off,none⟩)
 | .rp b off bt=> .pointer (some ⟨m b,off+(bt.l.den ρ).toNat,none⟩)
 | .gptr g off=> .pointer (some ⟨g,off,none⟩)
 | .JO g off bt=> .pointer (some ⟨g,off+(bt.l.den ρ).toNat,none⟩)
 | .slc b off len cap=> .slice (some ⟨m b,off,none⟩) len cap
 | .con v=>v
 | .str l=> .string (iu (cN (l.den ρ)))
 | .rows _ _ code _ _=> .int .u8 (code.den ρ)
 | .sl b bE o ro len cap=>if cap.den ρ<0 then .slice none 0 0 else .slice (some ⟨m b,(o.den ρ).toNat+(ro.den ρ).toNat*bE,none⟩) (len.den ρ).toNat (cap.den ρ).toNat
 | .ep b bE o i j=> .pointer (some ⟨m b,(o.den ρ).toNat+(i.den ρ).toNat*bE+j,none⟩)
def Ix (o ro len cap:Int):Prop:=(0<=o/\0<=ro/\0<=len/\len<=9223372036854775807)/\(-1<=cap/\ro+cap<=9223372036854775807)/\(cap<0->len=0)/\(0<=cap->len<=cap)
def A.ok (n nb:Nat) (ρ:Env):A->Prop
 | .int _ x=>x.ok n ρ
 | .bool b=>b.bM n
 | .ptr b _=>b<nb
 | .rp b _ bt=>b<nb/\bt.ok n ρ/\0<=bt.lo
 | .gptr .. =>True
 | .JO _ _ bt=>bt.ok n ρ/\0<=bt.lo
 | .slc b .. =>b<nb
 | .con v=>v.oneCell'=true
 | .str l=>l.bM n/\0<=l.den ρ/\l.den ρ<=tu
 | .rows _ off code cap _=>(off.bM n/\code.bM n/\cap.bM n)/\(0<=code.den ρ/\code.den ρ<=dN)/\-1<=cap.den ρ/\cap.den ρ<=9223372036854775807
 | .sl b _ o ro len cap=>b<nb/\(o.bM n/\ro.bM n/\len.bM n/\cap.bM n)/\Ix (o.den ρ) (ro.den ρ) (len.den ρ) (cap.den ρ)
 | .ep b _ o i _=>b<nb/\(o.bM n/\i.bM n)/\0<=o.den ρ/\0<=i.den ρ
theorem A.ok.ext {n n' nb n8:Nat} {ρ ad:Env} {a:A} (h:a.ok n nb ρ) (ha:agree n ρ ad) (hn:n<=n') (hb:nb<=n8):a.ok n' n8 ad:=by
 cases a<;>simp only[A.ok]at h⊢
 ·exact h.agree ha hn
 ·exact bH.bM.mono hn h
 ·omega
 ·exact⟨by omega,h.2.1.agree ha hn,h.2.2⟩
 ·exact⟨h.1.agree ha hn,h.2⟩
 ·omega
 ·exact h
 ·exact⟨h.1.mono hn,by rw[U.ch ha h.1];exact h.2⟩
 ·obtain⟨⟨h1,h2,h3⟩,h4⟩:=h;exact⟨⟨h1.mono hn,h2.mono hn,h3.mono hn⟩,by rw[U.ch ha h2,U.ch ha h3];exact h4⟩
 ·obtain⟨h1,⟨h2,h3,h4,h5⟩,h6⟩:=h;exact⟨by omega,⟨h2.mono hn,h3.mono hn,h4.mono hn,h5.mono hn⟩,by rw[U.ch ha h2,U.ch ha h3,U.ch ha h4,U.ch ha h5];exact h6⟩
 ·obtain⟨h1,⟨h2,h3⟩,h4⟩:=h;exact⟨by omega,⟨h2.mono hn,h3.mono hn⟩,by rw[U.ch ha h2,U.ch ha h3];exact h4⟩
theorem A.oA {n nb:Nat} {ρ ad:Env} {m m':Nat->Nat} {a:A} (h:a.ok n nb ρ) (ha:agree n ρ ad) (hm:∀b,b<nb->m' b=m b):a.den ad m'=a.den ρ m:=by
 cases a<;>simp only[A.ok]at h<;>simp only[A.den]
 ·rw[U.ch ha h.1]
 ·rw[bH.ch ha h]
 ·rw[hm _ h]
 ·rw[hm _ h.1,U.ch ha h.2.1.1]
 ·rw[U.ch ha h.1.1]
 ·rw[hm _ h]
 ·rw[U.ch ha h.1]
 ·rw[U.ch ha h.1.2.1]
 ·obtain⟨h1,⟨h2,h3,h4,h5⟩,h6⟩:=h;rw[hm _ h1,U.ch ha h2,U.ch ha h3,U.ch ha h4,U.ch ha h5]
 ·rw[hm _ h.1,U.ch ha h.2.1.1,U.ch ha h.2.1.2]
theorem A.T5 {n nb:Nat} {ρ:Env} {m:Nat->Nat} {a:A} (h:a.ok n nb ρ):(a.den ρ m).oneCell'=true:=by
 cases a<;>first|rfl|exact h|(simp only[A.den];split<;>rfl)
def W.den (ρ:Env) (m:Nat->Nat):W->a6
 | .one a=>a.den ρ m
 | .agg l=> .agg (l.map (A.den ρ m)).toArray
def W.ok (n nb:Nat) (ρ:Env):W->Prop
 | .one a=>a.ok n nb ρ
 | .agg l=>∀a∈l,a.ok n nb ρ
theorem W.ok.ext {n n' nb n8:Nat} {ρ ad:Env} {x:W} (h:x.ok n nb ρ) (ha:agree n ρ ad) (hn:n<=n') (hb:nb<=n8):x.ok n' n8 ad:=by
 cases x with
 |one a=>exact A.ok.ext h ha hn hb
 |agg l=>exactλa aP=>(h a aP).ext ha hn hb
theorem yG {n nb:Nat} {ρ ad:Env} {m m':Nat->Nat} {l:List A} (h:∀a∈l,a.ok n nb ρ) (ha:agree n ρ ad) (hm:∀b,b<nb->m' b=m b):l.map (A.den ad m')=l.map (A.den ρ m):=
 kK λa aP=>A.oA (h a aP) ha hm
theorem W.oA {n nb:Nat} {ρ ad:Env} {m m':Nat->Nat} {x:W} (h:x.ok n nb ρ) (ha:agree n ρ ad) (hm:∀b,b<nb->m' b=m b):x.den ad m'=x.den ρ m:=by
 cases x with
 |one a=>exact A.oA h ha hm
 |agg l=>simp only[W.den,yG h ha hm]
def V.rel (ρ:Env) (m:Nat->Nat):V->a6->Prop
 | .w x,v=>v=x.den ρ m
 | .jG l,v=>v= .tuple (l.map (W.den ρ m)).toArray
 | .any,_=>True
 | .td b len lo,v=>∃c:Nat,lo<=c/\v= .slice (some ⟨m b,0,none⟩) len c
 | .tB f lL,v=>v= .func (.func f) #[] (lL.map (A.den ρ m)).toArray
def V.ok (n nb:Nat) (ρ:Env):V->Prop
 | .w x=>x.ok n nb ρ
 | .jG l=>∀x∈l,x.ok n nb ρ
 | .any=>True
 | .td b _ _=>b<nb
 | .tB _ lL=>∀a∈lL,A.ok n nb ρ a
theorem V.ok.ext {n n' nb n8:Nat} {ρ ad:Env} {x:V} (h:x.ok n nb ρ) (ha:agree n ρ ad) (hn:n<=n') (hb:nb<=n8):x.ok n' n8 ad:=by
 cases x with
 |w x=>exact W.ok.ext h ha hn hb
 |jG l=>exactλa aP=>(h a aP).ext ha hn hb
 |any=>trivial
 |td b len lo=>exact IW h hb
 |tB f lL=>exactλa aP=>(h a aP).ext ha hn hb
theorem V.rel.ext {n nb:Nat} {ρ ad:Env} {m m':Nat->Nat} {x:V} {v:a6} (hr:x.rel ρ m v) (h:x.ok n nb ρ) (ha:agree n ρ ad) (hm:∀b,b<nb->m' b=m b):x.rel ad m' v:=by
 cases x with
 |w x=>simp only[V.rel]at hr⊢;rw[W.oA h ha hm];exact hr
 |jG l=>simp only[V.rel]at hr⊢;rw[hr];congr 2;exact(kK λa aP=>W.oA (h a aP) ha hm).symm
 |any=>trivial
 |td b len lo=>obtain⟨c,h1,h2⟩:=hr;exact⟨c,h1,by rw[hm b h];exact h2⟩
 |tB f lL=>simp only[V.rel]at hr⊢;rw[hr];congr 2;exact(kK λa aP=>A.oA (h a aP) ha hm).symm
section
variable {S:Nat->List Int->List Int->Prop} {L:V->Env->Prop} {n:Nat} {ρ:Env}
def Q2 (s:Int):List (Int×Nat)->Bool
 |[]=>true
 |(k,_)::r=>k% s==0&&Q2 s r
theorem ah6 {s:Int} (ρ:Env):∀{l},Q2 s l=true->kB ρ l% s=0
 |[],_=>by simp[kB]
 |(k,i)::r,h=>by
  simp only[Q2,bA,beq_iff_eq]at h;have h1:=ah6 ρ h.2;obtain⟨c,hc⟩:=IQ h.1;obtain⟨d,hd⟩:=IQ h1;simp only[kB,hc,hd,D5];rw[<-LL];exact asm _ _
def U.CK (s:Int) (l:U):Bool:=l.c% s==0&&Q2 s l.ts
theorem U.Ym {s:Int} (ρ:Env) {l:U} (h:l.CK s=true):l.den ρ% s=0:=by
 simp only[CK,bA,beq_iff_eq]at h;have h1:=ah6 ρ h.2;obtain⟨c,hc⟩:=IQ h.1;obtain⟨d,hd⟩:=IQ h1;simp only[den,hc,hd];rw[<-LL];exact asm _ _
def Er (h:Int):Nat:=2^(rB h.toNat+1)
theorem ahV {x h:Int} (hx:x<=h) (h0:0<=x):x<(Er h:Int):=by
 have:h.toNat<2^(rB h.toNat+1):=aOS;unfold Er;omega
theorem eX {c:Bool} {α:Type} {x:M α} {R:Env->Nat->α->Prop} (h:c=true->aB S L x n ρ R):aB S L (cond c x fail) n ρ R:=by
 cases c with
 |true=>exact h rfl
 |false=>exact aB.fail
def pQ (k:dZ):Int:=two k-half k
theorem TK (k:dZ):pQ k<=two k:=by cases k<;>decide
theorem aCH (k:dZ):∃i:Nat,pQ k=2^i/\i<=k.bits:=by cases k<;>first|exact⟨7,by decide,by decide⟩|exact⟨8,by decide,by decide⟩|exact⟨15,by decide,by decide⟩|exact⟨16,by decide,by decide⟩|exact⟨31,by decide,by decide⟩|exact⟨32,by decide,by decide⟩|exact⟨63,by decide,by decide⟩|exact⟨64,by decide,by decide⟩
def Q1 (x:U):List Nat->Nat
 |[]=>1
 |i::r=>cond (x.CK (2^i)) (2^i) (Q1 x r)
def orM (k:dZ) (x y:bT):M bT:=
 cond (!(decide (0<=x.lo)&&decide (0<=y.lo)&&decide (x.hi<pQ k)&&decide (y.hi<pQ k))) (cond (decide (0<=x.lo)&&decide (x.hi<pQ k)) (
  let s:=Q1 x.l [24,18,16,12,8,6,4]
  cond (x.l.CK s&&decide (y.hi<pQ k)&&decide (x.hi+s<pQ k)) (bind (js 30 [y.l,.const s]) λ_=>pure ⟨x.l.add y.l,x.lo,x.hi+s⟩) fail) fail) <|
 cond (x.l.CK (Er y.hi)) (pure ⟨x.l.add y.l,x.lo+y.lo,cond (decide (x.hi+y.hi<two k)) (x.hi+y.hi) (two k-1)⟩) <|
 cond (y.l.CK (Er x.hi)) (pure ⟨x.l.add y.l,x.lo+y.lo,cond (decide (x.hi+y.hi<two k)) (x.hi+y.hi) (two k-1)⟩) (Jp .or k x y)
theorem ado {X Y s:Nat} (hs:∃i,s=2^i) (hx:X% s=0) (hy:Y<s):X|||Y=X+Y:=by
 obtain⟨i,rfl⟩:=hs;have e:=V1 X (2^i);rw[hx,pv]at e;rw[<-e,<-Nat.two_pow_add_eq_or_of_lt hy]
theorem VC {k:dZ} {z:Int} (h0:0<=z) (h1:z<pQ k):k.wrap z=z:=by
 rw[VB];have ae:0<=half k:=by cases k<;>decide
 unfold pQ at h1;rw[mF (by omega) (by omega)];omega
theorem ai5 {k:dZ} {x y:Int} (hx:0<=x) (hy:0<=y) (BF:x<pQ k) (abw:y<pQ k):ca .or k x y=((x.toNat|||y.toNat:Nat):Int):=by
 have hl:=TK k;have abr:x<2^k.bits:=by rw[<-Cb];omega
 have abx:y<2^k.bits:=by rw[<-Cb];omega
 obtain⟨i,hi,_⟩:=aCH k;obtain⟨X,rfl⟩:=oP hx;obtain⟨Y,rfl⟩:=oP hy;have bZ:X<2^i:=by rw[hi]at BF;exact_mod_cast BF
 have hY:Y<2^i:=by rw[hi]at abw;exact_mod_cast abw
 have h1:X|||Y<2^i:=aOT bZ hY;unfold ca;simp only;rw[au2,mF hx abr,mF hy abx];simp only[kf];exact VC (by omega) (by rw[hi];exact_mod_cast h1)
theorem ai4 {k:dZ} {x y:Int} (hx:0<=x) (hy:0<=y) (BF:x<pQ k) (abw:y<two k):ca .and k x y=((x.toNat&&&y.toNat:Nat):Int):=by
 have hl:=TK k;have abr:x<2^k.bits:=by rw[<-Cb];omega
 have abx:y<2^k.bits:=by rw[<-Cb];omega
 obtain⟨X,rfl⟩:=oP hx;obtain⟨Y,rfl⟩:=oP hy;have h1:X&&&Y<=X:=Nat.and_le_left;unfold ca;simp only;rw[bv_and,mF hx abr,mF hy abx];simp only[kf];exact VC (by omega) (by omega)
theorem toNat_mod {x:Int} {s:Nat} (hx:0<=x) (h:x% (s:Int)=0):x.toNat% s=0:=by
 obtain⟨X,rfl⟩:=oP hx;simp only[kf]
 exact_mod_cast h
theorem aFB {k:dZ} {x y:bT} (hx:x.ok n ρ) (hy:y.ok n ρ):aB S L (orM k x y) n ρ λad n' q=>q.ok n' ad/\q.l.den ad=ca .or k (x.l.den ρ) (y.l.den ρ):=by
 unfold orM;cases hc:(!(decide (0<=x.lo)&&decide (0<=y.lo)&&decide (x.hi<pQ k)&&decide (y.hi<pQ k)))with
 |true=>
  simp only[cond_true];refine eX λh1=>eX λh2=>ln λh3=>aB.pure ?_;simp only[bA,decide_eq_true_eq]at h1 h2;simp only[dk,gZ,az,U.bz]at h3;obtain⟨⟨h4,h6⟩,h5⟩:=h2;have CR:=hx.2;have Mj:=hy.2
  generalize hs:Q1 x.l [24,18,16,12,8,6,4]=s at*;have hm:=U.Ym ρ h4;have aAk:∃i,s=2^i:=by
   rw[<-hs];generalize [24,18,16,12,8,6,4]=l;induction l with
   |nil=>exact⟨0,rfl⟩
   |cons i r ih=>
    unfold Q1;cases x.l.CK (2^i)with
    |true=>exact⟨i,rfl⟩
    |false=>exact ih
  have e:x.l.den ρ+y.l.den ρ=ca .or k (x.l.den ρ) (y.l.den ρ):=by
   rw[ai5 (by omega) h3.1 (by omega) (by omega),ado aAk (toNat_mod (by omega) hm) (by omega)];omega
  exact⟨⟨U.y0 hx.1 hy.1,by simp only[U.den_add];omega,by simp only[U.den_add];omega⟩,by rw[U.den_add];exact e⟩
 |false=>
  simp only[c5,bA,decide_eq_true_eq]at hc;obtain⟨⟨⟨h1,h2⟩,E5⟩,aQW⟩:=hc;have aa0:=TK k;have h3:x.hi<two k:=by omega
  have h4:y.hi<two k:=by omega
  have CR:=hx.2;have Mj:=hy.2
  have hb:=ai5 (k:=k) (x:=x.l.den ρ) (y:=y.l.den ρ) (by omega) (by omega) (by omega) (by omega);have hlt:ca .or k (x.l.den ρ) (y.l.den ρ)<two k:=by
   have ar:x.l.den ρ<2^k.bits:=by rw[<-Cb];omega
   have aG:y.l.den ρ<2^k.bits:=by rw[<-Cb];omega
   have h1:(x.l.den ρ).toNat|||(y.l.den ρ).toNat<2^k.bits:=aOT (by
    have:(x.l.den ρ).toNat=x.l.den ρ:=by omega
    exact_mod_cast (show((x.l.den ρ).toNat:Int)<2^k.bits by omega)) (by exact_mod_cast (show((y.l.den ρ).toNat:Int)<2^k.bits by omega))
   rw[hb,Cb]
   exact_mod_cast h1
  have ok:∀q:Int,q=ca .or k (x.l.den ρ) (y.l.den ρ)->x.l.den ρ+y.l.den ρ=q->(bT.mk (x.l.add y.l) (x.lo+y.lo) (cond (decide (x.hi+y.hi<two k)) (x.hi+y.hi) (two k-1))).ok n ρ:=λq Ah xb=>⟨U.y0 hx.1 hy.1,by simp only[U.den_add];omega,by
   simp only[U.den_add];cases hd:decide (x.hi+y.hi<two k)with
   |true=>simp only[cond_true];omega
   |false=>simp only[cond_false];omega⟩
  simp only[cond_false];cases h5:x.l.CK (Er y.hi)with
  |true=>
   have hm:=U.Ym ρ h5;have hl:=ahV Mj.2 (by omega);have hs:x.l.den ρ+y.l.den ρ=ca .or k (x.l.den ρ) (y.l.den ρ):=by
    rw[hb,ado (s:=Er y.hi) ⟨_,rfl⟩ (toNat_mod (by omega) hm) (by omega)];omega
   exact aB.pure ⟨ok _ rfl hs,by rw[U.den_add];exact hs⟩
  |false=>
   simp only[cond_false];cases h6:y.l.CK (Er x.hi)with
   |true=>
    have hm:=U.Ym ρ h6;have hl:=ahV CR.2 (by omega);have hs:x.l.den ρ+y.l.den ρ=ca .or k (x.l.den ρ) (y.l.den ρ):=by
     rw[hb,Nat.or_comm,ado (s:=Er x.hi) ⟨_,rfl⟩ (toNat_mod (by omega) hm) (by omega)];omega
    exact aB.pure ⟨ok _ rfl hs,by rw[U.den_add];exact hs⟩
   |false=>exact Q9
def Q5 (k:dZ) (x:bT) (c:Int):M bT:=
 match TN c with
 |some (a,b)=>cond (!(decide (0<=x.lo)&&decide (x.hi<pQ k)&&decide (c<two k)&&decide (0<=c))) fail (andM x a b)
 |none=>cond (c==0&&decide (0<=x.lo)&&decide (x.hi<pQ k)) (pure (.const 0)) fail
theorem ah9 {k:dZ} {x:bT} {c:Int} (hx:x.ok n ρ):aB S L (Q5 k x c) n ρ λad n' q=>q.ok n' ad/\q.l.den ad=ca .and k (x.l.den ρ) c:=by
 unfold Q5;have CR:=hx.2;cases hm:TN c with
 |some p=>
  obtain⟨a,b⟩:=p;simp only;cases hc:(!(decide (0<=x.lo)&&decide (x.hi<pQ k)&&decide (c<two k)&&decide (0<=c)))with
  |true=>exact aB.fail
  |false=>
   simp only[c5,bA,decide_eq_true_eq]at hc;obtain⟨⟨⟨h1,h2⟩,h3⟩,h4⟩:=hc;obtain⟨i,j,J6,rfl,rfl,Sb,_,_⟩:=aC4 hm;refine(auo J6 hx h1).mono λad n' q _ _ ⟨aw,he⟩=>⟨aw,?_⟩;rw[he,ai4 (by omega) h4 (by omega) h3]
   congr 2
   have h3:2^i<=2^j:=Qn (by omega) J6;have h5:((2^j-2^i:Nat):Int)=2^j-2^i:=by rw[asl h3];simp
   omega
 |none=>
  simp only;cases hc:(c==0&&decide (0<=x.lo)&&decide (x.hi<pQ k))with
  |false=>exact aB.fail
  |true=>
   simp only[bA,beq_iff_eq,decide_eq_true_eq]at hc;obtain⟨⟨rfl,h1⟩,h2⟩:=hc;refine aB.pure ⟨bT.uG _ _ _,?_⟩;rw[ai4 (by omega) (cF _) (by omega) (by cases k<;>decide)];simp[bT.const,U.bz]
theorem auT (k:dZ) (x y:Int):ca .and k x y=ca .and k y x:=by simp only[ca,BitVec.and_comm]
def Ys (k:dZ) (x y:bT):M bT:=
 match y.l.e4,x.l.e4 with
 |some c,_=>Q5 k x c
 |none,some c=>Q5 k y c
 |none,none=>Jp .and k x y
theorem aun {k:dZ} {x y:bT} (hx:x.ok n ρ) (hy:y.ok n ρ):aB S L (Ys k x y) n ρ λad n' q=>q.ok n' ad/\q.l.den ad=ca .and k (x.l.den ρ) (y.l.den ρ):=by
 unfold Ys;cases h1:y.l.e4 with
 |some c=>simp only[U.lp h1];exact ah9 hx
 |none=>
  cases h2:x.l.e4 with
  |some c=>simp only[U.lp h2];rw[auT];exact ah9 hy
  |none=>exact Q9
def aeC (x y:bT):M bT:=λn k=> .shr n x.l y.l 0 x.hi (k ⟨.var n,0,x.hi⟩ (n+1))
theorem aKF {x y:bT} (hx:x.ok n ρ) (h0:0<=x.lo):aB S L (aeC x y) n ρ λad n' q=>q.ok n' ad/\q.l.den ad=x.l.den ρ/2^(y.l.den ρ).toNat:=by
 intro A k af;simp only[aeC,T.holds]at af;have hp:(0:Int)<2^(y.l.den ρ).toNat:=by have:=IU (y.l.den ρ).toNat;exact_mod_cast this
 have dq:0<=x.l.den ρ:=by have:=hx.2;omega
 have bG:0<=x.l.den ρ/2^(y.l.den ρ).toNat:=af1 dq (sz hp);have a2:x.l.den ρ/2^(y.l.den ρ).toNat<=x.hi:=Int.le_trans (aOU _ dq) hx.2.2;exact⟨_,n+1,_,uq _,agree.dQ _ _ _,⟨⟨U.hQ (A1 n),by simp only[U.c6,m4];exact bG,by simp only[U.c6,m4];exact a2⟩,by simp only[U.c6,m4]⟩,af _ bG a2 rfl⟩
def isInt (k:dZ) (x:M bT):M A:=bind x λr=>pure (.int k r)
def FM (x:bT):M bT:=cond (decide (0<=x.lo)) (pure x) (bind (js 77 [x.l]) λ_=>pure ⟨x.l,0,x.hi⟩)
def eo (x y:bT):M bT:=match x.l.e4,y.l.e4 with
 |none,none=>bind (FM x) λx=>bind (FM y) λy=>mulM x y
 |_,_=>mulM x y
def bT.Jx (y:bT):Option Int:=match y.l.e4 with
 |some c=>some c
 |none=>cond (decide (y.lo=y.hi)) (some y.lo) none
theorem bT.ajV {n:Nat} {ρ:Env} {y:bT} {c:Int} (hy:y.ok n ρ) (h:y.Jx=some c):y.l.den ρ=c:=by
 unfold bT.Jx at h;cases hc:y.l.e4 with
 |some d=>simp only[hc,bp]at h;rw[U.lp hc,h]
 |none=>
  simp only[hc]at h;cases hd:decide (y.lo=y.hi)with
  |false=>simp[hd]at h
  |true=>
   simp only[hd,cond_true,bp]at h;have h1:y.lo=y.hi:=by simpa using hd
   have:=hy.2.1;have:=hy.2.2
   omega
def YL (op:BinOp) (k:dZ) (x:bT) (bD:dZ) (y:bT):M A:=
 match op with
 | .shl=>match y.Jx with
  |some c=>cond (decide (0<=c)) (let s:Int:=2^min c.toNat k.bits;isInt k (Cd k ⟨x.l.smul s,x.lo*s,x.hi*s⟩)) fail
  |none=>cond (decide (0<=x.lo)&&decide (0<=y.lo)&&decide (y.hi<=62)&&decide (x.hi*2^y.hi.toNat<pQ k)) (isInt k (bind (kC 37 [x.l,y.l] 0 (x.hi*2^y.hi.toNat)) λl=>pure ⟨l,0,x.hi*2^y.hi.toNat⟩)) fail
 | .shr=>match y.Jx with
  |some c=>cond (decide (0<=c)) (isInt k (Bj x (2^min c.toNat k.bits))) fail
  |none=>cond (decide (0<=x.lo)&&decide (0<=y.lo)&&decide (y.hi<=(k.bits:Int))) (isInt k (aeC x y)) fail
 | .add=>cond (decide (k=bD)) (isInt k (Cd k ⟨x.l.add y.l,x.lo+y.lo,x.hi+y.hi⟩)) fail
 | .sub=>cond (decide (k=bD)) (isInt k (Cd k ⟨x.l.sub y.l,x.lo-y.hi,x.hi-y.lo⟩)) fail
 | .mul=>cond (decide (k=bD)) (isInt k (bind (eo x y) (Cd k))) fail
 | .quo=>match y.l.e4 with
  |some c=>cond (decide (k=bD)&&decide (0<c)) (bind (FM x) λx=>isInt k (bind (Bj x c) (Cd k))) fail
  |none=>cond (decide (k=bD)) (bind (FM x) λx=>bind (js 36 [y.l]) λ_=>isInt k (bind (bind (kC 76 [x.l,y.l] 0 x.hi) λl=>pure ⟨l,0,x.hi⟩) (Cd k))) fail
 | .rem=>match y.l.e4 with
  |some c=>cond (decide (k=bD)&&decide (0<c)) (bind (FM x) λx=>isInt k (acW x c)) fail
  |none=>cond (decide (k=bD)) (bind (FM x) λx=>bind (js 36 [y.l]) λ_=>isInt k (bind (kC 38 [x.l,y.l] 0 (cond (decide (y.hi-1<=x.hi)) (y.hi-1) x.hi)) λl=>pure ⟨l,0,cond (decide (y.hi-1<=x.hi)) (y.hi-1) x.hi⟩)) fail
 | .and=>cond (decide (k=bD)) (isInt k (Ys k x y)) fail
 | .or=>cond (decide (k=bD)) (isInt k (orM k x y)) fail
 | .xor=>cond (decide (k=bD)) (isInt k (Jp .xor k x y)) fail
 | .andNot=>cond (decide (k=bD)) (isInt k (Jp .andNot k x y)) fail
 | .eql=>cond (decide (k=bD)) (pure (.bool (.mkEq x y))) fail
 | .neq=>cond (decide (k=bD)) (pure (.bool (.mkNot (.mkEq x y)))) fail
 | .lss=>cond (decide (k=bD)) (pure (.bool (.mkLt x y))) fail
 | .leq=>cond (decide (k=bD)) (pure (.bool (.mkLe x y))) fail
 | .gtr=>cond (decide (k=bD)) (pure (.bool (.mkLt y x))) fail
 | .geq=>cond (decide (k=bD)) (pure (.bool (.mkLe y x))) fail
theorem uV {k:dZ} {x:M bT} {R:Env->Nat->A->Prop} {v:Int} (h:aB S L x n ρ λad n' q=>q.ok n' ad/\q.l.den ad=v)
 (hR:∀ad n' (q:bT),n<=n'->agree n ρ ad->q.ok n' ad->q.l.den ad=v->R ad n' (.int k q)):aB S L (isInt k x) n ρ R:=
 h.bind λad n' q hn ha ⟨aw,he⟩=>aB.pure (hR ad n' q hn ha aw he)
theorem KV {x:bT} (hx:x.ok n ρ):aB S L (FM x) n ρ λad n' q=>q.ok n' ad/\q.l=x.l/\q.hi=x.hi/\0<=q.lo/\x.l.den ad=x.l.den ρ:=by
 unfold FM;cases h:decide (0<=x.lo)with
 |true=>exact aB.pure ⟨hx,rfl,rfl,of_decide_eq_true h,rfl⟩
 |false=>
  refine ln λaf=>aB.pure ⟨⟨hx.1,?_,hx.2.2⟩,rfl,rfl,cF _,rfl⟩;simpa [az,Mp]using af
theorem aDc {x y:bT} (hx:x.ok n ρ) (hy:y.ok n ρ):aB S L (eo x y) n ρ λad n' q=>q.ok n' ad/\q.l.den ad=x.l.den ρ*y.l.den ρ:=by
 unfold eo;split
 ·refine(KV hx).bind λbg bk ht iM hD ⟨o7,ex,_,_,wX⟩=>(KV (hy.agree hD iM)).bind λb0 gF og gU eJ ⟨abu,ZJ,_,_,awN⟩=>(acZ (o7.agree eJ gU) abu).mono λje tZ q _ _ ⟨h1,h2⟩=>⟨h1,?_⟩;rw[h2,ZJ,awN,U.ch hD hy.1,U.ch eJ o7.1,ex,wX]
 ·exact acZ hx hy
theorem auS {nb:Nat} {m:Nat->Nat} (P:bU) {op:BinOp} {k bD:dZ} {x y:bT} (t:bw) (hx:x.ok n ρ) (hy:y.ok n ρ):
 aB S L (YL op k x bD y) n ρ λad n' a=>a.ok n' nb ad/\∀w,(binOp op t (.int k (x.l.den ρ)) (.int bD (y.l.den ρ))).run P w= .ok (a.den ad m) w:=by
 have bY:∀s:Nat,(0:Int)<2^s:=λs=>by have:=IU s;exact_mod_cast this
 cases op<;>simp only[YL]
 case shl=>
  cases hc:y.Jx with
  |none=>
   refine eX λh0=>?_;simp only[bA,decide_eq_true_eq]at h0;obtain⟨⟨⟨h1,h2⟩,h3⟩,h4⟩:=h0;have Hx:=hx.2;have Fl:=hy.2
   have hp:=bY (y.l.den ρ).toNat;have ar:(0:Int)<=x.l.den ρ*2^(y.l.den ρ).toNat:=asg (by omega) (sz hp);have aG:x.l.den ρ*2^(y.l.den ρ).toNat<=x.hi*2^y.hi.toNat:=af3 Hx.2 (by
    have:=Qn (n:=2) (by decide) (show(y.l.den ρ).toNat<=y.hi.toNat by omega)
    exact_mod_cast this) (sz hp) (by omega)
   have hf:cR 37 ([x.l,y.l].map (·.den ρ))=x.l.den ρ*2^(y.l.den ρ).toNat:=rfl;refine uV (v:=x.l.den ρ*2^(y.l.den ρ).toNat) ((mQ (by rw[hf];exact ar) (by rw[hf];exact aG)).bind λbg bk l _ _ ⟨g1,g2⟩=>aB.pure ⟨⟨g1,by simp only;rw[g2,hf];exact ar,by simp only;rw[g2,hf];exact aG⟩,by simp only;rw[g2,hf]⟩) λad n' q _ _ aw he=>⟨aw,λw=>?_⟩;simp only[A.den,he,binOp,Op.shift];have ay9:(y.l.den ρ).toNat<=k.bits∨x.l.den ρ=0:=by
    rcases Nat.le_total (y.l.den ρ).toNat k.bits with h|h
    ·exact .inl h
    ·refine .inr ?_;have h5:x.l.den ρ*2^(y.l.den ρ).toNat<pQ k:=by omega
     have h6:=TK k;rw[Cb]at h6;have h7:(2:Int)^k.bits<=2^(y.l.den ρ).toNat:=by
      have:=Qn (n:=2) (by decide) h
      exact_mod_cast this
     rcases m5 0 (x.l.den ρ)with b4|b4
     ·have:(1:Int)*2^(y.l.den ρ).toNat<=x.l.den ρ*2^(y.l.den ρ).toNat:=Int.mul_le_mul_of_nonneg_right (by omega) (sz hp);omega
     ·omega
   rw[if_neg (by omega)];rcases ay9 with h|h
   ·rw[show min (y.l.den ρ).toNat k.bits=(y.l.den ρ).toNat by omega];simp[VC ar (show x.l.den ρ*2^(y.l.den ρ).toNat<pQ k by omega)]
   ·have hw:k.wrap 0=0:=by cases k<;>decide
    simp[h,hw]
  |some c=>
   refine eX λh0=>?_;simp only[decide_eq_true_eq]at h0;have hp:=bY (min c.toNat k.bits);refine uV (F6 (x:=⟨x.l.smul (2^min c.toNat k.bits),x.lo*2^min c.toNat k.bits,x.hi*2^min c.toNat k.bits⟩) ⟨U.xG hx.1,?_,?_⟩) λad n' q _ _ aw he=>⟨aw,λw=>?_⟩
   ·simp only[U.nu];rw[lG];exact Gf hx.2.1 (sz hp)
   ·simp only[U.nu];rw[lG x.hi];exact Gf hx.2.2 (sz hp)
   ·simp only[A.den,he,U.nu,bT.ajV hy hc,binOp,Op.shift];rw[if_neg (by omega)];simp[lG]
 case shr=>
  cases hc:y.Jx with
  |some c=>
   refine eX λh0=>?_;simp only[decide_eq_true_eq]at h0;have hp:=bY (min c.toNat k.bits);refine uV ((EI hp hx).mono λ_ _ q _ _ h=>⟨h.1,h.2.1⟩) λad n' q _ _ aw he=>⟨aw,λw=>?_⟩;simp only[A.den,he,bT.ajV hy hc,binOp,Op.shift];rw[if_neg (by omega)];simp[aOV _ (sz hp)]
  |none=>
   refine eX λh0=>?_;simp only[bA,decide_eq_true_eq]at h0;refine uV (aKF hx h0.1.1) λad n' q _ _ aw he=>⟨aw,λw=>?_⟩;have Fl:=hy.2;simp only[A.den,he,binOp,Op.shift];rw[if_neg (by omega),show min (y.l.den ρ).toNat k.bits=(y.l.den ρ).toNat by omega];simp[aOV _ (sz (bY _))]
 case add=>
  refine eX λh0=>?_;simp only[decide_eq_true_eq]at h0;subst h0;have Hx:=hx.2;have Fl:=hy.2
  refine uV (F6 (x:=⟨x.l.add y.l,x.lo+y.lo,x.hi+y.hi⟩) ⟨U.y0 hx.1 hy.1,by simp only[U.den_add];omega,by simp only[U.den_add];omega⟩) λad n' q _ _ aw he=>⟨aw,λw=>?_⟩;simp[A.den,he,U.den_add,binOp,Op.intArith]
 case sub=>
  refine eX λh0=>?_;simp only[decide_eq_true_eq]at h0;subst h0;have Hx:=hx.2;have Fl:=hy.2
  refine uV (F6 (x:=⟨x.l.sub y.l,x.lo-y.hi,x.hi-y.lo⟩) ⟨U.xH hx.1 hy.1,by simp only[U.mu];omega,by simp only[U.mu];omega⟩) λad n' q _ _ aw he=>⟨aw,λw=>?_⟩;simp[A.den,he,U.mu,binOp,Op.intArith]
 case mul=>
  refine eX λh0=>?_;simp only[decide_eq_true_eq]at h0;subst h0;refine uV (v:=k.wrap (x.l.den ρ*y.l.den ρ)) ((aDc hx hy).bind λbg bk p _ _ ⟨hp,ep⟩=>by rw[<-ep];exact F6 hp) λad n' q _ _ aw he=>⟨aw,λw=>?_⟩;simp[A.den,he,binOp,Op.intArith]
 case quo=>
  cases hc:y.l.e4 with
  |none=>
   refine eX λh0=>(KV hx).bind λcx gE ht uP CZ ⟨o7,ex,ZC,J8,wX⟩=>ln λaf=>?_;have h0:=of_decide_eq_true h0;subst h0;simp only[dk,gZ,az]at af;have NZ:=U.ch CZ hy.1;have Hx:=o7.2;have ar:=af1 (show 0<=ht.l.den cx by omega) (sz af);have cm:ht.l.den cx/y.l.den cx<=ht.l.den cx:=by
    have h5:=aOU (y.l.den cx) (show 0<=ht.l.den cx by omega);exact h5
   have iS:ht.l.den cx/y.l.den cx<=ht.hi:=by omega
   have hf:cR 76 ([ht.l,y.l].map (·.den cx))=ht.l.den cx/y.l.den cx:=rfl;refine uV (v:=k.wrap (ht.l.den cx/y.l.den cx)) (((mQ (by rw[hf];exact ar) (by rw[hf];exact iS)).bind λbg bk l _ _ ⟨g1,g2⟩=>aB.pure (R:=λad n' (q:bT)=>q.ok n' ad/\q.l.den ad=ht.l.den cx/y.l.den cx) ⟨⟨g1,by simp only;rw[g2,hf];exact ar,by simp only;rw[g2,hf];exact iS⟩,by simp only;rw[g2,hf]⟩).bind λbg bk p _ _ ⟨hp,ep⟩=>by rw[<-ep];exact F6 hp) λad n' q _ _ aw he=>⟨aw,λw=>?_⟩;simp only[A.den,he,binOp,Op.intDiv];have NY:0<y.l.den ρ:=NZ▸af;have De:0<=x.l.den ρ:=by rw[<-wX,<-ex];omega
   rw[NZ,ex,wX,if_neg (by simp),if_neg (by omega),aOW De];simp
  |some c=>
   refine eX λh0=>(KV hx).bind λcx gE ht uP CZ ⟨o7,ex,ZC,J8,wX⟩=>?_;simp only[bA,decide_eq_true_eq]at h0;obtain⟨h0,h1⟩:=h0;subst h0;have Hx:=o7.2;refine uV (v:=k.wrap (ht.l.den cx/c)) ((EI h1 o7).bind λbg bk p _ _ ⟨hp,ep,_⟩=>by rw[<-ep];exact F6 hp) λad n' q _ _ aw he=>⟨aw,λw=>?_⟩;have De:0<=x.l.den ρ:=by rw[<-wX,<-ex];omega
   simp only[A.den,he,U.lp hc,binOp,Op.intDiv];rw[ex,wX,if_neg (by simp),if_neg (by omega),aOW De];simp
 case rem=>
  cases hc:y.l.e4 with
  |none=>
   refine eX λh0=>(KV hx).bind λcx gE ht uP CZ ⟨o7,ex,ZC,J8,wX⟩=>ln λaf=>?_;have h0:=of_decide_eq_true h0;subst h0;simp only[dk,gZ,az]at af;have NZ:=U.ch CZ hy.1;have Hx:=o7.2;have Fl:=(hy.agree CZ uP).2
   have ar:=tr (ht.l.den cx) (show y.l.den cx≠0 by omega);have aG:=vl (ht.l.den cx) af;have cm:ht.l.den cx% y.l.den cx<=ht.l.den cx:=by
    have h5:=asi (ht.l.den cx) (y.l.den cx);have h6:=asg (sz af) (af1 (show 0<=ht.l.den cx by omega) (sz af));omega
   have hf:cR 38 ([ht.l,y.l].map (·.den cx))=ht.l.den cx% y.l.den cx:=rfl;have iS:ht.l.den cx% y.l.den cx<=cond (decide (y.hi-1<=ht.hi)) (y.hi-1) ht.hi:=by
    cases decide (y.hi-1<=ht.hi)with
    |true=>simp only[cond_true];omega
    |false=>simp only[cond_false];omega
   refine uV (v:=ht.l.den cx% y.l.den cx) ((mQ (by rw[hf];exact ar) (by rw[hf];exact iS)).bind λbg bk l _ _ ⟨g1,g2⟩=>aB.pure ⟨⟨g1,by simp only;rw[g2,hf];exact ar,by simp only;rw[g2,hf];exact iS⟩,by simp only;rw[g2,hf]⟩) λad n' q _ _ aw he=>⟨aw,λw=>?_⟩;simp only[A.den,he,binOp,Op.intDiv];have NY:0<y.l.den ρ:=NZ▸af;have De:0<=x.l.den ρ:=by rw[<-wX,<-ex];omega
   rw[NZ,ex,wX,if_neg (by simp),if_neg (by omega),aOX De];simp
  |some c=>
   refine eX λh0=>(KV hx).bind λcx gE ht uP CZ ⟨o7,ex,ZC,J8,wX⟩=>?_;simp only[bA,decide_eq_true_eq]at h0;obtain⟨h0,h1⟩:=h0;subst h0;have Hx:=o7.2;refine uV (aoe h1 o7) λad n' q _ _ aw he=>⟨aw,λw=>?_⟩;have De:0<=x.l.den ρ:=by rw[<-wX,<-ex];omega
   simp only[A.den,he,U.lp hc,binOp,Op.intDiv];rw[ex,wX,if_neg (by simp),if_neg (by omega),aOX De];simp
 case and=>
  refine eX λh0=>?_;simp only[decide_eq_true_eq]at h0;subst h0;refine uV (aun hx hy) λad n' q _ _ aw he=>⟨aw,λw=>?_⟩;simp[A.den,he,binOp,We,ca]
 case or=>
  refine eX λh0=>?_;simp only[decide_eq_true_eq]at h0;subst h0;refine uV (aFB hx hy) λad n' q _ _ aw he=>⟨aw,λw=>?_⟩;simp[A.den,he,binOp,We,ca]
 case xor=>
  refine eX λh0=>?_;simp only[decide_eq_true_eq]at h0;subst h0;refine uV Q9 λad n' q _ _ aw he=>⟨aw,λw=>?_⟩;simp[A.den,he,binOp,We,ca]
 case andNot=>
  refine eX λh0=>?_;simp only[decide_eq_true_eq]at h0;subst h0;refine uV Q9 λad n' q _ _ aw he=>⟨aw,λw=>?_⟩;simp[A.den,he,binOp,We,ca]
 all_goals
  refine eX λh0=>?_;simp only[decide_eq_true_eq]at h0;subst h0;have ar:=bH.EG hx hy;have aG:=bH.RD hx hy;have cm:=bH.ajW hx hy;have iS:=bH.RD hy hx;have hX:=bH.ajW hy hx;refine aB.pure ⟨?_,λw=>?_⟩
  ·first|exact ar.2|exact bH.FY ar.2|exact aG.2|exact cm.2|exact iS.2|exact hX.2
  ·simp[A.den,bH.EH,ar.1,aG.1,cm.1,iS.1,hX.1,binOp,Op.intCmp]
   try rfl
end
end Go.bX
namespace Go.bX
open M
abbrev aH:=List A×(bw×Bool)
abbrev fO:=List (Nat×List (dZ×Int))
structure eV where
 b:aC
 r:aC
 ex:Nat->Prop
 ro:Nat->Prop
 ds:List Deferred
def cd:List A->Bool
 |[.rows _ _ _ _ _]=>false
 |_=>true
noncomputable def bP (ρ:Env):List A->Nat
 |[.rows _ _ _ cap k]=>if cap.den ρ<0 then 0 else k
 |_=>2
def cP:List aV->List Int->Prop
 |[],[]=>True
 |c::sh,z::r=>(c.ia.1<=z/\z<=c.ia.2)/\cP sh r
 |_,_=>False
def eu:List aV->List Int->List a6
 |c::sh,z::r=>c.val z::eu sh r
 |_,_=>[]
def cc (sh:List aV) (rows:List (List Int)):List a6:=rows.flatMap (eu sh)
def pA (cells:Array a6) (off:Nat) (sh:List aV) (rows:List (List Int)):Prop:=
 (∀row∈rows,cP sh row)/\∃pre post,cells.toList=pre++cc sh rows++post/\pre.length=off
theorem cP.len:∀{sh:List aV} {row:List Int},cP sh row->row.length=sh.length
 |[],[],_=>rfl
 |_::_,_::_,h=>by simp[cP.len h.2]
 |[],_::_,h=>h.elim
 |_::_,[],h=>h.elim
theorem cP.get:∀{sh:List aV} {row:List Int} {j:Nat} {c:aV},cP sh row->sh[j]?=some c->∃z,row[j]?=some z/\c.ia.1<=z/\z<=c.ia.2/\(eu sh row)[j]?=some (c.val z)
 |eW::sh,z::r,0,c,h,hc=>by
  simp only[xZ,bp]at hc;subst hc;exact⟨z,rfl,h.1.1,h.1.2,rfl⟩
 |eW::sh,z::r,j+1,c,h,hc=>cP.get (sh:=sh) (row:=r) (j:=j) h.2 (by simpa using hc)
 |[],_,_,_,_,hc=>by simp at hc
 |_::_,[],_,_,h,_=>h.elim
theorem Io:∀{sh:List aV} {row:List Int},cP sh row->(eu sh row).length=sh.length
 |[],[],_=>rfl
 |_::_,_::_,h=>by simp[eu,Io h.2]
 |[],_::_,h=>h.elim
 |_::_,[],h=>h.elim
theorem sX {sh:List aV}:∀{rows:List (List Int)},(∀row∈rows,cP sh row)->(cc sh rows).length=rows.length*sh.length
 |[],_=>by simp[cc]
 |r::rs,h=>by
  have ih:=sX (rows:=rs) λrow hr=>h row (eS _ hr);have h1:=Io (h r (by simp));simp only[cc,wy,gx,kJ]at ih⊢;rw[ih,h1,Cv];omega
theorem ZQ {sh:List aV}:∀{rows:List (List Int)} {i j:Nat} {row:List Int} {v:a6},(∀row∈rows,cP sh row)->rows[i]?=some row->(eu sh row)[j]?=some v->(cc sh rows)[i*sh.length+j]?=some v
 |r::rs,0,j,row,v,h,hi,aO=>by
  simp only[xZ,bp]at hi;subst hi;have hlt:=(List.getElem?_eq_some_iff.1 aO).1;simp only[cc,wy,Nat.zero_mul,A2];rw[zx hlt];exact aO
 |r::rs,i+1,j,row,v,h,hi,aO=>by
  have ih:=ZQ (rows:=rs) (i:=i) (λrow hr=>h row (eS _ hr)) (by simpa using hi) aO;have h1:=Io (h r (by simp));simp only[cc,wy]at ih⊢;rw[LM (by rw[h1,Cv];omega),h1,Cv];rw[show i*sh.length+sh.length+j-sh.length=i*sh.length+j by omega];exact ih
 |[],i,_,_,_,_,hi,_=>by simp at hi
theorem zX (sh:List aV) (a b:List (List Int)):cc sh (a++b)=cc sh a++cc sh b:=by simp[cc]
def CC (kind:Nat) (fz:Nat×Nat) (n:Nat):Prop:=(kind=2/\fz=(0,0))∨(kind≠2/\fz=(n,n+1))
theorem CC.two {fz:Nat×Nat} {n:Nat} (h:CC 2 fz n):fz=(0,0):=by
 rcases h with h|h
 ·exact h.2
 ·exact absurd rfl h.1
theorem CC.OL {n:Nat}:CC 2 (0,0) n:= .inl ⟨rfl,rfl⟩
def wA (w0:eV) (ρ:Env) (g:Nat) (sh:List aV) (off code cap:U) (kind:Nat) (t:bw) (w:aC):Prop:=
 kind≠0->(cap.den ρ<0->aj (code.den ρ)=[])/\(0<=cap.den ρ->(w0.ex g∨w0.ro g∨w0.r.heap.size<=g)/\∃cells t' fz,w.heap[g]?=some (.cells cells t' fz)/\(0<=off.den ρ/\pA cells (off.den ρ).toNat sh (aj (code.den ρ)))/\
  (2<=kind->t'=t/\off.den ρ=0/\CC kind fz cells.size/\cells.size=(cap.den ρ).toNat*sh.length/\w0.b.heap.size<=g/\(w0.ex g∨w0.r.heap.size<=g)))
structure Mem (w0:eV) (ρ:Env) (m:Nat->Nat) (bl:List aH) (w:aC):Prop where
 ext:w0.b.Extends w
 km:w.os=w0.r.os
 mU:w.tape=w0.r.tape
 l8:w.output=w0.r.output
 iW:w0.r.heap.size<=w.heap.size
 j1:∀i:Nat,i<w0.r.heap.size->¬w0.ex i->w.heap[i]?=w0.r.heap[i]?
 hI:∀(i:Nat) (cs:List A) (t:bw×Bool),bl[i]?=some (cs,t)->cd cs=true->w0.b.heap.size<=m i/\(w0.ex (m i)∨w0.r.heap.size<=m i)/\∃r:List a6,(t.2=false->r=[])/\w.heap[m i]?=some (.cells (cs.map (A.den ρ m)++r).toArray t.1 (0,0))
 rws:∀(i:Nat) (sh:List aV) (off code cap:U) (kind:Nat) (t:bw×Bool),bl[i]?=some ([.rows sh off code cap kind],t)->wA w0 ρ (m i) sh off code cap kind t.1 w
 inj:∀(i j:Nat) (p q:aH),bl[i]?=some p->bl[j]?=some q->m i=m j->i=j∨(bP ρ p.1<=1/\bP ρ q.1<=1)∨bP ρ p.1=0∨bP ρ q.1=0
theorem Mem.lt {w0:eV} {ρ:Env} {m:Nat->Nat} {bl:List aH} {w:aC} (h:Mem w0 ρ m bl w) {i:Nat} {p:aH} (hi:bl[i]?=some p) (af:bP ρ p.1≠0):m i<w.heap.size:=by
 obtain⟨cs,t⟩:=p;by_cases aw:cd cs=true
 ·obtain⟨_,_,r,_,h2⟩:=h.hI i cs t hi aw;exact(Array.getElem?_eq_some_iff.1 h2).1
 ·unfold cd at aw;split at aw
  ·rename_i sh off code cap k;simp only[bP]at af;split at af
   ·exact absurd rfl af
   ·rename_i e2;obtain⟨_,cells,t',fz,h2,_⟩:=(h.rws i _ _ _ _ _ t hi af).2 (by omega);exact(Array.getElem?_eq_some_iff.1 h2).1
  ·exact absurd rfl aw
theorem n6 {ρ:Env} {cs:List A} (h:cd cs=true):bP ρ cs=2:=by
 unfold cd at h;unfold bP;split<;>simp_all
def dg (n nb:Nat) (ρ:Env) (bl:List aH):Prop:=∀p∈bl,∀a∈p.1,A.ok n nb ρ a
def gJ (gl:fO) (w0:eV):Prop:=∀g cs,(g,cs)∈gl->g<w0.b.heap.size/\∃t E1,w0.b.heap[g]?=some (.cells (cs.map λp=>Value.int p.1 p.2).toArray t E1)
theorem dg.ext {n n' nb n8:Nat} {ρ ad:Env} {bl:List aH} (h:dg n nb ρ bl) (ha:agree n ρ ad) (hn:n<=n') (hb:nb<=n8):dg n' n8 ad bl:=
 λp hp a aP=>(h p hp a aP).ext ha hn hb
theorem wA.tj {w0:eV} {n nb:Nat} {ρ ad:Env} {g:Nat} {sh:List aV} {off code cap:U} {kind:Nat} {t:bw} {w:aC} (h:wA w0 ρ g sh off code cap kind t w) (b2:(A.rows sh off code cap kind).ok n nb ρ) (ha:agree n ρ ad):wA w0 ad g sh off code cap kind t w:=by
 unfold wA at*;rw[U.ch ha b2.1.1,U.ch ha b2.1.2.1,U.ch ha b2.1.2.2];exact h
theorem yD {n nb:Nat} {ρ ad:Env} {cs:List A} (b2:∀a∈cs,A.ok n nb ρ a) (ha:agree n ρ ad):bP ad cs=bP ρ cs:=by
 unfold bP;split
 ·rename_i sh off code cap k;have h1:A.ok n nb ρ (.rows sh off code cap k):=b2 _ (by simp);rw[U.ch ha h1.1.2.2]
 ·rfl
theorem agree.sym {n:Nat} {ρ ad:Env} (h:agree n ρ ad):agree n ad ρ:=λi hi=>(h i hi).symm
theorem Mem.tj {w0:eV} {n:Nat} {ρ ad:Env} {m:Nat->Nat} {bl:List aH} {w:aC} (h:Mem w0 ρ m bl w) (hb:dg n bl.length ρ bl) (ha:agree n ρ ad):Mem w0 ad m bl w:=
 ⟨h.ext,h.km,h.mU,h.l8,h.iW,h.j1,λi cs t hi aw=>by
  obtain⟨h1,h2,r,hr,h3⟩:=h.hI i cs t hi aw;exact⟨h1,h2,r,hr,by rw[yG (hb _ (fZ hi)) ha (λ_ _=>rfl)];exact h3⟩,
  λi sh off code cap kind t hi=>(h.rws i sh off code cap kind t hi).tj (hb _ (fZ hi) _ (by simp)) ha,λi j p q hi aO he=>by
   rw[yD (hb _ (fZ hi)) ha,yD (hb _ (fZ aO)) ha];exact h.inj i j p q hi aO he⟩
theorem wA.grow {w0:eV} {ρ:Env} {g:Nat} {sh:List aV} {off code cap:U} {kind:Nat} {t:bw} {w w':aC} (h:wA w0 ρ g sh off code cap kind t w) (he:kind≠0->0<=cap.den ρ->w'.heap[g]?=w.heap[g]?):wA w0 ρ g sh off code cap kind t w':=by
 intro af;obtain⟨h1,h2⟩:=h af;refine⟨h1,λhc=>?_⟩;rw[he af hc];exact h2 hc
theorem vO {ρ:Env} {sh:List aV} {off code cap:U} {k:Nat} (af:k≠0) (hc:0<=cap.den ρ):bP ρ [.rows sh off code cap k]=k:=by
 simp only[bP];rw[if_neg (by omega)]
theorem Mem.grow {w0:eV} {ρ:Env} {m:Nat->Nat} {bl:List aH} {w w':aC} (h:Mem w0 ρ m bl w) (he:w.Extends w'):Mem w0 ρ m bl w':=
 ⟨h.ext.trans he,he.os.trans h.km,he.tape.trans h.mU,he.output.trans h.l8,nK h.iW he.size,λi hi hx=>(he.block i (IW hi h.iW)).trans (h.j1 i hi hx),λi cs t hi aw=>by
  obtain⟨h1,h2,r,hr,h3⟩:=h.hI i cs t hi aw;exact⟨h1,h2,r,hr,by rw[he.block _ (h.lt hi (by rw[n6 aw];decide))];exact h3⟩,λi sh off code cap kind t hi=>(h.rws i sh off code cap kind t hi).grow λaf hc=>he.block _ (h.lt hi (by simp only[vO af hc];exact af)),h.inj⟩
theorem Mem.ne {w0:eV} {ρ:Env} {m:Nat->Nat} {bl:List aH} {w:aC} (h:Mem w0 ρ m bl w) {i j:Nat} {p q:aH} (hi:bl[i]?=some p) (aO:bl[j]?=some q) (hp:2<=bP ρ p.1) (ai:bP ρ q.1≠0) (dz:i≠j):m i≠m j:=λe=>by
 rcases h.inj i j p q hi aO e with h|h|h|h
 ·exact dz h
 ·omega
 ·omega
 ·exact ai h
def fl (n nb:Nat) (ρ:Env) (m:Nat->Nat) (tm:List V) (tmps:Array a6):Prop:=
 tm.length=tmps.size/\∀(i:Nat) (v:V),tm[i]?=some v->v.ok n nb ρ/\∃x,tmps[i]?=some x/\v.rel ρ m x
theorem fl.ext {n n' nb n8:Nat} {ρ ad:Env} {m m':Nat->Nat} {tm:List V} {tmps:Array a6} (h:fl n nb ρ m tm tmps) (ha:agree n ρ ad) (hn:n<=n') (hb:nb<=n8) (hm:∀b,b<nb->m' b=m b):fl n' n8 ad m' tm tmps:=
 ⟨h.1,λi v hv=>by obtain⟨h1,x,h2,h3⟩:=h.2 i v hv;exact⟨h1.ext ha hn hb,x,h2,h3.ext h1 ha hm⟩⟩
def xI:List V->Nat->V->List V
 |[],_,_=>[]
 |_::r,0,v=>v::r
 |x::r,i+1,v=>x::xI r i v
theorem aeA:∀(l:List V) (i:Nat) (v:V),xI l i v=l.set i v
 |[],_,_=>rfl
 |_::_,0,_=>rfl
 |_::r,i+1,v=>by simp[xI,aeA r i v]
def ie (tm:List V) (d:Option Tmp) (v:V):List V:=match d with|some d=>xI tm d v|none=>tm
theorem fl.put {n nb:Nat} {ρ:Env} {m:Nat->Nat} {tm:List V} {a:Act} {v:V} {x:a6} (h:fl n nb ρ m tm a.tmps) (d:Option Tmp) (hv:v.ok n nb ρ) (hx:v.rel ρ m x):fl n nb ρ m (ie tm d v) (a.put d x).tmps:=by
 cases d with
 |none=>exact h
 |some d=>
  simp only[ie,LQ,aeA];refine⟨by simp[h.1],λi u hu=>?_⟩;rw[List.getElem?_set]at hu;by_cases hd:d=i
  ·subst hd;simp only[if_true]at hu;split at hu
   ·rename_i hlt;simp only[bp]at hu;subst hu;exact⟨hv,x,by simp[<-h.1,hlt],hx⟩
   ·cases hu
  ·rw[if_neg hd]at hu;obtain⟨h1,y,h2,h3⟩:=h.2 i u hu;exact⟨h1,y,by rw[aOY (by omega)];exact h2,h3⟩
def Jw:a6->Option A
 | .int k n=>some (.int k (.const n))
 | .bool b=>some (.bool (.lit b))
 | .string s=>cond (cJ s.size 1000000) (some (.str (.const (l5 s.data.toList)))) none
 |v=>cond v.oneCell' (some (.con v)) none
theorem ajH {v:a6} {a:A} (h:Jw v=some a) (n nb:Nat) (ρ:Env) (m:Nat->Nat):a.ok n nb ρ/\a.den ρ m=v:=by
 unfold Jw at h;split at h
 ·simp only[bp]at h;subst h;exact⟨bT.uG _ _ _,by simp[A.den,bT.const,U.bz]⟩
 ·simp only[bp]at h;subst h;exact⟨trivial,rfl⟩
 ·rename_i s;cases hc:cJ s.size 1000000 with
  |false=>simp[hc]at h
  |true=>
   simp only[hc,cond_true,bp]at h;subst h;have hl:s.data.toList.length<=tY:=by
    have:=gY hc;have h2:s.data.toList.length=s.size:=by simp
    unfold tY;omega
   refine⟨⟨U.dK _ _,by rw[U.bz];exact Mn _,by rw[U.bz];exact Jb hl⟩,?_⟩;simp[A.den,U.bz,Iu,iu]
 ·cases hc:v.oneCell' with
  |false=>simp[hc]at h
  |true=>simp only[hc,cond_true,bp]at h;subst h;exact⟨hc,rfl⟩
def CT:List a6->Option (List A)
 |[]=>some []
 |v::r=>match Jw v,CT r with|some a,some l=>some (a::l)|_,_=>none
theorem EF:∀{vs:List a6} {l:List A},CT vs=some l->∀(n nb:Nat) (ρ:Env) (m:Nat->Nat),(∀a∈l,A.ok n nb ρ a)/\l.map (A.den ρ m)=vs
 |[],l,h,n,nb,ρ,m=>by simp[CT]at h;subst h;simp
 |v::r,l,h,n,nb,ρ,m=>by
  simp only[CT]at h;cases h1:Jw v with
  |none=>simp[h1]at h
  |some a=>
   cases h2:CT r with
   |none=>simp[h1,h2]at h
   |some l'=>
    simp only[h1,h2,bp]at h;subst h;have ar:=ajH h1 n nb ρ m;have aG:=EF h2 n nb ρ m;exact⟨λa ha=>by rcases List.mem_cons.1 ha with rfl|ha;exact ar.1;exact aG.1 a ha,by simp[ar.2,aG.2]⟩
def Rz:a6->V
 | .agg cs=>match CT cs.toList with|some l=> .w (.agg l)|none=> .any
 | .tuple _=> .any
 |v=>match Jw v with|some a=> .w (.one a)|none=> .any
theorem avI (v:a6) (n nb:Nat) (ρ:Env) (m:Nat->Nat):(Rz v).ok n nb ρ/\(Rz v).rel ρ m v:=by
 unfold Rz;split
 ·rename_i cs;cases h:CT cs.toList with
  |none=>exact⟨trivial,trivial⟩
  |some l=>have e:=EF h n nb ρ m;exact⟨e.1,by simp[V.rel,W.den,e.2]⟩
 ·exact⟨trivial,trivial⟩
 ·cases h:Jw v with
  |none=>exact⟨trivial,trivial⟩
  |some a=>have e:=ajH h n nb ρ m;exact⟨e.1,by simp[V.rel,W.den,e.2]⟩
def cu (tm:List V):rF->V
 | .tmp t=>(tm[t]?).getD .any
 | .const v=>Rz v
 | .global g=> .w (.one (.gptr g 0))
 | .func f=> .w (.one (.con (.func (.func f) #[] #[])))
theorem db {n nb:Nat} {ρ:Env} {m:Nat->Nat} {tm:List V} {a:Act} (h:fl n nb ρ m tm a.tmps) (x:rF):(cu tm x).ok n nb ρ/\(cu tm x).rel ρ m (a.eval x):=by
 cases x with
 |tmp t=>
  simp only[cu,Act.eval];cases aA:tm[t]? with
  |none=>exact⟨trivial,trivial⟩
  |some v=>
   obtain⟨h1,y,h2,h3⟩:=h.2 t v aA;exact⟨h1,by simp only[D9];rw[show a.tmps.getD t undef=y by simp[h2]];exact h3⟩
 |const v=>exact avI v n nb ρ m
 |global g=>exact⟨trivial,rfl⟩
 |func f=>exact⟨rfl,rfl⟩
def lu (P:bU) (t:bw):Option Bool:=
 match P.underlying t with|some (.struct _)=>some true|some (.array _ _)=>some true|some _=>some false|none=>none
def hq (P:bU) (t:bw):Option Nat:=match P.info? t with|some i=>some i.size|none=>none
theorem ug {P:bU} {t:bw} {b:Bool} (h:lu P t=some b) (w:aC):(isAgg t).run P w= .ok b w:=by
 unfold lu at h;cases hu:P.underlying t with
 |none=>simp[hu]at h
 |some d=>cases d<;>simp[hu]at h<;>subst h<;>simp[isAgg,hV hu]
theorem kH {P:bU} {t:bw} {k:Nat} (h:hq P t=some k) (w:aC):(sizeOf t).run P w= .ok k w:=by
 unfold hq at h;cases hi:P.info? t with
 |none=>simp[hi]at h
 |some i=>simp[hi]at h;subst h;simp[sizeOf,typeInfo,hi]
def Js (bl:List aH) (gl:fO):A->Option (List A)
 | .ptr b off=>match bl[b]? with|some (cs,_)=>cond (cd cs) (some (cs.drop off)) none|none=>none
 | .gptr g off=>match gl.find? (λp=>aR p.1 g)with|some (_,cs)=>some ((cs.drop off).map λp=> .int p.1 (.const p.2))|none=>none
 |_=>none
theorem lb (g o j:Nat):(⟨g,o,none⟩:Addr).add j=⟨g,o+j,none⟩:=by unfold Addr.add;split<;>simp_all
theorem Y4 {w0:eV} {w:aC} {n:Nat} {ρ:Env} {m:Nat->Nat} {bl:List aH} {gl:fO} {p:A} {cs:List A} (hm:Mem w0 ρ m bl w) (hb:dg n bl.length ρ bl) (hg:gJ gl w0) (h:Js bl gl p=some cs):
 ∃g o,p.den ρ m= .pointer (some ⟨g,o,none⟩)/\(∀a∈cs,A.ok n bl.length ρ a)/\∀j a,cs[j]?=some a->w.cell? ⟨g,o+j,none⟩=some (a.den ρ m):=by
 unfold Js at h;split at h
 ·rename_i b off;cases ba:bl[b]? with
  |none=>simp[ba]at h
  |some q=>
   obtain⟨C,t⟩:=q;simp only[ba]at h;cases o5:cd C with
   |false=>simp[o5]at h
   |true=>
   simp only[o5,cond_true,bp]at h;subst h;obtain⟨h1,_,r,_,h2⟩:=hm.hI b C t ba o5;refine⟨m b,off,rfl,λa ha=>hb _ (fZ ba) a (rG ha),λj a aO=>?_⟩;rw[Cw]at aO;have hlt:off+j<C.length:=(List.getElem?_eq_some_iff.1 aO).1;simp only[pw,h2,zy,zz,if_false,Qx];rw[zx (by simpa using hlt),rC,aO];rfl
 ·rename_i g off;cases hf:gl.find? (λp=>aR p.1 g)with
  |none=>simp[hf]at h
  |some q=>
   obtain⟨l6,C⟩:=q;simp only[hf,bp]at h;subst h;have BB:l6=g:=by have:=V7 hf;exact bV this
   subst BB;obtain⟨h1,t,E1,h2⟩:=hg l6 C (IY hf);refine⟨l6,off,rfl,λa ha=>?_,λj a aO=>?_⟩
   ·obtain⟨p,_,rfl⟩:=List.mem_map.1 ha;exact bT.uG _ _ _
   ·rw[rC,Cw]at aO;cases ai:C[off+j]? with
    |none=>simp[ai]at aO
    |some q=>
     simp only[ai,AY,bp]at aO;subst aO;have:=hm.ext.cell ⟨l6,off+j,none⟩ h1;rw[this];simp[pw,h2,ai,A.den,bT.const,U.bz]
 ·cases h
def acR (P:bU) (bl:List aH) (gl:fO) (ty:bw) (p:A):M V:=
 match Js bl gl p,lu P ty,hq P ty with
 |some cs,some true,some k=>cond (cJ k cs.length) (pure (.w (.agg (cs.take k)))) fail
 |some (a::_),some false,_=>pure (.w (.one a))
 |_,_,_=>fail
section
variable {S:Nat->List Int->List Int->Prop} {L:V->Env->Prop} {n:Nat} {ρ:Env} {m:Nat->Nat} {bl:List aH} {gl:fO} {w0:eV} {P:bU}
def p8 (w0:eV) (m:Nat->Nat) (bl:List aH) (n:Nat) (ρ:Env) (run:aC->Result a6) (ad:Env) (n':Nat) (v:V):Prop:=
 v.ok n' bl.length ad/\∃val,v.rel ad m val/\∀w,Mem w0 ρ m bl w->run w= .ok val w
theorem aCO (hb:dg n bl.length ρ bl) (hg:gJ gl w0) (hex:∃w,Mem w0 ρ m bl w) (ty:bw) (p:A):aB S L (acR P bl gl ty p) n ρ (p8 w0 m bl n ρ λw=>(p5 ty (p.den ρ m)).run P w):=by
 obtain⟨DY,hx⟩:=hex;unfold acR;cases hc:Js bl gl p with
 |none=>exact aB.fail
 |some cs=>
  obtain⟨g,o,hp,b2,_⟩:=Y4 hx hb hg hc;have hcell:∀w,Mem w0 ρ m bl w->∀j a,cs[j]?=some a->w.cell? ⟨g,o+j,none⟩=some (a.den ρ m):=λw hw=>by
   obtain⟨l6,c4,Fj,_,aP⟩:=Y4 hw hb hg hc;rw[hp]at Fj;simp only[aTI,bp,Addr.mk.injEq,and_true]at Fj;obtain⟨rfl,rfl⟩:=Fj;exact aP
  cases ha:lu P ty with
  |none=>exact aB.fail
  |some b=>
   cases b with
   |true=>
    cases hs:hq P ty with
    |none=>exact aB.fail
    |some k=>
     refine eX λaf=>aB.pure ⟨λa h=>b2 a (nJ h),_,rfl,λw hw=>?_⟩;have af:k<=cs.length:=gY af;have hl:=Qr (P:=P) w ⟨g,o,none⟩ ((cs.take k).map (A.den ρ m)) λj v aO=>by
      rw[lb];rw[rC]at aO;cases ai:(cs.take k)[j]? with
      |none=>simp[ai]at aO
      |some a=>
       simp only[ai,AY,bp]at aO;subst aO;refine hcell w hw j a ?_;rw[vm]at ai;split at ai
       ·exact ai
       ·cases ai
     simp only[qQ,p6,Eb af]at hl;simp[p5,px,hp,loadVar,ug ha,kH hs,hl,W.den]
   |false=>
    cases cs with
    |nil=>exact aB.fail
    |cons a r=>
     refine aB.pure ⟨b2 a (by simp),_,rfl,λw hw=>?_⟩;have:=hcell w hw 0 a rfl;simp only[pv]at this;simp[p5,px,hp,loadVar,ug ha,this,W.den]
def s5 (k:dZ):List A->Option (List bT)
 |[]=>some []
 | .int bD x::r=>cond (decide (k=bD)) (match s5 k r with|some l=>some (x::l)|none=>none) none
 |_::_=>none
theorem amI {k:dZ}:∀{cs:List A} {l:List bT},s5 k cs=some l->cs=l.map (.int k)
 |[],l,h=>by simp[s5]at h;subst h;rfl
 | .int bD x::r,l,h=>by
  simp only[s5]at h;by_cases af:k=bD
  ·subst af;simp only[decide_true,cond_true]at h;cases h1:s5 k r with
   |none=>simp[h1]at h
   |some l'=>simp only[h1,bp]at h;subst h;simp[amI h1]
  ·simp[af]at h
 | .bool _::_,_,h=>by simp[s5]at h
 | .ptr .. ::_,_,h=>by simp[s5]at h
 | .rp .. ::_,_,h=>by simp[s5]at h
 | .gptr .. ::_,_,h=>by simp[s5]at h
 | .slc .. ::_,_,h=>by simp[s5]at h
 | .con _::_,_,h=>by simp[s5]at h
 | .str _::_,_,h=>by simp[s5]at h
 | .rows .. ::_,_,h=>by simp[s5]at h
 | .sl .. ::_,_,h=>by simp[s5]at h
 | .ep .. ::_,_,h=>by simp[s5]at h
def KI:List bT->Int
 |[]=>0
 |[x]=>x.lo
 |x::r=>min x.lo (KI r)
def KH:List bT->Int
 |[]=>0
 |[x]=>x.hi
 |x::r=>max x.hi (KH r)
theorem aob {n:Nat} {ρ:Env}:∀{l:List bT},(∀x∈l,x.ok n ρ)->∀x∈l,KI l<=x.l.den ρ/\x.l.den ρ<=KH l
 |[],_,x,hx=>by simp at hx
 |[y],h,x,hx=>by
  simp at hx;subst hx;have:=(h x (by simp)).2;exact this
 |y::z::r,h,x,hx=>by
  have ih:=aob (l:=z::r) (λx hx=>h x (eS _ hx));simp only[KI,KH];rcases List.mem_cons.1 hx with rfl|hx
  ·have:=(h x (by simp)).2;omega
  ·have:=ih x hx;omega
def kindOf (P:bU) (ty:bw):Option dZ:=match P.underlying ty with|some (.int k)=>some k|_=>none
def BR:List Int->Int
 |[]=>0
 |[x]=>x
 |x::r=>cond (decide (x<=BR r)) x (BR r)
def BQ:List Int->Int
 |[]=>0
 |[x]=>x
 |x::r=>cond (decide (BQ r<=x)) x (BQ r)
theorem aoc:∀(l:List Int),∀z∈l,BR l<=z/\z<=BQ l
 |[],_,h=>by cases h
 |[x],z,h=>by simp at h;subst h;simp[BR,BQ]
 |x::y::r,z,h=>by
  unfold BR BQ;have ih:=aoc (y::r);rcases List.mem_cons.1 h with rfl|h
  ·refine⟨?_,?_⟩
   ·cases hc:decide (z<=BR (y::r))with
    |true=>simp
    |false=>simp at hc⊢;omega
   ·cases hc:decide (BQ (y::r)<=z)with
    |true=>simp
    |false=>simp at hc⊢;omega
  ·have:=ih z h;refine⟨?_,?_⟩
   ·cases hc:decide (x<=BR (y::r))with
    |true=>simp at hc⊢;omega
    |false=>simp;exact this.1
   ·cases hc:decide (BQ (y::r)<=x)with
    |true=>simp at hc⊢;omega
    |false=>simp;exact this.2
def aez (P:bU) (bl:List aH) (ty:bw) (b off:Nat) (bt:bT):M V:=λn c=>
 match bl[b]?,kindOf P ty with
 |some (cs,_),some k=>match s5 k ((cs.drop off).take (bt.hi.toNat+1))with
  |some l=>cond (aR l.length (bt.hi.toNat+1)&&decide (0<=bt.lo)&&cd cs) (.B9 n (l.map (·.l)) bt.l (KI l) (KH l) (c (.w (.one (.int k ⟨.var n,KI l,KH l⟩))) (n+1))) .stuck
  |none=> .stuck
 |_,_=> .stuck
theorem aKz (hb:dg n bl.length ρ bl) (ty:bw) (b off:Nat) {bt:bT} (Ns:bt.ok n ρ):aB S L (aez P bl ty b off bt) n ρ (p8 w0 m bl n ρ λw=>(p5 ty ((A.rp b off bt).den ρ m)).run P w):=by
 intro asL c af;unfold aez at af;cases ba:bl[b]? with
 |none=>simp[ba,T.holds]at af
 |some q=>
  obtain⟨cs,t⟩:=q;cases jC:kindOf P ty with
  |none=>simp[ba,jC,T.holds]at af
  |some k=>
   cases hi:s5 k ((cs.drop off).take (bt.hi.toNat+1))with
   |none=>simp[ba,jC,hi,T.holds]at af
   |some l=>
    cases hc:(aR l.length (bt.hi.toNat+1)&&decide (0<=bt.lo)&&cd cs)with
    |false=>simp[ba,jC,hi,hc,T.holds]at af
    |true=>
     simp only[ba,jC,hi,hc,cond_true,T.holds]at af;simp only[bA,decide_eq_true_eq]at hc;obtain⟨hc,ai⟩:=hc;have hlen:=bV hc.1;have e:=amI hi;have CR:=Ns.2;have hlt:(bt.l.den ρ).toNat<l.length:=by omega
     have aAb:∀x∈l,x.ok n ρ:=λx hx=>by
      have:A.int k x∈(cs.drop off).take (bt.hi.toNat+1):=by rw[e];exact aOZ hx
      exact hb _ (fZ ba) _ (rG (nJ this))
     have hz:((l.map (·.l)).map (·.den ρ)).getD (bt.l.den ρ).toNat 0=(l[(bt.l.den ρ).toNat]).l.den ρ:=by
      simp[I,hlt]
     have qx:=aob aAb _ (Gh hlt);refine⟨_,n+1,_,uq _,agree.dQ _ _ _,(show p8 w0 m bl n ρ _ (dQ ρ n (((l.map (·.l)).map (·.den ρ)).getD (bt.l.den ρ).toNat 0)) (n+1) (.w (.one (.int k ⟨.var n,KI l,KH l⟩))) from⟨⟨U.hQ (A1 n),?_,?_⟩,_,rfl,?_⟩),af _ (by rw[hz];exact qx.1) (by rw[hz];exact qx.2) rfl⟩
     ·simp only[U.c6,m4,hz];exact qx.1
     ·simp only[U.c6,m4,hz];exact qx.2
     ·intro w hw;obtain⟨_,_,r,_,h2⟩:=hw.hI b cs t ba ai;have hu:lu P ty=some false:=by
       unfold kindOf at jC;unfold lu;cases ai:P.underlying ty with
       |none=>simp[ai]at jC
       |some d=>cases d<;>simp[ai]at jC<;>rfl
      have dR:cs[off+(bt.l.den ρ).toNat]?=some (.int k (l[(bt.l.den ρ).toNat])):=by
       have h3:((cs.drop off).take (bt.hi.toNat+1))[(bt.l.den ρ).toNat]?=some (.int k (l[(bt.l.den ρ).toNat])):=by rw[e];simp[hlt]
       rw[vm,if_pos (by omega),Cw]at h3;exact h3
      have hcell:w.cell? ⟨m b,off+(bt.l.den ρ).toNat,none⟩=some (.int k ((l[(bt.l.den ρ).toNat]).l.den ρ)):=by
       have azV:off+(bt.l.den ρ).toNat<cs.length:=(List.getElem?_eq_some_iff.1 dR).1;simp only[pw,h2,zy,zz,if_false,Qx];rw[zx (by simpa using azV),rC,dR];rfl
      simp only[W.den,A.den,U.c6,m4,hz];simp[p5,px,loadVar,ug hu,hcell]
def aey (P:bU) (gl:fO) (ty:bw) (g off:Nat) (bt:bT):M V:=λn c=>
 match gl.find? (λp=>aR p.1 g),kindOf P ty with
 |some (_,cs),some k=>cond (((cs.drop off).take (bt.hi.toNat+1)).all (λp=>decide (p.1=k))&&aR ((cs.drop off).take (bt.hi.toNat+1)).length (bt.hi.toNat+1)&&decide (0<=bt.lo))
  (.B9 n (((cs.drop off).take (bt.hi.toNat+1)).map λp=> .const p.2) bt.l (BR (((cs.drop off).take (bt.hi.toNat+1)).map (·.2))) (BQ (((cs.drop off).take (bt.hi.toNat+1)).map (·.2)))
    (c (.w (.one (.int k ⟨.var n,BR (((cs.drop off).take (bt.hi.toNat+1)).map (·.2)),BQ (((cs.drop off).take (bt.hi.toNat+1)).map (·.2))⟩))) (n+1))) .stuck
 |_,_=> .stuck
theorem aKy (hg:gJ gl w0) (ty:bw) (g off:Nat) {bt:bT} (Ns:bt.ok n ρ):aB S L (aey P gl ty g off bt) n ρ (p8 w0 m bl n ρ λw=>(p5 ty ((A.JO g off bt).den ρ m)).run P w):=by
 intro asL c af;unfold aey at af;cases hf:gl.find? (λp=>aR p.1 g)with
 |none=>simp[hf,T.holds]at af
 |some q=>
  obtain⟨l6,cs⟩:=q;have BB:l6=g:=by have:=V7 hf;exact bV this
  subst BB;cases jC:kindOf P ty with
  |none=>simp[hf,jC,T.holds]at af
  |some k=>
   simp only[hf,jC]at af;generalize jQ:(cs.drop off).take (bt.hi.toNat+1)=C at af;cases hc:(C.all (λp=>decide (p.1=k))&&aR C.length (bt.hi.toNat+1)&&decide (0<=bt.lo))with
   |false=>simp[hc,T.holds]at af
   |true=>
    simp only[hc,cond_true,T.holds]at af;simp only[bA,decide_eq_true_eq]at hc;obtain⟨⟨c1,bN⟩,cA⟩:=hc;have bN:=bV bN;have CR:=Ns.2;have hlt:(bt.l.den ρ).toNat<C.length:=by omega
    have hz:((C.map λp=>U.const p.2).map (·.den ρ)).getD (bt.l.den ρ).toNat 0=(C[(bt.l.den ρ).toNat]).2:=by
     simp[I,hlt,U.bz]
    have qx:=aoc (C.map (·.2)) _ (aOZ (Gh hlt));refine⟨_,n+1,_,uq _,agree.dQ _ _ _,(show p8 w0 m bl n ρ _ (dQ ρ n (((C.map λp=>U.const p.2).map (·.den ρ)).getD (bt.l.den ρ).toNat 0)) (n+1) (.w (.one (.int k ⟨.var n,BR (C.map (·.2)),BQ (C.map (·.2))⟩))) from⟨⟨U.hQ (A1 n),?_,?_⟩,_,rfl,?_⟩),af _ (by rw[hz];exact qx.1) (by rw[hz];exact qx.2) rfl⟩
    ·simp only[U.c6,m4,hz];exact qx.1
    ·simp only[U.c6,m4,hz];exact qx.2
    ·intro w hw;have hu:lu P ty=some false:=by
      unfold kindOf at jC;unfold lu;cases ai:P.underlying ty with
      |none=>simp[ai]at jC
      |some d=>cases d<;>simp[ai]at jC<;>rfl
     have s0:(C[(bt.l.den ρ).toNat]).1=k:=by simpa using List.all_eq_true.1 c1 _ (Gh hlt)
     have dR:cs[off+(bt.l.den ρ).toNat]?=some (C[(bt.l.den ρ).toNat]):=by
      have h3:C[(bt.l.den ρ).toNat]?=some (C[(bt.l.den ρ).toNat]):=nI hlt;have h4:C[(bt.l.den ρ).toNat]?=cs[off+(bt.l.den ρ).toNat]?:=by rw[<-jQ,vm,if_pos (by omega),Cw]
      rw[<-h4,h3]
     obtain⟨Sf,t,E1,azf⟩:=hg l6 cs (IY hf);have hcell:w.cell? ⟨l6,off+(bt.l.den ρ).toNat,none⟩=some (.int k (C[(bt.l.den ρ).toNat]).2):=by
      rw[hw.ext.cell _ Sf];simp only[pw,azf,zy,zz,if_false,Qx];rw[rC,dR,AY,s0]
     simp only[W.den,A.den,U.c6,m4,hz];simp[p5,px,loadVar,ug hu,hcell]
end
end Go.bX
namespace Go.bX
open M
abbrev gy:=dD->Option (List aH->List V->M V)
def Gp (P:bU) (o:Oper) (a:Act) (w:aC) (val:a6):Prop:=
 (execOp a.eval o).run P w= .ok (.value val) w∨
 ∃f args,(execOp a.eval o).run P w= .ok (.enter f args) w/\Calls P f args w λe tn=>e= .returned val/\w.Extends tn
def x2 (P:bU) (f:dD) (args:Array a6) (w:aC) (val:a6):Prop:=
 (callFunc f args).run P w= .ok (.value val) w∨
 ((callFunc f args).run P w= .ok (.enter f args) w/\Calls P f args w λe tn=>e= .returned val/\w.Extends tn)
def gb (ρ:Env) (m:Nat->Nat):List V->List a6->Prop
 |[],[]=>True
 |v::r,x::s=>v.rel ρ m x/\gb ρ m r s
 |_,_=>False
def iD (S:Nat->List Int->List Int->Prop) (P:bU) (gl:fO) (w0:eV) (cal:gy):Prop:=
 ∀f g,cal f=some g->∀(L:V->Env->Prop) (n:Nat) (ρ:Env) (m:Nat->Nat) (bl:List aH) (vs:List V) (xs:List a6),dg n bl.length ρ bl->(∃w,Mem w0 ρ m bl w)->(∀v∈vs,v.ok n bl.length ρ)->gb ρ m vs xs->
  aB S L (g bl vs) n ρ λad n' v=>v.ok n' bl.length ad/\∃val,v.rel ad m val/\∀w,Mem w0 ρ m bl w->x2 P f xs.toArray w val
def MJ (P:bU) (s:bw) (f:Nat):Option Field:=match P.underlying s with|some (.struct fs)=>fs[f]?|_=>none
def wI (P:bU) (t:bw):Option (Nat×bw):=match P.underlying t with|some (.array n e)=>some (n,e)|_=>none
def lB (P:bU) (t:bw):Option bw:=match P.underlying t with|some (.slice e)=>some e|_=>none
def Ud (P:bU) (t:bw) (l:List A) (off:Nat):M V:=
 match lu P t,hq P t with
 |some true,some k=>pure (.w (.agg ((l.drop off).take k)))
 |some false,_=>match l[off]? with|some a=>pure (.w (.one a))|none=>fail
 |_,_=>fail
def abD (P:bU) (t:bw) (x:V) (bt:bT):M V:=
 match x with
 | .w (.one (.ptr b off))=>match wI P t with
  |some (len,e)=>match hq P e with
   |some s=>match bt.l.e4 with
    |some i=>cond (decide (0<=i)&&decide (i<len)) (pure (.w (.one (.ptr b (off+i.toNat*s))))) fail
    |none=>cond (aR s 1&&decide (0<=bt.lo)&&decide (bt.hi<len)) (pure (.w (.one (.rp b off bt)))) fail
   |none=>fail
  |none=>fail
 | .w (.one (.gptr g off))=>match wI P t with
  |some (len,e)=>match hq P e with
   |some s=>match bt.l.e4 with
    |some i=>cond (decide (0<=i)&&decide (i<len)) (pure (.w (.one (.gptr g (off+i.toNat*s))))) fail
    |none=>cond (aR s 1) (bind (js 74 [bt.l,.const len]) λ_=>pure (.w (.one (.JO g off ⟨bt.l,0,(len:Int)-1⟩)))) fail
   |none=>fail
  |none=>fail
 | .w (.one (.slc b off len _))=>match lB P t with
  |some e=>match hq P e with
   |some s=>match bt.l.e4 with
    |some i=>cond (decide (0<=i)&&decide (i<len)) (pure (.w (.one (.ptr b (off+i.toNat*s))))) fail
    |none=>cond (aR s 1&&decide (0<=bt.lo)&&decide (bt.hi<len)) (pure (.w (.one (.rp b off bt)))) fail
   |none=>fail
  |none=>fail
 | .td b len _=>match lB P t with
  |some e=>match hq P e with
   |some s=>match bt.l.e4 with
    |some i=>cond (decide (0<=i)&&decide (i<len)) (pure (.w (.one (.ptr b (i.toNat*s))))) fail
    |none=>fail
   |none=>fail
  |none=>fail
 |_=>fail
def Dz:List V->Option (List A)
 |[]=>some []
 | .w (.one a)::r=>match Dz r with|some l=>some (a::l)|none=>none
 |_::_=>none
def EX:List A->List A->Option bH
 |[],[]=>some (.lit true)
 | .int k x::r,.int bD y::r'=>cond (decide (k=bD)) (match EX r r' with|some b=>some (.mkAnd (.mkEq x y) b)|none=>none) none
 |_,_=>none
def ZG (P:bU) (t:bw) (x y:List A):Option bH:=
 match wI P t with
 |some (len,e)=>match kindOf P e,hq P e with
  |some _,some 1=>cond (aR x.length len&&aR y.length len&& !P.eqGuardType P.depth t) (EX x y) none
  |_,_=>none
 |none=>none
def JI (P:bU):Nat->List Field->Bool
 |_,[]=>true
 |i,f::r=>(f.name != "_")&&aR f.offset i&&JI P (i+1) r
noncomputable def wV (P:bU):List Field->List A->List A->M bH
 |[],[],[]=>pure (.lit true)
 |f::fs,.int k a::xs,.int bD b::iN=>match kindOf P f.type with
  |some k2=>cond (decide (k=bD)) (bind (wV P fs xs iN) λr=>pure (.mkAnd (.mkEq a b) r)) fail
  |none=>fail
 |f::fs,.str a::xs,.str b::iN=>match P.underlying f.type with
  |some .string=>bind (kC 4 [a,b] 0 1) λl=>bind (wV P fs xs iN) λr=>pure (.mkAnd (.mkEq ⟨l,0,1⟩ (.const 1)) r)
  |_=>fail
 |_,_,_=>fail
noncomputable def RI (P:bU) (g:bw->List A->List A->M bH):Nat->List Field->List A->List A->M bH
 |_,[],_,_=>pure (.lit true)
 |o,f::fs,x,y=>match hq P f.type with
  |some s=>cond ((f.name != "_")&&aR f.offset o) (bind (g f.type (x.take s) (y.take s)) λb=>bind (RI P g (o+s) fs (x.drop s) (y.drop s)) λr=>pure (.mkAnd b r)) fail
  |none=>fail
noncomputable def JG (P:bU):Nat->bw->List A->List A->M bH
 |0,_,_,_=>fail
 |d+1,t,x,y=>match P.underlying t with
  |some (.int k)=>match x,y with
   |[.int k1 a],[.int k2 b]=>cond (decide (k1=k2)) (pure (.mkEq a b)) fail
   |_,_=>fail
  |some .string=>match x,y with
   |[.str a],[.str b]=>bind (kC 4 [a,b] 0 1) λl=>pure (.mkEq ⟨l,0,1⟩ (.const 1))
   |_,_=>fail
  |some .bool=>match x,y with
   |[.bool a],[.bool b]=>pure (.mkIff a b)
   |_,_=>fail
  |some (.struct fs)=>cond (!P.stoodInHeld t) (RI P (JG P d) 0 fs.toList x y) fail
  |_=>fail
noncomputable def RJ (P:bU) (t:bw) (x y:List A):M bH:=
 match P.underlying t with
 |some (.struct fs)=>cond (JI P 0 fs.toList&& !P.stoodInHeld t&& !P.eqGuardType P.depth t) (cond (fs.toList.all λf=>match P.underlying f.type with|some (.int _)=>true|some .string=>true|_=>false) (wV P fs.toList x y) (JG P 8 t x y))
  (cond (!P.eqGuardType P.depth t) (JG P 8 t x y) fail)
 |_=>fail
noncomputable def aeQ (op:BinOp) (a b:U):M V:=fail
def aeS (s:U):M V:=fail
def aeR (s i:U):M V:=fail
def yA (v:V):Option U:=match v with| .w (.one (.int _ a))=>some a.l|_=>none
noncomputable def aeT (tm:List V) (s:U) (lo hi:Option rF):M V:=fail
noncomputable def ai3 (P:bU) (op:BinOp) (t:bw) (x y:V):M V:=
 match x,y with
 | .w (.one (.int k a)),.w (.one (.int bD b))=>bind (YL op k a bD b) λr=>pure (.w (.one r))
 | .w (.agg a),.w (.agg b)=>match op,ZG P t a b with
  | .eql,some e=>pure (.w (.one (.bool e)))
  | .neq,some e=>pure (.w (.one (.bool (.mkNot e))))
  | .eql,none=>bind (RJ P t a b) λe=>pure (.w (.one (.bool e)))
  | .neq,none=>bind (RJ P t a b) λe=>pure (.w (.one (.bool (.mkNot e))))
  |_,_=>fail
 | .w (.one (.str a)),.w (.one (.str b))=>aeQ op a b
 | .w (.one (.bool a)),.w (.one (.bool b))=>match op,P.underlying t with
  | .eql,some .bool=>pure (.w (.one (.bool (.mkIff a b))))
  | .neq,some .bool=>pure (.w (.one (.bool (.mkNot (.mkIff a b)))))
  |_,_=>fail
 |_,_=>fail
def aqL (op:UnOp) (x:V):M V:=
 match op,x with
 | .not,.w (.one (.bool b))=>pure (.w (.one (.bool (.mkNot b))))
 | .xor,.w (.one (.int k a))=>cond (!k.signed&&decide (0<=a.lo)&&decide (a.hi<two k)) (pure (.w (.one (.int k ⟨(U.const (two k-1)).sub a.l,two k-1-a.hi,two k-1-a.lo⟩)))) fail
 | .neg,.w (.one (.int k a))=>bind (Cd k ⟨a.l.smul (-1),-a.hi,-a.lo⟩) λr=>pure (.w (.one (.int k r)))
 |_,_=>fail
def ajI (P:bU) (src dst:bw) (x:V):M V:=
 match P.underlying src,P.underlying dst,x with
 |some _,some .string,.w (.one (.int _ a))=>match a.l.e4 with
  |some c=>cond (cJ (Wf c).size 1000) (pure (.w (.one (.str (.const (l5 (Wf c).data.toList)))))) fail
  |none=>fail
 |_,_,_=>match P.underlying src,kindOf P dst,x with
 |some _,some k,.w (.one (.int _ a))=>bind (Cd k a) λr=>pure (.w (.one (.int k r)))
 |_,_,_=>fail
def Ry (v:V):Option Int:=match v with| .w (.one (.int _ a))=>a.l.e4|_=>none
def T8 (tm:List V):Option rF->Option (Option Int)
 |none=>some none
 |some x=>match Ry (cu tm x)with|some c=>some (some c)|none=>none
def ap4 (P:bU) (t:bw) (x:V) (lo hi:Option Int):M V:=
 match x,wI P t with
 | .w (.one (.ptr b off)),some (n,e)=>match hq P e with
  |some s=>cond (decide (0<=lo.getD 0)&&decide (lo.getD 0<=hi.getD n)&&decide (hi.getD n<=n)&&decide (lo.getD 0<n)) (pure (.w (.one (.slc b (off+(lo.getD 0).toNat*s) ((hi.getD n).toNat-(lo.getD 0).toNat) (n-(lo.getD 0).toNat))))) fail
  |none=>fail
 | .w (.one (.slc b off len cap)),none=>match lB P t with
  |some e=>match hq P e with
   |some s=>cond (decide (0<=lo.getD 0)&&decide (lo.getD 0<=hi.getD len)&&decide (hi.getD len<=cap)&&decide (lo.getD 0<cap)) (pure (.w (.one (.slc b (off+(lo.getD 0).toNat*s) ((hi.getD len).toNat-(lo.getD 0).toNat) (cap-(lo.getD 0).toNat))))) fail
   |none=>fail
  |none=>fail
 |_,_=>fail
def aow (x:V):M V:=
 match x with
 | .w (.one (.ptr b o))=>pure (.w (.one (.ptr b o)))
 | .w (.one (.rp b o i))=>pure (.w (.one (.rp b o i)))
 | .w (.one (.gptr g o))=>pure (.w (.one (.gptr g o)))
 |_=>fail
def W.cells:W->List A
 | .one a=>[a]
 | .agg l=>l
def rA (P:bU) (t:bw):Option (List A):=
 match P.info? t with
 |some i=>match i.zero with
  |some z=>CT z.cells.toList
  |none=>none
 |none=>none
def Bs (place:Nat->Option (Nat×Nat)):List A->List (Nat×V)->Option (List A)
 |cells,[]=>some cells
 |cells,(i,.w u)::r=>match place i with
  |some (off,size)=>cond (aR u.cells.length size&&cJ (off+size) cells.length) (Bs place (cells.take off++u.cells++cells.drop (off+size)) r) none
  |none=>none
 |_,_::_=>none
def YS (P:bU) (t:bw) (parts:List (Nat×V)):Option (List A):=
 match rA P t,P.underlying t with
 |some z,some (.array _ e)=>match hq P e with
  |some s=>Bs (λi=>some (i*s,s)) z parts
  |none=>none
 |some z,some (.struct fields)=>match fields.toList.mapM (λf=>(P.info? f.type).map λi=>(f.offset,i.size))with
  |some places=>Bs (places.toArray[·]?) z parts
  |none=>none
 |_,_=>none
noncomputable def adU (P:bU) (cal:gy) (gl:fO) (bl:List aH) (tm:List V) (o:Oper):M V:=
 match o.op with
 | .move x| .assign x=>pure (cu tm x)
 | .load t x=>match cu tm x with
  | .w (.one (.rp b off bt))=>aez P bl t b off bt
  | .w (.one (.JO g off bt))=>aey P gl t g off bt
  | .w (.one p)=>acR P bl gl t p
  |_=>fail
 | .nilCheck x=>aow (cu tm x)
 | .pick c x y=>match cu tm c with
  | .w (.one (.bool (.lit v)))=>pure (cond v (cu tm x) (cu tm y))
  |_=>fail
 | .binOp op t x y _=>ai3 P op t (cu tm x) (cu tm y)
 | .unOp op _ x=>aqL op (cu tm x)
 | .convert s d x=>ajI P s d (cu tm x)
 | .indexAddr t x bt=>match cu tm bt with
  | .w (.one (.int _ i))=>abD P t (cu tm x) i
  |_=>fail
 | .index t x bt=>match cu tm x with
  | .w (.one (.str s))=>match P.underlying t,yA (cu tm bt)with
   |some .string,some i=>aeR s i
   |_,_=>fail
  |_=>match cu tm x,Ry (cu tm bt),wI P t with
   | .w (.agg l),some i,some (len,e)=>match hq P e with
    |some s=>cond (decide (0<=i)&&decide (i<len)) (Ud P e l (i.toNat*s)) fail
    |none=>fail
   |_,_,_=>fail
 | .fieldAddr s x f=>match cu tm x,MJ P s f with
  | .w (.one (.ptr b off)),some fd=>match hq P fd.type with
   |some (_+1)=>pure (.w (.one (.ptr b (off+fd.offset))))
   |_=>fail
  |_,_=>fail
 | .field s x f=>match cu tm x,MJ P s f with
  | .w (.agg l),some fd=>Ud P fd.type l fd.offset
  |_,_=>fail
 | .extract x i=>match cu tm x with
  | .jG l=>match l[i]? with|some u=>pure (.w u)|none=>fail
  |_=>fail
 | .slice t x lo hi none=>match cu tm x,P.underlying t with
  | .w (.one (.str s)),some .string=>aeT tm s lo hi
  |_,_=>match T8 tm lo,T8 tm hi with
   |some l,some h=>ap4 P t (cu tm x) l h
   |_,_=>fail
 | .call c=>match c.callee with
  | .value (.func f)=>match cal f with
   |some g=>g bl (c.args.toList.map (cu tm))
   |none=>fail
  | .builtin .len=>match c.args.toList,c.argTypes.toList with
   |[x],[t]=>match cu tm x,P.underlying t with
    | .w (.one (.str s)),some .string=>aeS s
    |_,_=>match cu tm x,lB P t with
     | .w (.one (.slc _ _ len _)),some _=>pure (.w (.one (.int .i64 (.const len))))
     | .td _ len _,some _=>pure (.w (.one (.int .i64 (.const len))))
     |_,_=>fail
   |_,_=>fail
  |_=>fail
 | .makeFunc (.func f) first lL=>match first.toList,Dz (lL.toList.map (cu tm))with
  |[],some l=>pure (.tB f l)
  |_,_=>fail
 | .build t parts=>match YS P t (parts.toList.map λp=>(p.1,cu tm p.2))with
  |some l=>pure (.w (.agg l))
  |none=>fail
 | .sliceToArrayPointer t x=>match cu tm x,wI P t with
  | .td b len _,some (k,_)=>cond (cJ k len) (pure (.w (.one (.ptr b 0)))) fail
  | .w (.one (.slc b off len _)),some (k,_)=>cond (cJ k len) (pure (.w (.one (.ptr b off)))) fail
  |_,_=>fail
 |_=>fail
section
variable {S:Nat->List Int->List Int->Prop} {L:V->Env->Prop} {n:Nat} {ρ:Env} {m:Nat->Nat} {bl:List aH} {gl:fO} {w0:eV} {P:bU} {tm:List V} {a:Act}
def py (w0:eV) (m:Nat->Nat) (bl:List aH) (n:Nat) (ρ:Env) (P:bU) (o:Oper) (a:Act) (ad:Env) (n':Nat) (v:V):Prop:=
 v.ok n' bl.length ad/\∃val,v.rel ad m val/\∀w,Mem w0 ρ m bl w->Gp P o a w val
theorem py.of_run {o:Oper} {s:Sem a6} {ad:Env} {n':Nat} {v:V} (he:execOp a.eval o=(do pure (m7 (<-s)))) (h:p8 w0 m bl n ρ (λw=>s.run P w) ad n' v):py w0 m bl n ρ P o a ad n' v:=by
 obtain⟨h1,val,h2,h3⟩:=h;exact⟨h1,val,h2,λw hw=> .inl (by rw[he];simp[h3 w hw])⟩
theorem W.Rw {n nb:Nat} {ρ:Env} {m:Nat->Nat} (u:W) (hu:u.ok n nb ρ):(u.den ρ m).cells=(u.cells.map (A.den ρ m)).toArray:=by
 cases u with
 |one a=>
  have:=A.T5 (m:=m) hu;simp only[W.den,W.cells,dk,gZ];generalize A.den ρ m a=v at*;cases v<;>first|rfl|simp[Value.oneCell']at this
 |agg l=>simp[W.den,W.cells,Value.cells]
theorem W.Jt {n nb:Nat} {ρ:Env} {u:W} (hu:u.ok n nb ρ):∀a∈u.cells,A.ok n nb ρ a:=by
 cases u with
 |one a=>intro x hx;simp[W.cells]at hx;subst hx;exact hu
 |agg l=>exact hu
def QR (n nb:Nat) (ρ:Env) (m:Nat->Nat):List (Nat×V)->List (Nat×a6)->Prop
 |[],[]=>True
 |p::r,q::s=>(p.1=q.1/\V.ok n nb ρ p.2/\V.rel ρ m p.2 q.2)/\QR n nb ρ m r s
 |_,_=>False
theorem akA (off:Nat):∀(src:List a6) (dst:Array a6) (k:Nat),off+k+src.length<=dst.size->
 ((src.zipIdx k).foldl (λcs (c,j)=>cs.setIfInBounds (off+j) c) dst)=(dst.toList.take (off+k)++src++dst.toList.drop (off+k+src.length)).toArray
 |[],dst,k,h=>by simp
 |c::src,dst,k,h=>by
  simp only[kJ]at h;rw[List.zipIdx_cons,List.foldl_cons,akA off src _ (k+1) (by simp;omega)]
  congr 1
  simp only[Array.toList_setIfInBounds,kJ];have h1:off+k<dst.toList.length:=by simp;omega
  rw[List.take_set,show off+(k+1)=off+k+1 by omega,List.drop_set_of_lt (by omega),List.take_add_one,nI h1];rw[show off+k+1+src.length=off+k+(src.length+1) by omega];simp only[Option.toList_some];rw[List.set_append_right _ _ (by simp;omega)];have hm:min (off+k) dst.size=off+k:=Eb (by omega);simp[hm]
theorem RQ {n nb:Nat} {ρ:Env} {m:Nat->Nat} {place:Nat->Option (Nat×Nat)}:∀{parts:List (Nat×V)} {vals:List (Nat×a6)} {cells l:List A},Bs place cells parts=some l->(∀a∈cells,A.ok n nb ρ a)->
 QR n nb ρ m parts vals->(∀a∈l,A.ok n nb ρ a)/\asn place (cells.map (A.den ρ m)).toArray vals=some (l.map (A.den ρ m)).toArray
 |[],[],cells,l,h,hc,_=>by simp[Bs]at h;subst h;exact⟨hc,rfl⟩
 |(i,.w u)::r,(Fo,x)::s,cells,l,h,hc,⟨⟨ar,aG,cm⟩,hr⟩=>by
  simp only at ar;subst ar;simp only[V.rel]at cm;have cm:x=u.den ρ m:=cm;subst cm;simp only[Bs]at h;cases hp:place i with
  |none=>simp[hp]at h
  |some q=>
   obtain⟨off,size⟩:=q;simp only[hp]at h;cases ai:(aR u.cells.length size&&cJ (off+size) cells.length)with
   |false=>simp[ai]at h
   |true=>
    simp only[ai,cond_true]at h;simp only[bA]at ai;have a1:=bV ai.1;have bB:=gY ai.2;have aaE:=W.Rw (m:=m) u aG;obtain⟨g1,g2⟩:=RQ (m:=m) h (λa ha=>by
     rcases List.mem_append.1 ha with ha|ha
     ·rcases List.mem_append.1 ha with ha|ha
      ·exact hc a (nJ ha)
      ·exact W.Jt aG a ha
     ·exact hc a (rG ha)) hr
    refine⟨g1,?_⟩;simp only[asn,hp,aaE,List.size_toArray,qQ,a1];rw[if_neg (by simp;omega)];rw[<-g2]
    congr 1
    have:=akA off (u.cells.map (A.den ρ m)) (cells.map (A.den ρ m)).toArray 0 (by simp;omega);simp only[pv]at this;rw[<-Array.foldl_toList];simp only[Array.toList_zipIdx];rw[this];simp[LO,LP,a1]
 |(_,.jG _)::_,_,_,_,h,_,_=>by simp[Bs]at h
 |(_,.any)::_,_,_,_,h,_,_=>by simp[Bs]at h
 |[],_::_,_,_,_,_,hr=>hr.elim
 |(_,.w _)::_,[],_,_,_,_,hr=>hr.elim
theorem au1 {n nb:Nat} {ρ:Env} {m:Nat->Nat} {t:bw} {parts:List (Nat×V)} {vals:List (Nat×a6)} {l:List A} (h:YS P t parts=some l)
 (hr:QR n nb ρ m parts vals):(∀a∈l,A.ok n nb ρ a)/\P.built t vals=some (l.map (A.den ρ m)).toArray:=by
 unfold YS at h;unfold Program.built;cases hz:rA P t with
 |none=>simp[hz]at h
 |some z=>
  unfold rA at hz;cases hi:P.info? t with
  |none=>simp[hi]at hz
  |some it=>
   simp only[hi]at hz;cases Fm:it.zero with
   |none=>simp[Fm]at hz
   |some z0=>
    simp only[Fm]at hz;have abA:=EF hz n nb ρ m;have hz1:z0.cells=(z.map (A.den ρ m)).toArray:=by rw[abA.2]
    cases hu:P.underlying t with
    |none=>simp[rA,hi,Fm,hz,hu]at h
    |some d=>
     cases d<;>try(simp[rA,hi,Fm,hz,hu]at h;done)
     case array len e=>
      simp only[rA,hi,Fm,hz,hu,hq]at h;cases aaQ:P.info? e with
      |none=>simp[aaQ]at h
      |some aRr=>
       simp only[aaQ]at h;simp only[Fm,aaQ,hz1];exact RQ h abA.1 hr
     case struct fields=>
      simp only[rA,hi,Fm,hz,hu]at h;cases hp:fields.toList.mapM (λf=>(P.info? f.type).map λi=>(f.offset,i.size))with
      |none=>simp[hp]at h
      |some places=>
       simp only[hp]at h;simp only[Fm,hp,hz1];exact RQ h abA.1 hr
theorem aoW {t:bw} {l:List A} {off:Nat} (hl:∀x∈l,A.ok n bl.length ρ x):aB S L (Ud P t l off) n ρ (p8 w0 m bl n ρ λw=>(part t (l.map (A.den ρ m)).toArray off).run P w):=by
 unfold Ud;cases h1:lu P t with
 |none=>exact aB.fail
 |some b=>
  cases b with
  |true=>
   cases h2:hq P t with
   |none=>exact aB.fail
   |some k=>
    refine aB.pure ⟨λx hx=>hl x (rG (nJ hx)),_,rfl,λw _=>?_⟩;simp[part,ug h1,kH h2,W.den,LO,LP,aO4]
    try congr 1
  |false=>
   cases h3:l[off]? with
   |none=>exact aB.fail
   |some x=>
    refine aB.pure ⟨hl x (fZ h3),_,rfl,λw _=>?_⟩;simp[part,ug h1,h3,W.den]
theorem zJ {t:bw} {len:Nat} {e:bw} (h:wI P t=some (len,e)):P.underlying t=some (.array len e):=by
 unfold wI at h;cases hu:P.underlying t with
 |none=>simp[hu]at h
 |some d=>cases d<;>simp[hu]at h<;>simp[h]
theorem jT {t e:bw} (h:lB P t=some e):P.underlying t=some (.slice e):=by
 unfold lB at h;cases hu:P.underlying t with
 |none=>simp[hu]at h
 |some d=>cases d<;>simp[hu]at h<;>simp[h]
theorem aci {t:bw} {k:dZ} (h:kindOf P t=some k):P.underlying t=some (.int k):=by
 unfold kindOf at h;cases hu:P.underlying t with
 |none=>simp[hu]at h
 |some d=>cases d<;>simp[hu]at h<;>simp[h]
theorem ZK {s:bw} {f:Nat} {fd:Field} (h:MJ P s f=some fd):∃fs,P.underlying s=some (.struct fs)/\fs[f]?=some fd:=by
 unfold MJ at h;cases hu:P.underlying s with
 |none=>simp[hu]at h
 |some d=>cases d<;>simp[hu]at h<;>exact⟨_,rfl,h⟩
theorem aBB {t:bw} {x:V} {k:dZ} {bt:bT} {X:a6} (hx:x.ok n bl.length ρ) (bZ:x.rel ρ m X) (hi:bt.ok n ρ):
 aB S L (abD P t x bt) n ρ (p8 w0 m bl n ρ λw=>(xS t X (.int k (bt.l.den ρ))).run P w):=by
 unfold abD;split
 ·rename_i b off;simp only[V.rel,W.den,A.den]at bZ;subst bZ;cases h1:wI P t with
  |none=>exact aB.fail
  |some q=>
   obtain⟨len,e⟩:=q;cases h2:hq P e with
   |none=>simp only[h2];exact aB.fail
   |some s=>
    simp only[h2];cases h3:bt.l.e4 with
    |some i=>
     refine eX λhc=>aB.pure ⟨hx,_,rfl,λw _=>?_⟩;simp only[bA,decide_eq_true_eq]at hc;simp[xS,asIntOf,hV (zJ h1),px,U.lp h3,hc,kH h2,lb,W.den,A.den]
    |none=>
     refine eX λhc=>aB.pure ⟨?_,_,rfl,λw _=>?_⟩
     ·simp only[bA,decide_eq_true_eq]at hc;exact⟨hx,hi,hc.1.2⟩
     ·simp only[bA,decide_eq_true_eq]at hc;have hs:=bV hc.1.1;subst hs;have bQ:=hi.2;have c1:0<=bt.l.den ρ:=by omega
      have bN:bt.l.den ρ<len:=by omega
      simp[xS,asIntOf,hV (zJ h1),px,c1,bN,kH h2,lb,W.den,A.den]
 ·rename_i g off;simp only[V.rel,W.den,A.den]at bZ;subst bZ;cases h1:wI P t with
  |none=>exact aB.fail
  |some q=>
   obtain⟨len,e⟩:=q;cases h2:hq P e with
   |none=>simp only[h2];exact aB.fail
   |some s=>
    simp only[h2];cases h3:bt.l.e4 with
    |some i=>
     refine eX λhc=>aB.pure ⟨trivial,_,rfl,λw _=>?_⟩;simp only[bA,decide_eq_true_eq]at hc;simp[xS,asIntOf,hV (zJ h1),px,U.lp h3,hc,kH h2,lb,W.den,A.den]
    |none=>
     refine eX λhc=>ln λai=>aB.pure ⟨?_,_,rfl,λw _=>?_⟩
     ·simp only[dk,gZ,U.bz,az,Mp]at ai;exact⟨⟨hi.1,by show(0:Int)<=_;exact ai.1,by show _<=((len:Int)-1);have:=ai.2;simp only;omega⟩,cF _⟩
     ·simp only[dk,gZ,U.bz,az,Mp]at ai;have hs:=bV hc;subst hs;simp[xS,asIntOf,hV (zJ h1),px,ai.1,ai.2,kH h2,lb,W.den,A.den]
 ·rename_i b off len cap;simp only[V.rel,W.den,A.den]at bZ;subst bZ;cases h1:lB P t with
  |none=>exact aB.fail
  |some e=>
   cases h2:hq P e with
   |none=>simp only[h2];exact aB.fail
   |some s=>
    simp only[h2];cases h3:bt.l.e4 with
    |some i=>
     refine eX λhc=>aB.pure ⟨hx,_,rfl,λw _=>?_⟩;simp only[bA,decide_eq_true_eq]at hc;simp[xS,asIntOf,hV (jT h1),px,U.lp h3,hc,kH h2,lb,W.den,A.den]
    |none=>
     refine eX λhc=>aB.pure ⟨?_,_,rfl,λw _=>?_⟩
     ·simp only[bA,decide_eq_true_eq]at hc;exact⟨hx,hi,hc.1.2⟩
     ·simp only[bA,decide_eq_true_eq]at hc;have hs:=bV hc.1.1;subst hs;have bQ:=hi.2;have c1:0<=bt.l.den ρ:=by omega
      have bN:bt.l.den ρ<len:=by omega
      simp[xS,asIntOf,hV (jT h1),px,c1,bN,kH h2,lb,W.den,A.den]
 ·rename_i b len lo;obtain⟨c,_,bZ⟩:=bZ;subst bZ;cases h1:lB P t with
  |none=>exact aB.fail
  |some e=>
   cases h2:hq P e with
   |none=>simp only[h2];exact aB.fail
   |some s=>
    simp only[h2];cases h3:bt.l.e4 with
    |some i=>
     refine eX λhc=>aB.pure ⟨hx,_,rfl,λw _=>?_⟩;simp only[bA,decide_eq_true_eq]at hc;simp[xS,asIntOf,hV (jT h1),px,U.lp h3,hc,kH h2,lb,W.den,A.den]
    |none=>exact aB.fail
 ·exact aB.fail
theorem aFx {vs:List V}:∀{l:List A} {xs:List a6},Dz vs=some l->(∀v∈vs,V.ok n bl.length ρ v)->gb ρ m vs xs->(∀a∈l,A.ok n bl.length ρ a)/\xs=l.map (A.den ρ m):=by
 induction vs with
 |nil=>
  intro l xs h _ hr;simp[Dz]at h;subst h;cases xs with
  |nil=>exact⟨λ_ h=>by simp at h,rfl⟩
  |cons _ _=>exact hr.elim
 |cons v r ih=>
  intro l xs h b2 hr;cases xs with
  |nil=>cases v<;>exact hr.elim
  |cons x s=>
   cases v with
   |w y=>
    cases y with
    |agg q=>simp[Dz]at h
    |one a=>
     cases h1:Dz r with
     |none=>simp[Dz,h1]at h
     |some l'=>
      simp only[Dz,h1,bp]at h;subst h;obtain⟨ar,aG⟩:=ih h1 (λv hv=>b2 v (eS _ hv)) hr.2;have h0:x=a.den ρ m:=hr.1;exact⟨λb hb=>by rcases List.mem_cons.1 hb with rfl|hb;exact b2 (.w (.one b)) (by simp);exact ar b hb,by rw[h0,aG];rfl⟩
   |_=>simp[Dz]at h
theorem awK {e:bw} {k:dZ} (he:P.underlying e=some (.int k)) (d:Nat) (xs iN:Array a6) (w:aC):∀(l l':List A) (i:Nat) (b:bH),EX l l'=some b->(∀x∈l,A.ok n bl.length ρ x)->(∀x∈l',A.ok n bl.length ρ x)->
 xs.toList.drop i=l.map (A.den ρ m)->iN.toList.drop i=l'.map (A.den ρ m)->b.bM n/\(Op.eqItems (d+1) e 1 xs iN (List.range' i l.length)).run P w= .ok (b.den ρ) w:=by
 intro l;induction l with
 |nil=>
  intro l' i b h _ _ _ _;cases l' with
  |nil=>simp[EX]at h;subst h;exact⟨trivial,by simp[Op.eqItems,bH.den]⟩
  |cons y r'=>simp[EX]at h
 |cons x r ih=>
  intro l' i b h hl Fh hx hy;cases l' with
  |nil=>cases x<;>simp[EX]at h
  |cons y r'=>
   cases x<;>cases y<;>simp only[EX]at h<;>try(cases h;done)
   rename_i k1 x k2 y;by_cases af:k1=k2
   ·subst af;simp only[decide_true,cond_true]at h;cases hr:EX r r' with
    |none=>simp[hr]at h
    |some b'=>
     simp only[hr,bp]at h;subst h;have aAe:x.ok n ρ:=hl (.int k1 x) (by simp);have aAf:y.ok n ρ:=Fh (.int k1 y) (by simp);have ar:=bH.EG aAe aAf;have MQ:xs[i]?=some (.int k1 (x.l.den ρ)):=by
      have:=congrArg LR hx;simpa [A.den]using this
     have MR:iN[i]?=some (.int k1 (y.l.den ρ)):=by
      have:=congrArg LR hy;simpa [A.den]using this
     have GV:xs.toList.drop (i+1)=r.map (A.den ρ m):=by
      have:=congrArg Qy hx;simpa using this
     have bf:iN.toList.drop (i+1)=r'.map (A.den ρ m):=by
      have:=congrArg Qy hy;simpa using this
     obtain⟨s2,r2⟩:=ih r' (i+1) b' hr (λz hz=>hl z (eS _ hz)) (λz hz=>Fh z (eS _ hz)) GV bf;refine⟨bH.UM ar.2 s2,?_⟩;simp only[kJ,List.range'_succ,Op.eqItems,jV];have DC:(part e xs (i*1)).run P w= .ok (.int k1 (x.l.den ρ)) w:=by simp[part,isAgg,hV he,MQ]
     have DD:(part e iN (i*1)).run P w= .ok (.int k1 (y.l.den ρ)) w:=by simp[part,isAgg,hV he,MR]
     simp only[DC,DD,kg,run_equalIn_int w d e k1 k _ _ he,bH.RC,ar.1];by_cases ai:x.l.den ρ=y.l.den ρ
     ·simp[ai,r2]
     ·simp[ai]
   ·simp[af]at h
theorem akc {t:bw} {x y:List A} {b:bH} (h:ZG P t x y=some b) (hx:∀z∈x,A.ok n bl.length ρ z) (hy:∀z∈y,A.ok n bl.length ρ z):
 b.bM n/\P.eqGuardType P.depth t=false/\∀w,(Wg 10000 t (.agg (x.map (A.den ρ m)).toArray) (.agg (y.map (A.den ρ m)).toArray)).run P w= .ok (b.den ρ) w:=by
 unfold ZG at h;cases h1:wI P t with
 |none=>simp[h1]at h
 |some q=>
  obtain⟨len,e⟩:=q;simp only[h1]at h;cases h2:kindOf P e with
  |none=>simp[h2]at h
  |some k=>
   cases h3:hq P e with
   |none=>simp[h2,h3]at h
   |some s=>
    match s,h3 with
    |0,h3=>simp[h2,h3]at h
    |s+2,h3=>simp[h2,h3]at h
    |1,h3=>
     simp only[h2,h3]at h;cases hc:(aR x.length len&&aR y.length len&& !P.eqGuardType P.depth t)with
     |false=>simp[hc]at h
     |true=>
      simp only[hc,cond_true]at h;simp only[bA,cy]at hc;have hl:=bV hc.1.1;have azL:∃i,P.info? e=some i/\P.cellsOf e=1:=by
       unfold hq at h3;cases ai:P.info? e with
       |none=>simp[ai]at h3
       |some i=>simp[ai]at h3;exact⟨i,rfl,by simp[Program.cellsOf,ai,h3]⟩
      obtain⟨i,C7,eN⟩:=azL;have xd:=λw=>awK (P:=P) (bl:=bl) (n:=n) (ρ:=ρ) (m:=m) (aci h2) 9998 (x.map (A.den ρ m)).toArray (y.map (A.den ρ m)).toArray w x y 0 b h hx hy (by simp) (by simp);refine⟨(xd default).1,hc.2,λw=>?_⟩;rw[show(10000:Nat)=9999+1 from rfl,run_equalIn_array w 9999 _ _ (zJ h1) C7,eN,List.range_eq_range',<-hl];exact(xd w).2
theorem YJ (l:List UInt8):(iu l).toList=l:=aTW l
theorem auF (l:List UInt8):(iu l).size=l.length:=by simp[iu,aTX]
theorem YM (p:Prop) [Decidable p]:(0:Int)<=(if p then 1 else 0)/\(if p then(1:Int)else 0)<=1:=by split<;>decide
theorem aK9 {op:BinOp} {t:bw} {x y:rF} {p q:U} (hp:(A.str p).ok n bl.length ρ) (ai:(A.str q).ok n bl.length ρ):
 aB S L (aeQ op p q) n ρ (p8 w0 m bl n ρ λw=>(do eqGuard op t x y (.string (iu (cN (p.den ρ)))) (.string (iu (cN (q.den ρ))));binOp op t (.string (iu (cN (p.den ρ)))) (.string (iu (cN (q.den ρ)))):Sem a6).run P w):=by
 unfold aeQ;exact aB.fail
theorem aLb {t ty:bw} {p:U} (hu:P.underlying t=some .string) (hp:(A.str p).ok n bl.length ρ):
 aB S L (aeS p) n ρ (p8 w0 m bl n ρ λw=>(Qz #[t] ty #[.string (iu (cN (p.den ρ)))]).run P w):=by
 unfold aeS;exact aB.fail
theorem aLa {t:bw} {k:dZ} {p i:U} (hu:P.underlying t=some .string) (hp:(A.str p).ok n bl.length ρ):
 aB S L (aeR p i) n ρ (p8 w0 m bl n ρ λw=>(aso t (.string (iu (cN (p.den ρ)))) (.int k (i.den ρ))).run P w):=by
 unfold aeR;exact aB.fail
theorem SM {v:V} {l:U} {x:a6} (h:yA v=some l) (hr:v.rel ρ m x) (b2:v.ok n bl.length ρ):∃k,x= .int k (l.den ρ)/\l.bM n:=by
 unfold yA at h;split at h
 ·rename_i k a;simp only[bp]at h;subst h;exact⟨k,hr,b2.1⟩
 ·cases h
theorem DR {k:dZ} {i:Int} {y:Nat} {dt:BoundsCode} (b1:0<=i) (bY:i<=y) (w:aC):(QA (.int k i) y dt).run P w= .ok i.toNat w:=by
 simp[QA,asIntOf,b1,bY]
theorem aLc {t:bw} {p:U} {lo hi:Option rF} (hu:P.underlying t=some .string) (hp:(A.str p).ok n bl.length ρ) (aA:fl n bl.length ρ m tm a.tmps):
 aB S L (aeT tm p lo hi) n ρ (p8 w0 m bl n ρ λw=>(xT t (.string (iu (cN (p.den ρ)))) (lo.map a.eval) (hi.map a.eval) none).run P w):=by
 unfold aeT;exact aB.fail
theorem QP {xs:List rF} (h:fl n bl.length ρ m tm a.tmps):gb ρ m (xs.map (cu tm)) (xs.map a.eval):=by
 induction xs with
 |nil=>trivial
 |cons x r ih=>exact⟨(db h x).2,ih⟩
theorem aeh {c:Call} {f:dD} (hc:c.callee= .value (.func f)) (o:Oper) (aw:o.op= .call c):execOp a.eval o=callFunc f (c.args.map a.eval):=by
 simp only[execOp,aw,resolve,hc,Act.eval,asp];simp[invoke,bind_pure_comp]
theorem ZF {nb:Nat} {m:Nat->Nat}:∀(fs:List Field) (x y:List A) (i n:Nat) (ρ:Env),JI P i fs=true->(∀a∈x,A.ok n nb ρ a)->(∀a∈y,A.ok n nb ρ a)->
 aB S L (wV P fs x y) n ρ λad n' b=>b.bM n'/\∀(w:aC) (d:Nat) (xs iN:Array a6),xs.toList.drop i=x.map (A.den ρ m)->iN.toList.drop i=y.map (A.den ρ m)->(LS (d+1) xs iN fs).run P w= .ok (b.den ad) w
 |[],[],[],i,n,ρ,_,_,_=>aB.pure ⟨trivial,λw d xs iN _ _=>by simp[LS,bH.den]⟩
 |f::fs,x::xs,y::iN,i,n,ρ,hf,hx,hy=>by
  cases x with
  |int k a=>
   cases y with
   |int bD b=>
    unfold JI at hf;simp only[bA,bne_iff_ne,ne_eq]at hf;obtain⟨⟨hn,aw⟩,hf⟩:=hf;have aw:=bV aw;unfold wV;split
    ·rename_i k2 rY;have hu:=aci rY;refine eX λaf=>?_;have af:k=bD:=by simpa using af
     subst af;have OT:a.ok n ρ:=hx (.int k a) (by simp);have ob:b.ok n ρ:=hy (.int k b) (by simp);refine(ZF (nb:=nb) (m:=m) fs xs iN (i+1) n ρ hf (λz hz=>hx z (eS _ hz)) (λz hz=>hy z (eS _ hz))).bind λad n' r St iU ⟨r1,r2⟩=>aB.pure ?_;have ar:=bH.EG (OT.agree iU St) (ob.agree iU St);refine⟨bH.UM ar.2 r1,λw d sw sx NU NV=>?_⟩;have MQ:sw[i]?=some (.int k (a.l.den ρ)):=by
      have:=congrArg LR NU;simpa [A.den]using this
     have MR:sx[i]?=some (.int k (b.l.den ρ)):=by
      have:=congrArg LR NV;simpa [A.den]using this
     have GV:sw.toList.drop (i+1)=xs.map (A.den ρ m):=by
      have:=congrArg Qy NU;simpa using this
     have bf:sx.toList.drop (i+1)=iN.map (A.den ρ m):=by
      have:=congrArg Qy NV;simpa using this
     have DC:(part f.type sw f.offset).run P w= .ok (.int k (a.l.den ρ)) w:=by simp[part,isAgg,hV hu,aw,MQ]
     have DD:(part f.type sx f.offset).run P w= .ok (.int k (b.l.den ρ)) w:=by simp[part,isAgg,hV hu,aw,MR]
     have ZA:a.l.den ad=a.l.den ρ:=by
      have:=A.oA (m:=m) (m':=m) (hx (.int k a) (by simp)) iU (λ_ _=>rfl);simpa [A.den]using this
     have EW:b.l.den ad=b.l.den ρ:=by
      have:=A.oA (m:=m) (m':=m) (hy (.int k b) (by simp)) iU (λ_ _=>rfl);simpa [A.den]using this
     simp only[LS,ne_eq,hn,not_false_eq_true,if_true,jV,DC,DD,kg,run_equalIn_int w d f.type k k2 _ _ hu,bH.RC,ar.1,ZA,EW];by_cases ai:a.l.den ρ=b.l.den ρ
     ·simp[ai,r2 w d sw sx GV bf]
     ·simp[ai]
    ·exact aB.fail
   |_=>unfold wV;exact aB.fail
  |str a=>
   cases y with
   |str b=>
    unfold JI at hf;simp only[bA,bne_iff_ne,ne_eq]at hf;obtain⟨⟨hn,aw⟩,hf⟩:=hf;have aw:=bV aw;unfold wV;split
    ·rename_i hu;have bQ:=YM (cN (a.den ρ)=cN (b.den ρ));refine(mQ (op:=4) (args:=[a,b]) bQ.1 bQ.2).bind λbg bk l iM Hh ⟨h1,h2⟩=>?_;have h2:l.den bg=if cN (a.den ρ)=cN (b.den ρ)then 1 else 0:=h2
     have tO:∀z∈xs,A.ok bk nb bg z:=λz hz=>(hx z (eS _ hz)).ext Hh iM (bS _);have abv:∀z∈iN,A.ok bk nb bg z:=λz hz=>(hy z (eS _ hz)).ext Hh iM (bS _);have ol:(⟨l,0,1⟩:bT).ok bk bg:=⟨h1,by simp only[h2];exact bQ.1,by simp only[h2];exact bQ.2⟩;refine(ZF (nb:=nb) (m:=m) fs xs iN (i+1) bk bg hf tO abv).bind λad n' r St iU ⟨r1,r2⟩=>aB.pure ?_;have ar:=bH.EG (n:=n') (ρ:=ad) (a:=⟨l,0,1⟩) (b:= .const 1) (ol.agree iU St) (bT.uG _ _ _);refine⟨bH.UM ar.2 r1,λw d sw sx NU NV=>?_⟩;have MQ:sw[i]?=some (.string (iu (cN (a.den ρ)))):=by
      have:=congrArg LR NU;simpa [A.den]using this
     have MR:sx[i]?=some (.string (iu (cN (b.den ρ)))):=by
      have:=congrArg LR NV;simpa [A.den]using this
     have GV:sw.toList.drop (i+1)=xs.map (A.den bg m):=by
      have:=congrArg Qy NU;rw[kK (g:=A.den ρ m) λz hz=>A.oA (hx z (eS _ hz)) Hh (λ_ _=>rfl)];simpa using this
     have bf:sx.toList.drop (i+1)=iN.map (A.den bg m):=by
      have:=congrArg Qy NV;rw[kK (g:=A.den ρ m) λz hz=>A.oA (hy z (eS _ hz)) Hh (λ_ _=>rfl)];simpa using this
     have DC:(part f.type sw f.offset).run P w= .ok (.string (iu (cN (a.den ρ)))) w:=by simp[part,isAgg,hV hu,aw,MQ]
     have DD:(part f.type sx f.offset).run P w= .ok (.string (iu (cN (b.den ρ)))) w:=by simp[part,isAgg,hV hu,aw,MR]
     have el:l.den ad=l.den bg:=U.ch iU h1;have aG:(bH.mkEq ⟨l,0,1⟩ (.const 1)).den ad=decide (cN (a.den ρ)=cN (b.den ρ)):=by
      rw[ar.1];simp only[bT.const,U.bz,el,h2];by_cases ai:cN (a.den ρ)=cN (b.den ρ)<;>simp[ai]
     simp only[LS,ne_eq,hn,not_false_eq_true,if_true,jV,DC,DD,kg,run_equalIn_string w d f.type _ _ hu,bH.RC,aG,YJ];by_cases ai:cN (a.den ρ)=cN (b.den ρ)
     ·simp[ai,r2 w d sw sx GV bf]
     ·simp[ai]
    ·exact aB.fail
   |_=>unfold wV;exact aB.fail
  |_=>unfold wV;exact aB.fail
 |[],_::_,_,_,_,_,_,_,_=>by unfold wV;exact aB.fail
 |[],[],y::_,_,_,_,_,_,_=>by cases y<;>(unfold wV;exact aB.fail)
 |_::_,[],_,_,_,_,_,_,_=>by unfold wV;exact aB.fail
 |_::_,x::_,[],_,_,_,_,_,_=>by cases x<;>(unfold wV;exact aB.fail)
def L7 (P:bU) (t:bw) (l:List a6) (v:a6):Prop:=(lu P t=some true/\v= .agg l.toArray)∨(lu P t=some false/\l=[v])
theorem aoX {t:bw} {xs:Array a6} {o s:Nat} (hs:hq P t=some s) {v:a6} (h:L7 P t ((xs.toList.drop o).take s) v) (w:aC):(part t xs o).run P w= .ok v w:=by
 obtain⟨l⟩:=xs;rcases h with⟨h1,rfl⟩|⟨h1,h2⟩
 ·simp[part,ug h1,kH hs,aO4]
 ·have h3:(⟨l⟩:Array a6)[o]?=some v:=by
   have h4:=congrArg LR h2;rw[<-QB];cases s with
   |zero=>simp at h2
   |succ s=>simpa [List.head?_take,List.head?_drop]using h4
  simp[part,ug h1,h3]
theorem aka {nb:Nat} {m:Nat->Nat} {g:bw->List A->List A->M bH} {D:Nat}
 (hg:∀(t:bw) (x y:List A) (n:Nat) (ρ:Env),(∀a∈x,A.ok n nb ρ a)->(∀a∈y,A.ok n nb ρ a)->aB S L (g t x y) n ρ λad n' b=>b.bM n'/\∃sw sx,L7 P t (x.map (A.den ρ m)) sw/\L7 P t (y.map (A.den ρ m)) sx/\∀w,(Wg D t sw sx).run P w= .ok (b.den ad) w):
 ∀(fs:List Field) (x y:List A) (o n:Nat) (ρ:Env),(∀a∈x,A.ok n nb ρ a)->(∀a∈y,A.ok n nb ρ a)->
 aB S L (RI P g o fs x y) n ρ λad n' b=>b.bM n'/\∀(w:aC) (xs iN:Array a6),xs.toList.drop o=x.map (A.den ρ m)->iN.toList.drop o=y.map (A.den ρ m)->(LS D xs iN fs).run P w= .ok (b.den ad) w
 |[],x,y,o,n,ρ,_,_=>aB.pure ⟨trivial,λw xs iN _ _=>by simp[LS,bH.den]⟩
 |f::fs,x,y,o,n,ρ,hx,hy=>by
  unfold RI;cases hs:hq P f.type with
  |none=>exact aB.fail
  |some s=>
   simp only;refine eX λhc=>?_;simp only[bA,bne_iff_ne,ne_eq]at hc;obtain⟨hn,aw⟩:=hc;have aw:=bV aw;refine(hg f.type (x.take s) (y.take s) n ρ (λa ha=>hx a (nJ ha)) (λa ha=>hy a (nJ ha))).bind λbg bk b iM hD ⟨bQ,sw,sx,b9,dh,mI⟩=>?_;refine(aka hg fs (x.drop s) (y.drop s) (o+s) bk bg (λa ha=>(hx a (rG ha)).ext hD iM (bS _)) (λa ha=>(hy a (rG ha)).ext hD iM (bS _))).bind λb0 gF r gU eJ ⟨r1,r2⟩=>aB.pure ⟨bH.UM (bQ.mono gU) r1,λw xs iN jD Hz=>?_⟩;have DC:(part f.type xs f.offset).run P w= .ok sw w:=aoX hs (by rw[aw,jD,<-LO];exact b9) w;have DD:(part f.type iN f.offset).run P w= .ok sx w:=aoX hs (by rw[aw,Hz,<-LO];exact dh) w;have GV:xs.toList.drop (o+s)=(x.drop s).map (A.den bg m):=by
    rw[<-Cs,jD,<-LP];exact(yG (λa ha=>hx a (rG ha)) hD (λ_ _=>rfl)).symm
   have bf:iN.toList.drop (o+s)=(y.drop s).map (A.den bg m):=by
    rw[<-Cs,Hz,<-LP];exact(yG (λa ha=>hy a (rG ha)) hD (λ_ _=>rfl)).symm
   have EW:b.den b0=b.den bg:=bH.ch eJ bQ;simp only[LS,ne_eq,hn,not_false_eq_true,if_true,jV,DC,DD,kg,mI w,bH.RC,EW];cases ai:b.den bg with
   |true=>simp[r2 w xs iN GV bf]
   |false=>simp
theorem akb {nb:Nat} {m:Nat->Nat}:∀(d:Nat) (t:bw) (x y:List A) (n:Nat) (ρ:Env),(∀a∈x,A.ok n nb ρ a)->(∀a∈y,A.ok n nb ρ a)->∀D,d<=D->
 aB S L (JG P d t x y) n ρ λad n' b=>b.bM n'/\∃sw sx,L7 P t (x.map (A.den ρ m)) sw/\L7 P t (y.map (A.den ρ m)) sx/\∀w,(Wg D t sw sx).run P w= .ok (b.den ad) w
 |0,t,x,y,n,ρ,_,_,_,_=>aB.fail
 |d+1,t,x,y,n,ρ,hx,hy,D,q2=>by
  obtain⟨E,rfl⟩:∃E,D=E+1:=⟨D-1,by omega⟩;unfold JG;split
  ·rename_i k hu;split
   ·rename_i k1 a k2 b;refine eX λaf=>?_;have af:k1=k2:=by simpa using af
    subst af;have OT:a.ok n ρ:=hx (.int k1 a) (by simp);have ob:b.ok n ρ:=hy (.int k1 b) (by simp);have ar:=bH.EG OT ob;have iU:lu P t=some false:=by simp[lu,hu]
    refine aB.pure ⟨ar.2,_,_,.inr ⟨iU,rfl⟩,.inr ⟨iU,rfl⟩,λw=>?_⟩;simp only[A.den];rw[run_equalIn_int w E t k1 k _ _ hu,ar.1];rfl
   ·exact aB.fail
  ·rename_i hu;split
   ·rename_i a b;have bQ:=YM (cN (a.den ρ)=cN (b.den ρ));have iU:lu P t=some false:=by simp[lu,hu]
    refine(mQ (op:=4) (args:=[a,b]) bQ.1 bQ.2).bind λbg bk l iM Hh ⟨h1,h2⟩=>aB.pure ?_;have h2:l.den bg=if cN (a.den ρ)=cN (b.den ρ)then 1 else 0:=h2
    have ol:(⟨l,0,1⟩:bT).ok bk bg:=⟨h1,by simp only[h2];exact bQ.1,by simp only[h2];exact bQ.2⟩;have ar:=bH.EG (n:=bk) (ρ:=bg) (a:=⟨l,0,1⟩) (b:= .const 1) ol (bT.uG _ _ _);refine⟨ar.2,_,_,.inr ⟨iU,rfl⟩,.inr ⟨iU,rfl⟩,λw=>?_⟩;simp only[A.den];rw[run_equalIn_string w E t _ _ hu,ar.1,YJ,YJ];simp only[bT.const,U.bz,h2];by_cases ai:cN (a.den ρ)=cN (b.den ρ)
    ·simp[ai]
    ·simp[ai]
   ·exact aB.fail
  ·rename_i hu;split
   ·rename_i a b;have iU:lu P t=some false:=by simp[lu,hu]
    have OT:a.bM n:=hx (.bool a) (by simp);have ob:b.bM n:=hy (.bool b) (by simp);refine aB.pure ⟨bH.aev OT ob,_,_,.inr ⟨iU,rfl⟩,.inr ⟨iU,rfl⟩,λw=>?_⟩;simp only[A.den];rw[run_equalIn_bool w E t _ _ hu,bH.Zj]
   ·exact aB.fail
  ·rename_i fs hu;refine eX λhg=>?_;have hg:P.stoodInHeld t=false:=by simpa using hg
   have iU:lu P t=some true:=by simp[lu,hu]
   refine(aka (m:=m) (D:=E) (λt x y n ρ h1 h2=>akb d t x y n ρ h1 h2 E (by omega)) fs.toList x y 0 n ρ hx hy).mono λad n' b _ _ ⟨h1,h2⟩=>⟨h1,_,_,.inl ⟨iU,rfl⟩,.inl ⟨iU,rfl⟩,λw=>?_⟩;have hf:P.fieldsOf t=fs:=by simp[aO5,hu]
   rw[run_equalIn_struct w E t _ _ (by rw[hf];exact hu) hg,hf];exact h2 w _ _ (by simp) (by simp)
  ·exact aB.fail
theorem akd {nb:Nat} {m:Nat->Nat} {t:bw} {x y:List A} (hx:∀a∈x,A.ok n nb ρ a) (hy:∀a∈y,A.ok n nb ρ a):
 aB S L (RJ P t x y) n ρ λad n' b=>b.bM n'/\P.eqGuardType P.depth t=false/\∀w,(Wg 10000 t (.agg (x.map (A.den ρ m)).toArray) (.agg (y.map (A.den ρ m)).toArray)).run P w= .ok (b.den ad) w:=by
 unfold RJ;split
 ·rename_i fs hu;have rX:lu P t=some true:=by simp[lu,hu]
  have deep:P.eqGuardType P.depth t=false->aB S L (JG P 8 t x y) n ρ λad n' b=>b.bM n'/\P.eqGuardType P.depth t=false/\∀w,(Wg 10000 t (.agg (x.map (A.den ρ m)).toArray) (.agg (y.map (A.den ρ m)).toArray)).run P w= .ok (b.den ad) w:=λhg=>
   (akb (m:=m) 8 t x y n ρ hx hy 10000 (by decide)).mono λad n' b _ _ ⟨h1,sw,sx,h2,h3,h4⟩=>⟨h1,hg,λw=>by
     rcases h2 with⟨_,rfl⟩|⟨h2,_⟩
     ·rcases h3 with⟨_,rfl⟩|⟨h3,_⟩
      ·exact h4 w
      ·rw[rX]at h3;cases h3
     ·rw[rX]at h2;cases h2⟩
  cases hg:(JI P 0 fs.toList&& !P.stoodInHeld t&& !P.eqGuardType P.depth t)with
  |true=>
   simp only[cond_true];simp only[bA,cy]at hg;generalize (fs.toList.all λf=>match P.underlying f.type with|some (.int _)=>true|some .string=>true|_=>false)=flat;cases flat with
   |true=>
    simp only[cond_true];refine(ZF (nb:=nb) (m:=m) fs.toList x y 0 n ρ hg.1.1 hx hy).mono λad n' b _ _ ⟨h1,h2⟩=>⟨h1,hg.2,λw=>?_⟩;have hf:P.fieldsOf t=fs:=by simp[aO5,hu]
    rw[run_equalIn_struct w 9999 t _ _ (by rw[hf];exact hu) hg.1.2,hf];exact h2 w 9998 _ _ (by simp) (by simp)
   |false=>exact deep hg.2
  |false=>
   simp only[cond_false];refine eX λC6=>deep (by simpa using C6)
 ·exact aB.fail
theorem aJd {cal:gy} (c8:iD S P gl w0 cal) (hb:dg n bl.length ρ bl) (hg:gJ gl w0) (hex:∃w,Mem w0 ρ m bl w) (aA:fl n bl.length ρ m tm a.tmps) (o:Oper):
 aB S L (adU P cal gl bl tm o) n ρ (py w0 m bl n ρ P o a):=by
 unfold adU;split
 case h_1 x h=>
  exact aB.pure ⟨(db aA x).1,_,(db aA x).2,λw _=> .inl (by simp[execOp,h])⟩
 case h_2 x h=>
  exact aB.pure ⟨(db aA x).1,_,(db aA x).2,λw _=> .inl (by simp[execOp,h])⟩
 case h_3 t x h=>
  have hx:=db aA x;have he:execOp a.eval o=(do pure (m7 (<-p5 t (a.eval x)))):=by simp only[execOp,h]
  split
  ·rename_i b off bt hv;rw[hv]at hx;have eB:a.eval x=(A.rp b off bt).den ρ m:=hx.2;rw[eB]at he;exact(aKz hb t b off hx.1.2.1).mono λ_ _ _ _ _ ai=>py.of_run he ai
  ·rename_i g off bt hv;rw[hv]at hx;have eB:a.eval x=(A.JO g off bt).den ρ m:=hx.2;rw[eB]at he;exact(aKy hg t g off hx.1.1).mono λ_ _ _ _ _ ai=>py.of_run he ai
  ·rename_i p _ _ hv;rw[hv]at hx;have eB:a.eval x=p.den ρ m:=hx.2;rw[eB]at he;exact(aCO hb hg hex t p).mono λ_ _ _ _ _ ai=>py.of_run he ai
  ·exact aB.fail
 case h_4 x h=>
  have hx:=db aA x;unfold aow;split<;>first
   |exact aB.fail
   |(rename_i hv
     rw[hv]at hx;refine aB.pure ⟨hx.1,_,rfl,λw _=> .inl ?_⟩;have eB:=hx.2;simp only[V.rel,W.den,A.den]at eB;simp[execOp,h,eB,W.den,A.den])
 case h_5 c x y h=>
  have hc:=db aA c;split
  ·rename_i v hv;rw[hv]at hc;have ar:a.eval c= .bool v:=hc.2;cases v with
   |true=>exact aB.pure ⟨(db aA x).1,_,(db aA x).2,λw _=> .inl (by simp[execOp,h,ar,asBool])⟩
   |false=>exact aB.pure ⟨(db aA y).1,_,(db aA y).2,λw _=> .inl (by simp[execOp,h,ar,asBool])⟩
  ·exact aB.fail
 case h_6 op t x y t' h=>
  have hx:=db aA x;have hy:=db aA y;unfold ai3;split
  ·rename_i k p bD q uT nz;rw[uT]at hx;rw[nz]at hy;have ar:a.eval x= .int k (p.l.den ρ):=hx.2;have aG:a.eval y= .int bD (q.l.den ρ):=hy.2;refine(auS (nb:=bl.length) (m:=m) P t hx.1 hy.1).bind λbg bk r _ _ ⟨h1,h2⟩=>aB.pure ⟨h1,_,rfl,λw _=> .inl ?_⟩;have jB:(eqGuard op t x y (.int k (p.l.den ρ)) (.int bD (q.l.den ρ))).run P w= .ok () w:=by cases op<;>simp[eqGuard]
   simp only[execOp,h,ar,aG];simp[jB,h2,W.den]
  ·rename_i p q uT nz;rw[uT]at hx;rw[nz]at hy;have ar:a.eval x= .agg (p.map (A.den ρ m)).toArray:=hx.2;have aG:a.eval y= .agg (q.map (A.den ρ m)).toArray:=hy.2;split
   ·rename_i b heq;obtain⟨s1,g1,r1⟩:=akc (m:=m) heq hx.1 hy.1;refine aB.pure ⟨s1,_,rfl,λw _=> .inl ?_⟩;simp only[execOp,h,ar,aG];simp[run_eqGuard_agg w .eql t x y _ _ g1,run_eql_struct,r1,W.den,A.den]
   ·rename_i b heq;obtain⟨s1,g1,r1⟩:=akc (m:=m) heq hx.1 hy.1;refine aB.pure ⟨bH.FY s1,_,rfl,λw _=> .inl ?_⟩;simp only[execOp,h,ar,aG];simp[run_eqGuard_agg w .neq t x y _ _ g1,run_neq_struct,r1,W.den,A.den,bH.EH]
   ·rename_i heq;refine(akd (m:=m) (t:=t) hx.1 hy.1).bind λad n' r _ _ ⟨r1,g1,r2⟩=>aB.pure ⟨r1,_,rfl,λw _=> .inl ?_⟩;simp only[execOp,h,ar,aG];simp[run_eqGuard_agg w .eql t x y _ _ g1,run_eql_struct,r2,W.den,A.den]
   ·rename_i heq;refine(akd (m:=m) (t:=t) hx.1 hy.1).bind λad n' r _ _ ⟨r1,g1,r2⟩=>aB.pure ⟨bH.FY r1,_,rfl,λw _=> .inl ?_⟩;simp only[execOp,h,ar,aG];simp[run_eqGuard_agg w .neq t x y _ _ g1,run_neq_struct,r2,W.den,A.den,bH.EH]
   ·exact aB.fail
  ·rename_i p q uT nz;rw[uT]at hx;rw[nz]at hy;have ar:a.eval x= .string (iu (cN (p.den ρ))):=hx.2;have aG:a.eval y= .string (iu (cN (q.den ρ))):=hy.2;have he:execOp a.eval o=(do pure (m7 (<-(do eqGuard op t x y (.string (iu (cN (p.den ρ)))) (.string (iu (cN (q.den ρ))));binOp op t (.string (iu (cN (p.den ρ)))) (.string (iu (cN (q.den ρ)))):Sem a6)))):=by simp only[execOp,h,ar,aG]
   exact(aK9 (op:=op) (t:=t) (x:=x) (y:=y) (w0:=w0) (m:=m) hx.1 hy.1).mono λ_ _ _ _ _ ai=>py.of_run he ai
  ·rename_i p q uT nz;rw[uT]at hx;rw[nz]at hy;have ar:a.eval x= .bool (p.den ρ):=hx.2;have aG:a.eval y= .bool (q.den ρ):=hy.2;have jB:(eqGuard op t x y (.bool (p.den ρ)) (.bool (q.den ρ))).run P=λw=> .ok () w:=by funext w;cases op<;>simp[eqGuard]
   split
   ·rename_i hu;refine aB.pure ⟨bH.aev hx.1 hy.1,_,rfl,λw _=> .inl ?_⟩;simp only[execOp,h,ar,aG];simp[jB,run_eql_bool w t _ _ hu,W.den,A.den,bH.Zj]
   ·rename_i hu;refine aB.pure ⟨bH.FY (bH.aev hx.1 hy.1),_,rfl,λw _=> .inl ?_⟩;simp only[execOp,h,ar,aG];simp[jB,run_neq_bool w t _ _ hu,W.den,A.den,bH.Zj,bH.EH]
   ·exact aB.fail
  ·exact aB.fail
 case h_7 op t x h=>
  have hx:=db aA x;unfold aqL;split
  ·rename_i b hv;rw[hv]at hx;have ar:a.eval x= .bool (b.den ρ):=hx.2;refine aB.pure ⟨bH.FY hx.1,_,rfl,λw _=> .inl ?_⟩;simp[execOp,h,ar,Op.unary,W.den,A.den,bH.EH]
  ·rename_i k p hv;rw[hv]at hx;have ar:a.eval x= .int k (p.l.den ρ):=hx.2;refine eX λhc=>?_;simp only[bA,cy,decide_eq_true_eq]at hc;have hp:=hx.1;have ajc:=bT.ok.agree (n':=n) hp (agree.refl n ρ) (bS _);have b9:=ajc.2;have aG:((U.const (two k-1)).sub p.l).den ρ=two k-1-p.l.den ρ:=by rw[U.mu,U.bz]
   refine aB.pure ⟨⟨U.xH (U.dK _ _) ajc.1,by simp only[aG];omega,by simp only[aG];omega⟩,_,rfl,λw _=> .inl ?_⟩;have key:k.wrap (rE k.bits (if k.signed=true then-1 else k.max)^^^rE k.bits (p.l.den ρ)).toNat=two k-1-p.l.den ρ:=by
    have af:=hc.1.1;obtain⟨X,bZ⟩:=oP (show 0<=p.l.den ρ by omega);have hlt:X<2^k.bits:=by
     have:(X:Int)<2^k.bits:=by rw[<-Cb,<-bZ];omega
     exact_mod_cast this
    have jR:(rE k.bits (if k.signed=true then-1 else k.max))=BitVec.allOnes k.bits:=by
     cases k<;>simp[Qv]at af<;>rfl
    rw[jR,BitVec.allOnes_xor,BitVec.toNat_not,bZ,Qw];have cm:((X:Int)% ((2^k.bits:Nat):Int)).toNat=X:=by
     rw[mF (by omega) (by exact_mod_cast hlt)];rfl
    rw[cm,VB];have ae:half k=0:=by simp[half,af]
    have h2:two k=((2^k.bits:Nat):Int):=by rw[Cb];simp
    rw[ae,h2,Int.add_zero,Int.sub_zero,mF (by omega) (by omega)];omega
   simp only[execOp,h,ar,Op.unary,We,W.den,A.den,aG];simp at key;simp[key]
  ·rename_i k p hv;rw[hv]at hx;have ar:a.eval x= .int k (p.l.den ρ):=hx.2;have b9:=bT.ok.agree (n':=n) hx.1 (agree.refl n ρ) (bS _);have dh:=b9.2;have aG:(p.l.smul (-1)).den ρ=-p.l.den ρ:=by rw[U.nu];omega
   refine(F6 (k:=k) (x:=⟨p.l.smul (-1),-p.hi,-p.lo⟩) ⟨U.xG b9.1,by simp only[aG];omega,by simp only[aG];omega⟩).bind λbg bk r _ _ ⟨h1,h2⟩=>aB.pure ⟨h1,_,rfl,λw _=> .inl ?_⟩;simp only[aG]at h2;simp[execOp,h,ar,Op.unary,Op.intArith,W.den,A.den,h2]
  ·exact aB.fail
 case h_8 s d x h=>
  have hx:=db aA x;unfold ajI;split
  ·rename_i bD p hu af hv;rw[hv]at hx;have ar:a.eval x= .int bD (p.l.den ρ):=hx.2;split
   ·rename_i c hc;refine eX λhsz=>?_;have hl:(Wf c).data.toList.length<=tY:=by
     have:=gY hsz;have h2:(Wf c).data.toList.length=(Wf c).size:=by simp
     unfold tY;omega
    refine aB.pure ⟨⟨U.dK _ _,by rw[U.bz];exact Mn _,by rw[U.bz];exact Jb hl⟩,_,rfl,λw _=> .inl ?_⟩;simp[execOp,h,ar,convert,hV hu,hV af,Conv.intToString,W.den,A.den,U.bz,Iu,iu,U.lp hc]
   ·exact aB.fail
  ·split
   rotate_left
   ·exact aB.fail
   rename_i k bD p hu af hv;rw[hv]at hx;have ar:a.eval x= .int bD (p.l.den ρ):=hx.2;refine(F6 (k:=k) hx.1).bind λbg bk r _ _ ⟨h1,h2⟩=>aB.pure ⟨h1,_,rfl,λw _=> .inl ?_⟩;simp[execOp,h,ar,convert,hV hu,hV (aci af),Conv.intToInt,W.den,A.den,h2]
 case h_9 t x bt h=>
  have hx:=db aA x;have hi:=db aA bt;split
  ·rename_i k i hv;rw[hv]at hi;have ar:a.eval bt= .int k (i.l.den ρ):=hi.2;have he:execOp a.eval o=(do pure (m7 (<-xS t (a.eval x) (.int k (i.l.den ρ))))):=by simp only[execOp,h,ar]
   exact(aBB hx.1 hx.2 hi.1).mono λ_ _ _ _ _ ai=>py.of_run he ai
  ·exact aB.fail
 case h_10 t x bt h=>
  have hx:=db aA x;have hi:=db aA bt;split
  ·rename_i s hv;rw[hv]at hx;have ar:a.eval x= .string (iu (cN (s.den ρ))):=hx.2;split
   ·rename_i i hu E9;obtain⟨k,af,_⟩:=SM (m:=m) (bl:=bl) E9 hi.2 hi.1;have he:execOp a.eval o=(do pure (m7 (<-aso t (.string (iu (cN (s.den ρ)))) (.int k (i.den ρ))))):=by simp only[execOp,h,ar,af]
    exact(aLa (w0:=w0) (m:=m) hu hx.1).mono λ_ _ _ _ _ ai=>py.of_run he ai
   ·exact aB.fail
  split
  ·rename_i l i len e hv E9 JU;rw[hv]at hx;have ar:a.eval x= .agg (l.map (A.den ρ m)).toArray:=hx.2;have aG:∃k,a.eval bt= .int k i:=by
    unfold Ry at E9;split at E9
    ·rename_i k p nz;rw[nz]at hi;have:a.eval bt= .int k (p.l.den ρ):=hi.2;exact⟨k,by rw[this,U.lp E9]⟩
    ·cases E9
   obtain⟨k,aG⟩:=aG;split
   ·rename_i s hs;refine eX λhc=>?_;simp only[bA,decide_eq_true_eq]at hc;refine(aoW (w0:=w0) (m:=m) (bl:=bl) hx.1).mono λbg bk v _ _ ⟨a1,val,bB,cp⟩=>⟨a1,val,bB,λw hw=> .inl ?_⟩;have:=cp w hw;simp[execOp,h,ar,aG,aso,asIntOf,hV (zJ JU),hc,kH hs,this]
   ·exact aB.fail
  ·exact aB.fail
 case h_11 s x f h=>
  have hx:=db aA x;split
  ·rename_i b off fd hv hf;rw[hv]at hx;have ar:a.eval x= .pointer (some ⟨m b,off,none⟩):=hx.2;obtain⟨fs,hu,Nk⟩:=ZK hf;split
   ·rename_i k hs;refine aB.pure ⟨hx.1,_,rfl,λw _=> .inl ?_⟩;simp[execOp,h,ar,ase,hV hu,Nk,px,fieldPlace,kH hs,lb,W.den,A.den]
   ·exact aB.fail
  ·exact aB.fail
 case h_12 s x f h=>
  have hx:=db aA x;split
  ·rename_i l fd hv hf;rw[hv]at hx;have ar:a.eval x= .agg (l.map (A.den ρ m)).toArray:=hx.2;obtain⟨fs,hu,Nk⟩:=ZK hf;refine(aoW (w0:=w0) (m:=m) (bl:=bl) hx.1).mono λbg bk v _ _ ⟨a1,val,bB,cp⟩=>⟨a1,val,bB,λw hw=> .inl ?_⟩;have:=cp w hw;simp[execOp,h,ar,Instr.field,asAgg,hV hu,Nk,this]
  ·exact aB.fail
 case h_13 x i h=>
  have hx:=db aA x;split
  ·rename_i l hv;rw[hv]at hx;have ar:a.eval x= .tuple (l.map (W.den ρ m)).toArray:=hx.2;split
   ·rename_i u hu;refine aB.pure ⟨hx.1 u (fZ hu),_,rfl,λw _=> .inl ?_⟩;simp[execOp,h,ar,asd,hu]
   ·exact aB.fail
  ·exact aB.fail
 case h_14 t x lo hi h=>
  have hx:=db aA x;split
  ·rename_i s hv hu;rw[hv]at hx;have ar:a.eval x= .string (iu (cN (s.den ρ))):=hx.2;have he:execOp a.eval o=(do pure (m7 (<-xT t (.string (iu (cN (s.den ρ)))) (lo.map a.eval) (hi.map a.eval) none))):=by simp only[execOp,h,ar];rfl
   exact(aLc (w0:=w0) (m:=m) hu hx.1 aA).mono λ_ _ _ _ _ ai=>py.of_run he ai
  have key:∀(y:Option rF) (c:Option Int),T8 tm y=some c->∃f:Int->a6,(∀c,∃k,f c= .int k c)/\y.map a.eval=c.map f:=by
   intro y c hy;unfold T8 at hy;cases y with
   |none=>simp at hy;subst hy;exact⟨λc=> .int .i64 c,λc=>⟨_,rfl⟩,rfl⟩
   |some y=>
    simp only at hy;have hi:=db aA y;unfold Ry at hy;split at hy
    ·rename_i eW ai;split at ai
     ·rename_i k p nz;simp only[bp]at hy;subst hy;rw[nz]at hi;have:a.eval y= .int k (p.l.den ρ):=hi.2;exact⟨λc=> .int k c,λc=>⟨_,rfl⟩,by simp[this,U.lp ai]⟩
     ·cases ai
    ·cases hy
  split
  ·rename_i l ae h1 h2;obtain⟨aQQ,ako,akp⟩:=key lo l h1;obtain⟨aQP,RP,akg⟩:=key hi ae h2;unfold ap4;split
   ·rename_i b off HP e hv JU;rw[hv]at hx;have ar:a.eval x= .pointer (some ⟨m b,off,none⟩):=hx.2;split
    ·rename_i s hs;refine eX λhc=>?_;simp only[bA,decide_eq_true_eq]at hc;refine aB.pure ⟨hx.1,_,rfl,λw _=> .inl ?_⟩;have qu:(tt false HP HP (lo.map a.eval) (hi.map a.eval) none).run P w= .ok ((l.getD 0).toNat,(ae.getD HP).toNat,HP) w:=by
      rw[akp,akg];have c1:∀(k:dZ) (i:Int) (y:Nat) (dt:BoundsCode),0<=i->i<=y->(QA (.int k i) y dt).run P w= .ok i.toNat w:=λk i y dt b1 bY=>by
       simp[QA,asIntOf,b1,bY]
      cases l with
      |none=>
       cases ae with
       |none=>simp[tt]
       |some aP=>
        obtain⟨bD,o3⟩:=RP aP;simp only[af4,D9]at hc;simp[tt,o3,c1 bD aP HP _ (by omega) (by omega)]
      |some l'=>
       obtain⟨k1,s0⟩:=ako l';cases ae with
       |none=>
        simp only[af4,D9]at hc;simp[tt,s0,c1 k1 l' HP _ (by omega) (by omega)]
       |some aP=>
        obtain⟨bD,o3⟩:=RP aP;simp only[D9]at hc;simp[tt,o3,s0,c1 bD aP HP _ (by omega) (by omega),c1 k1 l' aP.toNat _ (by omega) (by omega)]
     simp only[execOp,h,ar,aO6,xT];simp[hV (zJ JU),px,qu,kH hs,lb,W.den,A.den];intro ai;have h3:=hc.2;omega
    ·exact aB.fail
   ·rename_i b off len cap hv JU;rw[hv]at hx;have ar:a.eval x= .slice (some ⟨m b,off,none⟩) len cap:=hx.2;split
    ·rename_i e yx;split
     ·rename_i s hs;refine eX λhc=>?_;simp only[bA,decide_eq_true_eq]at hc;refine aB.pure ⟨hx.1,_,rfl,λw _=> .inl ?_⟩;have qu:(tt true len cap (lo.map a.eval) (hi.map a.eval) none).run P w= .ok ((l.getD 0).toNat,(ae.getD len).toNat,cap) w:=by
       rw[akp,akg];have c1:∀(k:dZ) (i:Int) (y:Nat) (dt:BoundsCode),0<=i->i<=y->(QA (.int k i) y dt).run P w= .ok i.toNat w:=λk i y dt b1 bY=>by
        simp[QA,asIntOf,b1,bY]
       cases l with
       |none=>
        cases ae with
        |none=>simp[tt]
        |some aP=>
         obtain⟨bD,o3⟩:=RP aP;simp only[af4,D9]at hc;simp[tt,o3,c1 bD aP cap _ (by omega) (by omega)]
       |some l'=>
        obtain⟨k1,s0⟩:=ako l';cases ae with
        |none=>
         simp only[af4,D9]at hc;simp[tt,s0,c1 k1 l' len _ (by omega) (by omega)]
        |some aP=>
         obtain⟨bD,o3⟩:=RP aP;simp only[D9]at hc;simp[tt,o3,s0,c1 bD aP cap _ (by omega) (by omega),c1 k1 l' aP.toNat _ (by omega) (by omega)]
      simp only[execOp,h,ar,aO6,xT];simp[hV (jT yx),asq,qu,kH hs,lb,W.den,A.den];intro ai;have h3:=hc.2;omega
     ·exact aB.fail
    ·exact aB.fail
   ·exact aB.fail
  ·exact aB.fail
 case h_15 c h=>
  split
  ·rename_i f hc;split
   ·rename_i g aaO;have tI:∀v∈c.args.toList.map (cu tm),V.ok n bl.length ρ v:=λv hv=>by
     obtain⟨x,_,rfl⟩:=List.mem_map.1 hv;exact(db aA x).1
    refine(c8 f g aaO L n ρ m bl _ _ hb hex tI (QP (xs:=c.args.toList) aA)).mono λbg bk v _ _ ⟨a1,val,bB,cp⟩=>⟨a1,val,bB,λw hw=>?_⟩;have he:=aeh (a:=a) hc o h;have ha:(c.args.toList.map a.eval).toArray=c.args.map a.eval:=by
     rw[<-Ed]
    have eC:=cp w hw;rw[ha]at eC;rcases eC with eC|⟨eC,lz⟩
    ·exact .inl (by rw[he];exact eC)
    ·exact .inr ⟨f,_,by rw[he];exact eC,lz⟩
   ·exact aB.fail
  ·rename_i hc;split
   ·rename_i x t jD qz;have hx:=db aA x;split
    ·rename_i s hv hu;rw[hv]at hx;have ar:a.eval x= .string (iu (cN (s.den ρ))):=hx.2;have bG:c.args=#[x]:=by rw[<-m6 (xs:=c.args),jD]
     have a2:c.argTypes=#[t]:=by rw[<-m6 (xs:=c.argTypes),qz]
     have he:execOp a.eval o=(do pure (m7 (<-Qz #[t] o.type #[.string (iu (cN (s.den ρ)))]))):=by
      simp[execOp,h,resolve,hc,bG,a2,ar,invoke,builtin]
     exact(aLb (w0:=w0) (m:=m) hu hx.1).mono λ_ _ _ _ _ ai=>py.of_run he ai
    split
    ·rename_i b off len cap e hv hs;rw[hv]at hx;have ar:a.eval x= .slice (some ⟨m b,off,none⟩) len cap:=hx.2;refine aB.pure ⟨bT.uG _ _ _,_,rfl,λw _=> .inl ?_⟩;have bG:c.args=#[x]:=by rw[<-m6 (xs:=c.args),jD]
     have a2:c.argTypes=#[t]:=by rw[<-m6 (xs:=c.argTypes),qz]
     simp[execOp,h,resolve,hc,bG,a2,ar,invoke,builtin,Qz,hV (jT hs),goInt,W.den,A.den,bT.const,U.bz]
    ·rename_i b len lo e hv hs;rw[hv]at hx;obtain⟨oz,_,ar⟩:=hx.2;refine aB.pure ⟨bT.uG _ _ _,_,rfl,λw _=> .inl ?_⟩;have bG:c.args=#[x]:=by rw[<-m6 (xs:=c.args),jD]
     have a2:c.argTypes=#[t]:=by rw[<-m6 (xs:=c.argTypes),qz]
     simp[execOp,h,resolve,hc,bG,a2,ar,invoke,builtin,Qz,hV (jT hs),goInt,W.den,A.den,bT.const,U.bz]
    ·exact aB.fail
   ·exact aB.fail
  ·exact aB.fail
 case h_16 f first lL h=>
  split
  ·rename_i l hf hl;obtain⟨g1,g2⟩:=aFx (m:=m) hl (λv hv=>by obtain⟨x,_,rfl⟩:=List.mem_map.1 hv;exact(db aA x).1) (QP (xs:=lL.toList) aA);have alJ:first=#[]:=by rw[<-m6 (xs:=first),hf]
   have E8:lL.map a.eval=(l.map (A.den ρ m)).toArray:=by rw[<-g2,<-Ed]
   refine aB.pure ⟨g1,_,rfl,λw _=> .inl ?_⟩;simp only[execOp,h,E8,alJ];simp[Instr.makeFunc]
  ·exact aB.fail
 case h_17 t parts h=>
  split
  ·rename_i l hl;obtain⟨g1,g2⟩:=au1 (n:=n) (nb:=bl.length) (ρ:=ρ) (m:=m) (vals:=(parts.map λ(i,x)=>(i,a.eval x)).toList) hl (by
    rw[Ed];generalize parts.toList=ly;induction ly with
    |nil=>exact trivial
    |cons p r ih=>exact⟨⟨rfl,db aA p.2⟩,ih⟩)
   refine aB.pure ⟨g1,_,rfl,λw _=> .inl ?_⟩;simp only[execOp,h];simp[run_build w t _ _ g2,W.den]
  ·exact aB.fail
 case h_18 t x h=>
  have hx:=db aA x;split
  ·rename_i b len lo k e hv ha;rw[hv]at hx;refine eX λhc=>aB.pure ⟨hx.1,_,rfl,λw _=> .inl ?_⟩;obtain⟨c,iL,hc2⟩:=hx.2;have hle:¬len<k:=by have:=gY hc;omega
   simp only[execOp,h];rw[hc2];simp[asr,hV (zJ ha),hle,W.den,A.den]
  ·rename_i b off len cap k e hv ha;rw[hv]at hx;refine eX λhc=>aB.pure ⟨by simpa [V.ok,W.ok,A.ok]using hx.1,_,rfl,λw _=> .inl ?_⟩;have hle:¬len<k:=by have:=gY hc;omega
   have ar:a.eval x=_:=hx.2;simp only[execOp,h];rw[ar];simp[asr,hV (zJ ha),hle,W.den,A.den]
  ·exact aB.fail
 case h_19=>exact aB.fail
end
end Go.bX
namespace Go.bX
open M
noncomputable def Ru (c:aV) (code i:U) (j:Nat):M A:=
 match c with
 | .int k lo hi=>bind (kC 21 [code,i,.const j] lo hi) λl=>pure (.int k ⟨l,lo,hi⟩)
 | .str=>bind (kC 21 [code,i,.const j] 0 tu) λl=>pure (.str l)
 | .bool=>bind (kC 21 [code,i,.const j] 0 1) λl=>pure (.bool (.mkEq ⟨l,0,1⟩ (.const 1)))
noncomputable def Rv (code i:U):Nat->List aV->M (List A)
 |_,[]=>pure []
 |j,c::r=>bind (Ru c code i j) λa=>bind (Rv code i (j+1) r) λl=>pure (a::l)
noncomputable def ad9 (c:aV) (code:U):Nat->U->M (List A)
 |0,_=>pure []
 |q+1,i=>bind (js 21 [code,i]) λ_=>bind (Ru c code i 0) λa=>bind (ad9 c code q (i.add (.const 1))) λl=>pure (a::l)
noncomputable def ZE (P:bU) (bl:List aH) (t:bw) (b bE:Nat) (o i:U) (j:Nat):M V:=
 match bl[b]? with
 |some ([.rows sh off code cap kind],_)=>cond (ea 0 kind&&aR bE sh.length&&U.beq o off) (bind (js 21 [code,i]) λ_=>match lu P t,hq P t with
  |some true,some k=>cond (cJ (j+k) sh.length) (bind (Rv code i j ((sh.drop j).take k)) λl=>pure (.w (.agg l))) (match sh,j with
   |[c],0=>bind (ad9 c code k i) λl=>pure (.w (.agg l))
   |_,_=>fail)
  |some false,_=>match sh[j]? with
   |some c=>bind (Ru c code i j) λa=>pure (.w (.one a))
   |none=>fail
  |_,_=>fail) fail
 |_=>fail
def aeD (P:bU) (t:bw) (b bE:Nat) (o ro len:U) (bt:U):M V:=
 match lB P t with
 |some e=>match hq P e with
  |some s=>cond (aR s bE) (bind (js 30 [bt,len]) λ_=>pure (.w (.one (.ep b bE o (ro.add bt) 0)))) fail
  |none=>fail
 |none=>fail
def Jk (op:Nat) (ls:List U):M Unit:=λn k=> .wJ op ls (k () n)
def aeF (P:bU) (t:bw) (b bE:Nat) (o ro len cap:U) (x y:U):M V:=
 match lB P t with
 |some e=>match hq P e with
  |some s=>cond (aR s bE) (bind (js 32 [x,y,len]) λ_=>match x.e4 with
   |some 0=>pure (.w (.one (.sl b bE o ro y cap)))
   |_=>bind (Jk 68 [len,cap]) λ_=>bind (kC 33 [ro,x,cap] 0 9223372036854775808) λr=>pure (.w (.one (.sl b bE o r (y.sub x) (cap.sub x))))) fail
  |none=>fail
 |none=>fail
def EA (tm:List V) (d:U):Option rF->Option U
 |none=>some d
 |some x=>yA (cu tm x)
def ajg:List aV->Bool
 |[.int .u8 lo hi]=>decide (lo=0)&&decide (hi=255)
 |_=>false
noncomputable def aeE (bl:List aH) (b bE:Nat) (o ro len:U):M V:=fail
def Re {α:Type} (b:bH) (x y:M α):M α:=λn k=>match b with
 | .lit v=>cond v (x n k) (y n k)
 |b=> .vx b (x n k) (y n k)
def aoa (k:dZ) (x y:bT):M V:=Re (.mkLt y x) (pure (.w (.one (.int k y)))) (pure (.w (.one (.int k x))))
def an6 (k:dZ) (x y:bT):M V:=Re (.mkLt x y) (pure (.w (.one (.int k y)))) (pure (.w (.one (.int k x))))
def rL:List A->Option (List Bool)
 |[]=>some []
 | .bool (.lit b)::r=>match rL r with|some l=>some (b::l)|none=>none
 |_::_=>none
def Df:Nat->List Bool->List UInt8
 |_,[]=>[]
 |i,b::r=>cond b (Gc i::Df (i+1) r) (Df (i+1) r)
def aex (bl:List aH) (b off:Nat) (bt:bT):M V:=
 match bl[b]? with
 |some (cs,_)=>match rL ((cs.drop off).take (bt.hi.toNat+1))with
  |some l=>cond (aR l.length (bt.hi.toNat+1)&&cJ bt.hi.toNat 255&&decide (0<=bt.lo)&&cd cs) (bind (kC 43 [.const (l5 (Df 0 l)),bt.l] 0 1) λr=>pure (.w (.one (.bool (.mkEq ⟨r,0,1⟩ (.const 1)))))) fail
  |none=>fail
 |none=>fail
noncomputable def aea (P:bU) (bl:List aH) (tm:List V) (o:Oper):Option (M V):=
 match o.op with
 | .load t x=>match cu tm x with
  | .w (.one (.ep b bE o i j))=>some (ZE P bl t b bE o i j)
  | .w (.one (.rp b off bt))=>match P.underlying t with
   |some .bool=>some (aex bl b off bt)
   |_=>none
  |_=>none
 | .nilCheck x=>match cu tm x with
  | .w (.one (.ep b bE o i j))=>some (pure (.w (.one (.ep b bE o i j))))
  |_=>none
 | .indexAddr t x bt=>match cu tm x,cu tm bt with
  | .w (.one (.sl b bE o ro len cap)),.w (.one (.int _ i))=>some (aeD P t b bE o ro len i.l)
  |_,_=>none
 | .sliceToArrayPointer t x=>match cu tm x,wI P t with
  | .w (.one (.sl b bE o ro len cap)),some (k,_)=>some (cond (ea 0 k) (bind (js 30 [.const ((k:Int)-1),len]) λ_=>pure (.w (.one (.ep b bE o ro 0)))) fail)
  |_,_=>none
 | .fieldAddr s x f=>match cu tm x,MJ P s f with
  | .w (.one (.ep b bE o i j)),some fd=>match hq P fd.type with
   |some (_+1)=>some (pure (.w (.one (.ep b bE o i (j+fd.offset)))))
   |_=>none
  |_,_=>none
 | .slice t x lo hi none=>match cu tm x with
  | .w (.one (.sl b bE o ro len cap))=>match EA tm (.const 0) lo,EA tm len hi with
   |some p,some q=>some (aeF P t b bE o ro len cap p q)
   |_,_=>none
  |_=>none
 | .convert s d x=>match cu tm x,lB P s,P.underlying d with
  | .w (.one (.sl b bE o ro len cap)),some e,some .string=>match P.underlying e with
   |some (.int .u8)=>some (aeE bl b bE o ro len)
   |_=>none
  |_,_,_=>none
 | .call c=>match c.callee with
  | .builtin .len=>match c.args.toList,c.argTypes.toList with
   |[x],[t]=>match cu tm x,lB P t with
    | .w (.one (.sl b bE o ro len cap)),some _=>some (pure (.w (.one (.int .i64 ⟨len,0,9223372036854775807⟩))))
    |_,_=>none
   |_,_=>none
  | .builtin .min=>match c.args.toList with
   |[x,y]=>match cu tm x,cu tm y with
    | .w (.one (.int k p)),.w (.one (.int bD q))=>cond (decide (k=bD)) (some (aoa k p q)) none
    |_,_=>none
   |_=>none
  | .builtin .max=>match c.args.toList with
   |[x,y]=>match cu tm x,cu tm y with
    | .w (.one (.int k p)),.w (.one (.int bD q))=>cond (decide (k=bD)) (some (an6 k p q)) none
    |_,_=>none
   |_=>none
  |_=>none
 | .binOp op t x y _=>match lB P t,cu tm x,cu tm y with
  |some _,.w (.one (.sl b bE o ro len cap)),.w (.one (.con (.slice none 0 0)))=>match op with
   | .eql=>some (bind (Jk 53 [cap,len]) λ_=>pure (.w (.one (.bool (.lt cap (.const 0))))))
   | .neq=>some (bind (Jk 53 [cap,len]) λ_=>pure (.w (.one (.bool (.mkNot (.lt cap (.const 0)))))))
   |_=>none
  |_,_,_=>none
 |_=>none
def Q6 (bl:List aH) (b off:Nat):Option (List aV×U×Nat):=
 match bl[b]? with
 |some ([.rows sh o code cap kind],_)=>match cap.e4 with
  |some c=>cond (aR off 0&&ea 0 kind&&U.beq o (.const 0)&&decide (0<=c)) (some (sh,code,c.toNat)) none
  |none=>none
 |_=>none
noncomputable def Q4 (code:U) (sh:List aV):Nat->Nat->M (List A)
 |_,0=>pure []
 |i,k+1=>bind (Rv code (.const i) 0 sh) λa=>bind (Q4 code sh (i+1) k) λl=>pure (a++l)
def aeG (P:bU) (t:bw) (b bE:Nat) (o ro len cap:U) (x y z:U):M V:=
 match lB P t with
 |some e=>match hq P e with
  |some s=>cond (aR s bE) (bind (cond (U.beq z len) (js 78 [x,y,z,cap]) (js 64 [x,y,z,len])) λ_=>bind (kC 33 [ro,x,z] 0 9223372036854775808) λr=>pure (.w (.one (.sl b bE o r (y.sub x) (z.sub x))))) fail
  |none=>fail
 |none=>fail
noncomputable def UF (P:bU) (bl:List aH) (tm:List V) (o:Oper):Option (M V):=
 match o.op with
 | .indexAddr t x bt=>match cu tm x,cu tm bt with
  | .w (.one (.ptr b off)),.w (.one (.int _ i))=>match Q6 bl b off,wI P t with
   |some (sh,code,c),some (len,e)=>match hq P e with
    |some s=>cond (aR s sh.length&&aR len c) (some (bind (js 30 [i.l,.const len]) λ_=>pure (.w (.one (.ep b s (.const 0) i.l 0))))) none
    |none=>none
   |_,_=>none
  |_,_=>none
 | .load t x=>match cu tm x with
  | .w (.one (.ptr b off))=>match Q6 bl b off,lu P t,hq P t with
   |some (sh,code,c),some true,some k=>cond (aR k (c*sh.length)) (some (bind (js 31 [code,.const c]) λ_=>bind (Q4 code sh 0 c) λl=>pure (.w (.agg l)))) none
   |_,_,_=>none
  |_=>none
 | .slice t x lo (some hi) (some gv)=>match cu tm x with
  | .w (.one (.sl b bE c4 ro len cap))=>match EA tm (.const 0) lo,yA (cu tm hi),yA (cu tm gv)with
   |some p,some q,some r=>some (aeG P t b bE c4 ro len cap p q r)
   |_,_,_=>none
  |_=>none
 | .call c=>match c.callee with
  | .builtin .len=>match c.args.toList,c.argTypes.toList with
   |[x],[t]=>match cu tm x,lB P t with
    | .w (.one (.con (.slice none 0 0))),some _=>some (pure (.w (.one (.int .i64 (.const 0)))))
    |_,_=>none
   |_,_=>none
  |_=>none
 |_=>none
noncomputable def RE (cal:gy) (bl:List aH) (tm:List V) (o:Oper):Option (M V):=
 match o.op with
 | .call c=>match c.callee with
  | .value (.tmp x)=>match cu tm (.tmp x)with
   | .w (.one (.con (.func (.func f) RN RO)))=>cond (aR RN.size 0&&aR RO.size 0) ((cal f).map λg=>g bl (c.args.toList.map (cu tm))) none
   |_=>none
  |_=>none
 |_=>none
noncomputable def DG (P:bU) (cal:gy) (gl:fO) (bl:List aH) (tm:List V) (o:Oper):M V:=
 match aea P bl tm o with
 |some x=>x
 |none=>match UF P bl tm o with
  |some x=>x
  |none=>match RE cal bl tm o with
   |some x=>x
   |none=>adU P cal gl bl tm o
theorem pA.get {cells:Array a6} {off:Nat} {sh:List aV} {rows:List (List Int)} (h:pA cells off sh rows) {i j:Nat} {row:List Int} {v:a6} (hi:rows[i]?=some row) (aO:(eu sh row)[j]?=some v):cells[off+i*sh.length+j]?=some v:=by
 obtain⟨h1,pre,post,h2,h3⟩:=h;have h4:=ZQ h1 hi aO;rw[<-QB,h2,List.append_assoc,LM (by omega),zx]
 ·rw[show off+i*sh.length+j-pre.length=i*sh.length+j by omega];exact h4
 ·have:=(List.getElem?_eq_some_iff.1 h4).1;omega
section
variable {S:Nat->List Int->List Int->Prop} {L:V->Env->Prop} {n:Nat} {ρ:Env} {m:Nat->Nat} {bl:List aH} {gl:fO} {w0:eV} {P:bU} {tm:List V} {a:Act}
theorem ajd {α:Type} {b:bH} {x y:M α} {R:Env->Nat->α->Prop} (h1:b.den ρ=true->aB S L x n ρ R) (h2:b.den ρ=false->aB S L y n ρ R):aB S L (Re b x y) n ρ R:=by
 intro A k af;unfold Re at af;cases hb:b.den ρ with
 |true=>
  cases b with
  |lit v=>simp only[bH.den]at hb;subst hb;exact h1 rfl A k af
  |_=>exact h1 hb A k (af.1 hb)
 |false=>
  cases b with
  |lit v=>simp only[bH.den]at hb;subst hb;exact h2 rfl A k af
  |_=>exact h2 hb A k (af.2 hb)
theorem Y2 {nb:Nat} {c:aV} {code i:U} {j:Nat} {z:Int} {row:List Int} (l9:(aj (code.den ρ))[(i.den ρ).toNat]?=some row) (hz:row[j]?=some z) (h1:c.ia.1<=z) (h2:z<=c.ia.2):
 aB S L (Ru c code i j) n ρ λad n' x=>x.ok n' nb ad/\x.den ad m=c.val z:=by
 have hf:cR 21 ([code,i,U.const (j:Nat)].map (·.den ρ))=z:=by
  simp only[dk,gZ,U.bz,cR,kf];simp[I,l9,hz]
 cases c with
 |int k lo hi=>
  refine(mQ (by rw[hf];exact h1) (by rw[hf];exact h2)).bind λbg bk l _ _ ⟨g1,g2⟩=>aB.pure ⟨⟨g1,?_,?_⟩,?_⟩
  ·rw[g2,hf];exact h1
  ·rw[g2,hf];exact h2
  ·simp only[A.den,aV.val];rw[g2,hf]
 |str=>
  refine(mQ (by rw[hf];exact h1) (by rw[hf];exact h2)).bind λbg bk l _ _ ⟨g1,g2⟩=>aB.pure ⟨⟨g1,?_,?_⟩,?_⟩
  ·rw[g2,hf];exact h1
  ·rw[g2,hf];exact h2
  ·simp only[A.den,aV.val];rw[g2,hf]
 |bool=>
  refine(mQ (by rw[hf];exact h1) (by rw[hf];exact h2)).bind λbg bk l _ _ ⟨g1,g2⟩=>aB.pure ?_;have b2:bT.ok bk bg ⟨l,0,1⟩:=⟨g1,by simp only;rw[g2,hf];exact h1,by simp only;rw[g2,hf];exact h2⟩;have e:=bH.EG b2 (bT.uG bk bg 1);refine⟨e.2,?_⟩;simp only[A.den,aV.val];rw[e.1];simp only[bT.const,U.bz];rw[g2,hf]
theorem Y5 {nb:Nat} {sh:List aV} {row:List Int} (b2:cP sh row):∀{r:List aV} {n:Nat} {ρ:Env} {code i:U} {j:Nat},code.bM n->i.bM n->(aj (code.den ρ))[(i.den ρ).toNat]?=some row->(∀(x:Nat) (c:aV),r[x]?=some c->sh[j+x]?=some c)->
 aB S L (Rv code i j r) n ρ λad n' l=>(∀a∈l,A.ok n' nb ad a)/\l.length=r.length/\∀(x:Nat) (a:A),l[x]?=some a->(eu sh row)[j+x]?=some (a.den ad m)
 |[],n,ρ,code,i,j,_,_,_,_=>aB.pure ⟨λ_ h=>by simp at h,rfl,λx a h=>by simp at h⟩
 |c::r,n,ρ,code,i,j,Db,Aj,l9,hr=>by
  have h0:=hr 0 c rfl;obtain⟨z,h1,h2,h3,h4⟩:=b2.get h0;refine(Y2 (nb:=nb) (m:=m) l9 h1 h2 h3).bind λbg bk y hn ha ⟨g1,g2⟩=>?_;refine(Y5 (nb:=nb) (r:=r) (n:=bk) (ρ:=bg) (code:=code) (i:=i) (j:=j+1) b2 (Db.mono hn) (Aj.mono hn) (by rw[U.ch ha Db,U.ch ha Aj];exact l9) (λx c hx=>by
   have:=hr (x+1) c (by simpa using hx);rw[show j+1+x=j+(x+1) by omega];exact this)).bind λb0 gF l gU eJ ⟨k1,k2,k3⟩=>aB.pure ⟨λb hb=>?_,by simp[k2],λx b hb=>?_⟩
  ·rcases List.mem_cons.1 hb with rfl|hb
   ·exact g1.ext eJ gU (bS _)
   ·exact k1 b hb
  ·cases x with
   |zero=>
    simp only[xZ,bp]at hb;subst hb;rw[A.oA g1 eJ (λ_ _=>rfl),g2];exact h4
   |succ x=>
    have:=k3 x b (by simpa using hb);rw[show j+(x+1)=j+1+x by omega];exact this
theorem apr {nb:Nat} {c:aV} {code:U}:∀{q n:Nat} {ρ:Env} {i:U},(∀row∈aj (code.den ρ),cP [c] row)->code.bM n->i.bM n->
 aB S L (ad9 c code q i) n ρ λad n' l=>(∀a∈l,A.ok n' nb ad a)/\l.length=q/\∀(x:Nat) (a:A),l[x]?=some a->∃row,(aj (code.den ρ))[(i.den ρ).toNat+x]?=some row/\(eu [c] row)[0]?=some (a.den ad m)
 |0,n,ρ,i,_,_,_=>aB.pure ⟨λ_ h=>by simp at h,rfl,λx a h=>by simp at h⟩
 |q+1,n,ρ,i,mT,Db,Aj=>by
  refine ln λaf=>?_;simp only[dk,gZ,az]at af;have hlt:(i.den ρ).toNat<(aj (code.den ρ)).length:=by omega
  have l9:(aj (code.den ρ))[(i.den ρ).toNat]?=some (aj (code.den ρ))[(i.den ρ).toNat]:=nI hlt;have b2:=mT _ (Gh hlt);generalize (aj (code.den ρ))[(i.den ρ).toNat]=row at l9 b2;obtain⟨z,h1,h2,h3,h4⟩:=b2.get (show([c]:List aV)[0]?=some c from rfl);refine(Y2 (nb:=nb) (m:=m) l9 h1 h2 h3).bind λbg bk y hn ha ⟨g1,g2⟩=>?_;have lq:=U.ch ha Db;have hid:=U.ch ha Aj;refine(apr (nb:=nb) (q:=q) (n:=bk) (ρ:=bg) (i:=i.add (.const 1)) (by rw[lq];exact mT) (Db.mono hn) (U.y0 (Aj.mono hn) (U.dK _ _))).bind λb0 gF l gU eJ ⟨k1,k2,k3⟩=>aB.pure ⟨λb hb=>?_,by simp[k2],λx b hb=>?_⟩
  ·rcases List.mem_cons.1 hb with rfl|hb
   ·exact g1.ext eJ gU (bS _)
   ·exact k1 b hb
  ·cases x with
   |zero=>
    simp only[xZ,bp]at hb;subst hb;exact⟨row,by simpa using l9,by rw[A.oA g1 eJ (λ_ _=>rfl),g2];exact h4⟩
   |succ x=>
    obtain⟨Il,r1,r2⟩:=k3 x b (by simpa using hb);rw[lq,U.den_add,U.bz,hid]at r1;exact⟨Il,by rw[<-r1];congr 1;omega,r2⟩
theorem awJ (hb:dg n bl.length ρ bl) (hex:∃w,Mem w0 ρ m bl w) (t:bw) {b bE:Nat} {o i:U} {j:Nat} (hx:(A.ep b bE o i j).ok n bl.length ρ):
 aB S L (ZE P bl t b bE o i j) n ρ (p8 w0 m bl n ρ λw=>(p5 t ((A.ep b bE o i j).den ρ m)).run P w):=by
 obtain⟨DY,BE⟩:=hex;unfold ZE;split
 ·rename_i sh off code cap kind t' ba;refine eX λhc=>ln λaf=>?_;simp only[bA]at hc;obtain⟨⟨c1,bN⟩,cA⟩:=hc;have c1:0<kind:=gY c1;have bN:=bV bN;have cA:=U.beq_eq cA;subst cA;have NM:(A.rows sh o code cap kind).ok n bl.length ρ:=hb _ (fZ ba) _ (by simp);simp only[dk,gZ,az]at af;have hlt:(i.den ρ).toNat<(aj (code.den ρ)).length:=by omega
  have l9:(aj (code.den ρ))[(i.den ρ).toNat]?=some (aj (code.den ρ))[(i.den ρ).toNat]:=nI hlt;generalize (aj (code.den ρ))[(i.den ρ).toNat]=row at l9;have e2:0<=cap.den ρ:=by
   rcases m5 (cap.den ρ) 0 with h|h
   ·have:=(BE.rws b sh o code cap kind t' ba (by omega)).1 h;rw[this]at hlt;simp at hlt
   ·exact h
  have nx:∀w,Mem w0 ρ m bl w->cP sh row/\∀(x:Nat) (v:a6),(eu sh row)[x]?=some v->w.cell? ⟨m b,(o.den ρ).toNat+(i.den ρ).toNat*bE+x,none⟩=some v:=λw hw=>by
   obtain⟨_,cells,mg,fz,g1,⟨g2,g3⟩,_⟩:=(hw.rws b sh o code cap kind t' ba (by omega)).2 e2;refine⟨g3.1 _ (fZ l9),λx v hv=>?_⟩;have:=g3.get l9 hv;simp only[pw,g1,zy,zz,if_false];rw[bN];exact this
  have mT:=(nx DY BE).1;cases rX:lu P t with
  |none=>exact aB.fail
  |some aud=>
   cases aud with
   |true=>
    cases hs:hq P t with
    |none=>exact aB.fail
    |some k=>
     simp only;cases rY:cJ (j+k) sh.length with
     |false=>
      simp only[cond_false];split
      ·rename_i c _;have jR:∀row∈aj (code.den ρ),cP [c] row:=by
        obtain⟨_,cells,mg,fz,g1,⟨g2,g3⟩,_⟩:=(BE.rws b [c] o code cap kind t' ba (by omega)).2 e2;exact g3.1
       refine(apr (nb:=bl.length) (m:=m) (q:=k) (i:=i) jR NM.1.2.1 hx.2.1.2).bind λbg bk l hn ha ⟨g1,g2,g3⟩=>aB.pure ⟨g1,_,rfl,λw hw=>?_⟩;have hl:=Qr (P:=P) w ⟨m b,(o.den ρ).toNat+(i.den ρ).toNat*bE+0,none⟩ (l.map (A.den bg m)) λx v aO=>by
        rw[lb];rw[rC]at aO;cases ai:l[x]? with
        |none=>simp[ai]at aO
        |some y=>
         simp only[ai,AY,bp]at aO;subst aO;obtain⟨Il,r1,r2⟩:=g3 x y ai;obtain⟨_,cells,mg,fz,ar,⟨aG,cm⟩,_⟩:=(hw.rws b [c] o code cap kind t' ba (by omega)).2 e2;have:=cm.get r1 r2;simp only[pw,ar,zy,zz,if_false];simp only[kJ,List.length_nil]at bN this;rw[bN];rw[<-this];congr 1;omega
       simp only[qQ,g2,pv]at hl;simp[p5,px,A.den,loadVar,ug rX,kH hs,hl,W.den]
      ·exact aB.fail
     |true=>
     simp only[cond_true];have rY:=gY rY;refine(Y5 (nb:=bl.length) (m:=m) (r:=(sh.drop j).take k) mT NM.1.2.1 hx.2.1.2 l9 (λx c NX=>by
      rw[vm]at NX;split at NX
      ·rw[Cw]at NX;exact NX
      ·cases NX)).bind λbg bk l hn ha ⟨g1,g2,g3⟩=>aB.pure ⟨g1,_,rfl,λw hw=>?_⟩
     have hl:=Qr (P:=P) w ⟨m b,(o.den ρ).toNat+(i.den ρ).toNat*bE+j,none⟩ (l.map (A.den bg m)) λx v aO=>by
      rw[lb];rw[rC]at aO;cases ai:l[x]? with
      |none=>simp[ai]at aO
      |some y=>
       simp only[ai,AY,bp]at aO;subst aO;rw[IS];exact(nx w hw).2 (j+x) _ (g3 x y ai)
     simp only[qQ,g2,p6,List.length_drop,Eb (show k<=sh.length-j by omega)]at hl;simp[p5,px,A.den,loadVar,ug rX,kH hs,hl,W.den]
   |false=>
    cases hc:sh[j]? with
    |none=>simp only;exact aB.fail
    |some c=>
     simp only;obtain⟨z,h1,h2,h3,h4⟩:=mT.get hc;refine(Y2 (nb:=bl.length) (m:=m) l9 h1 h2 h3).bind λbg bk y hn ha ⟨g1,g2⟩=>aB.pure ⟨g1,_,rfl,λw hw=>?_⟩;have:=(nx w hw).2 j _ h4;have aba:(A.ep b bE o i j).den ρ m= .pointer (some ⟨m b,(o.den ρ).toNat+(i.den ρ).toNat*bE+j,none⟩):=rfl;simp[p5,px,aba,loadVar,ug rX,this,W.den,g2]
 ·exact aB.fail
theorem AP {b bE:Nat} {o ro len cap:U} (hx:(A.sl b bE o ro len cap).ok n bl.length ρ):∃p,(A.sl b bE o ro len cap).den ρ m= .slice p (len.den ρ).toNat (if cap.den ρ<0 then 0 else(cap.den ρ).toNat)/\(cap.den ρ<0->p=none)/\(0<=cap.den ρ->p=some ⟨m b,(o.den ρ).toNat+(ro.den ρ).toNat*bE,none⟩):=by
 obtain⟨_,_,_,_,h3,_⟩:=hx;simp only[A.den];by_cases hc:cap.den ρ<0
 ·rw[if_pos hc,if_pos hc,h3 hc];exact⟨none,rfl,λ_=>rfl,λh=>by omega⟩
 ·rw[if_neg hc,if_neg hc];exact⟨_,rfl,λh=>absurd h hc,λ_=>rfl⟩
theorem aKK {t:bw} {b bE:Nat} {o ro len cap bt:U} {k:dZ} (hx:(A.sl b bE o ro len cap).ok n bl.length ρ) (hi:bt.bM n):
 aB S L (aeD P t b bE o ro len bt) n ρ (p8 w0 m bl n ρ λw=>(xS t ((A.sl b bE o ro len cap).den ρ m) (.int k (bt.den ρ))).run P w):=by
 unfold aeD;cases h1:lB P t with
 |none=>exact aB.fail
 |some e=>
  cases h2:hq P e with
  |none=>simp only[h2];exact aB.fail
  |some s=>
   simp only[h2];refine eX λhs=>ln λaf=>aB.pure ?_;have hs:=bV hs;subst hs;simp only[dk,gZ,az]at af;obtain⟨ah,⟨ag,ao,dB,kb⟩,⟨kq,oe,po,pq⟩,p2,jH,k8⟩:=hx;have e2:¬(cap.den ρ<0):=λh=>by have:=jH h;omega
   refine⟨⟨ah,⟨ag,U.y0 ao hi⟩,kq,by rw[U.den_add];omega⟩,_,rfl,λw _=>?_⟩;have bN:bt.den ρ<((len.den ρ).toNat:Int):=by omega
   have ar:(ro.den ρ+bt.den ρ).toNat=(ro.den ρ).toNat+(bt.den ρ).toNat:=by omega
   simp only[A.den,if_neg e2,W.den,U.den_add,ar];simp[-aPi,xS,asIntOf,hV (jT h1),af.1,bN,kH h2,lb,Cz,IS]
theorem YO {d:U} {y:Option rF} {l:U} (h:EA tm d y=some l) (aA:fl n bl.length ρ m tm a.tmps):(y=none/\l=d)∨∃k,y.map a.eval=some (.int k (l.den ρ))/\l.bM n:=by
 cases y with
 |none=>exact .inl ⟨rfl,by simpa [EA]using h.symm⟩
 |some x=>
  obtain⟨k,af,h2⟩:=SM (m:=m) (bl:=bl) h (db aA x).2 (db aA x).1;exact .inr ⟨k,by rw[<-af];rfl,h2⟩
theorem Q7 {op:Nat} {ls:List U} (h:az op (ls.map (·.den ρ))):aB S L (Jk op ls) n ρ λad n' _=>ad=ρ/\n'=n:=λA k af=>⟨ρ,n,(),bS _,agree.refl _ _,⟨rfl,rfl⟩,af h⟩
theorem aKN {t:bw} {b bE:Nat} {o ro len cap p q:U} {lo hi:Option rF} (hx:(A.sl b bE o ro len cap).ok n bl.length ρ) (aA:fl n bl.length ρ m tm a.tmps) (hp:EA tm (.const 0) lo=some p) (ai:EA tm len hi=some q):
 aB S L (aeF P t b bE o ro len cap p q) n ρ (p8 w0 m bl n ρ λw=>(xT t ((A.sl b bE o ro len cap).den ρ m) (lo.map a.eval) (hi.map a.eval) none).run P w):=by
 unfold aeF;cases h1:lB P t with
 |none=>exact aB.fail
 |some e=>
  cases h2:hq P e with
  |none=>simp only[h2];exact aB.fail
  |some s=>
   simp only[h2];refine eX λhs=>ln λaf=>?_;have hs:=bV hs;subst hs;simp only[dk,gZ,az]at af;obtain⟨k1,k2,k3⟩:=af;have o7:=hx;obtain⟨ah,⟨ag,ao,dB,kb⟩,⟨kq,oe,po,pq⟩,⟨p2,pn⟩,jH,k8⟩:=hx;have xd:=YO hp aA;have Sz:=YO ai aA;have Iv:p.bM n:=by rcases xd with⟨_,rfl⟩|⟨_,_,h⟩;exact U.dK _ _;exact h
   have Lg:q.bM n:=by rcases Sz with⟨_,rfl⟩|⟨_,_,h⟩;exact dB;exact h
   obtain⟨ptr,ar,aG,cm⟩:=AP (m:=m) o7;have w6:∀w,(tt true (len.den ρ).toNat (if cap.den ρ<0 then 0 else(cap.den ρ).toNat) (lo.map a.eval) (hi.map a.eval) none).run P w= .ok ((p.den ρ).toNat,(q.den ρ).toNat,(if cap.den ρ<0 then 0 else(cap.den ρ).toNat)) w:=λw=>by
    have hle:(len.den ρ)<=((if cap.den ρ<0 then 0 else(cap.den ρ).toNat:Nat):Int):=by
     split
     ·rename_i h;rw[jH h];simp
     ·rename_i h;have:=k8 (by omega);omega
    generalize (if cap.den ρ<0 then 0 else(cap.den ρ).toNat)=C at hle;rcases xd with⟨rfl,rfl⟩|⟨aB4,Fj,_⟩<;>rcases Sz with⟨rfl,rfl⟩|⟨aB5,Af,_⟩
    ·simp[tt,U.bz]
    ·rw[Af];simp[tt,U.bz,DR (P:=P) (by omega:0<=q.den ρ) (by omega:q.den ρ<=(C:Int))]
    ·rw[Fj];simp[tt,DR (P:=P) (y:=(q.den ρ).toNat) k1 (by omega)]
    ·rw[Fj,Af];simp[tt,DR (P:=P) (by omega:0<=q.den ρ) (by omega:q.den ρ<=(C:Int)),DR (P:=P) (y:=(q.den ρ).toNat) k1 (by omega)]
   have kZ:∀(w:aC) (r:Int),r=(if p.den ρ=cap.den ρ then ro.den ρ else ro.den ρ+p.den ρ)->
    (xT t ((A.sl b s o ro len cap).den ρ m) (lo.map a.eval) (hi.map a.eval) none).run P w= .ok (if cap.den ρ-p.den ρ<0 then .slice none 0 0 else .slice (some ⟨m b,(o.den ρ).toNat+r.toNat*s,none⟩) (q.den ρ-p.den ρ).toNat (cap.den ρ-p.den ρ).toNat) w:=λw r hr=>by
    rw[ar];have iS:(q.den ρ).toNat-(p.den ρ).toNat=(q.den ρ-p.den ρ).toNat:=by omega
    simp only[xT,jV,hV (jT h1),kg,asq,w6 w,kH h2,lH,iS];by_cases hc:cap.den ρ<0
    ·have hl:=jH hc;have Sv:p.den ρ=0:=by omega
     rw[if_pos hc,aG hc,if_pos (by omega)];have:q.den ρ=0:=by omega
     simp[Sv,this,hc]
    ·rw[if_neg hc,cm (by omega)];have hM:=k8 (by omega);have Fb:¬(cap.den ρ-p.den ρ<0):=by omega
     rw[if_neg Fb];have hX:(cap.den ρ).toNat-(p.den ρ).toNat=(cap.den ρ-p.den ρ).toNat:=by omega
     rw[hX];by_cases NG:p.den ρ=cap.den ρ
     ·rw[if_pos NG]at hr;have h7:(cap.den ρ).toNat=(p.den ρ).toNat:=by omega
      rw[if_pos h7,hr]
     ·rw[if_neg NG]at hr;have h7:¬(cap.den ρ).toNat=(p.den ρ).toNat:=by omega
      rw[if_neg h7,hr];have wT:(ro.den ρ+p.den ρ).toNat=(ro.den ρ).toNat+(p.den ρ).toNat:=by omega
      rw[wT,Cz,<-IS];simp[lb]
   split
   ·rename_i h0;have Sv:=U.lp h0 (ρ:=ρ);refine aB.pure ⟨⟨ah,⟨ag,ao,Lg,kb⟩,⟨kq,oe,by omega,by omega⟩,⟨p2,pn⟩,λh=>?_,λh=>?_⟩,_,rfl,λw _=>?_⟩
    ·have:=jH h;omega
    ·have:=k8 h;omega
    ·have hr:=kZ w (ro.den ρ) (by rw[Sv];split<;>omega);rw[Sv]at hr;simp only[Int.sub_zero]at hr;simp only[W.den,A.den]at hr⊢;exact hr
   ·have qu:(0:Int)<=cR 33 ([ro,p,cap].map (·.den ρ)):=by
     simp only[dk,gZ,cR];split<;>omega
    have q3:cR 33 ([ro,p,cap].map (·.den ρ))<=9223372036854775808:=by
     simp only[dk,gZ,cR];by_cases hc:cap.den ρ<0
     ·have:=jH hc;split<;>omega
     ·have:=k8 (by omega);split<;>omega
    refine(Q7 (op:=68) (ls:=[len,cap]) (show len.den ρ<=cap.den ρ∨len.den ρ=0 from by
     by_cases hc:cap.den ρ<0
     ·exact .inr (jH hc)
     ·exact .inl (k8 (by omega)))).bind λcx gE _ _ _ ⟨HA,uP⟩=>?_
    have HA:=HA.symm;have uP:=uP.symm
    subst HA;subst uP;refine(mQ qu q3).bind λbg bk r hn ha ⟨g1,g2⟩=>aB.pure ?_;simp only[dk,gZ,cR]at g2;have bG:=U.ch ha ag;have a2:=U.ch ha Lg;have a3:=U.ch ha Iv;have a4:=U.ch ha kb
    refine⟨⟨ah,⟨ag.mono hn,g1,U.xH (Lg.mono hn) (Iv.mono hn),U.xH (kb.mono hn) (Iv.mono hn)⟩,?_⟩,_,rfl,λw _=>?_⟩
    ·rw[U.mu,U.mu,bG,a2,a3,a4,g2];refine⟨⟨kq,?_,by omega,by omega⟩,⟨?_,?_⟩,λh=>?_,λh=>?_⟩
     ·split<;>omega
     ·by_cases hc:cap.den ρ<0
      ·have:=jH hc;omega
      ·have:=k8 (by omega);omega
     ·split<;>omega
     ·by_cases hc:cap.den ρ<0
      ·have:=jH hc;omega
      ·have:=k8 (by omega);omega
     ·by_cases hc:cap.den ρ<0
      ·have:=jH hc;omega
      ·have:=k8 (by omega);omega
    ·refine(kZ w (r.den bg) g2).trans ?_;simp only[W.den,A.den,U.mu,bG,a2,a3,a4]
theorem aKL (hb:dg n bl.length ρ bl) (hex:∃w,Mem w0 ρ m bl w) {src dst e:bw} (hs:P.underlying src=some (.slice e)) (he:P.underlying e=some (.int .u8)) (hd:P.underlying dst=some .string) {b bE:Nat} {o ro len cap:U} (hx:(A.sl b bE o ro len cap).ok n bl.length ρ):
 aB S L (aeE bl b bE o ro len) n ρ (p8 w0 m bl n ρ λw=>(convert src dst ((A.sl b bE o ro len cap).den ρ m)).run P w):=by
 unfold aeE;exact aB.fail
theorem aC7 {k:dZ} {x y:bT} {t:bw} {ts:Array bw} (hx:x.ok n ρ) (hy:y.ok n ρ):aB S L (aoa k x y) n ρ (p8 w0 m bl n ρ λw=>(af9 ts t #[.int k (x.l.den ρ),.int k (y.l.den ρ)]).run P w):=by
 have e:=bH.RD hy hx;have hr:∀w,(af9 ts t #[.int k (x.l.den ρ),.int k (y.l.den ρ)]).run P w= .ok (.int k (if y.l.den ρ<x.l.den ρ then y.l.den ρ else x.l.den ρ)) w:=λw=>by
  simp[af9,Builtin.min2]
 refine ajd (λhb=>aB.pure ⟨hy,_,rfl,λw _=>?_⟩) λhb=>aB.pure ⟨hx,_,rfl,λw _=>?_⟩
 ·rw[e.1]at hb;simp only[hr,if_pos (of_decide_eq_true hb)];rfl
 ·rw[e.1]at hb;simp only[hr,if_neg (of_decide_eq_false hb)];rfl
theorem aC5 {k:dZ} {x y:bT} {t:bw} {ts:Array bw} (hx:x.ok n ρ) (hy:y.ok n ρ):aB S L (an6 k x y) n ρ (p8 w0 m bl n ρ λw=>(aga ts t #[.int k (x.l.den ρ),.int k (y.l.den ρ)]).run P w):=by
 have e:=bH.RD hx hy;have hr:∀w,(aga ts t #[.int k (x.l.den ρ),.int k (y.l.den ρ)]).run P w= .ok (.int k (if x.l.den ρ<y.l.den ρ then y.l.den ρ else x.l.den ρ)) w:=λw=>by
  simp[aga,Builtin.max2]
 refine ajd (λhb=>aB.pure ⟨hy,_,rfl,λw _=>?_⟩) λhb=>aB.pure ⟨hx,_,rfl,λw _=>?_⟩
 ·rw[e.1]at hb;simp only[hr,if_pos (of_decide_eq_true hb)];rfl
 ·rw[e.1]at hb;simp only[hr,if_neg (of_decide_eq_false hb)];rfl
theorem ajb:∀{cs:List A} {l:List Bool},rL cs=some l->cs=l.map λb=>A.bool (.lit b)
 |[],l,h=>by simp[rL]at h;subst h;rfl
 | .bool (.lit b)::r,l,h=>by
  simp only[rL]at h;cases hr:rL r with
  |none=>simp[hr]at h
  |some l'=>
   simp only[hr,bp]at h;subst h;simp[ajb hr]
 | .bool (.eq ..)::_,_,h| .bool (.lt ..)::_,_,h| .bool (.le ..)::_,_,h| .bool (.not ..)::_,_,h| .bool (.and ..)::_,_,h| .bool (.iff ..)::_,_,h=>by simp[rL]at h
 | .int .. ::_,_,h=>by simp[rL]at h
 | .ptr .. ::_,_,h=>by simp[rL]at h
 | .rp .. ::_,_,h=>by simp[rL]at h
 | .gptr .. ::_,_,h=>by simp[rL]at h
 | .slc .. ::_,_,h=>by simp[rL]at h
 | .con _::_,_,h=>by simp[rL]at h
 | .str _::_,_,h=>by simp[rL]at h
 | .rows .. ::_,_,h=>by simp[rL]at h
 | .sl .. ::_,_,h=>by simp[rL]at h
 | .ep .. ::_,_,h=>by simp[rL]at h
theorem amz:∀(l:List Bool) (s:Nat),s+l.length<=256->∀i:Nat,i<256->(Gc i∈Df s l↔s<=i/\l[i-s]?=some true)
 |[],s,_,i,_=>by simp[Df]
 |b::r,s,h,i,hi=>by
  simp only[kJ]at h;have ih:=amz r (s+1) (by omega) i hi;have dz:s≠i->Gc i≠Gc s:=λdz he=>by
   have:=congrArg UInt8.toNat he;simp at this;omega
  have key:(s+1<=i/\r[i-(s+1)]?=some true)↔(s<i/\(b::r)[i-s]?=some true):=by
   constructor
   ·rintro⟨h1,h2⟩
    refine⟨h1,?_⟩;rw[show i-s=(i-(s+1))+1 by omega];simpa using h2
   ·rintro⟨h1,h2⟩
    refine⟨h1,?_⟩;rw[show i-s=(i-(s+1))+1 by omega]at h2;simpa using h2
  unfold Df;cases b with
  |true=>
   simp only[cond_true,pt,ih,key];by_cases he:s=i
   ·subst he;simp
   ·constructor
    ·rintro(h1|h1)
     ·exact absurd h1 (dz he)
     ·exact⟨by omega,h1.2⟩
    ·rintro⟨h1,h2⟩;exact .inr ⟨by omega,h2⟩
  |false=>
   simp only[cond_false,ih,key];by_cases he:s=i
   ·subst he;simp
   ·constructor
    ·rintro⟨h1,h2⟩;exact⟨by omega,h2⟩
    ·rintro⟨h1,h2⟩;exact⟨by omega,h2⟩
theorem aKx (hb:dg n bl.length ρ bl) {ty:bw} (hu:P.underlying ty=some .bool) (b off:Nat) {bt:bT} (Ns:bt.ok n ρ):aB S L (aex bl b off bt) n ρ (p8 w0 m bl n ρ λw=>(p5 ty ((A.rp b off bt).den ρ m)).run P w):=by
 unfold aex;cases ba:bl[b]? with
 |none=>exact aB.fail
 |some q=>
  obtain⟨cs,t⟩:=q;simp only;cases hi:rL ((cs.drop off).take (bt.hi.toNat+1))with
  |none=>exact aB.fail
  |some l=>
   refine eX λhc=>?_;simp only[bA,decide_eq_true_eq]at hc;obtain⟨⟨⟨iL,hc2⟩,als⟩,ai⟩:=hc;have hlen:=bV iL;have aQV:=gY hc2;have e:=ajb hi;have CR:=Ns.2;have hlt:(bt.l.den ρ).toNat<l.length:=by omega
   have nX:l5 (Df 0 l)=(U.const (l5 (Df 0 l))).den ρ:=(U.bz _ _).symm;have hf:cR 43 ([U.const (l5 (Df 0 l)),bt.l].map (·.den ρ))=if l[(bt.l.den ρ).toNat]=true then 1 else 0:=by
    simp only[dk,gZ,cR,U.bz,Iu];have:=amz l 0 (by omega) (bt.l.den ρ).toNat (by omega);simp only[Nat.sub_zero,IV,true_and,nI hlt,bp]at this;simp only[this]
   have bQ:=YM (l[(bt.l.den ρ).toNat]=true);refine(mQ (by rw[hf];exact bQ.1) (by rw[hf];exact bQ.2)).bind λbg bk r hn ha ⟨g1,g2⟩=>?_;rw[hf]at g2;have aG:=bH.EG (n:=bk) (ρ:=bg) (a:=⟨r,0,1⟩) (b:= .const 1) ⟨g1,by simp only[g2];exact bQ.1,by simp only[g2];exact bQ.2⟩ (bT.uG _ _ _);refine aB.pure ⟨aG.2,_,rfl,λw hw=>?_⟩;obtain⟨_,_,Lb,_,h2⟩:=hw.hI b cs t ba ai;have dR:cs[off+(bt.l.den ρ).toNat]?=some (.bool (.lit l[(bt.l.den ρ).toNat])):=by
    have h1:((cs.drop off).take (bt.hi.toNat+1))[(bt.l.den ρ).toNat]?=some (.bool (.lit l[(bt.l.den ρ).toNat])):=by rw[e];simp[hlt]
    rw[vm]at h1;split at h1
    ·rw[Cw]at h1;exact h1
    ·cases h1
   have azi:=(List.getElem?_eq_some_iff.1 dR).1;have hcell:w.cell? ⟨m b,off+(bt.l.den ρ).toNat,none⟩=some (.bool l[(bt.l.den ρ).toNat]):=by
    simp only[pw,h2,zy,zz,if_false,Qx];rw[zx (by simpa using azi),rC,dR];rfl
   have rX:lu P ty=some false:=by unfold lu;rw[hu]
   have aba:(A.rp b off bt).den ρ m= .pointer (some ⟨m b,off+(bt.l.den ρ).toNat,none⟩):=rfl;simp only[W.den,A.den];rw[aG.1];simp only[g2,bT.const,U.bz];have ay8:decide ((if l[(bt.l.den ρ).toNat]=true then(1:Int)else 0)=1)=l[(bt.l.den ρ).toNat]:=by
    cases l[(bt.l.den ρ).toNat]<;>rfl
   rw[ay8];have aAg:=aba;simp only[A.den]at aAg;simp[p5,px,loadVar,ug rX,hcell]
theorem aJ1 (w:aC) {t e:bw} (hu:P.underlying t=some (.slice e)) (p:Option Addr) (l c:Nat):(binOp .eql t (.slice p l c) (.slice none 0 0)).run P w= .ok (.bool p.isNone) w:=by
 have h:binOp .eql t (.slice p l c) (.slice none 0 0)=(do pure (.bool (<-Op.equal t (.slice p l c) (.slice none 0 0)))):=rfl;rw[h];simp only[jV,run_equal_slice_nil w t e p l c hu,kg,lH]
theorem aJ3 (w:aC) {t e:bw} (hu:P.underlying t=some (.slice e)) (p:Option Addr) (l c:Nat):(binOp .neq t (.slice p l c) (.slice none 0 0)).run P w= .ok (.bool !p.isNone) w:=by
 have h:binOp .neq t (.slice p l c) (.slice none 0 0)=(do pure (.bool (!(<-Op.equal t (.slice p l c) (.slice none 0 0))))):=rfl;rw[h];simp only[jV,run_equal_slice_nil w t e p l c hu,kg,lH]
theorem aic {b off:Nat} {sh:List aV} {code:U} {c:Nat} (h:Q6 bl b off=some (sh,code,c)):off=0/\∃cap kind t,bl[b]?=some ([.rows sh (.const 0) code cap kind],t)/\0<kind/\∀ρ,cap.den ρ=(c:Int):=by
 unfold Q6 at h;split at h
 ·rename_i gW o code' cap kind t ba;split at h
  ·rename_i q ai;cases hc:(aR off 0&&ea 0 kind&&U.beq o (.const 0)&&decide (0<=q))with
   |false=>rw[hc]at h;cases h
   |true=>
    rw[hc]at h;simp only[cond_true,bp,eZ]at h;obtain⟨rfl,rfl,rfl⟩:=h;simp only[bA,decide_eq_true_eq]at hc;obtain⟨⟨⟨c1,bN⟩,cA⟩,dr⟩:=hc;have cA:=U.beq_eq cA;subst cA;exact⟨bV c1,cap,kind,t,ba,gY bN,λρ=>by rw[U.lp ai];omega⟩
  ·cases h
 ·cases h
theorem ah8 {nb:Nat} {sh:List aV}:∀{k i:Nat} {n:Nat} {ρ:Env} {code:U},code.bM n->(∀row∈aj (code.den ρ),cP sh row)->(aj (code.den ρ)).length=i+k->
 aB S L (Q4 code sh i k) n ρ λad n' l=>(∀a∈l,A.ok n' nb ad a)/\l.length=k*sh.length/\∀(x:Nat) (a:A),l[x]?=some a->(cc sh (aj (code.den ρ)))[i*sh.length+x]?=some (a.den ad m)
 |0,i,n,ρ,code,_,_,_=>aB.pure ⟨λ_ h=>by simp at h,by simp,λx a h=>by simp at h⟩
 |k+1,i,n,ρ,code,hs,mT,hl=>by
  unfold Q4;have hlt:i<(aj (code.den ρ)).length:=by omega
  have l9:(aj (code.den ρ))[i]?=some (aj (code.den ρ))[i]:=nI hlt;generalize (aj (code.den ρ))[i]=row at l9;refine(Y5 (nb:=nb) (m:=m) (r:=sh) (j:=0) (i:= .const (i:Nat)) (code:=code) (mT row (fZ l9)) hs (U.dK _ _) (by rw[U.bz,kf];exact l9) (λx c hx=>by rw[A2];exact hx)).bind λbg bk l1 iM hD ⟨g1,g2,g3⟩=>?_;have ar:code.den bg=code.den ρ:=U.ch hD hs;refine(ah8 (nb:=nb) (k:=k) (i:=i+1) (code:=code) (hs.mono iM) (by rw[ar];exact mT) (by rw[ar];omega)).bind λb0 gF l2 gU eJ ⟨k1,k2,k3⟩=>aB.pure ⟨λa ha=>?_,by rw[gx,g2,k2,Cv];omega,λx a hx=>?_⟩
  ·rcases List.mem_append.1 ha with ha|ha
   ·exact(g1 a ha).ext eJ gU (bS _)
   ·exact k1 a ha
  ·rw[List.getElem?_append]at hx;split at hx
   ·rename_i hlt;have:=g3 x a hx;rw[A2]at this;rw[A.oA (g1 a (fZ hx)) eJ (λ_ _=>rfl)];exact ZQ mT l9 this
   ·rename_i sZ;have:=k3 (x-l1.length) a hx;rw[ar,g2]at this;rw[g2]at sZ;rw[show i*sh.length+x=(i+1)*sh.length+(x-sh.length) by rw[Cv];omega];exact this
theorem avC {α:Type} {p q r len cap:U} {f:Unit->M α} {R:Env->Nat->α->Prop} (j2:cap.den ρ<0->len.den ρ=0) (hM:0<=cap.den ρ->len.den ρ<=cap.den ρ) (h:(0<=p.den ρ/\p.den ρ<=q.den ρ/\q.den ρ<=r.den ρ/\r.den ρ<=cap.den ρ)->aB S L (f ()) n ρ R):
 aB S L (bind (cond (U.beq r len) (js 78 [p,q,r,cap]) (js 64 [p,q,r,len])) f) n ρ R:=by
 cases U.beq r len with
 |true=>exact ln λaf=>h af
 |false=>
  refine ln λaf=>h ?_;have af:0<=p.den ρ/\p.den ρ<=q.den ρ/\q.den ρ<=r.den ρ/\r.den ρ<=len.den ρ/\0<len.den ρ:=af;have hc:0<=cap.den ρ:=by
   rcases m5 (cap.den ρ) 0 with h|h
   ·have:=j2 h;omega
   ·exact h
  have:=hM hc;omega
theorem aKM {t:bw} {b bE:Nat} {o ro len cap p q r:U} {lo:Option rF} {hi gv:rF} (hx:(A.sl b bE o ro len cap).ok n bl.length ρ) (aA:fl n bl.length ρ m tm a.tmps) (hp:EA tm (.const 0) lo=some p) (ai:yA (cu tm hi)=some q) (hr:yA (cu tm gv)=some r):
 aB S L (aeG P t b bE o ro len cap p q r) n ρ (p8 w0 m bl n ρ λw=>(xT t ((A.sl b bE o ro len cap).den ρ m) (lo.map a.eval) (some (a.eval hi)) (some (a.eval gv))).run P w):=by
 unfold aeG;cases h1:lB P t with
 |none=>exact aB.fail
 |some e=>
  cases h2:hq P e with
  |none=>simp only[h2];exact aB.fail
  |some s=>
   simp only[h2];refine eX λhs=>avC (λh=>hx.2.2.2.2.1 h) (λh=>hx.2.2.2.2.2 h) λaf=>?_;have hs:=bV hs;subst hs;obtain⟨k1,k2,k3,k4⟩:=af;have o7:=hx;obtain⟨ah,⟨ag,ao,dB,kb⟩,⟨kq,oe,po,pq⟩,⟨p2,pn⟩,jH,k8⟩:=hx;have xd:=YO hp aA;have Iv:p.bM n:=by rcases xd with⟨_,rfl⟩|⟨_,_,h⟩;exact U.dK _ _;exact h
   obtain⟨aB5,Af,Lg⟩:=SM (m:=m) (bl:=bl) ai (db aA hi).2 (db aA hi).1;obtain⟨aRG,Fk,ap1⟩:=SM (m:=m) (bl:=bl) hr (db aA gv).2 (db aA gv).1;obtain⟨ptr,ar,aG,cm⟩:=AP (m:=m) o7;have hc:¬(cap.den ρ<0):=by omega
   have hM:=k8 (by omega);have RF:=ar;rw[if_neg hc,cm (by omega)]at RF;have hf:cR 33 ([ro,p,r].map (·.den ρ))=(if p.den ρ=r.den ρ then ro.den ρ else ro.den ρ+p.den ρ):=rfl;refine(mQ (by rw[hf];split<;>omega) (by rw[hf];split<;>omega)).bind λbg bk Lb hn ha ⟨g1,g2⟩=>aB.pure ?_;rw[hf]at g2;have bG:=U.ch ha ag;have a2:=U.ch ha Lg;have a3:=U.ch ha Iv;have a4:=U.ch ha ap1
   refine⟨⟨ah,⟨ag.mono hn,g1,U.xH (Lg.mono hn) (Iv.mono hn),U.xH (ap1.mono hn) (Iv.mono hn)⟩,?_⟩,_,rfl,λw _=>?_⟩
   ·rw[U.mu,U.mu,bG,a2,a3,a4,g2];refine⟨⟨kq,?_,by omega,by omega⟩,⟨by omega,?_⟩,λh=>by omega,λh=>by omega⟩
    ·split<;>omega
    ·split<;>omega
   ·rw[RF];have w6:(tt true (len.den ρ).toNat (cap.den ρ).toNat (lo.map a.eval) (some (a.eval hi)) (some (a.eval gv))).run P w= .ok ((p.den ρ).toNat,(q.den ρ).toNat,(r.den ρ).toNat) w:=by
     rw[Af,Fk];rcases xd with⟨rfl,rfl⟩|⟨aB4,Fj,_⟩
     ·simp[tt,U.bz,DR (P:=P) (y:=(cap.den ρ).toNat) (by omega:0<=r.den ρ) (by omega),DR (P:=P) (y:=(r.den ρ).toNat) (by omega:0<=q.den ρ) (by omega)]
     ·rw[Fj];simp[tt,DR (P:=P) (y:=(cap.den ρ).toNat) (by omega:0<=r.den ρ) (by omega),DR (P:=P) (y:=(r.den ρ).toNat) (by omega:0<=q.den ρ) (by omega),DR (P:=P) (y:=(q.den ρ).toNat) k1 (by omega)]
    have iS:(q.den ρ).toNat-(p.den ρ).toNat=(q.den ρ-p.den ρ).toNat:=by omega
    have hX:(r.den ρ).toNat-(p.den ρ).toNat=(r.den ρ-p.den ρ).toNat:=by omega
    simp only[xT,jV,hV (jT h1),kg,asq,w6,kH h2,lH,iS,hX,W.den,A.den,U.mu,bG,a2,a3,a4,g2];rw[if_neg (show ¬(r.den ρ-p.den ρ<0) by omega)];by_cases NG:p.den ρ=r.den ρ
    ·rw[if_pos NG,if_pos (by omega)]
    ·rw[if_neg NG,if_neg (by omega)];have wT:(ro.den ρ+p.den ρ).toNat=(ro.den ρ).toNat+(p.den ρ).toNat:=by omega
     rw[wT,Cz,<-IS];simp[lb]
theorem aJE (hb:dg n bl.length ρ bl) (hex:∃w,Mem w0 ρ m bl w) (aA:fl n bl.length ρ m tm a.tmps) (o:Oper) {q:M V} (ai:UF P bl tm o=some q):aB S L q n ρ (py w0 m bl n ρ P o a):=by
 obtain⟨DY,BE⟩:=hex;unfold UF at ai;split at ai
 ·rename_i t x bt h;have hx:=db aA x;have hi:=db aA bt;split at ai
  ·rename_i b off k i hv abo;rw[hv]at hx;rw[abo]at hi;split at ai
   ·rename_i sh code c len e Hi JU;split at ai
    ·rename_i s hs;cases hc:(aR s sh.length&&aR len c)with
     |false=>rw[hc]at ai;cases ai
     |true=>
      rw[hc]at ai;simp only[cond_true,bp]at ai;subst ai;simp only[bA]at hc;have bN:=bV hc.2;subst bN;obtain⟨rfl,cap,kind,eH,ba,af,e2⟩:=aic Hi;refine ln λSi=>aB.pure ?_;simp only[dk,gZ,az,U.bz]at Si;have eB:a.eval x= .pointer (some ⟨m b,0,none⟩):=hx.2;have q5:a.eval bt= .int k (i.l.den ρ):=hi.2;have aaT:bT.ok n ρ i:=hi.1;have uU:b<bl.length:=hx.1;refine⟨⟨uU,⟨U.dK _ _,aaT.1⟩,by rw[U.bz];omega,Si.1⟩,_,rfl,λw _=> .inl ?_⟩;have c1:i.l.den ρ<((len:Nat):Int):=Si.2;simp[execOp,h,eB,q5,xS,asIntOf,hV (zJ JU),px,Si.1,c1,kH hs,lb,W.den,A.den,U.bz]
    ·cases ai
   ·cases ai
  ·cases ai
 ·rename_i t x h;have hx:=db aA x;split at ai
  ·rename_i b off hv;rw[hv]at hx;split at ai
   ·rename_i sh code c k Hi rX hs;cases hc:(aR k (c*sh.length))with
    |false=>rw[hc]at ai;cases ai
    |true=>
     rw[hc]at ai;simp only[cond_true,bp]at ai;subst ai;have hc:=bV hc;subst hc;obtain⟨rfl,cap,kind,eH,ba,af,e2⟩:=aic Hi;refine ln λSj=>?_;simp only[dk,gZ,az,U.bz]at Sj;have iT:(A.rows sh (.const 0) code cap kind).ok n bl.length ρ:=hb _ (fZ ba) _ (by simp);have nx:∀w,Mem w0 ρ m bl w->∃cells t' fz,w.heap[m b]?=some (.cells cells t' fz)/\pA cells 0 sh (aj (code.den ρ)):=λw hw=>by
      obtain⟨_,cells,mg,fz,g1,⟨g2,g3⟩,_⟩:=(hw.rws b sh (.const 0) code cap kind eH ba (by omega)).2 (by rw[e2];omega);rw[U.bz]at g3;exact⟨cells,mg,fz,g1,g3⟩
     obtain⟨_,_,_,_,aAs⟩:=nx DY BE;refine(ah8 (nb:=bl.length) (m:=m) (k:=c) (i:=0) iT.1.2.1 aAs.1 (by omega)).bind λbg bk l hn ha ⟨g1,g2,g3⟩=>aB.pure ⟨g1,_,rfl,λw hw=> .inl ?_⟩;obtain⟨cells,mg,fz,a1,bB⟩:=nx w hw;have hl:=Qr (P:=P) w ⟨m b,0,none⟩ (l.map (A.den bg m)) λx v aO=>by
      rw[lb];rw[rC]at aO;cases ai:l[x]? with
      |none=>simp[ai]at aO
      |some y=>
       simp only[ai,AY,bp]at aO;subst aO;have h3:=g3 x y ai;rw[Nat.zero_mul,A2]at h3;simp only[pw,a1,zy,zz,if_false];obtain⟨_,pre,post,b1,bY⟩:=bB;have rZ:pre=[]:=List.eq_nil_of_length_eq_zero bY;subst rZ;have hlt:=(List.getElem?_eq_some_iff.1 h3).1;rw[<-QB,b1,List.nil_append,zx (by omega),A2];exact h3
     simp only[qQ,g2]at hl;have eB:a.eval x= .pointer (some ⟨m b,0,none⟩):=hx.2;simp[execOp,h,eB,p5,px,loadVar,ug rX,kH hs,hl,W.den]
   ·cases ai
  ·cases ai
 ·rename_i t x lo hi gv h;have hx:=db aA x;split at ai
  ·rename_i b bE off ro len cap hv;rw[hv]at hx;have eB:a.eval x=(A.sl b bE off ro len cap).den ρ m:=hx.2;have he:execOp a.eval o=(do pure (m7 (<-xT t ((A.sl b bE off ro len cap).den ρ m) (lo.map a.eval) (some (a.eval hi)) (some (a.eval gv))))):=by simp only[execOp,h,eB];rfl
   split at ai
   ·rename_i p fM r hp Af hr;cases ai;exact(aKM hx.1 aA hp Af hr).mono λ_ _ _ _ _ ai=>py.of_run he ai
   ·cases ai
  ·cases ai
 ·rename_i c h;split at ai
  ·rename_i hc;split at ai
   ·rename_i x t jD qz;have hx:=db aA x;split at ai
    ·rename_i e hv hs;cases ai;rw[hv]at hx;have eB:a.eval x= .slice none 0 0:=hx.2;have bG:c.args=#[x]:=by rw[<-m6 (xs:=c.args),jD]
     have a2:c.argTypes=#[t]:=by rw[<-m6 (xs:=c.argTypes),qz]
     refine aB.pure ⟨bT.uG _ _ _,_,rfl,λw _=> .inl ?_⟩;simp[execOp,h,resolve,hc,bG,a2,eB,invoke,builtin,Qz,hV (jT hs),goInt,W.den,A.den,bT.const,U.bz]
    ·cases ai
   ·cases ai
  ·cases ai
 ·cases ai
theorem adV {cal:gy} (c8:iD S P gl w0 cal) (hb:dg n bl.length ρ bl) (hg:gJ gl w0) (hex:∃w,Mem w0 ρ m bl w) (aA:fl n bl.length ρ m tm a.tmps) (o:Oper):
 aB S L (DG P cal gl bl tm o) n ρ (py w0 m bl n ρ P o a):=by
 unfold DG;cases ai:aea P bl tm o with
 |none=>
  simp only;cases xb:UF P bl tm o with
  |some q=>exact aJE hb hex aA o xb
  |none=>
  simp only;cases hd:RE cal bl tm o with
  |none=>exact aJd c8 hb hg hex aA o
  |some q=>
   simp only;unfold RE at hd;split at hd
   ·rename_i c aw;split at hd
    ·rename_i x hc;split at hd
     ·rename_i f RN RO hv;cases hz:(aR RN.size 0&&aR RO.size 0)with
      |false=>rw[hz]at hd;cases hd
      |true=>
       rw[hz]at hd;simp only[cond_true,Option.map_eq_some_iff]at hd;obtain⟨g,aaO,rfl⟩:=hd;simp only[bA,Nat.beq_eq]at hz;have cw:RN=#[]:=Ef hz.1;have ar:RO=#[]:=Ef hz.2;subst cw ar;have hx:=db aA (.tmp x);rw[hv]at hx;have eB:a.eval (.tmp x)= .func (.func f) #[] #[]:=hx.2;have tI:∀v∈c.args.toList.map (cu tm),V.ok n bl.length ρ v:=λv hv=>by
        obtain⟨x,_,rfl⟩:=List.mem_map.1 hv;exact(db aA x).1
       have he:execOp a.eval o=callFunc f (c.args.map a.eval):=by
        simp only[execOp,aw,resolve,hc,eB,asp];simp[invoke,bind_pure_comp]
       refine(c8 f g aaO L n ρ m bl _ _ hb hex tI (QP (xs:=c.args.toList) aA)).mono λbg bk v _ _ ⟨a1,val,bB,cp⟩=>⟨a1,val,bB,λw hw=>?_⟩;have ha:(c.args.toList.map a.eval).toArray=c.args.map a.eval:=by
        rw[<-Ed]
       have eC:=cp w hw;rw[ha]at eC;rcases eC with eC|⟨eC,lz⟩
       ·exact .inl (by rw[he];exact eC)
       ·exact .inr ⟨f,_,by rw[he];exact eC,lz⟩
     ·cases hd
    ·cases hd
   ·cases hd
 |some q=>
  simp only;unfold aea at ai;split at ai
  case h_1 t x h=>
   have hx:=db aA x;split at ai
   ·rename_i b bE off i j hv;cases ai;rw[hv]at hx;have eB:a.eval x=(A.ep b bE off i j).den ρ m:=hx.2;have he:execOp a.eval o=(do pure (m7 (<-p5 t ((A.ep b bE off i j).den ρ m)))):=by simp only[execOp,h,eB]
    exact(awJ hb hex t hx.1).mono λ_ _ _ _ _ ai=>py.of_run he ai
   ·rename_i b off bt hv;split at ai
    ·rename_i hu;cases ai;rw[hv]at hx;have eB:a.eval x=(A.rp b off bt).den ρ m:=hx.2;have he:execOp a.eval o=(do pure (m7 (<-p5 t ((A.rp b off bt).den ρ m)))):=by simp only[execOp,h,eB]
     exact(aKx hb hu b off hx.1.2.1).mono λ_ _ _ _ _ ai=>py.of_run he ai
    ·cases ai
   ·cases ai
  case h_2 x h=>
   have hx:=db aA x;split at ai
   ·rename_i b bE off i j hv;cases ai;rw[hv]at hx;refine aB.pure ⟨hx.1,_,rfl,λw _=> .inl ?_⟩;have eB:=hx.2;simp only[V.rel,W.den,A.den]at eB;simp[execOp,h,eB,W.den,A.den]
   ·cases ai
  case h_3 t x bt h=>
   have hx:=db aA x;have hi:=db aA bt;split at ai
   ·rename_i b bE off ro len cap k i hv abo;cases ai;rw[hv]at hx;rw[abo]at hi;have eB:a.eval x=(A.sl b bE off ro len cap).den ρ m:=hx.2;have q5:a.eval bt= .int k (i.l.den ρ):=hi.2;have he:execOp a.eval o=(do pure (m7 (<-xS t ((A.sl b bE off ro len cap).den ρ m) (.int k (i.l.den ρ))))):=by simp only[execOp,h,eB,q5]
    have aaT:bT.ok n ρ i:=hi.1;exact(aKK hx.1 aaT.1).mono λ_ _ _ _ _ ai=>py.of_run he ai
   ·cases ai
  case h_4 t x h=>
   have hx:=db aA x;split at ai
   ·rename_i b bE off ro len cap k e hv ha;cases ai;rw[hv]at hx;refine eX λhc=>ln λaf=>?_;have hc:0<k:=gY hc;simp only[dk,gZ,U.bz,az]at af;have b2:A.ok n bl.length ρ (.sl b bE off ro len cap):=hx.1;obtain⟨h1,⟨h2,h3,h4,h5⟩,h6⟩:=b2;have e2:¬cap.den ρ<0:=λSs=>by have:=h6.2.2.1 Ss;omega
    refine aB.pure ⟨⟨h1,⟨h2,h3⟩,h6.1.1,h6.1.2.1⟩,_,rfl,λw _=> .inl ?_⟩;have eB:a.eval x=(A.sl b bE off ro len cap).den ρ m:=hx.2;have hle:¬(len.den ρ).toNat<k:=by omega
    simp only[execOp,h];rw[eB];simp only[A.den,if_neg e2];simp[asr,hV (zJ ha),hle,W.den,A.den]
   ·cases ai
  case h_5 s x f h=>
   have hx:=db aA x;split at ai
   ·rename_i b bE off i j fd hv hf;rw[hv]at hx;obtain⟨fs,hu,Nk⟩:=ZK hf;split at ai
    ·rename_i k hs;cases ai;refine aB.pure ⟨hx.1,_,rfl,λw _=> .inl ?_⟩;have eB:=hx.2;simp only[V.rel,W.den,A.den]at eB;simp[execOp,h,eB,ase,hV hu,Nk,px,fieldPlace,kH hs,lb,W.den,A.den,IS]
    ·cases ai
   ·cases ai
  case h_6 t x lo hi h=>
   have hx:=db aA x;split at ai
   ·rename_i b bE off ro len cap hv;rw[hv]at hx;have eB:a.eval x=(A.sl b bE off ro len cap).den ρ m:=hx.2;have he:execOp a.eval o=(do pure (m7 (<-xT t ((A.sl b bE off ro len cap).den ρ m) (lo.map a.eval) (hi.map a.eval) none))):=by simp only[execOp,h,eB];rfl
    split at ai
    ·rename_i p fM hp Af;cases ai;exact(aKN hx.1 aA hp Af).mono λ_ _ _ _ _ ai=>py.of_run he ai
    ·cases ai
   ·cases ai
  case h_7 s d x h=>
   have hx:=db aA x;split at ai
   ·rename_i b bE off ro len cap e hv hs hd;split at ai
    ·rename_i azs;cases ai;rw[hv]at hx;have eB:a.eval x=(A.sl b bE off ro len cap).den ρ m:=hx.2;have he:execOp a.eval o=(do pure (m7 (<-convert s d ((A.sl b bE off ro len cap).den ρ m)))):=by simp only[execOp,h,eB]
     exact(aKL hb hex (jT hs) azs hd hx.1).mono λ_ _ _ _ _ ai=>py.of_run he ai
    ·cases ai
   ·cases ai
  case h_8 c h=>
   split at ai
   ·rename_i hc;split at ai
    ·rename_i x t jD qz;have hx:=db aA x;split at ai
     ·rename_i b bE off ro len cap e hv hs;cases ai;rw[hv]at hx;have eB:a.eval x=(A.sl b bE off ro len cap).den ρ m:=hx.2;have uU:(A.sl b bE off ro len cap).ok n bl.length ρ:=hx.1;obtain⟨ptr,ar,_,_⟩:=AP (m:=m) uU;rw[ar]at eB;obtain⟨ah,⟨ag,ao,dB,kb⟩,⟨kq,oe,po,pq⟩,_⟩:=uU;have bG:c.args=#[x]:=by rw[<-m6 (xs:=c.args),jD]
      have a2:c.argTypes=#[t]:=by rw[<-m6 (xs:=c.argTypes),qz]
      refine aB.pure ⟨⟨dB,po,pq⟩,_,rfl,λw _=> .inl ?_⟩;have iS:((len.den ρ).toNat:Int)=len.den ρ:=by omega
      simp[-aPi,execOp,h,resolve,hc,bG,a2,eB,invoke,builtin,Qz,hV (jT hs),goInt,W.den,A.den,iS]
     ·cases ai
    ·cases ai
   ·rename_i hc;split at ai
    ·rename_i x y jD;have hx:=db aA x;have hy:=db aA y;split at ai
     ·rename_i k p bD fM uT nz;by_cases q6:k=bD
      ·subst q6;simp only[decide_true,cond_true]at ai;cases ai;rw[uT]at hx;rw[nz]at hy;have ar:a.eval x= .int k (p.l.den ρ):=hx.2;have aG:a.eval y= .int k (fM.l.den ρ):=hy.2;have bG:c.args=#[x,y]:=by rw[<-m6 (xs:=c.args),jD]
       have he:execOp a.eval o=(do pure (m7 (<-af9 c.argTypes o.type #[.int k (p.l.den ρ),.int k (fM.l.den ρ)]))):=by
        simp[execOp,h,resolve,hc,bG,ar,aG,invoke,builtin]
       exact(aC7 hx.1 hy.1).mono λ_ _ _ _ _ ai=>py.of_run he ai
      ·simp[q6]at ai
     ·cases ai
    ·cases ai
   ·rename_i hc;split at ai
    ·rename_i x y jD;have hx:=db aA x;have hy:=db aA y;split at ai
     ·rename_i k p bD fM uT nz;by_cases q6:k=bD
      ·subst q6;simp only[decide_true,cond_true]at ai;cases ai;rw[uT]at hx;rw[nz]at hy;have ar:a.eval x= .int k (p.l.den ρ):=hx.2;have aG:a.eval y= .int k (fM.l.den ρ):=hy.2;have bG:c.args=#[x,y]:=by rw[<-m6 (xs:=c.args),jD]
       have he:execOp a.eval o=(do pure (m7 (<-aga c.argTypes o.type #[.int k (p.l.den ρ),.int k (fM.l.den ρ)]))):=by
        simp[execOp,h,resolve,hc,bG,ar,aG,invoke,builtin]
       exact(aC5 hx.1 hy.1).mono λ_ _ _ _ _ ai=>py.of_run he ai
      ·simp[q6]at ai
     ·cases ai
    ·cases ai
   ·cases ai
  case h_9 op t x y er h=>
   have hx:=db aA x;have hy:=db aA y;split at ai
   ·rename_i e b bE c4 ro len cap hs uT nz;rw[uT]at hx;rw[nz]at hy;have eB:a.eval x=(A.sl b bE c4 ro len cap).den ρ m:=hx.2;have Ak:a.eval y= .slice none 0 0:=hy.2;have uU:(A.sl b bE c4 ro len cap).ok n bl.length ρ:=hx.1;obtain⟨ptr,ar,aG,cm⟩:=AP (m:=m) uU;rw[ar]at eB;obtain⟨ah,⟨ag,ao,dB,kb⟩,_,_,jH,_⟩:=uU;have has:az 53 ([cap,len].map (·.den ρ)):=jH;have hp:ptr.isNone=decide (cap.den ρ<0):=by
     rcases m5 (cap.den ρ) 0 with h0|h0
     ·rw[aG h0,decide_eq_true h0];rfl
     ·rw[cm h0,decide_eq_false (by omega)];rfl
    split at ai
    ·cases ai;refine(Q7 has).bind λbg bk _ _ _ ⟨tP,hn⟩=>?_;have tP:=tP.symm;have hn:=hn.symm;subst tP hn;refine aB.pure ⟨⟨kb,U.dK _ _⟩,_,rfl,λw _=> .inl ?_⟩;have Nn:eqGuard .eql t x y (.slice ptr (len.den ρ).toNat (if cap.den ρ<0 then 0 else(cap.den ρ).toNat)) (.slice none 0 0)=V9 ():=rfl;have he:execOp a.eval o=(do pure (m7 (<-binOp .eql t (.slice ptr (len.den ρ).toNat (if cap.den ρ<0 then 0 else(cap.den ρ).toNat)) (.slice none 0 0)))):=by
      simp only[execOp,h,eB,Ak,Nn,pure_bind]
     simp only[he,jV,aJ1 w (jT hs),kg,lH,hp];simp[W.den,A.den,bH.den,U.bz]
    ·cases ai;refine(Q7 has).bind λbg bk _ _ _ ⟨tP,hn⟩=>?_;have tP:=tP.symm;have hn:=hn.symm;subst tP hn;refine aB.pure ⟨bH.FY ⟨kb,U.dK _ _⟩,_,rfl,λw _=> .inl ?_⟩;have Nn:eqGuard .neq t x y (.slice ptr (len.den ρ).toNat (if cap.den ρ<0 then 0 else(cap.den ρ).toNat)) (.slice none 0 0)=V9 ():=rfl;have he:execOp a.eval o=(do pure (m7 (<-binOp .neq t (.slice ptr (len.den ρ).toNat (if cap.den ρ<0 then 0 else(cap.den ρ).toNat)) (.slice none 0 0)))):=by
      simp only[execOp,h,eB,Ak,Nn,pure_bind]
     simp only[he,jV,aJ3 w (jT hs),kg,lH,hp];simp[W.den,A.den,bH.den,bH.EH,U.bz]
    ·cases ai
   ·cases ai
  case h_10=>cases ai
end
end Go.bX
namespace Go.bX
def ajX (ops:Array Oper) (n:Nat):Bool:=
 (ga n).all λi=>match ops[i]? with
   |none=>false
   |some nD=>(nD.after.all λe=> !af5 .any e||ea e.on i)&&(match nD.op with| .select .. =>false|_=>true)&&
    (ga n).all λj=>aR i j||match ops[j]? with
      |none=>false
      |some fh=>match fh.dst with
       |none=>true
       |some d=>(!(nD.looksAt ops).contains d||Ee .any ops i j||Ee .any ops j i)&& !(match nD.dst with|some zR=>aR zR d|none=>false)
def aaI (size n:Nat):Array Bool:=((ga size).map λi=>ea i n).toArray
def JJ (o:Oper):Bool:=match o.op with| .move _| .assign _| .extract _ _=>true|_=>false
def zY (ops:Array Oper) (i:Nat):Bool:=match ops[i]? with|some o=>JJ o|none=>false
def iR (o:Oper):Bool:=match o.op,o.guard,o.dst with| .alloc _,none,some _=>true|_,_,_=>false
def wF (ops:Array Oper) (i:Nat):Bool:=match ops[i]? with|some o=>iR o|none=>false
def aov (ops:Array Oper) (n:Nat):Bool:=
 (ga n).all λi=> !wF ops i||match ops[i]? with
   |some nD=>match nD.dst with
    |some d=>(ga n).all λj=>match ops[j]? with|some fh=> !(fh.looksAt ops).contains d|none=>true
    |none=>false
   |none=>false
def ap3 (ops:Array Oper) (n:Nat):Bool:=
 (ga n).all λi=>zY ops i||(ga (n+1)).any λj=>ea i j&&Ee .any ops j i&&(aR j n|| !zY ops j)
def axE (ops:Array Oper) (n:Nat):Bool:=
 (ga n).all λi=> !zY ops i||(ga ops.size).all λj=>ea j n||Ee .any ops j i||(match ops[i]?,ops[j]? with|some nD,some fh=>nD.apart ops fh|_,_=>false)
def Lm (ops:Array Oper) (n:Nat):Bool:=
 V6 ops&&axE ops n&&aov ops n&&ajX ops n&&cJ n ops.size&&(aR n ops.size||(ap3 ops n&&aO7 .any ops n))&&aO8 .any ops (ops.size-n) n (aaI ops.size n)
def calm (Q:Exit->Act->aC->Prop):Exit->Act->aC->Prop
 | .panic _,_,_=>False
 |e,a,w=>Q e a w
theorem vu {a b:Nat} (h:ea a b=true):a<b:=gY h
theorem aCW {a b:Nat} (h:a<b):ea a b=true:=Nat.ble_eq_true_of_le h
section
variable {P:bU} {ops:Array Oper} {C:aC->Prop}
def Ba (P:bU) (ops:Array Oper) (C:aC->Prop) (o:Oper) (v:a6) (a:Act):Prop:=
 (Cy o (yielded ops a.tmps)=true/\∀w,C w->Gp P o a w v)∨(Cy o (yielded ops a.tmps)=false/\v=undef)
def Gm (P:bU) (ops:Array Oper) (C:aC->Prop) (F:Act->Prop):List Oper->Act->Prop
 |[],a=>F a
 |o::r,a=>cond (iR o) (Gm P ops C F r a) (∃v,Ba P ops C o v a/\Gm P ops C F r (a.put o.dst v))
theorem adW {Q:Act->Prop}:∀(l:List Oper) (a:Act),Gm P ops C Q l a->∃(as:Nat->Act) (vs:Nat->a6),as 0=a/\(∀i o,l[i]?=some o->(iR o=false->Ba P ops C o (vs i) (as i)/\as (i+1)=(as i).put o.dst (vs i))/\(iR o=true->as (i+1)=as i))/\Q (as l.length)
 |[],a,h=>⟨λ_=>a,λ_=>undef,rfl,λi o hi=>by simp at hi,h⟩
 |o::r,a,h=>by
  unfold Gm at h;cases gT:iR o with
  |true=>
   simp only[gT,cond_true]at h;obtain⟨as,vs,cw,hs,w2⟩:=adW r _ h;refine⟨λi=>match i with|0=>a|i+1=>as i,λi=>match i with|0=>undef|i+1=>vs i,rfl,λi c4 hi=>?_,w2⟩;cases i with
   |zero=>
    simp at hi;subst hi;exact⟨λh1=>by(rw[gT]at h1;cases h1),λ_=>cw⟩
   |succ i=>
    simp at hi;exact hs i c4 hi
  |false=>
   simp only[gT,cond_false]at h;obtain⟨v,hy,h2⟩:=h;obtain⟨as,vs,cw,hs,w2⟩:=adW r _ h2;refine⟨λi=>match i with|0=>a|i+1=>as i,λi=>match i with|0=>v|i+1=>vs i,rfl,λi c4 hi=>?_,w2⟩;cases i with
   |zero=>
    simp at hi;subst hi;exact⟨λ_=>⟨hy,cw⟩,λh1=>by(rw[gT]at h1;cases h1)⟩
   |succ i=>
    simp at hi;exact hs i c4 hi
theorem aqV {Q:Exit->Act->aC->Prop} {md:ass}:∀(f:Nat) (listed:Array Bool) (a:Act) (w:aC),wpAny P md ops Q f listed a w->wpAny P md ops Q (f+1) listed a w
 |0,_,_,_,h=>⟨λ_=>h.2,λi hi=>by rw[h.1]at hi;cases hi⟩
 |f+1,_,_,_,h=>⟨h.1,λi hi=>wpOp_mono (λdW w' aP=>aqV f _ dW w' aP) (h.2 i hi)⟩
theorem aqU {Q:Exit->Act->aC->Prop} {md:ass} {listed:Array Bool} {a:Act} {w:aC} {f qo:Nat} (h:wpAny P md ops Q f listed a w) (hle:f<=qo):wpAny P md ops Q qo listed a w:=by
 induction hle with
 |refl=>exact h
 |step _ ih=>exact aqV _ _ _ _ ih
theorem ajK {α:Type} {p q:α->Bool}:∀{l:List α},(∀x∈l,q x=true->p x=true)->(∃x∈l,p x=true/\q x=false)->l.countP q<l.countP p
 |[],_,⟨x,hx,_⟩=>by simp at hx
 |y::r,h1,⟨x,hx,h2,h3⟩=>by
  have hle:r.countP q<=r.countP p:=List.countP_mono_left λz hz=>h1 z (eS _ hz);rw[aO9,aO9];rcases List.mem_cons.1 hx with rfl|hx
  ·simp[h2,h3];omega
  ·have ih:=ajK (l:=r) (λz hz=>h1 z (eS _ hz)) ⟨x,hx,h2,h3⟩;have:=h1 y (by simp);cases ai:q y<;>cases hp:p y<;>simp[ai,hp]at this⊢<;>omega
theorem Bi {n i:Nat} {nD:Oper} (h:ajX ops n=true) (hi:i<n) (aw:ops[i]?=some nD):
 (∀e∈nD.after,af5 .any e=true->e.on<i)/\(∀cs b,nD.op≠ .select cs b)/\
 ∀j fh d,j<n->j≠i->ops[j]?=some fh->fh.dst=some d->nD.dst≠some d/\(d∈nD.looksAt ops->Ee .any ops i j=true∨Ee .any ops j i=true):=by
 have h1:=List.all_eq_true.1 h i (List.mem_range.2 hi);simp only[aw,bA]at h1;obtain⟨⟨h1,h2⟩,h3⟩:=h1;refine⟨λe he hb=>?_,λcs b hc=>by simp[hc]at h2,λj fh d aO dz yu hd=>?_⟩
 ·have:=Array.all_eq_true_iff_forall_mem.1 h1 e he;simp only[hb,cL,I0]at this;exact vu this
 ·have h4:=List.all_eq_true.1 h3 j (List.mem_range.2 aO);have h5:aR i j=false:=by cases hb:aR i j with|false=>rfl|true=>exact absurd (bV hb).symm dz
  simp only[h5,I0,yu,hd,bA]at h4;refine⟨λazo=>?_,λnx=>?_⟩
  ·have:=h4.2;simp[azo]at this
  ·have:=h4.1;have hc:(nD.looksAt ops).contains d=true:=by simpa using nx
   simp only[hc,cL,I0,Ea]at this;exact this
theorem at6 {a b:Act} (h1:a.defers=b.defers) (h2:∀t:Nat,a.tmps[t]?=b.tmps[t]?):a=b:=by
 cases a;cases b;simp only at h1 h2;rw[h1,aPa h2]
theorem BY {a:Act} {o:Option Tmp} {v:a6} {t:Nat} (h:o≠some t):(a.put o v).tmps[t]?=a.tmps[t]?:=by
 cases o with
 |none=>rfl
 |some d=>simp only[LQ];rw[aOY (λe=>h (by rw[e]))]
theorem put_defers (a:Act) (o:Option Tmp) (v:a6):(a.put o v).defers=a.defers:=by cases o<;>rfl
theorem H2 (a:Act) (o:Option Tmp) (v:a6):(a.put o v).tmps.size=a.tmps.size:=by cases o<;>simp[LQ]
theorem axC {o:Oper} {a:Act} {v:a6} {w:aC} (hf:JJ o=true) (jQ:C w) (h:Ba P ops C o v a):Yields P ops o v a:=by
 rcases h with⟨h1,h2⟩|h
 ·refine .inl ⟨h1,λw'=>?_⟩;have h3:=h2 w jQ;unfold Gp at h3;unfold JJ at hf;split at hf
  ·rename_i x aw;simp only[execOp,aw,lH]at h3⊢;rcases h3 with h3|⟨f,args,h3,_⟩
   ·simp only[aPb,aPc,and_true]at h3;rw[h3]
   ·simp at h3
  ·rename_i x aw;simp only[execOp,aw,lH]at h3⊢;rcases h3 with h3|⟨f,args,h3,_⟩
   ·simp only[aPb,aPc,and_true]at h3;rw[h3]
   ·simp at h3
  ·rename_i x i aw;simp only[execOp,aw,jV]at h3⊢;unfold asd at h3⊢;cases hx:a.eval x<;>simp only[hx]at h3⊢<;>try(simp[aPd]at h3;done)
   rename_i vs;cases hv:vs[i]? with
   |none=>simp[hv,aPd]at h3
   |some u=>simp[hv]at h3;simp[h3]
  ·cases hf
 ·exact .inr h
theorem aKG {n:Nat} {listed:Array Bool} (hs:ap3 ops n=true) (hc:aO7 .any ops n=true) (hn:n<ops.size) (inv:HeadInv .any ops n listed):
 ∀(d i:Nat),n-i=d->i<n->zY ops i=false->listed.getD i false=false->∀t,n<=t->t∉zA .any ops listed:=by
 intro d;induction d using Nat.strongRecOn with
 |_ d ih=>
  intro i hd hi mR xe t aA hr;obtain⟨_,aoO,aa9,jR⟩:=mem_ready.1 hr;have aAL:t<ops.size:=(Array.getElem?_eq_some_iff.1 aa9).1;by_cases aAM:t=n
  ·subst aAM;have h1:=List.all_eq_true.1 hs i (List.mem_range.2 hi);simp only[mR,I0]at h1;obtain⟨j,aO,yq⟩:=List.any_eq_true.1 h1;simp only[bA,Ea]at yq;obtain⟨⟨alS,Nt⟩,aaU⟩:=yq;have alS:=vu alS;obtain⟨fh,yu,e,he,hb,Su⟩:=I1 Nt;have aRb:j<=t:=by have:=List.mem_range.1 aO;omega
   by_cases alV:j=t
   ·subst alV;have:fh=aoO:=iH (yu.symm.trans aa9);subst this;have h2:=jR e he hb;rw[Su,xe]at h2;cases h2
   ·cases hl:listed.getD j false with
    |true=>
     have h2:=inv.closed j fh yu hl e he hb;rw[Su,xe]at h2;cases h2
    |false=>
     have azz:zY ops j=false:=by
      rcases aaU with h3|h3
      ·exact absurd (bV h3) alV
      ·simpa using h3
     exact ih (t-j) (by omega) j rfl (by omega) azz hl t (bS _) hr
  ·have h1:=List.all_eq_true.1 hc t (List.mem_range.2 aAL);simp only[Ea,decide_eq_true_eq]at h1;rcases h1 with h1|h1
   ·omega
   ·obtain⟨c4,kE,e,he,hb,Su⟩:=I1 h1;have:c4=aoO:=iH (kE.symm.trans aa9);subst this;have h2:=jR e he hb;rw[Su,I2 (inv.tail (t-1) (by omega) (by omega))]at h2;cases h2
theorem axB {o:Oper} (h:JJ o=true):iR o=false:=by
 unfold JJ at h;unfold iR;cases aw:o.op<;>simp only[aw]at h⊢<;>cases h
theorem aDp {n i j:Nat} {nD fh:Oper} {d:Tmp} (h:aov ops n=true) (hi:i<n) (aw:ops[i]?=some nD) (gT:iR nD=true) (hd:nD.dst=some d) (aO:j<n) (yu:ops[j]?=some fh):d∉fh.looksAt ops:=by
 have h1:=List.all_eq_true.1 h i (List.mem_range.2 hi);have ha:wF ops i=true:=by simp[wF,aw,gT]
 simp only[ha,cL,I0,aw,hd]at h1;have h2:=List.all_eq_true.1 h1 j (List.mem_range.2 aO);simp only[yu,cy]at h2;intro hm;have:(fh.looksAt ops).contains d=true:=by simpa using hm
 rw[this]at h2;cases h2
theorem aOg {Q:Exit->Act->aC->Prop} {o:Oper} {i:Nat} {v:a6} {a:Act} {w:aC} {K:Act->aC->Prop} (hi:ops[i]?=some o) (jQ:C w) (hy:Ba P ops C o v a) (h:∀w',w.Extends w'->K (a.put o.dst v) w'):wpOp P ops Q i K a w:=by
 unfold wpOp;simp only[hi];rcases hy with⟨h1,h2⟩|⟨h1,h2⟩
 ·rw[if_pos h1];refine .inl ?_;unfold qR;rcases h2 w jQ with h3|⟨f,args,h3,h4⟩
  ·rw[h3];exact h w (sA w)
  ·rw[h3];refine h4.mono λe tn ⟨he,hx⟩=>?_;subst he;exact h tn hx
 ·rw[if_neg (by simp[h1]),<-h2];exact h w (sA w)
theorem Ba.of_same {o:Oper} {v:a6} {a dW:Act} (hy:Ba P ops C o v a) (he:execOp dW.eval o=execOp a.eval o) (hw:Cy o (yielded ops dW.tmps)=Cy o (yielded ops a.tmps)):Ba P ops C o v dW:=by
 unfold Ba Gp at*;rw[he,hw];exact hy
structure ahq (ops:Array Oper) (n:Nat) (S:Nat->Prop) (a wH b:Act) (iC:Nat->Nat):Prop where
 d:b.defers=a.defers
 bE:b.tmps.size=a.tmps.size
 q:∀t:Nat,(∃j o,j<n/\S j/\ops[j]?=some o/\iR o=false/\o.dst=some t)->b.tmps[t]?=wH.tmps[t]?
 al:∀(t:Nat) j o,j<n->S j->ops[j]?=some o->iR o=true->o.dst=some t->t<b.tmps.size->b.tmps[t]?=some (.pointer (some ⟨iC j,0,none⟩))
 no:∀t:Nat,(∀j o,j<n->S j->ops[j]?=some o->o.dst≠some t)->b.tmps[t]?=a.tmps[t]?
structure Fin (ops:Array Oper) (n:Nat) (wH b:Act) (iC:Nat->Nat):Prop where
 d:b.defers=wH.defers
 bE:b.tmps.size=wH.tmps.size
 al:∀(t:Nat) j o,j<n->ops[j]?=some o->iR o=true->o.dst=some t->t<b.tmps.size->b.tmps[t]?=some (.pointer (some ⟨iC j,0,none⟩))
 no:∀t:Nat,(∀j o,j<n->ops[j]?=some o->iR o=true->o.dst≠some t)->b.tmps[t]?=wH.tmps[t]?
def El (ops:Array Oper) (n:Nat) (S:Nat->Prop) (Z:Nat->Obj) (iC:Nat->Nat) (bE:Nat) (w:aC):Prop:=
 (∀j,j<n->S j->wF ops j=true->bE<=iC j/\w.heap[iC j]?=some (Z j))/\∀i j,i<n->j<n->S i->S j->wF ops i=true->wF ops j=true->iC i=iC j->i=j
theorem El.grow {n:Nat} {S:Nat->Prop} {Z:Nat->Obj} {iC:Nat->Nat} {bE:Nat} {w w':aC} (h:El ops n S Z iC bE w) (he:w.Extends w'):El ops n S Z iC bE w':=
 ⟨λj h1 h2 h3=>by
  obtain⟨h4,h5⟩:=h.1 j h1 h2 h3;exact⟨h4,by rw[he.block _ (Array.getElem?_eq_some_iff.1 h5).1];exact h5⟩,h.2⟩
theorem aOh {Q:Exit->Act->aC->Prop} {a:Act} {w:aC} {l:List Oper} (n:Nat) (Z:Nat->Obj) (hm:P.follows .mixedOrders=true) (dm:Lm l.toArray n=true) (jQ:∀w',w.drew.Extends w'->C w')
 (Hf:∀j o,j<n->l.toArray[j]?=some o->iR o=true->∀(b:Act) w',(execOp b.eval o).run P w'= .ok (.value (.pointer (some ⟨w'.heap.size,0,none⟩))) (w'.alloc (Z j)))
 (h:Gm P l.toArray C (λwH=>∀iC b w',Fin l.toArray n wH b iC->w.drew.Extends w'->El l.toArray n (λ_=>True) Z iC w.drew.heap.size w'->wpList P l.toArray (calm Q) (l.drop n) b w') (l.take n) a):wpAny P .any l.toArray (calm Q) l.toArray.size (Cu l.toArray.size false) a {w with drawn:=w.drawn+1}:=by
 simp only[Lm,bA]at dm;obtain⟨⟨⟨⟨⟨⟨az5,azB⟩,ys⟩,BA⟩,hle⟩,ame⟩,aAz⟩:=dm;have hle:n<=l.length:=by simpa using gY hle
 obtain⟨as,vs,cw,hs,bI⟩:=adW _ _ h;have hlen:(l.take n).length=n:=by simp;omega
 rw[hlen]at bI;have hj:∀i,i<n->∃o,l.toArray[i]?=some o/\(iR o=false->Ba P l.toArray C o (vs i) (as i)/\as (i+1)=(as i).put o.dst (vs i))/\(iR o=true->as (i+1)=as i):=λi hi=>by
  have hlt:i<l.length:=by omega
  have h1:(l.take n)[i]?=some l[i]:=by rw[vm,if_pos hi,nI hlt]
  have h2:=hs i _ h1;exact⟨l[i],by simp[hlt],h2⟩
 have Nf:∀i,i<=n->(as i).defers=a.defers/\(as i).tmps.size=a.tmps.size:=by
  intro i;induction i with
  |zero=>intro _;rw[cw];exact⟨rfl,rfl⟩
  |succ i ih=>
   intro hi;obtain⟨o,aw,h1,h2⟩:=hj i (by omega);cases gT:iR o with
   |true=>rw[h2 gT];exact ih (by omega)
   |false=>rw[(h1 gT).2,put_defers,H2];exact ih (by omega)
 have ala:∀i,i<=n->∀t:Nat,(∀j o,j<i->l.toArray[j]?=some o->iR o=false->o.dst≠some t)->(as i).tmps[t]?=a.tmps[t]?:=by
  intro i;induction i with
  |zero=>intro _ t _;rw[cw]
  |succ i ih=>
   intro hi t mS;obtain⟨o,aw,h1,h2⟩:=hj i (by omega);have amA:=ih (by omega) t λj o aO=>mS j o (by omega);cases gT:iR o with
   |true=>rw[h2 gT];exact amA
   |false=>rw[(h1 gT).2,BY (mS i o (by omega) aw gT)];exact amA
 have ak9:∀(d i:Nat),i+d=n->∀t:Nat,(∃j o,j<i/\l.toArray[j]?=some o/\o.dst=some t)->(as n).tmps[t]?=(as i).tmps[t]?:=by
  intro d;induction d with
  |zero=>intro i hi t _;rw[show i=n by omega]
  |succ d ih=>
   intro i hi t aO;obtain⟨o,aw,h1,h2⟩:=hj i (by omega);rw[ih (i+1) (by omega) t (by obtain⟨j,o,h1,h2⟩:=aO;exact⟨j,o,by omega,h2⟩)];cases gT:iR o with
   |true=>rw[h2 gT]
   |false=>
    rw[(h1 gT).2];obtain⟨j,fh,Nt,yq,aaU⟩:=aO;exact BY ((Bi BA (show i<n by omega) aw).2.2 j fh t (by omega) (by omega) yq aaU).1
 have hsz:l.toArray.size=l.length:=by simp
 have main:∀(f:Nat) (listed:Array Bool) (b:Act) (eR:aC) (iC:Nat->Nat),HeadInv .any l.toArray n listed->w.drew.Extends eR->
  ahq l.toArray n (λj=>listed.getD j false=true) a (as n) b iC->El l.toArray n (λj=>listed.getD j false=true) Z iC w.drew.heap.size eR->
  (ga n).countP (λi=> !listed.getD i false)+(l.length-n)<=f->wpAny P .any l.toArray (calm Q) f listed b eR:=by
  intro f;have done:∀(listed:Array Bool) (b:Act) (eR:aC) (iC:Nat->Nat),HeadInv .any l.toArray n listed->w.drew.Extends eR->
   ahq l.toArray n (λj=>listed.getD j false=true) a (as n) b iC->El l.toArray n (λj=>listed.getD j false=true) Z iC w.drew.heap.size eR->(∀i,i<n->listed.getD i false=true)->
   wpAny P .any l.toArray (calm Q) (l.drop n).length listed b eR:=by
   intro listed b eR iC inv ym o0 z6 jR;have hl:listed=aaI l.toArray.size n:=by
    apply aPa;intro i;unfold aaI;simp only[Qx,rC];rcases Ec i l.length with hi|hi
    ·rw[List.getElem?_range (by simpa using hi)];have eN:i<listed.size:=by rw[inv.size];simpa using hi
     rcases Ec i n with e3|e3
     ·have:=jR i e3;simp[eN]at this;simp[eN,this,aCW e3]
     ·have:=inv.tail i e3 (by simpa using hi);simp[eN]at this;have hb:ea i n=false:=by cases ai:ea i n with|false=>rfl|true=>have:=vu ai;omega
      simp[eN,this,hb]
    ·have h1:listed.size<=i:=by rw[inv.size];simpa using hi
     have h2:(ga l.toArray.size)[i]?=none:=by simp;omega
     rw[h2,Wh h1];rfl
   have Sz:aO8 .any l.toArray (l.drop n).length n listed=true:=by rw[hl];simpa using aAz
   refine wpAny_of_seq (P:=P) (md:= .any) (Q':=calm Q) (l.drop n) n listed b eR (λj=>by simp[Cw]) Sz (bI iC b eR ?_ ym ?_)
   ·refine⟨o0.d.trans (Nf n (bS _)).1.symm,o0.bE.trans (Nf n (bS _)).2.symm,λt j o h1 h3 h4 h5=>o0.al t j o h1 (jR j h1) h3 h4 h5,λt mS=>?_⟩;by_cases ai:∃j o,j<n/\l.toArray[j]?=some o/\iR o=false/\o.dst=some t
    ·obtain⟨j,o,h1,h2,h3,h4⟩:=ai;exact o0.q t ⟨j,o,h1,jR j h1,h2,h3,h4⟩
    ·have Af:∀j o,j<n->l.toArray[j]?=some o->iR o=false->o.dst≠some t:=λj o h1 h2 h3 h4=>ai ⟨j,o,h1,h2,h3,h4⟩;rw[o0.no t λj o h1 _ h3=>(by
      cases gT:iR o with
      |true=>exact mS j o h1 h3 gT
      |false=>exact Af j o h1 h3 gT),ala n (bS _) t Af]
   ·exact⟨λj h1 _ h3=>z6.1 j h1 (jR j h1) h3,λi j h1 h2 _ _ h5 h6=>z6.2 i j h1 h2 (jR i h1) (jR j h2) h5 h6⟩
  have ah7:∀(listed:Array Bool),(ga n).countP (λi=> !listed.getD i false)=0->∀i,i<n->listed.getD i false=true:=λlisted hc i hi=>by
   cases ai:listed.getD i false with
   |true=>rfl
   |false=>
    have:0<(ga n).countP (λi=> !listed.getD i false):=List.countP_pos_iff.2 ⟨i,List.mem_range.2 hi,by simp[ai]⟩;omega
  induction f with
  |zero=>
   intro listed b eR iC inv ym o0 z6 hf;have:=done listed b eR iC inv ym o0 z6 (ah7 listed (by omega));exact aqU this (by simp;omega)
  |succ f ih=>
   intro listed b eR iC inv ym o0 z6 hf;by_cases azj:(ga n).countP (λi=> !listed.getD i false)=0
   ·exact aqU (done listed b eR iC inv ym o0 z6 (ah7 listed azj)) (by simp;omega)
   ·
    have uR:∃i,i<n/\listed.getD i false=false:=by
     have h1:0<(ga n).countP (λi=> !listed.getD i false):=by omega
     obtain⟨i,hi,ai⟩:=List.countP_pos_iff.1 h1;exact⟨i,List.mem_range.1 hi,by simpa using ai⟩
    have dz:zA .any l.toArray listed≠[]:=by
     have key:∀k,∀i,i<=k->i<n->listed.getD i false=false->zA .any l.toArray listed≠[]:=by
      intro k;induction k with
      |zero=>
       intro i aaR e3 ai tL;obtain⟨o,aw,_,_⟩:=hj i e3;have hlt:i<listed.size:=by rw[inv.size];exact(Array.getElem?_eq_some_iff.1 aw).1
       have:i∈zA .any l.toArray listed:=mem_ready.2 ⟨getD_in hlt ai,o,aw,λe he hb=>by have:=(Bi BA e3 aw).1 e he hb;omega⟩;rw[tL]at this;cases this
      |succ k abE=>
       intro i aaR e3 ai tL;obtain⟨o,aw,_,_⟩:=hj i e3;have hlt:i<listed.size:=by rw[inv.size];exact(Array.getElem?_eq_some_iff.1 aw).1
       have:i∈zA .any l.toArray listed:=mem_ready.2 ⟨getD_in hlt ai,o,aw,λe he hb=>by
        have h1:=(Bi BA e3 aw).1 e he hb;cases xb:listed.getD e.on false with
        |true=>rfl
        |false=>exact absurd tL (abE e.on (by omega) (by omega) xb)⟩
       rw[tL]at this;cases this
     obtain⟨i,hi,ai⟩:=uR;exact key i i (bS _) hi ai
    have eO:∀i,i∈zA .any l.toArray listed->∀j,(listed.setIfInBounds i true).getD j false=true↔(j=i∨listed.getD j false=true):=λi hi j=>by
     obtain⟨xe,nD,Hs,jR⟩:=mem_ready.1 hi;have hlt:i<listed.size:=by rw[inv.size];exact(Array.getElem?_eq_some_iff.1 Hs).1
     by_cases aO:i=j
     ·subst aO;simp[hlt]
     ·rw[getD_set_ne false aO];exact⟨.inr,λh=>h.resolve_left (λe=>aO e.symm)⟩
    have alY:∀i,i∈zA .any l.toArray listed->i<n->(ga n).countP (λj=> !(listed.setIfInBounds i true).getD j false)+(l.length-n)<=f:=λi hi e3=>by
     obtain⟨xe,_⟩:=mem_ready.1 hi;have:(ga n).countP (λj=> !(listed.setIfInBounds i true).getD j false)<(ga n).countP (λj=> !listed.getD j false):=by
      refine ajK (λj _ aO=>?_) ⟨i,List.mem_range.2 e3,?_,?_⟩
      ·cases ai:listed.getD j false with
       |false=>rfl
       |true=>rw[(eO i hi j).2 (.inr ai)]at aO;cases aO
      ·simp only[I2 xe];rfl
      ·simp only[(eO i hi i).2 (.inl rfl)];rfl
     omega
    have step:∀i,i∈zA .any l.toArray listed->i<n->∀o,l.toArray[i]?=some o->iR o=false->Ba P l.toArray C o (vs i) b/\∀w',eR.Extends w'->wpAny P .any l.toArray (calm Q) f (listed.setIfInBounds i true) (b.put o.dst (vs i)) w':=by
     intro i hi e3 o aw gT;obtain⟨xe,nD,Hs,jR⟩:=mem_ready.1 hi;have:o=nD:=iH (aw.symm.trans Hs);subst this;obtain⟨c4,kE,abu,_⟩:=hj i e3;have:c4=o:=iH (kE.symm.trans aw);subst this;obtain⟨hy,he⟩:=abu gT;have Fe:=Bi BA e3 aw;have amg:∀t:Nat,t∈c4.looksAt l.toArray->b.tmps[t]?=(as i).tmps[t]?:=λt aA=>by
      by_cases hw:∃j fh,j<i/\l.toArray[j]?=some fh/\iR fh=false/\fh.dst=some t
      ·obtain⟨j,fh,h1,h2,Hb,h3⟩:=hw;rw[<-ak9 (n-i) i (by omega) t ⟨j,fh,h1,h2,h3⟩];refine o0.q t ⟨j,fh,by omega,?_,h2,Hb,h3⟩;rcases(Fe.2.2 j fh t (by omega) (by omega) h2 h3).2 aA with h4|h4
       ·obtain⟨adf,aa7,e,Aa,Ab,C3⟩:=I1 h4;have:adf=c4:=iH (aa7.symm.trans aw);subst this;have:=jR e Aa Ab
        rwa [C3]at this
       ·obtain⟨KQ,NF,e,Aa,Ab,C3⟩:=I1 h4;have:KQ=fh:=iH (NF.symm.trans h2);subst this;have:=(Bi BA (show j<n by omega) h2).1 e Aa Ab;omega
      ·rw[ala i (by omega) t λj fh h1 h2 Hb h3=>hw ⟨j,fh,h1,h2,Hb,h3⟩];refine o0.no t λj fh h1 hl h2 h3=>?_;cases ali:iR fh with
       |true=>exact aDp ys h1 h2 ali h3 e3 aw aA
       |false=>
        by_cases qw:j=i
        ·subst qw;rw[I2 xe]at hl;cases hl
        ·rcases(Fe.2.2 j fh t h1 qw h2 h3).2 aA with h4|h4
         ·obtain⟨adf,aa7,e,Aa,Ab,C3⟩:=I1 h4;have:adf=c4:=iH (aa7.symm.trans aw);subst this;have:=Fe.1 e Aa Ab;exact hw ⟨j,fh,by omega,h2,ali,h3⟩
         ·obtain⟨KQ,NF,e,Aa,Ab,C3⟩:=I1 h4;have:KQ=fh:=iH (NF.symm.trans h2);subst this;have:=inv.closed j KQ h2 hl e Aa Ab;rw[C3,I2 xe]at this;cases this
     have azx:∀x∈c4.op.operands,b.eval x=(as i).eval x:=λx hx=>by
      cases x with
      |tmp t=>
       have:=amg t (List.mem_append_left _ (List.mem_filterMap.2 ⟨.tmp t,by simpa using hx,rfl⟩));simp only[Act.eval];simp[this]
      |_=>rfl
     have hex:execOp b.eval c4=execOp (as i).eval c4:=execOp_congr c4 Fe.2.1 azx;have aA5:Cy c4 (yielded l.toArray b.tmps)=Cy c4 (yielded l.toArray (as i).tmps):=by
      unfold Cy;cases hg:c4.guard with
      |none=>rfl
      |some Z0=>
       obtain⟨g,want⟩:=Z0;have:yielded l.toArray b.tmps g=yielded l.toArray (as i).tmps g:=by
        unfold yielded;cases aA:(l.toArray[g]?).bind (·.dst)with
        |none=>rfl
        |some t=>
         have:=amg t (List.mem_append_right _ (by simp only[hg,aA];simp));simp[this]
       simp only[this]
     refine⟨hy.of_same hex aA5,λw' yy=>?_⟩;refine ih _ _ _ iC (inv.set hi e3) (ym.trans yy) ⟨(put_defers _ _ _).trans o0.d,(H2 _ _ _).trans o0.bE,?_,?_,?_⟩ (El.grow (w:=eR) ⟨λj h1 h2 h3=>?_,λi1 fK h1 h2 h3 h4 h5 h6=>?_⟩ yy) (alY i hi e3)
     ·rintro t ⟨j,fh,h1,h2,h3,E5,h4⟩
      by_cases aA:c4.dst=some t
      ·have ar:(as n).tmps[t]?=(as (i+1)).tmps[t]?:=ak9 (n-(i+1)) (i+1) (by omega) t ⟨i,c4,by omega,aw,aA⟩;rw[ar,he,aA];simp only[LQ];have amc:b.tmps.size=(as i).tmps.size:=o0.bE.trans (Nf i (by omega)).2.symm;rcases Ec t b.tmps.size with h5|h5
       ·simp[h5,amc▸h5]
       ·rw[Wh (by simpa using h5),Wh (by rw[Array.size_setIfInBounds,<-amc];exact h5)]
      ·rw[BY aA];rcases(eO i hi j).1 h2 with rfl|h5
       ·have:fh=c4:=iH (h3.symm.trans aw);subst this;exact absurd h4 aA
       ·exact o0.q t ⟨j,fh,h1,h5,h3,E5,h4⟩
     ·intro t j fh h1 h2 h3 h4 h5 h6;rcases(eO i hi j).1 h2 with rfl|h7
      ·have:fh=c4:=iH (h3.symm.trans aw);subst this;rw[gT]at h4;cases h4
      ·have qw:j≠i:=λe=>by subst e;rw[I2 xe]at h7;cases h7
       have aA:c4.dst≠some t:=(Fe.2.2 j fh t h1 qw h3 h5).1;rw[BY aA];rw[H2]at h6;exact o0.al t j fh h1 h7 h3 h4 h5 h6
     ·intro t mS;have aA:c4.dst≠some t:=mS i c4 e3 ((eO i hi i).2 (.inl rfl)) aw;rw[BY aA];exact o0.no t λj fh h1 h2 h3=>mS j fh h1 ((eO i hi j).2 (.inr h2)) h3
     ·rcases(eO i hi j).1 h2 with rfl|h7
      ·simp[wF,aw,gT]at h3
      ·exact z6.1 j h1 h7 h3
     ·have k1:listed.getD i1 false=true:=by
       rcases(eO i hi i1).1 h3 with rfl|h7
       ·simp[wF,aw,gT]at h5
       ·exact h7
      have k2:listed.getD fK false=true:=by
       rcases(eO i hi fK).1 h4 with rfl|h7
       ·simp[wF,aw,gT]at h6
       ·exact h7
      exact z6.2 i1 fK h1 h2 k1 k2 h5 h6
    by_cases mR:∃i,i∈zA .any l.toArray listed/\i<n/\zY l.toArray i=true
    ·obtain⟨i,hi,e3,uO⟩:=mR;obtain⟨o,aw,_,_⟩:=hj i e3;obtain⟨xe,nD,Hs,jR⟩:=mem_ready.1 hi;have alK:JJ o=true:=by unfold zY at uO;simpa [aw]using uO
     have gT:iR o=false:=axB alK;obtain⟨Fl,aa5⟩:=step i hi e3 o aw gT;refine wpAny_first aw (Region.noSelect_spec az5) (λc dW w' ai=>ai.elim) f listed b eR (λj fh yu qw azP azO=>?_) hi (axC alK (jQ eR ym) Fl) (aa5 eR (sA eR));have NC:Ee .any l.toArray j i=false:=by
      cases ai:Ee .any l.toArray j i with
      |false=>rfl
      |true=>
       obtain⟨KQ,NF,e,Aa,Ab,C3⟩:=I1 ai;have:KQ=fh:=iH (NF.symm.trans yu);subst this;exact absurd C3 (azO e Aa Ab)
     have al4:j<n->Ee .any l.toArray i j=false:=λJ7=>by
      cases ai:Ee .any l.toArray i j with
      |false=>rfl
      |true=>
       obtain⟨c4,kE,e,Aa,Ab,C3⟩:=I1 ai;have:c4=nD:=iH (kE.symm.trans Hs);subst this;have:=jR e Aa Ab;rw[C3,I2 azP]at this;cases this
     by_cases J7:j<n
     ·have d1:=(Bi BA e3 aw).2.2 j fh;have d2:=(Bi BA J7 yu).2.2 i o;simp only[Oper.apart,bA];constructor
      ·cases hd:o.dst with
       |none=>rfl
       |some d=>
        have:=d2 d e3 (λe=>qw e.symm) aw hd;simp only[bA,cy,bne_iff_ne,ne_eq];refine⟨?_,this.1⟩;cases hc:(fh.looksAt l.toArray).contains d with
        |false=>rfl
        |true=>
         rcases this.2 (by simpa using hc)with h1|h1
         ·rw[NC]at h1;cases h1
         ·rw[al4 J7]at h1;cases h1
      ·cases hd:fh.dst with
       |none=>rfl
       |some d=>
        have:=d1 d J7 qw yu hd;simp only[cy];cases hc:(o.looksAt l.toArray).contains d with
        |false=>rfl
        |true=>
         rcases this.2 (by simpa using hc)with h1|h1
         ·rw[al4 J7]at h1;cases h1
         ·rw[NC]at h1;cases h1
     ·have h1:=List.all_eq_true.1 azB i (List.mem_range.2 e3);simp only[uO,cL,I0]at h1;have h2:=List.all_eq_true.1 h1 j (List.mem_range.2 (Array.getElem?_eq_some_iff.1 yu).1);have hb:ea j n=false:=by cases ai:ea j n with|false=>rfl|true=>exact absurd (vu ai) J7
      simp only[hb,NC,I0,aw,yu]at h2;exact h2
    ·
     have az4:∃i,i<n/\zY l.toArray i=false/\listed.getD i false=false:=by
      have key:∀k,∀i,i<=k->i<n->listed.getD i false=false->∃i,i<n/\zY l.toArray i=false/\listed.getD i false=false:=by
       intro k;induction k with
       |zero=>
        intro i aaR e3 ai;cases mw:zY l.toArray i with
        |false=>exact⟨i,e3,mw,ai⟩
        |true=>
         obtain⟨o,aw,_,_⟩:=hj i e3;have hlt:i<listed.size:=by rw[inv.size];exact(Array.getElem?_eq_some_iff.1 aw).1
         exact absurd ⟨i,mem_ready.2 ⟨getD_in hlt ai,o,aw,λe he hb=>by have:=(Bi BA e3 aw).1 e he hb;omega⟩,e3,mw⟩ mR
       |succ k abE=>
        intro i aaR e3 ai;cases mw:zY l.toArray i with
        |false=>exact⟨i,e3,mw,ai⟩
        |true=>
         obtain⟨o,aw,_,_⟩:=hj i e3;have hlt:i<listed.size:=by rw[inv.size];exact(Array.getElem?_eq_some_iff.1 aw).1
         by_cases alB:∀e∈o.after,af5 .any e=true->listed.getD e.on false=true
         ·exact absurd ⟨i,mem_ready.2 ⟨getD_in hlt ai,o,aw,alB⟩,e3,mw⟩ mR
         ·have hex:∃e,e∈o.after/\af5 .any e=true/\¬listed.getD e.on false=true:=by
           apply afU;intro mS;exact alB λe he hb=>afU λxb=>mS ⟨e,he,hb,xb⟩
          obtain⟨e,he,hb,xb⟩:=hex;have h1:=(Bi BA e3 aw).1 e he hb;exact abE e.on (by omega) (by omega) (by simpa using xb)
      obtain⟨i,hi,ai⟩:=uR;exact key i i (bS _) hi ai
     refine⟨λh0=>absurd h0 dz,λi hi=>?_⟩;have e3:i<n:=by
      rcases Ec i n with h1|h1
      ·exact h1
      ·exfalso;obtain⟨_,nD,Hs,_⟩:=mem_ready.1 hi;have aQ8:i<l.toArray.size:=(Array.getElem?_eq_some_iff.1 Hs).1;simp only[Ea,bA]at ame;rcases ame with h2|⟨h2,h3⟩
       ·have:=bV h2;omega
       ·obtain⟨i0,azJ,J1,Ag⟩:=az4;exact aKG h2 h3 (by omega) inv (n-i0) i0 rfl azJ J1 Ag i h1 hi
     obtain⟨o,aw,_,_⟩:=hj i e3;cases gT:iR o with
     |false=>
      obtain⟨Fl,aa5⟩:=step i hi e3 o aw gT;exact aOg aw (jQ eR ym) Fl aa5
     |true=>
      obtain⟨xe,_⟩:=mem_ready.1 hi;have jB:o.guard=none/\∃d,o.dst=some d:=by
       unfold iR at gT;split at gT
       ·rename_i h1 h2 h3;exact⟨h2,_,h3⟩
       ·cases gT
      obtain⟨jB,d,hd⟩:=jB;have Fe:=Bi BA e3 aw;unfold wpOp;simp only[aw];rw[if_pos (by simp[Cy,jB])];refine .inl ?_;unfold qR;rw[Hf i o e3 aw gT b eR];show wpAny P .any l.toArray (calm Q) f (listed.setIfInBounds i true) (b.put o.dst _) _;have abB:∀j,j<n->listed.getD j false=true->wF l.toArray j=true->iC j<eR.heap.size:=λj h1 h2 h3=>(Array.getElem?_eq_some_iff.1 (z6.1 j h1 h2 h3).2).1;refine ih _ _ _ (λj=>if j=i then eR.heap.size else iC j) (inv.set hi e3) (ym.alloc _) ⟨(put_defers _ _ _).trans o0.d,(H2 _ _ _).trans o0.bE,?_,?_,?_⟩ ⟨λj h1 h2 h3=>?_,λi1 fK h1 h2 h3 h4 h5 h6 h7=>?_⟩ (alY i hi e3)
      ·rintro t ⟨j,fh,h1,h2,h3,E5,h4⟩
       rcases(eO i hi j).1 h2 with rfl|h5
       ·have:fh=o:=iH (h3.symm.trans aw);subst this;rw[gT]at E5;cases E5
       ·have qw:j≠i:=λe=>by subst e;rw[I2 xe]at h5;cases h5
        rw[BY (Fe.2.2 j fh t h1 qw h3 h4).1];exact o0.q t ⟨j,fh,h1,h5,h3,E5,h4⟩
      ·intro t j fh h1 h2 h3 h4 h5 h6;rcases(eO i hi j).1 h2 with rfl|h7
       ·have:fh=o:=iH (h3.symm.trans aw);subst this;rw[h5];simp only[if_true];rw[H2]at h6;simp[LQ,h6]
       ·have qw:j≠i:=λe=>by subst e;rw[I2 xe]at h7;cases h7
        rw[BY (Fe.2.2 j fh t h1 qw h3 h5).1];rw[H2]at h6;rw[if_neg qw];exact o0.al t j fh h1 h7 h3 h4 h5 h6
      ·intro t mS;rw[BY (mS i o e3 ((eO i hi i).2 (.inl rfl)) aw)];exact o0.no t λj fh h1 h2 h3=>mS j fh h1 ((eO i hi j).2 (.inr h2)) h3
      ·show w.drew.heap.size<=(if j=i then eR.heap.size else iC j)/\(eR.alloc (Z i)).heap[(if j=i then eR.heap.size else iC j)]?=some (Z j);by_cases qw:j=i
       ·subst qw;rw[if_pos rfl];exact⟨ym.size,heap_alloc_new eR (Z j)⟩
       ·rw[if_neg qw];have h7:=((eO i hi j).1 h2).resolve_left qw;obtain⟨b4,dd⟩:=z6.1 j h1 h7 h3;exact⟨b4,by rw[heap_alloc_old eR _ (abB j h1 h7 h3)];exact dd⟩
      ·change (if i1=i then eR.heap.size else iC i1)=(if fK=i then eR.heap.size else iC fK)at h7;by_cases b4:i1=i<;>by_cases dd:fK=i
       ·rw[b4,dd]
       ·rw[if_pos b4,if_neg dd]at h7;have:=abB fK h2 (((eO i hi fK).1 h4).resolve_left dd) h6;omega
       ·rw[if_neg b4,if_pos dd]at h7;have:=abB i1 h1 (((eO i hi i1).1 h3).resolve_left b4) h5;omega
       ·rw[if_neg b4,if_neg dd]at h7;exact z6.2 i1 fK h1 h2 (((eO i hi i1).1 h3).resolve_left b4) (((eO i hi fK).1 h4).resolve_left dd) h5 h6 h7
 have aBI:HeadInv .any l.toArray n (Cu l.toArray.size false):=
  ⟨by simp,λj fh _ hl=>(by rw[getD_replicate_false]at hl;cases hl),λt _ aA=>getD_in (by simpa using aA) (getD_replicate_false _ _)⟩
 have TX:∀j,¬(Cu l.toArray.size false).getD j false=true:=λj h=>by rw[getD_replicate_false]at h;cases h
 refine main l.toArray.size _ a _ (λ_=>0) aBI (sA w.drew) ⟨rfl,rfl,λt ⟨j,o,_,h2,_⟩=>absurd h2 (TX j),λt j o _ h2=>absurd h2 (TX j),λ_ _=>rfl⟩ ⟨λj _ h2=>absurd h2 (TX j),λi j _ _ h3=>absurd h3 (TX i)⟩ ?_;have:(ga n).countP (λi=> !(Cu l.toArray.size false).getD i false)<=n:=by
  have:=List.countP_le_length (p:=λi=> !(Cu l.toArray.size false).getD i false) (l:=ga n);simpa using this
 omega
end
end Go.bX
namespace Go.bX
open M
inductive X where
 |normal
 |exit (id:Nat)
 |ret
def X.to:X->Exit
 |normal=> .normal
 |exit id=> .exit id
 |ret=> .ret
abbrev iP:=Nat->List V->List aH->T
abbrev x1:=X->iP
abbrev RK:=Nat->V->List aH->T
abbrev mH:=dD->Nat->List V->List aH->RK->T
structure gz where
 ij:List Nat
 ints:List (Nat×Int×Int)
 cells:List (Nat×Nat×Int×Int)
 vw:List Nat:=[]
 uv:List (Nat×List aV×bw):=[]
 PT:List (Nat×List aV×Nat):=[]
 pX:List (Nat×List aV):=[]
def eD:List aH->Nat->aH->List aH
 |[],_,_=>[]
 |_::r,0,b=>b::r
 |x::r,i+1,b=>x::eD r i b
theorem m3:∀(l:List aH) (i:Nat) (b:aH),eD l i b=l.set i b
 |[],_,_=>rfl
 |_::_,0,_=>rfl
 |_::r,i+1,b=>by simp[eD,m3 r i b]
def aJe (cal:gy) (dyn:Bool) (o:Oper):Bool:=
 match o.op with
 | .alloc _| .box _ _| .store _ _ _| .buildSlice _ _ _| .makeSlice _ _ _=>false
 | .call c=>match c.callee with
  | .value (.func f)=>(cal f).isSome
  | .value (.tmp _)=>dyn
  | .builtin .append=>false
  | .builtin .clear=>false
  | .builtin .copy=>false
  |_=>true
 |_=>true
def PM (z:List A) (len:Nat):List A:=(ga (len*z.length)).map λi=>(z[i% z.length]?).getD (.con undef)
def YR (P:bU) (t:bw) (len:Nat) (parts:List (Nat×V)):Option (List A×bw):=
 match lB P t with
 |some e=>match hq P e,rA P e with
  |some s,some z=>cond (aR z.length s&&ea 0 s&&cJ (len*s) 16777216) (match Bs (λi=>some (i*s,s)) (PM z len) parts with|some cs=>some (cs,e)|none=>none) none
  |_,_=>none
 |none=>none
def yp (bl:List aH) (b off k:Nat):Option (List A):=
 match bl[b]? with
 |some (cs,_)=>cond (cJ (off+k) cs.length&&cd cs) (some ((cs.drop off).take k)) none
 |none=>none
def RX (i:TypeInfo) (e:bw) (z:List A) (d:Option Tmp) (iA uh len:Nat) (olds news:List A) (n:Nat) (tm:List V) (bl:List aH) (k:iP):T:=
 cond (cJ (iA+len) 1000000&&cJ (Builtin.nextslicecap (iA+len) uh*i.bytes) 281474976710656&&ea uh (iA+len)&&ea 0 len&&aR z.length i.size&&ea 0 i.size&&cd (olds++news)&&cd (olds++news++z))
  (.both (k n (ie tm d (.w (.one (.slc bl.length 0 (iA+len) (iA+len))))) (bl++[(olds++news,(e,false))]))
    (k n (ie tm d (.td bl.length (iA+len) (iA+len+1))) (bl++[(olds++news++z,(e,true))]))) .stuck
def abI:V->Bool
 | .w (.one (.con (.slice none 0 0)))=>true
 |_=>false
def Yt (P:bU) (d:Option Tmp) (t t':bw) (s x:V) (n:Nat) (tm:List V) (bl:List aH) (k:iP):T:=
 match x,lB P t with
 | .w (.one (.slc b' k5 rj _)),some e=>match P.info? e,rA P e with
  |some i,some z=>match yp bl b' k5 (rj*i.size)with
   |some news=>cond (!(aR t t')) .stuck <| cond (abI s) (RX i e z d 0 0 rj [] news n tm bl k) <| match s with
    | .w (.one (.slc b off len cap))=>match yp bl b off (len*i.size)with
     |some olds=>RX i e z d len cap rj olds news n tm bl k
     |none=> .stuck
    | .td b len lo=>match bl[b]? with
     |some (cs,ty)=>cond (cJ (len+rj) lo&&cJ ((len+rj)*i.size) cs.length&&ea 0 (rj*i.size)&&cd cs&&cd (cs.take (len*i.size)++news++cs.drop (len*i.size+news.length))) (k n (ie tm d (.td b (len+rj) lo)) (eD bl b (cs.take (len*i.size)++news++cs.drop (len*i.size+news.length),ty))) .stuck
     |none=> .stuck
    |_=> .stuck
   |none=> .stuck
  |_,_=> .stuck
 |_,_=> .stuck
def ss (sh:List aV):Bool:=cJ sh.length 100&&ea 0 sh.length&&sh.all λc=>match c with
 | .int _ lo hi=>decide (-18446744073709551616<=lo)&&decide (hi<=18446744073709551616)
 |_=>true
def HD (e:bH):M U:=λn k=> .ind n e (k (.var n) (n+1))
def Y1 (c:aV) (a:A):M U:=
 match c,a with
 | .int k lo hi,.int bD x=>cond (decide (k=bD)&&decide (lo<=x.lo)&&decide (x.hi<=hi)) (pure x.l) fail
 | .str,.str l=>pure l
 | .bool,.bool e=>match e with
  | .lit v=>pure (.const (cond v 1 0))
  |e=>HD e
 |_,_=>fail
def Im:List aV->List A->M (List U)
 |[],[]=>pure []
 |c::sh,a::r=>bind (Y1 c a) λl=>bind (Im sh r) λls=>pure (l::ls)
 |_,_=>fail
noncomputable def Eu (sh:List aV):List (List A)->U->M U
 |[],c=>pure c
 |row::rs,c=>bind (Im sh row) λls=>bind (kC 23 (c::ls) 0 dN) λeW=>Eu sh rs eW
def rR (w:Nat):Nat->List A->List (List A)
 |0,_=>[]
 |k+1,l=>l.take w::rR w k (l.drop w)
noncomputable def UW (P:bU) (uj:bw) (sh:List aV) (bl:List aH) (x:V) (base:U):M (U×U):=
 match x with
 | .w (.one (.slc b off len _))=>match yp bl b off (len*sh.length),lB P uj with
  |some cs,some _=>bind (js 23 [base,.const len]) λ_=>bind (Eu sh (rR sh.length len cs) base) λc=>pure (c,.const len)
  |_,_=>fail
 | .w (.one (.sl b bE o ro len _))=>match bl[b]?,lB P uj with
  |some ([.rows gW off code gD kind],_),some _=>cond (ea 0 kind&&tk sh gW&&U.beq o off&&aR bE sh.length) (bind (js 22 [code,ro,ro.add len]) λ_=>bind (js 23 [base,len]) λ_=>bind (kC 22 [code,ro,ro.add len] 0 dN) λs=>bind (kC 24 [base,s] 0 dN) λc=>pure (c,len)) fail
  |_,_=>fail
 | .w (.one (.str l))=>match P.underlying uj with
  |some .string=>cond (ajg sh) (bind (kC 0 [l] 0 9223372036854775807) λlen=>bind (js 23 [base,len]) λ_=>bind (kC 27 [l] 0 dN) λs=>bind (kC 24 [base,s] 0 dN) λc=>pure (c,len)) fail
  |_=>fail
 | .w (.one (.con (.slice none 0 0)))=>match lB P uj with
  |some _=>bind (js 23 [base,.const 0]) λ_=>pure (base,.const 0)
  |none=>fail
 |_=>fail
def aKB (bl:List aH):V->Option (List aV)
 | .w (.one (.sl b _ _ _ _ _))=>match bl[b]? with
  |some ([.rows sh _ _ _ _],_)=>some sh
  |_=>none
 |_=>none
def UR:List A->Option (List aV)
 |[]=>some []
 | .int k _::r=>(UR r).map (.int k k.min k.max::·)
 | .str _::r=>(UR r).map (.str::·)
 | .bool _::r=>(UR r).map (.bool::·)
 |_=>none
def aKC (bl:List aH) (s x:V) (z:List A):Option (List aV):=match aKB bl x with
 |some sh=>some sh
 |none=>match s,x with
  | .w (.one (.slc ..)),.w (.one (.slc ..))=>UR z
  |_,_=>none
def afN:V->Bool
 | .w (.one (.sl _ _ _ _ len cap))=>match len.e4,cap.e4 with|some l,some c=>decide (l=0)&&decide (c=0)|_,_=>false
 | .w (.one (.slc _ _ len cap))=>aR len 0&&aR cap 0
 | .w (.one (.con (.slice none 0 0)))=>true
 |_=>false
noncomputable def ZZ (kd:Nat) (e:bw) (d:Option Tmp) (sh:List aV) (code len:U) (n:Nat) (tm:List V) (bl:List aH) (k:iP):T:=
 .wa n (-1) 9223372036854775807 (k (n+1) (ie tm d (.w (.one (.sl bl.length sh.length (.const 0) (.const 0) len (.var n))))) (bl++[([.rows sh (.const 0) code (.var n) kd],(e,false))]))
noncomputable def JP (e:bw) (d:Option Tmp) (sh:List aV) (code len:U) (n:Nat) (tm:List V) (bl:List aH) (k:iP):T:=
 .wa n (-1) 9223372036854775807 (k (n+1) (ie tm d (.w (.one (.sl bl.length sh.length (.const 0) (.const 0) len (.var n))))) (bl++[([.rows sh (.const 0) code (.var n) 2],(e,false))]))
noncomputable def akC (P:bU) (uj e:bw) (d:Option Tmp) (sh:List aV) (s x:V) (n:Nat) (tm:List V) (bl:List aH) (k:iP):T:=
 UW P uj sh bl x (.const 0) n λp n'=>match p.2.e4 with
  |some 0=>k n' (ie tm d s) bl
  |some _=>JP e d sh p.1 p.2 n' tm bl k
  |none=> .vx (.le p.2 (.const 0)) (k n' (ie tm d s) bl) (JP e d sh p.1 p.2 n' tm bl k)
def JN (sh:List aV) (i:TypeInfo) (z:List A):Bool:=ss sh&&aR i.size sh.length&&aR z.length sh.length&&cJ i.bytes 131072
noncomputable def Yu (P:bU) (d:Option Tmp) (t t':bw) (s x:V) (n:Nat) (tm:List V) (bl:List aH) (k:iP):Option T:=
 match lB P t with
 |none=>none
 |some e=>match P.info? e,rA P e with
  |some i,some z=>match afN s with
   |true=>match aKC bl s x z with
    |some sh=>cond (JN sh i z) (some (akC P t' e d sh s x n tm bl k)) none
    |none=>none
   |false=>match s with
    | .w (.one (.sl b _ o ro len cap))=>match bl[b]? with
     |some ([.rows sh off code gD kind],eH)=>cond (JN sh i z&&aR kind 2&&U.beq o (.const 0)&&U.beq off (.const 0)&&U.beq ro (.const 0)&&U.beq cap gD&&aR eH.1 e)
      (some (.tA 31 [code,len] (UW P t' sh bl x code n λp n'=>JP e d sh p.1 (len.add p.2) n' tm (eD bl b ([.rows sh off code gD 0],eH)) k))) none
     |_=>none
    |_=>none
  |_,_=>none
noncomputable def aeM (P:bU) (o:Oper) (n:Nat) (tm:List V) (bl:List aH) (k:iP):Option T:=
 match o.op with
 | .call c=>match c.callee with
  | .builtin .append=>match c.args.toList,c.argTypes.toList with
   |[s,x],[t,t']=>Yu P o.dst t t' (cu tm s) (cu tm x) n tm bl k
   |_,_=>none
  |_=>none
 |_=>none
def lK:List aV:=[.int .u8 0 255]
def SN (fn:Func):Bool:=fn.name== "internal/bytealg.MakeNoZero" &&fn.body.isNone&&fn.origin== ""
noncomputable def DS (P:bU) (o:Oper) (n:Nat) (tm:List V) (bl:List aH) (k:iP):Option T:=
 match o.op with
 | .store t p x=>match cu tm p,cu tm x with
  | .w (.one (.ep b bE c4 i j)),.w u=>match bl[b]?,hq P t with
   |some ([.rows sh off code cap kind],eH),some s=>cond (cJ 2 kind&&aR bE sh.length&&U.beq c4 off&&aR u.cells.length s&&ea 0 s&&cJ (j+s) sh.length&&ss sh)
    (some (js 21 [code,i] n λ_ n=>Jk 67 [code,i,.const sh.length] n λ_ n=>Im ((sh.drop j).take s) u.cells n λls n=>kC 42 (code::i:: .const j::ls) 0 dN n λcode' n=>k n (ie tm o.dst (.jG [])) (eD bl b ([.rows sh off code' cap kind],eH)))) none
   |_,_=>none
  |_,_=>none
 | .convert s d x=>match cu tm x with
  | .w (.one (.slc b 0 len cap))=>match bl[b]?,lB P d with
   |some (C,t),some e=>match P.underlying e with
    |some (.int .u8)=>cond (aR s d&&cd C&& !t.2&&aR C.length len&&aR cap len&&cJ len 1000000)
     (some (Eu lK (rR 1 len C) (.const 0) n λcode n=>k n (ie tm o.dst (.w (.one (.sl b 1 (.const 0) (.const 0) (.const len) (.const len))))) (eD bl b ([.rows lK (.const 0) code (.const len) 3],t)))) none
    |_=>none
   |_,_=>none
  |_=>none
 | .makeSlice t x y=>match lB P t,yA (cu tm x),yA (cu tm y)with
  |some e,some rk,some qC=>match P.info? e with
   |some i=>match i.zero with
    |some (.int .u8 z)=>cond (aR i.size 1&&cJ i.bytes 1024&&decide (z=0)) (some (.tA 49 [rk,qC] (kC 26 [rk,.const 0] 0 dN n λcode n=>ZZ 2 e o.dst lK code rk n tm bl k))) none
    |_=>none
   |none=>none
  |_,_,_=>none
 | .call c=>match c.callee with
  | .value (.func f)=>match P.funcs[f]?,c.args.toList with
   |some fn,[x]=>match cu tm x,fn.resultTypes.toList with
    | .w (.one (.int .i64 y)),[t]=>match lB P t with
     |some e=>match P.underlying e with
      |some (.int .u8)=>cond (SN fn) (some (.tA 26 [y.l] (.wa n 0 dN (.wJ 31 [.var n,y.l] (.wa (n+1) 0 9223372036854775807 (.wJ 79 [y.l,.var (n+1)]
       (k (n+2) (ie tm o.dst (.w (.one (.sl bl.length 1 (.const 0) (.const 0) y.l (.var (n+1)))))) (bl++[([.rows lK (.const 0) (.var n) (.var (n+1)) 2],(e,false))]))))))))
       none
      |_=>none
     |none=>none
    |_,_=>none
   |_,_=>none
  |_=>none
 |_=>none
noncomputable def aeN (P:bU) (o:Oper) (n:Nat) (tm:List V) (bl:List aH) (k:iP):Option T:=
 match o.op with
 | .call c=>match c.callee with
  | .builtin .copy=>match c.args.toList,c.argTypes.toList with
   |[x,y],[t,t']=>match cu tm x,cu tm y,lB P t with
    | .w (.one (.sl b bE c4 ro len cap)),.w (.one (.sl b9 aeW oI jn jm Bh)),some e=>match bl[b]?,bl[b9]?,hq P e with
     |some ([.rows sh off code gD kind],eH),some ([.rows aeB Dy j0 CS Ds],_),some s=>cond (cJ 2 kind&&ea 0 Ds&&U.beq c4 off&&U.beq oI Dy&&tk sh aeB&&aR bE sh.length&&aR aeW sh.length&&aR s sh.length&&ss sh)
      (some (js 80 [code,ro,len] n λ_ n=>js 22 [j0,jn,jn.add jm] n λ_ n=>kC 62 [jm,len] 0 9223372036854775807 n λq n=>kC 22 [j0,jn,jn.add q] 0 dN n λsrc n=>kC 63 [code,ro,src] 0 dN n λcode' n=>k n (ie tm o.dst (.w (.one (.int .i64 ⟨q,0,9223372036854775807⟩)))) (eD bl b ([.rows sh off code' gD kind],eH)))) none
     |_,_,_=>none
    | .w (.one (.sl ..)),.w (.one (.con (.slice none 0 0))),some e=>match hq P e with
     |some _=>some (k n (ie tm o.dst (.w (.one (.int .i64 ⟨.const 0,0,0⟩)))) bl)
     |none=>none
    |_,_,_=>none
   |_,_=>none
  |_=>none
 |_=>none
noncomputable def aeO (P:bU) (o:Oper) (n:Nat) (tm:List V) (bl:List aH) (k:iP):Option T:=
 match o.op with
 | .call c=>match c.callee with
  | .builtin .copy=>match c.args.toList,c.argTypes.toList with
   |[x,y],[t,_]=>match cu tm x,cu tm y,lB P t with
    | .w (.one (.slc b off len _)),.w (.one (.slc b9 Dy jm _)),some e=>match bl[b]?,yp bl b9 Dy (LU jm len),hq P e with
     |some (C,eH),some l,some s=>cond (aR s 1&&cJ (off+l.length) C.length&&cd C&&cd (C.take off++l++C.drop (off+l.length)))
      (some (k n (ie tm o.dst (.w (.one (.int .i64 (bT.const (LU jm len:Nat)))))) (eD bl b (C.take off++l++C.drop (off+l.length),eH)))) none
     |_,_,_=>none
    |_,_,_=>none
   |_,_=>none
  |_=>none
 |_=>none
noncomputable def UB (code:U) (kd:dZ) (lo hi:Int):Nat->Nat->M (List A)
 |0,_=>pure []
 |c+1,i=>bind (js 21 [code,.const i]) λ_=>bind (kC 21 [code,.const i,.const 0] lo hi) λl=>bind (UB code kd lo hi c (i+1)) λr=>pure (.int kd ⟨l,lo,hi⟩::r)
noncomputable def aeP (P:bU) (o:Oper) (n:Nat) (tm:List V) (bl:List aH) (k:iP):Option T:=
 match o.op with
 | .load t p=>match cu tm p with
  | .w (.one (.ptr b 0))=>match bl[b]?,lu P t,hq P t with
   |some ([.rows [.int kd lo hi] off code cap kind],_),some true,some s=>cond (cJ 2 kind&&ea 0 s)
    (some (UB code kd lo hi s 0 n λl n=>k n (ie tm o.dst (.w (.agg l))) bl)) none
   |_,_,_=>none
  |_=>none
 |_=>none
def Za:V->Option (Nat×List A)
 | .tB f lL=>some (f,lL)
 | .w (.one (.con (.func (.func f) a b)))=>cond (aR a.size 0&&aR b.size 0) (some (f,[])) none
 |_=>none
noncomputable def aeL (P:bU) (gl:fO) (cal:gy) (inl:mH) (o:Oper) (n:Nat) (tm:List V) (bl:List aH) (k:iP):T:=
 match o.op with
 | .alloc t=>match rA P t with
  |some cs=>cond (cd cs) (k n (ie tm o.dst (.w (.one (.ptr bl.length 0)))) (bl++[(cs,(t,false))])) .stuck
  |none=> .stuck
 | .box t x=>match cu tm x with
  | .w u=>cond (cd u.cells) (k n (ie tm o.dst (.w (.one (.ptr bl.length 0)))) (bl++[(u.cells,(t,false))])) .stuck
  |_=> .stuck
 | .buildSlice t len parts=>match YR P t len (parts.toList.map λp=>(p.1,cu tm p.2))with
  |some (cs,e)=>cond (cd cs) (k n (ie tm o.dst (.w (.one (.slc bl.length 0 len len)))) (bl++[(cs,(e,false))])) .stuck
  |none=> .stuck
 | .store t p x=>match cu tm p,cu tm x with
  | .w (.one (.ptr b off)),.w u=>match bl[b]?,hq P t with
   |some (cs,eH),some s=>cond (aR u.cells.length s&&cJ (off+s) cs.length&&ea 0 s&&cd cs&&cd (cs.take off++u.cells++cs.drop (off+s))) (k n (ie tm o.dst (.jG [])) (eD bl b (cs.take off++u.cells++cs.drop (off+s),eH))) .stuck
   |_,_=> .stuck
  |_,_=> .stuck
 | .call c=>match c.callee with
  | .value (.func f)=>match cal f with
   |some _=>DG P cal gl bl tm o n λv n'=>k n' (ie tm o.dst v) bl
   |none=>inl f n (c.args.toList.map (cu tm)) bl λn' v bx=>k n' (ie tm o.dst v) bx
  | .value (.tmp x)=>match RE cal bl tm o with
   |some _=>DG P cal gl bl tm o n λv n'=>k n' (ie tm o.dst v) bl
   |none=>match Za (cu tm (.tmp x))with
   |some (f,lL)=>inl f n (c.args.toList.map (cu tm)++lL.map λy=>V.w (.one y)) bl λn' v bx=>k n' (ie tm o.dst v) bx
   |none=> .stuck
  | .builtin .append=>match c.args.toList,c.argTypes.toList with
   |[s,x],[t,t']=>Yt P o.dst t t' (cu tm s) (cu tm x) n tm bl k
   |_,_=> .stuck
  |_=>DG P cal gl bl tm o n λv n'=>k n' (ie tm o.dst v) bl
 |_=>DG P cal gl bl tm o n λv n'=>k n' (ie tm o.dst v) bl
noncomputable def UX (P:bU) (gl:fO) (cal:gy) (inl:mH) (o:Oper) (n:Nat) (tm:List V) (bl:List aH) (k:iP):T:=
 match aeM P o n tm bl k with
 |some t=>t
 |none=>match DS P o n tm bl k with
  |some t=>t
  |none=>match aeN P o n tm bl k with
   |some t=>t
   |none=>match aeO P o n tm bl k with
    |some t=>t
    |none=>match aeP P o n tm bl k with
     |some t=>t
     |none=>aeL P gl cal inl o n tm bl k
def yd:bH->Bool->Option (U×Option Int×Option Int)
 | .le p q,true=>match p.e4,q.e4 with|some c,none=>some (q,some c,none)|none,some c=>some (p,none,some c)|_,_=>none
 | .le p q,false=>match p.e4,q.e4 with|some c,none=>some (q,none,some (c-1))|none,some c=>some (p,some (c+1),none)|_,_=>none
 | .lt p q,true=>match p.e4,q.e4 with|some c,none=>some (q,some (c+1),none)|none,some c=>some (p,none,some (c-1))|_,_=>none
 | .lt p q,false=>match p.e4,q.e4 with|some c,none=>some (q,none,some c)|none,some c=>some (p,some c,none)|_,_=>none
 | .not b,v=>yd b (!v)
 |_,_=>none
def KG (a:Int):Option Int->Int
 |some b=>cond (decide (a<=b)) b a
 |none=>a
def OK (a:Int):Option Int->Int
 |some b=>cond (decide (b<=a)) b a
 |none=>a
def RB (b:bH) (v:Bool) (r:Option (U×Option Int×Option Int)):V->V
 | .w (.one (.bool e))=> .w (.one (.bool (cond (bH.beq e b) (.lit v) e)))
 | .w (.one (.int k x))=>match r with
  |some (l,lo,hi)=> .w (.one (.int k (cond (U.beq x.l l) (cond (decide (KG x.lo lo=OK x.hi hi)) (.const (KG x.lo lo)) ⟨x.l,KG x.lo lo,OK x.hi hi⟩) x)))
  |none=> .w (.one (.int k x))
 |u=>u
def xK (b:bH) (v:Bool) (l:List V):List V:=l.map (RB b v (yd b v))
def G9 (ops:Array Oper) (tm:List V) (o:Oper) (yes no:List V->T):T:=
 match o.guard with
 |none=>yes tm
 |some (g,want)=>match(ops[g]?).bind (·.dst)with
  |none=> .stuck
  |some d=>match tm[d]? with
   |some (.w (.one (.bool b)))=>match b with
    | .lit v=>cond (v==want) (yes tm) (no tm)
    |b=> .vx b (cond want (yes (xK b true tm)) (no (xK b true tm))) (cond want (no (xK b false tm)) (yes (xK b false tm)))
   |some (.jG [])=>no tm
   |_=> .stuck
noncomputable def KS (P:bU) (gl:fO) (cal:gy) (inl:mH) (ops:Array Oper):List Oper->Nat->List V->List aH->iP->T
 |[],n,tm,bl,k=>k n tm bl
 |o::r,n,tm,bl,k=>G9 ops tm o (λtm=>UX P gl cal inl o n tm bl λn' cE bx=>KS P gl cal inl ops r n' cE bx k) (λtm=>KS P gl cal inl ops r n (ie tm o.dst (.jG [])) bl k)
def Yp (g:Nat->T):List Nat->T
 |[]=> .stuck
 |[i]=>g i
 |i::r=> .both (g i) (Yp g r)
noncomputable def JY (P:bU) (gl:fO) (cal:gy) (ops:Array Oper):List Oper->Nat->List V->List aH->(Nat->List V->T)->T
 |[],n,tm,bl,k=>k n tm
 |o::r,n,tm,bl,k=>cond (iR o) (JY P gl cal ops r n tm bl k) (G9 ops tm o (λtm=>DG P cal gl bl tm o n λv n'=>JY P gl cal ops r n' (ie tm o.dst v) bl k) (λtm=>JY P gl cal ops r n (ie tm o.dst (.jG [])) bl k))
def Mc (P:bU):List Oper->Nat->List V->List aH->iP->T
 |[],n,tm,bl,k=>k n tm bl
 |o::r,n,tm,bl,k=>cond (iR o) (match o.op with
  | .alloc t=>match rA P t with
   |some cs=>cond (cd cs) (Mc P r n (ie tm o.dst (.w (.one (.ptr bl.length 0)))) (bl++[(cs,(t,false))]) k) .stuck
   |none=> .stuck
  |_=> .stuck) (Mc P r n tm bl k)
def VY (P:bU) (l:List Oper):Bool:=l.all λo=> !iR o||(match o.op with| .alloc t=>(rA P t).isSome|_=>false)
def JZ (cal:gy) (dyn:Bool) (ops:Array Oper):List Tmp->List Oper->Nat
 |_,[]=>0
 |ds,o::r=>cond ((o.looksAt ops).any ds.contains) 0 <| cond (iR o) (JZ cal dyn ops (match o.dst with|some d=>d::ds|none=>ds) r+1) <| cond (aJe cal dyn o) (JZ cal dyn ops ds r+1) 0
def Ng (P:bU) (cal:gy) (ops:Array Oper):Nat:=
 cond (Lm ops (JZ cal false ops [] ops.toList)&&VY P (ops.toList.take (JZ cal false ops [] ops.toList))) (JZ cal false ops [] ops.toList) (JZ cal true ops [] ops.toList)
def JH:Code->Option Nat
 | .region id _ _=>some id
 | .seq a b=>match JH a with|some i=>some i|none=>JH b
 | .block _ c| .loop c| .scope c=>JH c
 | .cond _ a b=>match JH a with|some i=>some i|none=>JH b
 |_=>none
def Zb:a6->a6->Bool
 | .pointer none,.pointer none=>true
 | .slice none 0 0,.slice none 0 0=>true
 | .func (.func f) a b,.func (.func qo) dW b'=>aR f qo&&aR a.size 0&&aR b.size 0&&aR dW.size 0&&aR b'.size 0
 |_,_=>false
def A.beq:A->A->Bool
 | .int k x,.int bD y=>decide (k=bD)&&U.beq x.l y.l&&x.lo==y.lo&&x.hi==y.hi
 | .bool a,.bool b=>bH.beq a b
 | .con a,.con b=>Zb a b
 | .ptr b o,.ptr b' c4=>aR b b'&&aR o c4
 | .gptr b o,.gptr b' c4=>aR b b'&&aR o c4
 | .slc b o l c,.slc b' c4 l' eW=>aR b b'&&aR o c4&&aR l l'&&aR c eW
 | .str a,.str b=>U.beq a b
 | .rows sh o c q k,.rows gW c4 eW fM bD=>tk sh gW&&U.beq o c4&&U.beq c eW&&U.beq q fM&&aR k bD
 | .sl b z o r l c,.sl b' afq c4 r' l' eW=>aR b b'&&aR z afq&&U.beq o c4&&U.beq r r'&&U.beq l l'&&U.beq c eW
 | .ep b z o i j,.ep b' afq c4 Fo abK=>aR b b'&&aR z afq&&U.beq o c4&&U.beq i Fo&&aR j abK
 |_,_=>false
def rK:List A->List A->Bool
 |[],[]=>true
 |a::r,b::s=>A.beq a b&&rK r s
 |_,_=>false
def V.beq:V->V->Bool
 | .w (.one a),.w (.one b)=>A.beq a b
 | .w (.agg l),.w (.agg l')=>rK l l'
 | .jG [],.jG []=>true
 | .tB f l,.tB qo l'=>aR f qo&&rK l l'
 |_,_=>false
def E0 (i:Nat):List (Nat×Int×Int)->Option (Int×Int)
 |[]=>none
 |(j,lo,hi)::r=>cond (aR i j) (some (lo,hi)) (E0 i r)
noncomputable def hs (ij:List Nat) (ints:List (Nat×Int×Int)):Nat->Nat->List V->Option (List V×List U×List (Int×Int))
 |_,_,[]=>some ([],[],[])
 |i,s,v::r=>cond (ij.any (aR i)) (match hs ij ints (i+1) s r with|some (t,l,b)=>some (v::t,l,b)|none=>none)
  (match E0 i ints with
  |some (lo,hi)=>match v with
   | .w (.one (.int k x))=>cond (decide (lo<=x.lo)&&decide (x.hi<=hi)) (match hs ij ints (i+1) (s+1) r with|some (t,l,b)=>some (.w (.one (.int k ⟨.var s,lo,hi⟩))::t,x.l::l,(lo,hi)::b)|none=>none) none
   | .w (.one (.str x))=>(match hs ij ints (i+1) (s+1) r with|some (t,l,b)=>some (.w (.one (.str (.var s)))::t,x::l,(0,tu)::b)|none=>none)
   |_=>none
  |none=>match hs ij ints (i+1) s r with|some (t,l,b)=>some (.any::t,l,b)|none=>none)
noncomputable def ns (lo hi:Int) (s:Nat):A->Option (A×U×(Int×Int))
 | .int k x=>cond (decide (lo<=x.lo)&&decide (x.hi<=hi)) (some (.int k ⟨.var s,lo,hi⟩,x.l,(lo,hi))) none
 | .str x=>some (.str (.var s),x,(0,tu))
 | .rows sh off code cap k=>some (.rows sh off (.var s) cap k,code,(0,dN))
 |_=>none
noncomputable def ha (ints:List (Nat×Int×Int)):Nat->Nat->List A->Option (List A×List U×List (Int×Int))
 |_,_,[]=>some ([],[],[])
 |i,s,v::r=>match E0 i ints with
  |some (lo,hi)=>match ns lo hi s v with
   |some (a,x,ia)=>match ha ints (i+1) (s+1) r with|some (t,l,b)=>some (a::t,x::l,ia::b)|none=>none
   |none=>none
  |none=>match ha ints (i+1) s r with|some (t,l,b)=>some (v::t,l,b)|none=>none
def cellsOf (b:Nat):List (Nat×Nat×Int×Int)->List (Nat×Int×Int)
 |[]=>[]
 |(b',c,q)::r=>cond (aR b b') ((c,q)::cellsOf b r) (cellsOf b r)
noncomputable def hb (cells:List (Nat×Nat×Int×Int)):Nat->Nat->List aH->Option (List aH×List U×List (Int×Int))
 |_,_,[]=>some ([],[],[])
 |i,s,(cs,ty)::r=>match ha (cellsOf i cells) 0 s cs with
  |some (c,l,b)=>match hb cells (i+1) (s+l.length) r with
   |some (t,l',b')=>some ((c,ty)::t,l++l',b++b')
   |none=>none
  |none=>none
def qq:List V->List V->Bool
 |[],[]=>true
 | .any::r,_::s=>qq r s
 |v::r,u::s=>V.beq v u&&qq r s
 |_,_=>false
def qp:List aH->List aH->Bool
 |[],[]=>true
 |(c,t)::r,(eW,t')::s=>rK c eW&&aR t.1 t'.1&&(t.2==t'.2)&&qp r s
 |_,_=>false
def hW:aH:=([.rows [] (.const 0) (.const 0) (.const 0) 0],(0,false))
def BL:List A->Bool
 |[.rows _ _ _ _ k]=>aR k 1
 |_=>false
def kl (N:Nat):Nat->List aH->List aH
 |_,[]=>[]
 |i,p::r=>cond (ea i N&&(cd p.1||BL p.1)) p hW::kl N (i+1) r
def Sd (N:Nat) (tm:List V) (bl:List aH) (o:Oper):Bool:=match o.op with
 | .move _| .assign _| .extract _ _| .fieldAddr .. =>true
 | .load _ p=>match cu tm p with
  | .w (.one (.ptr b _))=>ea b N&&(match bl[b]? with|some p=>cd p.1|none=>false)
  |_=>false
 | .slice _ x _ _ _=>match cu tm x with| .w (.one (.sl ..))=>true|_=>false
 |_=>false
def Se (N:Nat) (tm:List V) (bl:List aH) (o:Oper):Bool:=match o.op with
 | .binOp _ _ x y _=>match cu tm x,cu tm y with
  | .w (.one (.int ..)),.w (.one (.int ..))=>true
  |_,_=>false
 | .indexAddr _ x _=>match cu tm x with| .w (.one (.sl ..))=>true|_=>false
 | .slice _ x _ _ _=>match cu tm x with| .w (.one (.str _))=>true|_=>false
 | .load _ p=>match cu tm p with
  | .w (.one (.ep b ..))=>ea b N&&(match bl[b]? with|some p=>BL p.1|none=>false)
  |_=>false
 |_=>false
def SO (o:Oper):Bool:=match o.op with| .store .. =>true|_=>false
def acT (o:Oper):Bool:=match o.op with| .move _| .assign _| .extract _ _| .fieldAddr .. | .load .. | .slice .. =>true|_=>false
def amJ (o:Oper):Bool:=match o.op with| .call c=>(match c.callee with| .value _=>true|_=>false)|_=>false
def aBK (o:Oper):Bool:=match o.op with| .call c=>(match c.callee with| .builtin .copy=>true|_=>false)|_=>false
def aDq (ops:List Oper) (p:rF):Bool:=match p with
 | .tmp d=>ops.any λo=>o.dst==some d&&(match o.op with| .alloc .. =>true|_=>false)
 |_=>false
def acU (ops:Array Oper):Bool:=(ops.toList.any (λo=>SO o||amJ o)&&cJ 7 (ops.toList.filter λo=> !acT o).length)||(ops.toList.any amJ&&ops.toList.any SO&&ops.toList.all λo=>match o.op with| .store _ p _=>aDq ops.toList p|_=>true)
def Ni (tm:List V) (o:Oper):Bool:=match o.op with
 | .slice _ x _ _ _=>match cu tm x with| .w (.one (.ptr ..))=>true|_=>false
 |_=>false
def alH (N:Nat) (tm:List V) (bl:List aH) (ops:Array Oper) (listed:Array Bool):Option Nat:=
 cond (V6 ops) ((zA .any ops listed).find? λi=>(match ops[i]? with|some o=>Sd N tm bl o||(acU ops&&(Se N tm bl o||Ni tm o))||(ops.toList.any aBK&&Ni tm o)|none=>false)&&aPe .any ops listed i) none
def aDD (ops:Array Oper) (tm:List V) (o:Oper):Bool:=match o.guard with
 |some (g,want)=>match(ops[g]?).bind (·.dst)with
  |some d=>match tm[d]? with
   |some (.w (.one (.bool (.lit v))))=> !(v==want)
   |some (.jG [])=>true
   |_=>false
  |none=>false
 |none=>false
def aoH (tm:List V) (ops:Array Oper) (listed:Array Bool):Option Nat:=
 cond (V6 ops) ((zA .any ops listed).find? λi=>(match ops[i]? with|some o=>aDD ops tm o|none=>false)&&aPe .any ops listed i) none
def preB:List aH->List aH->Bool
 |(c,t)::r,(eW,t')::s=>rK c eW&&aR t.1 t'.1&&(t.2==t'.2)&&preB r s
 |[],_=>true
 |_,_=>false
noncomputable def CL (P:bU) (gl:fO) (cal:gy) (inl:mH) (ops:Array Oper) (N:Nat) (Jq:List aH):Nat->Array Bool->Nat->List V->List aH->iP->T
 |0,listed,n,tm,bl,k=>match zA .any ops listed with
  |[]=>k n tm bl
  |_=> .stuck
 |f+1,listed,n,tm,bl,k=>match zA .any ops listed with
  |[]=>k n tm bl
  |l=>match alH N tm bl ops listed with
   |some i=>match ops[i]? with
    |none=> .stuck
    |some o=>G9 ops tm o (λtm=>DG P cal gl (kl N 0 bl) tm o n λv n'=>CL P gl cal inl ops N Jq f (listed.setIfInBounds i true) n' (ie tm o.dst v) bl k) (λtm=>CL P gl cal inl ops N Jq f (listed.setIfInBounds i true) n (ie tm o.dst (.jG [])) bl k)
   |none=>match aoH tm ops listed with
    |some i=>match ops[i]? with
     |none=> .stuck
     |some o=>G9 ops tm o (λ_=> .stuck) (λtm=>CL P gl cal inl ops N Jq f (listed.setIfInBounds i true) n (ie tm o.dst (.jG [])) bl k)
    |none=>Yp (λi=>match ops[i]? with
    |none=> .stuck
    |some o=>G9 ops tm o (λtm=>UX P gl cal inl o n tm bl λn' cE bx=>cond (preB Jq (kl N 0 bx)) (CL P gl cal inl ops N Jq f (listed.setIfInBounds i true) n' cE bx k) .stuck) (λtm=>CL P gl cal inl ops N Jq f (listed.setIfInBounds i true) n (ie tm o.dst (.jG [])) bl k)) l
def aue (ops:List Oper) (tm:List V) (p:rF):Nat:=match p with
 | .tmp d=>match ops.find? λo=>o.dst==some d with
  |some o=>match o.op with
   | .fieldAddr _ x _=>match cu tm x with| .w (.one (.ptr b _))=>b|_=>0
   | .alloc .. =>1000000
   |_=>0
  |none=>match cu tm p with| .w (.one (.ptr b _))=>b|_=>0
 |_=>0
def ah0 (ops:List Oper) (tm:List V):List Oper->Nat->Nat
 |[],N=>N
 |o::r,N=>ah0 ops tm r (match o.op with| .store _ p _=>min N (aue ops tm p)|_=>N)
def Nh (ops:Array Oper) (tm:List V) (bl:List aH):Nat:=cond (acU ops) (min bl.length (ah0 ops.toList tm ops.toList bl.length)) (cond (ops.toList.any SO) 0 bl.length)
def ad6 (body:Nat->List V->List aH->x1->T):Nat->Nat->List V->List aH->x1->T
 |0,_,_,_,_=> .stuck
 |r+1,n,tm,bl,k=>body n tm bl λx n' cE bx=>match x with
  | .normal=>ad6 body r n' cE bx k
  |x=>k x n' cE bx
def Bc (lo:Nat):List (Nat×List aV×bw)->List V->List aH->List Nat->Option (List U×List Nat)
 |[],_,_,used=>some ([],used)
 |(s,sh,e)::r,tm,bl,used=>match tm[s]? with
  |some (.w (.one (.con (.slice none 0 0))))=>match Bc lo r tm bl used with
   |some (l,u)=>some (.const 0:: .const 0:: .const (-1)::l,u)
   |none=>none
  |some (.w (.one (.sl b bE o ro len cap)))=>match bl[b]? with
   |some ([.rows gW off code gD kind],t)=>cond (tk sh gW&&aR kind 2&&U.beq o (.const 0)&&U.beq off (.const 0)&&U.beq ro (.const 0)&&U.beq cap gD&&aR t.1 e&&aR bE sh.length&&cJ lo b&& !(used.any (aR b)))
    (match Bc lo r tm bl (b::used)with
    |some (l,u)=>some (code::len::cap::l,u)
    |none=>none) none
   |_=>none
  |_=>none
def qB:List Nat->List aH->List aH
 |[],bl=>bl
 |b::r,bl=>match bl[b]? with
  |some ([.rows sh off code cap _],t)=>qB r (eD bl b ([.rows sh off code cap 0],t))
  |_=>qB r bl
def G6:List (Nat×Int×Int)->List V->M (List V)
 |[],tm=>pure tm
 |(s,lo,hi)::r,tm=>match tm[s]? with
  |some (.w (.one (.int k x)))=>cond (decide (lo<=x.lo)&&decide (x.hi<=hi)) (G6 r tm) (bind (js 39 [x.l,.const lo,.const hi]) λ_=>G6 r (xI tm s (.w (.one (.int k ⟨x.l,lo,hi⟩)))))
  |_=>G6 r tm
def Mi (tm:List V):List Nat->M (List U)
 |[]=>pure []
 |s::r=>match tm[s]? with
  |some (.w (.one (.bool e)))=>bind (match e with| .lit v=>pure (.const (cond v 1 0))|e=>HD e) λl=>bind (Mi tm r) λls=>pure (l::ls)
  |_=>fail
def Ac:List Nat->Nat->List V->List V
 |[],_,tm=>tm
 |s::r,v,tm=>Ac r (v+1) (xI tm s (.w (.one (.bool (.eq (.var v) (.const 1))))))
def xa:List (Nat×List aV×bw)->Nat->List V->List aH->List V×List aH
 |[],_,tm,bl=>(tm,bl)
 |(s,sh,e)::r,v,tm,bl=>xa r (v+3) (xI tm s (.w (.one (.sl bl.length sh.length (.const 0) (.const 0) (.var (v+1)) (.var (v+2)))))) (bl++[([.rows sh (.const 0) (.var v) (.var (v+2)) 2],(e,false))])
def Rd (l:List Nat):List (Int×Int):=l.map λ_=>(0,1)
noncomputable def GA (l:List (Nat×List aV×bw)):List (Int×Int):=l.flatMap λ_=>[(0,dN),(0,9223372036854775807),(-1,9223372036854775807)]
noncomputable def PU:List (Nat×List aV×Nat)->List aH->M (List aH)
 |[],bl=>pure bl
 |(b,sh,c)::r,bl=>match bl[b]? with
  |some (C,t)=>cond (cd C) (cond (!t.2&&aR C.length (c*sh.length)&&ss sh&&cJ c 1000000) (bind (Eu sh (rR sh.length c C) (.const 0)) λcode=>PU r (eD bl b ([.rows sh (.const 0) code (.const c) 2],t))) fail) (PU r bl)
  |none=>fail
def Ic:List (Nat×List aV)->List V->List aH->Option (List U)
 |[],_,_=>some []
 |(s,sh)::r,tm,bl=>match tm[s]? with
  |some (.w (.one (.con (.slice none 0 0))))=>match Ic r tm bl with
   |some l=>some (.const 0:: .const 0:: .const (-1)::l)
   |none=>none
  |some (.w (.one (.sl b bE o ro len cap)))=>match bl[b]? with
   |some ([.rows gW off code gD kind],t)=>cond (tk sh gW&&aR kind 1&&U.beq o off&&U.beq ro (.const 0)&&U.beq cap gD&&aR bE sh.length)
    (match Ic r tm bl with
    |some l=>some (code::len::cap::l)
    |none=>none) none
   |_=>none
  |_=>none
def TV:Nat->M Unit
 |0=>pure ()
 |k+1=>λn I5=> .nat n (TV k (n+1) I5)
def headD:List (Nat×List aV)->Nat->Nat->List V->List aH->List V×List aH
 |[],_,_,tm,bl=>(tm,bl)
 |(s,sh)::r,v,u,tm,bl=>headD r (v+3) (u+1) (xI tm s (.w (.one (.sl bl.length sh.length (.var u) (.const 0) (.var (v+1)) (.var (v+2)))))) (bl++[([.rows sh (.var u) (.var v) (.var (v+2)) 1],(0,false))])
noncomputable def Ib (l:List (Nat×List aV)):List (Int×Int):=l.flatMap λ_=>[(0,dN),(0,9223372036854775807),(-1,9223372036854775807)]
noncomputable def acS (li:gz) (body:Nat->List V->List aH->x1->T) (n:Nat) (tm:List V) (bl:List aH) (k:x1):T:=
 PU li.PT bl n λbl n=>G6 li.ints tm n λtm n=>Mi tm li.vw n λiw n=>match hs li.ij li.ints 0 (n+1) tm,Bc 0 li.uv tm bl [],Ic li.pX tm bl with
 |some (pj,l1,bQ),some (ju,us),some fg=>match hb li.cells 0 (n+1+l1.length) (qB us bl)with
  |none=> .stuck
  |some (gB,l2,b9)=>cond (!(qq pj pj&&qp gB gB)) .stuck <| .loop n (l1++l2++(iw++ju++fg)) (n+1) (bQ++b9++(Rd li.vw++GA li.uv++Ib li.pX))
   (TV li.pX.length (n+1+l1.length+l2.length+(iw++ju++fg).length) λ_ N=>
   let d:=headD li.pX (n+1+l1.length+l2.length+(iw++ju).length) (n+1+l1.length+l2.length+(iw++ju++fg).length) (Ac li.vw (n+1+l1.length+l2.length) pj) gB;let e:=xa li.uv (n+1+l1.length+l2.length+iw.length) d.1 d.2
   body N e.1 e.2 λx n' cE bx=>match x with
   | .normal=>G6 li.ints cE n' λcE n'=>Mi cE li.vw n' λanA n'=>match hs li.ij li.ints 0 (n+1) cE,Bc bl.length li.uv cE bx [],Ic li.pX cE bx with
    |some (DT,v1,_),some (acH,_),some anJ=>match hb li.cells 0 (n+1+v1.length) (bx.take bl.length)with
     |none=> .stuck
     |some (sH,v2,_)=>cond (qq pj DT&&qp gB sH) (.again n (v1++v2++(anA++acH++anJ))) .stuck
    |_,_,_=> .stuck
   |x=>k x n' cE bx)
 |_,_,_=> .stuck
def apg (tm:List V) (b:Nat):Nat:=cond (cJ 1000 b) (match tm[b-1000]? with|some (.w (.one (.ptr g _)))=>g|_=>b) b
def aKO (l:gz) (tm:List V):gz:={l with cells:=l.cells.map λc=>(apg tm c.1,c.2),PT:=l.PT.map λc=>(apg tm c.1,c.2)}
noncomputable def qj (P:bU) (gl:fO) (cal:gy) (inl:mH) (li:Nat->Option gz) (rounds:Nat):Code->Nat->List V->List aH->x1->T
 | .skip,n,tm,bl,k=>k .normal n tm bl
 | .region _ ops draw,n,tm,bl,k=>cond draw
  (let h:=Ng P cal ops
   cond (Lm ops h&&VY P (ops.toList.take h)) (JY P gl cal ops (ops.toList.take h) n tm bl λn' cE=>Mc P (ops.toList.take h) n' cE bl λn' cE bx=>KS P gl cal inl ops (ops.toList.drop h) n' cE bx (k .normal)) (cond (cJ (ops.toList.filter λo=> !acT o).length 12) (CL P gl cal inl ops (Nh ops tm bl) (kl (Nh ops tm bl) 0 bl) ops.size (Cu ops.size false) n tm bl (k .normal)) .stuck))
  (KS P gl cal inl ops ops.toList n tm bl (k .normal))
 | .seq a b,n,tm,bl,k=>qj P gl cal inl li rounds a n tm bl λx n' cE bx=>match x with
  | .normal=>qj P gl cal inl li rounds b n' cE bx k
  |x=>k x n' cE bx
 | .cond c a b,n,tm,bl,k=>match cu tm c with
  | .w (.one (.bool e))=>match e with
   | .lit v=>cond v (qj P gl cal inl li rounds a n tm bl k) (qj P gl cal inl li rounds b n tm bl k)
   |e=> .vx e (qj P gl cal inl li rounds a n (xK e true tm) bl k) (qj P gl cal inl li rounds b n (xK e false tm) bl k)
  |_=> .stuck
 | .block id c,n,tm,bl,k=>qj P gl cal inl li rounds c n tm bl λx n' cE bx=>match x with
  | .exit Fp=>cond (aR Fp id) (k .normal n' cE bx) (k (.exit Fp) n' cE bx)
  |x=>k x n' cE bx
 | .loop c,n,tm,bl,k=>match(JH c).bind li with
  |some l=>acS (aKO l tm) (λn tm bl k=>qj P gl cal inl li rounds c n tm bl k) n tm bl k
  |none=>ad6 (λn tm bl k=>qj P gl cal inl li rounds c n tm bl k) rounds n tm bl k
 | .exit id,n,tm,bl,k=>k (.exit id) n tm bl
 | .ret,n,tm,bl,k=>k .ret n tm bl
 |_,_,_,_,_=> .stuck
def PQ (P:bU) (gl:fO) (bl:List aH) (tm:List V):ResultVar->Option W
 | .tmp t=>match tm[t]? with|some (.w u)=>some u|_=>none
 | .cell a t=>match tm[a]? with
  |some (.w (.one p))=>match Js bl gl p,lu P t,hq P t with
   |some cs,some true,some k=>cond (cJ k cs.length) (some (.agg (cs.take k))) none
   |some (x::_),some false,_=>some (.one x)
   |_,_,_=>none
  |_=>none
def Ii (P:bU) (gl:fO) (bl:List aH) (tm:List V):List ResultVar->Option (List W)
 |[]=>some []
 |r::s=>match PQ P gl bl tm r,Ii P gl bl tm s with|some u,some l=>some (u::l)|_,_=>none
def adm (tm:List V):List ResultVar->Option V
 |[.tmp t]=>match tm[t]? with
  |some (.tB f c)=>some (.tB f c)
  |some (.td b l lo)=>some (.td b l lo)
  |_=>none
 |_=>none
def PN (P:bU) (gl:fO) (fn:Func) (n:Nat) (tm:List V) (bl:List aH) (k:RK):T:=
 match Ii P gl bl tm fn.results.toList with
 |some [u]=>k n (.w u) bl
 |some l=>k n (.jG l) bl
 |none=>match adm tm fn.results.toList with
  |some v=>k n v bl
  |none=> .stuck
def K9:Nat->List V
 |0=>[]
 |n+1=> .jG []::K9 n
noncomputable def Rb (P:bU) (gl:fO) (cal:gy) (inl:mH) (li:dD->Nat->Option gz) (rounds:Nat):mH:=
 λf n vs bl k=>match P.funcs[f]? with
  |none=> .stuck
  |some fn=>match fn.body with
   |none=> .stuck
   |some c=>cond (!(fn.name== "runtime.NumGoroutine")&&cJ vs.length fn.ntmps) (qj P gl cal inl (li f) rounds c n (vs++K9 (fn.ntmps-vs.length)) bl λx n' cE bx=>match x with
    | .exit _=> .stuck
    |_=>PN P gl fn n' cE bx k) .stuck
noncomputable def Mo (P:bU) (gl:fO) (cal:gy) (li:dD->Nat->Option gz) (rounds:Nat):Nat->mH
 |0=>λ_ _ _ _ _=> .stuck
 |d+1=>Rb P gl cal (Mo P gl cal li rounds d) li rounds
abbrev qT:=dD->Option (Nat->List V->List aH->RK->T)
noncomputable def adn (bc:qT) (inl:mH):mH:=λf n vs bl k=>match bc f with
 |some g=>g n vs bl k
 |none=>inl f n vs bl k
noncomputable def Jr (bc:qT) (P:bU) (gl:fO) (cal:gy) (li:dD->Nat->Option gz) (rounds:Nat):Nat->mH
 |0=>λ_ _ _ _ _=> .stuck
 |d+1=>Rb P gl cal (adn bc (Jr bc P gl cal li rounds d)) li rounds
end Go.bX
