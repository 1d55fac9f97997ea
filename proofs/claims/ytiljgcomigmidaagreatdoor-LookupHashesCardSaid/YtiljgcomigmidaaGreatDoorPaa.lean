/- Texts as numbers. -/
import GoSem.ClaimData
import GoSem.Op.String
import Derived.WalkKit
import Derived.Laws.StructEq
import Derived.ChangeKeysEq
import Derived.Laws.Tables
import Derived.Laws.Strings2
import Derived.Laws.Concat
import Derived.Laws.Cover1
import Derived.Laws.Cover3
import Derived.Laws.BytesArg
import Derived.StillTail
import Derived.OrdersHeld
import Derived.Laws.CopyRow
import Derived.Deep.LoopGhost
open Array renaming toArray_toList->lx,replicate->sz,getElem?_eq_none->vG,toList_map->vQ,eq_empty_of_size_eq_zero->vS,getElem?_toList->CQ,getElem?_setIfInBounds_ne->ayM,ext_getElem?->ayS
open BitVec renaming ofInt->lW,toNat_ofInt->zR
open Bool renaming and_eq_true->aQ,not_eq_true'->iP,or_eq_true->pD,false_eq_true->pF,false_or->xJ,true_and->CK,not_eq_false'->CL,not_true->G7
open ByteArray renaming size->aD5,empty->aEq
open Classical renaming choose_spec->SC,choose->acY,byContradiction->adp
open Function renaming comp->Lw
open Go renaming World->ai,Value->ax,TypeId->aR,Program->bk,FuncId->cB,IntKind->cX,run_underlying->eK,Operand->lX,getD_both->zX,run_loadCells_list->CS
open Go.Act renaming put->CW
open Go.Builtin renaming len_->Hg,min_->SO,max_->SP
open Go.ByteArray renaming toList_mk->aD4,mk_append_mk->aD6,getElem?_lt'->aD7,extract_mk->aD8
open Go.Deferred renaming ofValue->adl
open Go.Instr renaming sliceBounds->jz,sureAddr->kK,sliceAt->nQ,loadAt->nR,indexAt->rh,fieldAt->CP,sliceBound->Hh,index->LH,slice->LI,extract->SG,fill->adk
open Go.IntKind renaming max->cV,signed->He,bits->adf,wrap->ayC
open Go.Next renaming value->kJ
open Go.Next.value renaming injEq->ayT
open Go.Op renaming bytesLess->dV
open Go.Oper renaming wp->m9
open Go.Region renaming ready->kX,binds->ri,wanted->ud,waitsFor->vR,noSelect->zU,waitsFor_spec->zW,free->SH,Mode->adn,chainB->ayP,seqB->ayQ
open Go.Result renaming andThen_ok->gG,andThen->ayU
open Go.Result.ok renaming injEq->ac7
open Go.Sem renaming run_bind->gy,run_pure->ie
open Go.Utf8 renaming encode->LG
open Go.Value.pointer renaming injEq->aDS
open Go.World renaming cell?->jx
open Go.World.Extends renaming refl->m8
open Int renaming le_refl->bO,toNat_natCast->ek,lt_or_le->ic,eq_ofNat_of_zero_le->oI,le_trans->oJ,le_of_lt->rk,emod_eq_of_lt->sx,mul_comm->vM,mul_le_mul_of_nonneg_left->xI,natCast_nonneg->zQ,dvd_of_emod_eq_zero->SI,ediv_nonneg->SJ,emod_nonneg->ada,emod_lt_of_pos->adb,mul_ediv_add_emod->ade,mul_le_mul->adg,ofNat_sub->adh,ediv_le_self->adj,ediv_le_ediv->ayB,mul_emod_right->ayG,fdiv_eq_ediv_of_nonneg->ayJ,tdiv_eq_ediv_of_nonneg->ayK,tmod_eq_emod_of_nonneg->ayL,ofNat_toNat->ayY
open List renaming getD->ar,map_cons->ch,mem_cons_of_mem->cx,range->cD,mem_of_getElem?->cM,length_append->c8,length_cons->dj,map_nil->ec,replicate->eh,append_assoc->eG,length_nil->fe,map_congr_left->gw,getElem?_eq_getElem->gF,map_map->jf,length_map->jW,mem_cons->kg,mem_of_mem_take->kh,length_take->ly,getElem?_map->lV,getElem?_cons_zero->m7,mem_of_mem_drop->nS,getElem?_take->oK,getElem?_append_left->pE,flatMap_cons->rl,eq_nil_of_length_eq_zero->ra,getElem?_append_right->vI,getElem?_drop->vP,map_take->zS,map_drop->zT,mem_of_find?_eq_some->zV,map_id->G3,find?_some->G9,getElem_mem->Hf,getElem?_toArray->LF,countP_cons->ayR
open List.cons renaming injEq->gY
open Nat renaming beq->aA,le_refl->aV,ble->bp,eq_of_beq_eq_true->bo,blt->ck,le_of_ble_eq_true->et,le_trans->gx,add_zero->kG,le_succ->kI,zero_le->kW,log2->lU,lt_or_ge->m6,succ_mul->qy,lt_succ_self->sy,zero_add->sB,lt_of_lt_of_le->tX,two_pow_pos->tY,add_mul->ue,min_eq_left->vL,pow_add->vN,pow_succ->xG,mul_comm->xH,add_assoc->zZ,pow_le_pow_right->G5,mul_one->Hd,div_div_eq_div_mul->LA,add_comm->LD,mul_div_cancel_left->SD,one_le_two_pow->acZ,testBit_mul_two_pow->ayD,div_add_mod->ayE,lt_log2_self->ayF,or_lt_two_pow->ayI
open Option renaming getD_some->qv,map_some->rf,isSome_none->rm,getD_none->LJ,map_none->SL
open Option.some renaming injEq->aK,inj->fQ
open Prod.mk renaming injEq->cN
open Pure renaming pure->CR
open UInt8 renaming ofNat->jV
set_option linter.unusedVariables false
set_option linter.unusedSimpArgs false
namespace Go.aW
def lC:List UInt8->Nat
 |[]=>0
 |b::r=>(b.toNat+1)+257*lC r
def xr:Nat->Nat->List UInt8
 |0,_=>[]
 |f+1,n=>match n with
  |0=>[]
  |k+1=>jV (k% 257)::xr f ((k+1)/257)
theorem M4 (b:UInt8) (r:List UInt8):lC (b::r)=(b.toNat+1)+257*lC r:=rfl
theorem afD (b:UInt8) (r:List UInt8):lC (b::r)=(b.toNat+257*lC r)+1:=by rw[M4];omega
theorem abe:∀(l:List UInt8) (f:Nat),l.length<=f->xr f (lC l)=l
 |[],0,_=>rfl
 |[],f+1,_=>rfl
 |b::r,0,h=>by simp at h
 |b::r,f+1,h=>by
  have hb:=b.toNat_lt;rw[afD];show jV ((b.toNat+257*lC r)% 257)::xr f ((b.toNat+257*lC r+1)/257)=b::r;have e1:(b.toNat+257*lC r)% 257=b.toNat:=by omega
  have e2:(b.toNat+257*lC r+1)/257=lC r:=by omega
  rw[e1,e2,abe r f (by simpa using h)];simp
theorem abf:∀(f n k:Nat),n<257^k->(xr f n).length<=k
 |0,_,_,_=>by simp[xr]
 |f+1,0,k,_=>by simp[xr]
 |f+1,n+1,0,h=>by simp at h
 |f+1,n+1,k+1,h=>by
  have:(n+1)/257<257^k:=by rw[Nat.div_lt_iff_lt_mul (by decide)];rw[xG]at h;exact h
  have ih:=abf f ((n+1)/257) k this;simp only[xr,dj];omega
theorem U5:∀(l:List UInt8),lC l<257^l.length
 |[]=>by simp[lC]
 |b::r=>by
  have ih:=U5 r;have hb:=b.toNat_lt;unfold lC;rw[dj,xG];omega
theorem U4:∀(l:List UInt8),l.length<=lC l
 |[]=>by simp
 |b::r=>by
  have ih:=U4 r;unfold lC;rw[dj];omega
theorem U6:∀(l:List UInt8),0<l.length->2^(l.length-1)<=lC l
 |[b],_=>by rw[M4];show 1<=_;omega
 |b::c::r,_=>by
  have ih:=U6 (c::r) (by simp);rw[M4 b];simp only[dj,Nat.add_sub_cancel]at ih⊢;rw[xG];omega
def aa (z:Int):List UInt8:=xr (lU z.toNat+1) z.toNat
def cT (l:List UInt8):Int:=lC l
theorem fj (l:List UInt8):aa (cT l)=l:=by
 unfold aa cT;rw[ek];apply abe;by_cases h:l.length=0
 ·omega
 ·have h1:=U6 l (by omega);have h2:lC l≠0:=by have:=U4 l;omega
  have h3:=(Nat.le_log2 h2).2 h1;omega
theorem lD (l:List UInt8):0<=cT l:=zQ _
theorem adX (k:Nat):∃H:Int,(∀l:List UInt8,l.length<=k->cT l<=H)/\∀z:Int,z<=H->(aa z).length<=k:=by
 refine⟨(257^k:Nat)-1,λl h=>?_,λz h=>?_⟩
 ·have h1:=U5 l;have h2:257^l.length<=257^k:=G5 (by decide) h;unfold cT;omega
 ·unfold aa;apply abf;have:=Nat.pow_pos (n:=k) (show 0<257 by decide);omega
def dP:Nat:=0x7ffffffff000
theorem Ms:∃H:Int,(∀l:List UInt8,l.length<=dP->cT l<=H)/\∀z:Int,z<=H->(aa z).length<=dP:=adX dP
noncomputable def b8:Int:=acY Ms
theorem kY {l:List UInt8} (h:l.length<=dP):cT l<=b8:=(SC Ms).1 l h
theorem vV {z:Int} (h:z<=b8):(aa z).length<=dP:=(SC Ms).2 z h
theorem pH:0<=b8:=by have:=kY (l:=[]) (by simp);exact this
def qU (l:List UInt8):List UInt8:=cond (bp l.length 1000000) l []
theorem amv (l:List UInt8):0<=cT (qU l)/\cT (qU l)<=b8:=by
 refine⟨lD _,kY ?_⟩;unfold qU;cases h:bp l.length 1000000 with
 |true=>have:=et h;simp only[cond_true];unfold dP;omega
 |false=>simp
def az (l:List UInt8):ByteArray:=⟨l.toArray⟩
def uh (z:Int):Nat:=if 0<=z then 2*z.toNat else 2*(-z).toNat-1
def xz (n:Nat):Int:=if n% 2=0 then((n/2:Nat):Int)else-(((n+1)/2:Nat):Int)
theorem axA (z:Int):xz (uh z)=z:=by
 unfold uh xz;split
 ·rw[if_pos (by omega)];omega
 ·rw[if_neg (by omega)];omega
def lc:List Nat->Nat
 |[]=>0
 |x::r=>2^x*(2*lc r+1)
def nL:Nat->Nat->Nat
 |0,_=>0
 |f+1,n=>if n% 2=0 then nL f (n/2)+1 else 0
theorem abZ (k:Nat):∀(x f:Nat),x<f->nL f (2^x*(2*k+1))=x
 |0,f+1,_=>by
  unfold nL;rw[if_neg (by rw[Nat.pow_zero,Nat.one_mul];omega)]
 |x+1,f+1,h=>by
  unfold nL;have e:2^(x+1)*(2*k+1)=2*(2^x*(2*k+1)):=by rw[xG,xH (2^x) 2,Nat.mul_assoc]
  rw[e,if_pos (by omega),SD _ (by decide),abZ k x f (by omega)]
def vg:Nat->Nat->List Nat
 |0,_=>[]
 |f+1,n=>if n=0 then []else nL n n::vg f (n/2^nL n n/2)
theorem aop (x:Nat):x<2^x:=Nat.lt_two_pow_self
theorem P4:∀l:List Nat,l.length<=lc l
 |[]=>aV _
 |x::r=>by
  have ih:=P4 r;unfold lc;have h1:1<=2^x:=acZ;have h2:2*lc r+1<=2^x*(2*lc r+1):=Nat.le_mul_of_pos_left _ h1;rw[dj];omega
theorem P6:∀(l:List Nat) (f:Nat),l.length<=f->vg f (lc l)=l
 |[],0,_=>rfl
 |[],f+1,_=>by simp[vg,lc]
 |x::r,0,h=>by simp at h
 |x::r,f+1,h=>by
  have h1:1<=2^x:=acZ;have h2:2^x<=2^x*(2*lc r+1):=Nat.le_mul_of_pos_right _ (by omega);have h3:=aop x;have hz:lc (x::r)≠0:=by
   have hl:lc (x::r)=2^x*(2*lc r+1):=rfl;omega
  have ht:nL (lc (x::r)) (lc (x::r))=x:=by
   show nL (2^x*(2*lc r+1)) (2^x*(2*lc r+1))=x;exact abZ _ _ _ (by omega)
  unfold vg;rw[if_neg hz,ht];have e:lc (x::r)/2^x/2=lc r:=by
   have hl:lc (x::r)=2^x*(2*lc r+1):=rfl;rw[hl,SD _ (by omega)];omega
  rw[e,P6 r f (by simpa using h)]
theorem P3 (X:Nat):∀k:Nat,∃B,∀l:List Nat,l.length<=k->(∀x∈l,x<=X)->lc l<=B
 |0=>⟨0,λl h _=>by
  have:l=[]:=List.length_eq_zero_iff.1 (by omega);subst this;exact aV _⟩
 |k+1=>by
  obtain⟨B,hB⟩:=P3 X k;refine⟨2^X*(2*B+1),λl h hx=>?_⟩;cases l with
  |nil=>exact kW _
  |cons x r=>
   unfold lc;have h1:=hB r (by simpa using h) λy hy=>hx y (cx _ hy);exact Nat.mul_le_mul (G5 (by decide) (hx x (by simp))) (by omega)
def rc (l:List (List Int)):Int:=(lc (l.map λrow=>lc (row.map uh)):Nat)
def ab (z:Int):List (List Int):=(vg z.toNat z.toNat).map λn=>(vg n n).map xz
theorem aov (l:List Int):(l.map uh).map xz=l:=by
 rw[jf]
 conv=>rhs;rw[<-G3 l]
 exact gw λz _=>axA z
theorem di (l:List (List Int)):ab (rc l)=l:=by
 unfold ab rc;rw[ek,P6 _ _ (P4 _),jf]
 conv=>rhs;rw[<-G3 l]
 refine gw λrow _=>?_;simp only[Lw,id];rw[P6 _ _ (P4 _),aov]
theorem eJ (l:List (List Int)):0<=rc l:=zQ _
theorem Uj (X:Int) (hX:0<=X):∃H:Int,∀l:List (List Int),l.length<=maxLen->(∀row∈l,row.length<=100/\∀z∈row,-X<=z/\z<=X)->rc l<=H:=by
 obtain⟨B,hB⟩:=P3 (2*X.toNat) 100;obtain⟨C,hC⟩:=P3 B maxLen;refine⟨(C:Nat),λl h hr=>?_⟩;unfold rc;have:=hC (l.map λrow=>lc (row.map uh)) (by simpa using h) λx hx=>by
  obtain⟨row,hrow,rfl⟩:=List.mem_map.1 hx;refine hB _ (by simpa using(hr row hrow).1) λy hy=>?_;obtain⟨z,hz,rfl⟩:=List.mem_map.1 hy;have h1:=(hr row hrow).2 z hz;unfold uh;split<;>omega
 omega
def Rc (row:List Int):Prop:=row.length<=100/\∀z∈row,-(0x10000000000000000+b8)<=z/\z<=0x10000000000000000+b8
theorem Ug:∃H:Int,∀l:List (List Int),l.length<=maxLen->(∀row∈l,Rc row)->rc l<=H:=Uj _ (by have:=pH;omega)
noncomputable def sF:Int:=acY Ug
theorem Uf {l:List (List Int)} (h:l.length<=maxLen) (hr:∀row∈l,Rc row):rc l<=sF:=SC Ug l h hr
theorem C5:0<=sF:=oJ (eJ []) (Uf (l:=[]) (by simp) (by simp))
def Rb (row:List Int):Prop:=row.length<=100/\∀z∈row,-(0x10000000000000000+b8+sF)<=z/\z<=0x10000000000000000+b8+sF
theorem Ui:∃H:Int,∀l:List (List Int),l.length<=maxLen->(∀row∈l,Rb row)->rc l<=H:=Uj _ (by have:=pH;have:=C5;omega)
noncomputable def bV:Int:=max (acY Ui) sF
theorem nU {l:List (List Int)} (h:l.length<=maxLen) (hr:∀row∈l,Rb row):rc l<=bV:=oJ (SC Ui l h hr) (Int.le_max_left _ _)
inductive av where
 |int (k:cX) (lo hi:Int)
 |str
 |bool
 |sub (k:Nat)
 |nil
def my:Nat->List av
 |0=>[.int .u8 0 255]
 |2=>[.int .i64 4 4,.int .i64 0 0,.str,.nil,.nil]
 |_=>[.str]
def av.plain:av->Bool
 | .sub _=>false
 |_=>true
def hZ (sh:List av):Bool:=sh.all av.plain
def av.beq:av->av->Bool
 |int k lo hi,int k' Zw nv=>decide (k=k')&&decide (lo=Zw)&&decide (hi=nv)
 |str,str=>true
 |bool,bool=>true
 |sub k,sub k'=>aA k k'
 |nil,nil=>true
 |_,_=>false
theorem av.beq_eq:∀{a b:av},av.beq a b=true->a=b
 |int k lo hi,int k' Zw nv,h=>by
  simp only[av.beq,aQ,decide_eq_true_eq]at h;rw[h.1.1,h.1.2,h.2]
 |str,str,_=>rfl
 |bool,bool,_=>rfl
 |int ..,str,h=>by cases h
 |int ..,bool,h=>by cases h
 |str,int ..,h=>by cases h
 |str,bool,h=>by cases h
 |bool,int ..,h=>by cases h
 |bool,str,h=>by cases h
 |sub _,sub _,h=>by rw[bo h]
 |int ..,sub _,h=>by cases h
 |str,sub _,h=>by cases h
 |bool,sub _,h=>by cases h
 |sub _,int ..,h=>by cases h
 |sub _,str,h=>by cases h
 |sub _,bool,h=>by cases h
 |nil,nil,_=>rfl
 |nil,int ..,h=>by cases h
 |nil,str,h=>by cases h
 |nil,bool,h=>by cases h
 |nil,sub _,h=>by cases h
 |int ..,nil,h=>by cases h
 |str,nil,h=>by cases h
 |bool,nil,h=>by cases h
 |sub _,nil,h=>by cases h
def jc:List av->List av->Bool
 |[],[]=>true
 |a::r,b::s=>av.beq a b&&jc r s
 |_,_=>false
theorem pt:∀{a b:List av},jc a b=true->a=b
 |[],[],_=>rfl
 |a::r,b::s,h=>by
  simp only[jc,aQ]at h;rw[av.beq_eq h.1,pt h.2]
 |[],_::_,h=>by cases h
 |_::_,[],h=>by cases h
noncomputable def av.dG:av->Int×Int
 |int _ lo hi=>(lo,hi)
 |str=>(0,b8)
 |bool=>(0,1)
 |sub _=>(0,sF)
 |nil=>(0,0)
def av.val:av->Int->ax
 |int k _ _,z=> .int k z
 |str,z=> .string (az (aa z))
 |bool,z=> .bool (decide (z=1))
 |sub _,_=> .slice none 0 0
 |nil,_=> .slice none 0 0
def aB:Nat->List Int->Int
 |0,[s]=>(aa s).length
 |1,[s,i]=>((aa s).getD i.toNat 0).toNat
 |2,[s,a,b]=>cT (((aa s).drop a.toNat).take (b.toNat-a.toNat))
 |3,[s,t]=>cT (aa s++aa t)
 |4,[s,t]=>if aa s=aa t then 1 else 0
 |5,[s,t]=>if dV (aa s) (aa t)=true then 1 else 0
 |20,[c]=>(ab c).length
 |21,[c,i,j]=>((ab c).getD i.toNat []).getD j.toNat 0
 |22,[c,a,b]=>rc (((ab c).drop a.toNat).take (b.toNat-a.toNat))
 |23,c::row=>rc (ab c++[row])
 |24,[c,e]=>rc (ab c++ab e)
 |25,c::i::row=>rc ((ab c).set i.toNat row)
 |26,n::row=>rc (eh n.toNat row)
 |27,[s]=>rc ((aa s).map λb=>[(b.toNat:Int)])
 |34,[c,a,b]=>cT ((((ab c).drop a.toNat).take (b.toNat-a.toNat)).map λrow=>jV (row.getD 0 0).toNat)
 |37,[x,y]=>x*2^y.toNat
 |38,[x,y]=>x% y
 |76,[x,y]=>x/y
 |33,[r,a,c]=>if a=c then r else r+a
 |29,[c,i,j,v]=>rc ((ab c).set i.toNat (((ab c).getD i.toNat []).set j.toNat v))
 |42,c::i::j::vs=>rc ((ab c).set i.toNat (((ab c).getD i.toNat []).take j.toNat++vs++((ab c).getD i.toNat []).drop (j.toNat+vs.length)))
 |43,[s,i]=>if jV i.toNat∈aa s then 1 else 0
 |61,c::a::k::row=>rc ((ab c).take a.toNat++eh k.toNat row++(ab c).drop (a.toNat+k.toNat))
 |62,[a,b]=>min a b
 |63,[c,a,s]=>rc ((ab c).take a.toNat++ab s++(ab c).drop (a.toNat+(ab s).length))
 |28,[c]=>cT ((ab c).map λrow=>jV (row.getD 0 0).toNat)
 |_,_=>0
def iA (z:Int):Prop:=∀b∈aa z,b<128
def mc (a b:Int):Prop:=(ab a).length=(ab b).length/\(ab a).length<=1000000/\(∀row∈ab a,iA (row.getD 0 0))/\(∀row∈ab b,iA (row.getD 2 0))/\∀i j:Nat,i<j->j<(ab a).length->dV (aa (((ab a).getD i []).getD 0 0)) (aa (((ab a).getD j []).getD 0 0))=true
noncomputable def uz:Nat->List Int->Prop
 |70,[l,c]=>c∣l
 |71,z::_=>(ab z).length<=1000000000
 |72,z::_=>64∣(ab z).length/\(ab z).length<=1000001000
 |73,z::_=>128∣(ab z).length/\(ab z).length<=1000001000
 |74,[i,l]=>0<=i/\i<l
 |78,[x,y,z,c]=>0<=x/\x<=y/\y<=z/\z<=c
 |79,[l,c]=>l<=c
 |75,l=>∀z∈l,(ab z).length<=100000000
 |77,[x]=>0<=x
 |80,[c,a,k]=>0<=a/\0<=k/\a+k<=(ab c).length
 |82,_=>True
 |83,r::_=>0<(ab r).length/\(ab r).length<=1000000000
 |84,[_,_,d]=>(ab d).length<=100000000
 |85,z::_=>(ab z).length<=1000000/\∀row∈ab z,(ab (row.getD 2 0)).length<=1000000
 |86,z::_=>∀row∈ab z,row.getD 0 0<128
 |87,[a,b,s,_,_,t,_,_]=>mc a b/\iA s/\iA t
 |88,a::b::_=>mc a b
 |89,[_,_,t,_,_]=>iA t
 |90,l=>∀z∈l,(aa z).length<=10000000
 |92,a::b::_=>ab a=[]/\∀row∈ab b,iA (row.getD 2 0)
 |93,z::_=>ab z=[[477315081741,437051401625,1786254407,0]]
 |95,m::_=>aa m=aa 477315081741
 |91,l=>∀z∈l,(aa z).length<=2000
 |_,_=>False
def ah:Nat->List Int->Prop
 |1,[s,i]=>0<=i/\i<(aa s).length
 |2,[s,a,b]=>0<=a/\a<=b/\b<=(aa s).length
 |3,[s,t]=>(aa s).length+(aa t).length<=dP
 |21,[c,i]=>0<=i/\i<(ab c).length
 |30,[i,n]=>0<=i/\i<n
 |31,[c,n]=>n=(ab c).length
 |32,[a,b,n]=>0<=a/\a<=b/\b<=n
 |22,[c,a,b]=>0<=a/\a<=b/\b<=(ab c).length
 |35,[c,a,b]=>(0<=a/\a<=b/\b<=(ab c).length)/\b-a<=0x7ffffffff000
 |36,[y]=>0<y
 |39,[x,l,h]=>l<=x/\x<=h
 |40,[a,b]=>0<=a->0<=b
 |41,[s]=>(aa s).length<=4294967280
 |44,[w,s]=>aa w=[]∨(aa s).length<=4294967280
 |23,[c,k]=>(ab c).length+k<=1073741824
 |26,[n]=>0<=n/\n<=1073741824
 |48,r::_=>(ab r).length<=1099511627776
 |50,s::_=>(aa s).length<=1073741824
 |49,[l,c]=>0<=l/\l<=c/\c<=1073741824
 |64,[p,q,r,l]=>0<=p/\p<=q/\q<=r/\r<=l/\0<l
 |65,[c,a,k]=>0<=a/\0<k/\a+k<=(ab c).length
 |66,r::_=>(ab r).length<=1000000
 |68,[l,c]=>l<=c∨l=0
 |67,[c,i,k]=>((ab c).getD i.toNat []).length=k.toNat
 |53,[c,l]=>c<0->l=0
 |52,[c,a,b]=>0<=a/\a<b/\b<=(ab c).length/\(ab c).length<=1073741824
 |51,[c,i,r]=>(0<=i/\i<=(ab c).length)/\(ab r).length=1/\(ab c).length+1<=1073741824
 |op,l=>uz op l
abbrev zzS:Type:=Nat->List (List Int)->List (List Int)->Prop
abbrev zzK:Type:=List (List Int)->List (List Int)->Prop
end Go.aW
namespace Go.aW
abbrev Env:=Nat->Int
def cR (ρ:Env) (n:Nat) (z:Int):Env:=λi=>cond (aA i n) z (ρ i)
def bh (ρ:Env):Nat->List Int->Env
 |_,[]=>ρ
 |n,z::zs=>bh (cR ρ n z) (n+1) zs
def agree (n:Nat) (ρ ae:Env):Prop:=∀i,i<n->ae i=ρ i
theorem agree.refl (n:Nat) (ρ:Env):agree n ρ ρ:=λ_ _=>rfl
theorem agree.trans {n n':Nat} {ρ ae qz:Env} (h:agree n ρ ae) (h':agree n' ae qz) (hn:n<=n'):agree n ρ qz:=
 λi hi=>(h' i (by omega)).trans (h i hi)
theorem agree.mono {n n':Nat} {ρ ae:Env} (h:agree n' ρ ae) (hn:n<=n'):agree n ρ ae:=λi hi=>h i (by omega)
theorem jQ (ρ:Env) (n:Nat) (z:Int):cR ρ n z n=z:=by simp[cR]
theorem Sc (ρ:Env) {n i:Nat} (z:Int) (h:i≠n):cR ρ n z i=ρ i:=by
 unfold cR;cases hb:aA i n with
 |false=>rfl
 |true=>exact absurd (bo hb) h
theorem agree.cR (n:Nat) (ρ:Env) (z:Int):agree n ρ (cR ρ n z):=λi hi=>Sc ρ z (by omega)
theorem agree.bh:∀(zs:List Int) (n:Nat) (ρ:Env),agree n ρ (bh ρ n zs)
 |[],n,ρ=>agree.refl n ρ
 |z::zs,n,ρ=>(agree.cR n ρ z).trans (agree.bh zs (n+1) _) (by omega)
structure U where
 c:Int
 ts:List (Int×Nat)
def gD (ρ:Env):List (Int×Nat)->Int
 |[]=>0
 |(k,i)::r=>k*ρ i+gD ρ r
def U.den (ρ:Env) (l:U):Int:=gD ρ l.ts+l.c
def r6 (k:Int) (i:Nat):List (Int×Nat)->List (Int×Nat)
 |[]=>[(k,i)]
 |(k',j)::r=>cond (ck i j) ((k,i)::(k',j)::r) (cond (aA i j) (cond (k+k'==0) r ((k+k',i)::r)) ((k',j)::r6 k i r))
def Ak:List (Int×Nat)->List (Int×Nat)->List (Int×Nat)
 |[],l=>l
 |(k,i)::r,l=>r6 k i (Ak r l)
def xu (m:Int):List (Int×Nat)->List (Int×Nat)
 |[]=>[]
 |(k,i)::r=>(m*k,i)::xu m r
theorem Vr (ρ:Env) (k:Int) (i:Nat):∀l,gD ρ (r6 k i l)=k*ρ i+gD ρ l
 |[]=>rfl
 |(k',j)::r=>by
  unfold r6;cases h1:ck i j with
  |true=>rfl
  |false=>
   cases h2:aA i j with
   |true=>
    have e:i=j:=bo h2;subst e;cases h3:(k+k'==0)with
    |true=>
     have h3:k+k'=0:=by simpa using h3
     simp only[cond_true,cond_false,gD];rw[<-Int.add_assoc,<-Int.add_mul,h3];simp
    |false=>simp only[cond_true,cond_false,gD];rw[Int.add_mul];omega
   |false=>simp only[cond_false,gD,Vr ρ k i r];omega
theorem Vp (ρ:Env):∀l bJ,gD ρ (Ak l bJ)=gD ρ l+gD ρ bJ
 |[],bJ=>by simp[Ak,gD]
 |(k,i)::r,bJ=>by simp only[Ak,Vr,gD,Vp ρ r bJ];omega
theorem Vs (ρ:Env) (m:Int):∀l,gD ρ (xu m l)=m*gD ρ l
 |[]=>by simp[xu,gD]
 |(k,i)::r=>by simp only[xu,gD,Vs ρ m r];rw[Int.mul_add,Int.mul_assoc]
def pr (n:Nat) (l:List (Int×Nat)):Prop:=∀t∈l,t.2<n
theorem pr.mono {n n':Nat} {l} (h:pr n l) (hn:n<=n'):pr n' l:=λt ht=>tX (h t ht) hn
theorem abi {n:Nat} {k:Int} {i:Nat} (hi:i<n):∀{l},pr n l->pr n (r6 k i l)
 |[],_=>by intro t ht;simp[r6]at ht;subst ht;exact hi
 |(k',j)::r,h=>by
  have hr:pr n r:=λt ht=>h t (cx _ ht);have hj:j<n:=h (k',j) (by simp);have ih:=abi (k:=k) hi hr;unfold r6;intro t ht;cases h1:ck i j<;>cases h2:aA i j<;>cases h3:(k+k'==0)<;>simp only[h1,h2,h3,cond_true,cond_false,kg]at ht<;>
   first
   |(rcases ht with rfl|ht<;>first|exact hi|exact hj|(exact hr t ht)|(exact ih t ht)|(rcases ht with rfl|ht<;>first|exact hj|exact hr t ht))
   |exact hr t ht
theorem abh {n:Nat}:∀{l bJ},pr n l->pr n bJ->pr n (Ak l bJ)
 |[],_,_,h'=>h'
 |(k,i)::r,_,h,h'=>abi (k:=k) (i:=i) (h (k,i) (by simp)) (abh (l:=r) (λt ht=>h t (cx _ ht)) h')
theorem abj {n:Nat} {m:Int}:∀{l},pr n l->pr n (xu m l)
 |[],_=>λt ht=>by simp[xu]at ht
 |(k,i)::r,h=>by
  intro t ht;simp only[xu,kg]at ht;rcases ht with rfl|ht
  ·exact h (k,i) (by simp)
  ·exact abj (λt ht=>h t (cx _ ht)) t ht
theorem Vq {n:Nat} {ρ ae:Env} (h:agree n ρ ae):∀{l},pr n l->gD ae l=gD ρ l
 |[],_=>rfl
 |(k,i)::r,hs=>by
  simp only[gD,h i (hs (k,i) (by simp)),Vq h (l:=r) (λt ht=>hs t (cx _ ht))]
namespace U
def const (c:Int):U:=⟨c,[]⟩
def var (n:Nat):U:=⟨0,[(1,n)]⟩
def add (a b:U):U:=⟨a.c+b.c,Ak a.ts b.ts⟩
def smul (m:Int) (a:U):U:=cond (m==0) ⟨0,[]⟩ ⟨m*a.c,xu m a.ts⟩
def sub (a b:U):U:=a.add (b.smul (-1))
def dq (a:U):Option Int:=match a.ts with|[]=>some a.c|_=>none
def aY (n:Nat) (a:U):Prop:=pr n a.ts
def Aq:List (Int×Nat)->List (Int×Nat)->Bool
 |[],[]=>true
 |(k,i)::r,(k',y5)::r'=>k==k'&&aA i y5&&Aq r r'
 |_,_=>false
def beq (a b:U):Bool:=a.c==b.c&&Aq a.ts b.ts
theorem UI:∀{a b},Aq a b=true->a=b
 |[],[],_=>rfl
 |(k,i)::r,(k',y5)::r',h=>by
  simp only[Aq,aQ,beq_iff_eq]at h;obtain⟨⟨h1,h2⟩,h3⟩:=h;rw[h1,bo h2,UI h3]
 |[],_::_,h=>by simp[Aq]at h
 |_::_,[],h=>by simp[Aq]at h
theorem beq_eq {a b:U} (h:beq a b=true):a=b:=by
 simp only[beq,aQ,beq_iff_eq]at h;cases a;cases b;simp only at h;rw[h.1,UI h.2]
theorem aO (ρ:Env) (c:Int):(const c).den ρ=c:=by simp[const,den,gD]
theorem cj (ρ:Env) (n:Nat):(var n).den ρ=ρ n:=by simp[var,den,gD]
theorem den_add (ρ:Env) (a b:U):(a.add b).den ρ=a.den ρ+b.den ρ:=by simp only[add,den,Vp];omega
theorem kk (ρ:Env) (m:Int) (a:U):(a.smul m).den ρ=m*a.den ρ:=by
 unfold smul;cases h:(m==0)with
 |true=>have h:m=0:=by simpa using h
        subst h;simp[den,gD]
 |false=>simp only[cond_false,den,Vs,Int.mul_add]
theorem lE (ρ:Env) (a b:U):(a.sub b).den ρ=a.den ρ-b.den ρ:=by simp only[sub,den_add,kk];omega
theorem il {ρ:Env} {a:U} {c:Int} (h:a.dq=some c):a.den ρ=c:=by
 unfold dq at h;cases ha:a.ts with
 |nil=>simp[ha]at h;simp[den,ha,gD,h]
 |cons x r=>simp[ha]at h
theorem cr (n:Nat) (c:Int):(const c).aY n:=λt ht=>by simp[const]at ht
theorem er {n i:Nat} (h:i<n):(var i).aY n:=λt ht=>by simp[var]at ht;subst ht;exact h
theorem sj {n:Nat} {a b:U} (ha:a.aY n) (hb:b.aY n):(a.add b).aY n:=abh ha hb
theorem tI {n:Nat} {m:Int} {a:U} (ha:a.aY n):(a.smul m).aY n:=by
 unfold smul;cases(m==0)with
 |true=>exactλt ht=>by simp at ht
 |false=>exact abj ha
theorem xt {n:Nat} {a b:U} (ha:a.aY n) (hb:b.aY n):(a.sub b).aY n:=sj ha (tI hb)
theorem aY.mono {n n':Nat} {a:U} (h:a.aY n) (hn:n<=n'):a.aY n':=pr.mono h hn
theorem bw {n:Nat} {ρ ae:Env} (h:agree n ρ ae) {a:U} (ha:a.aY n):a.den ae=a.den ρ:=by simp only[den,Vq h ha]
end U
structure br where
 l:U
 lo:Int
 hi:Int
def br.ok (n:Nat) (ρ:Env) (x:br):Prop:=x.l.aY n/\x.lo<=x.l.den ρ/\x.l.den ρ<=x.hi
theorem br.ok.agree {n n':Nat} {ρ ae:Env} {x:br} (h:x.ok n ρ) (ha:agree n ρ ae) (hn:n<=n'):x.ok n' ae:=
 ⟨h.1.mono hn,by rw[U.bw ha h.1];exact h.2.1,by rw[U.bw ha h.1];exact h.2.2⟩
def br.const (c:Int):br:=⟨.const c,c,c⟩
theorem br.nj (n:Nat) (ρ:Env) (c:Int):(br.const c).ok n ρ:=⟨U.cr n c,by simp[br.const,U.aO],by simp[br.const,U.aO]⟩
inductive bf where
 |lit (b:Bool)
 |eq (a b:U)
 |lt (a b:U)
 |le (a b:U)
 |not (a:bf)
 |and (a b:bf)
 |iff (a b:bf)
namespace bf
def den (ρ:Env):bf->Bool
 |lit b=>b
 |eq a b=>decide (a.den ρ=b.den ρ)
 |lt a b=>decide (a.den ρ<b.den ρ)
 |le a b=>decide (a.den ρ<=b.den ρ)
 |not a=> !a.den ρ
 |and a b=>a.den ρ&&b.den ρ
 |iff a b=>a.den ρ==b.den ρ
def aY (n:Nat):bf->Prop
 |lit _=>True
 |eq a b|lt a b|le a b=>a.aY n/\b.aY n
 |not a=>a.aY n
 |and a b=>a.aY n/\b.aY n
 |iff a b=>a.aY n/\b.aY n
theorem aY.mono {n n':Nat} (hn:n<=n'):∀{b:bf},b.aY n->b.aY n'
 |lit _,_=>trivial
 |eq _ _,h|lt _ _,h|le _ _,h=>⟨h.1.mono hn,h.2.mono hn⟩
 |not a,h=>aY.mono (b:=a) hn h
 |and a b,h=>⟨aY.mono (b:=a) hn h.1,aY.mono (b:=b) hn h.2⟩
 |iff a b,h=>⟨aY.mono (b:=a) hn h.1,aY.mono (b:=b) hn h.2⟩
theorem bw {n:Nat} {ρ ae:Env} (ha:agree n ρ ae):∀{b:bf},b.aY n->b.den ae=b.den ρ
 |lit _,_=>rfl
 |eq _ _,h|lt _ _,h|le _ _,h=>by simp only[den,U.bw ha h.1,U.bw ha h.2]
 |not a,h=>by simp only[den,bw (b:=a) ha h]
 |and a b,h=>by simp only[den,bw (b:=a) ha h.1,bw (b:=b) ha h.2]
 |iff a b,h=>by simp only[den,bw (b:=a) ha h.1,bw (b:=b) ha h.2]
def beq:bf->bf->Bool
 |lit a,lit b=>a==b
 |eq a b,eq c d|lt a b,lt c d|le a b,le c d=>U.beq a c&&U.beq b d
 |not a,not b=>beq a b
 |and a b,and c d|iff a b,iff c d=>beq a c&&beq b d
 |_,_=>false
theorem beq_eq:∀{a b:bf},beq a b=true->a=b
 |lit a,b,h=>by cases b<;>simp[beq]at h;rw[h]
 |eq a b,c,h=>by cases c<;>simp[beq]at h;rw[U.beq_eq h.1,U.beq_eq h.2]
 |lt a b,c,h=>by cases c<;>simp[beq]at h;rw[U.beq_eq h.1,U.beq_eq h.2]
 |le a b,c,h=>by cases c<;>simp[beq]at h;rw[U.beq_eq h.1,U.beq_eq h.2]
 |not a,c,h=>by cases c<;>simp[beq]at h;rw[beq_eq h]
 |and a b,c,h=>by cases c<;>simp[beq]at h;rw[beq_eq h.1,beq_eq h.2]
 |iff a b,c,h=>by cases c<;>simp[beq]at h;rw[beq_eq h.1,beq_eq h.2]
def mkNot:bf->bf
 |lit b=>lit (!b)
 |not a=>a
 |a=>not a
def mkAnd:bf->bf->bf
 |lit true,b=>b
 |lit false,_=>lit false
 |a,lit true=>a
 |a,lit false=>cond true (lit false) a
 |a,b=>and a b
def mkIff (a b:bf):bf:=
 match a with
 |lit true=>b
 |lit false=>mkNot b
 |_=>match b with
  |lit true=>a
  |lit false=>mkNot a
  |_=>cond (beq a b) (lit true) (iff a b)
theorem uC (ρ:Env) (a:bf):(mkNot a).den ρ= !a.den ρ:=by cases a<;>simp[mkNot,den]
theorem vv {n:Nat} {a:bf} (h:a.aY n):(mkNot a).aY n:=by cases a<;>exact h
theorem Vu (ρ:Env) (a b:bf):(mkAnd a b).den ρ=(a.den ρ&&b.den ρ):=by
 unfold mkAnd;split<;>simp[den]
theorem abk {n:Nat} {a b:bf} (ha:a.aY n) (hb:b.aY n):(mkAnd a b).aY n:=by
 unfold mkAnd;split<;>first|exact hb|exact ha|trivial|exact⟨ha,hb⟩
theorem Vv (ρ:Env) (a b:bf):(mkIff a b).den ρ=(a.den ρ==b.den ρ):=by
 unfold mkIff;split
 ·simp[den]
 ·rw[uC];simp[den]
 ·split
  ·simp[den]
  ·rw[uC];simp[den]
  ·cases h:beq a b with
   |true=>have:=beq_eq h;subst this;simp[den]
   |false=>rfl
theorem abl {n:Nat} {a b:bf} (ha:a.aY n) (hb:b.aY n):(mkIff a b).aY n:=by
 unfold mkIff;split
 ·exact hb
 ·exact vv hb
 ·split
  ·exact ha
  ·exact vv ha
  ·cases beq a b with
   |true=>trivial
   |false=>exact⟨ha,hb⟩
def AN (d:U) (f:Int->Bool) (e:bf):bf:=match d.dq with|some c=>lit (f c)|none=>e
def mkLt (a b:br):bf:=cond (decide (a.hi<b.lo)) (lit true) (cond (decide (b.hi<=a.lo)) (lit false) (AN (a.l.sub b.l) (λc=>decide (c<0)) (lt a.l b.l)))
def mkLe (a b:br):bf:=cond (decide (a.hi<=b.lo)) (lit true) (cond (decide (b.hi<a.lo)) (lit false) (AN (a.l.sub b.l) (λc=>decide (c<=0)) (le a.l b.l)))
def mkEq (a b:br):bf:=cond (decide (a.hi<b.lo)) (lit false) (cond (decide (b.hi<a.lo)) (lit false) (cond (a.lo==a.hi&&b.lo==b.hi&&a.lo==b.lo) (lit true) (cond (U.beq a.l b.l) (lit true) (AN (a.l.sub b.l) (λc=>decide (c=0)) (eq a.l b.l)))))
theorem Nj {n:Nat} {ρ:Env} {d:U} {f:Int->Bool} {e:bf} (h:e.den ρ=f (d.den ρ)) (hs:e.aY n):(AN d f e).den ρ=e.den ρ/\(AN d f e).aY n:=by
 unfold AN;split
 ·rename_i c hc;exact⟨by rw[h,U.il hc];rfl,trivial⟩
 ·exact⟨rfl,hs⟩
theorem Ip {n:Nat} {ρ:Env} {a b:br} (ha:a.ok n ρ) (hb:b.ok n ρ):(mkLt a b).den ρ=decide (a.l.den ρ<b.l.den ρ)/\(mkLt a b).aY n:=by
 have h1:=ha.2;have h2:=hb.2
 unfold mkLt;by_cases c1:a.hi<b.lo
 ·simp only[decide_eq_true c1,cond_true,den,aY,and_true];symm;simp;omega
 ·by_cases c2:b.hi<=a.lo
  ·simp only[decide_eq_false c1,decide_eq_true c2,cond_true,cond_false,den,aY,and_true];symm;simp;omega
  ·simp only[decide_eq_false c1,decide_eq_false c2,cond_false];have:=Nj (n:=n) (ρ:=ρ) (d:=a.l.sub b.l) (f:=λc=>decide (c<0)) (e:=lt a.l b.l) (by simp only[den,U.lE];congr 1;simp;omega) ⟨ha.1,hb.1⟩;exact⟨this.1,this.2⟩
theorem Vw {n:Nat} {ρ:Env} {a b:br} (ha:a.ok n ρ) (hb:b.ok n ρ):(mkLe a b).den ρ=decide (a.l.den ρ<=b.l.den ρ)/\(mkLe a b).aY n:=by
 have h1:=ha.2;have h2:=hb.2
 unfold mkLe;by_cases c1:a.hi<=b.lo
 ·simp only[decide_eq_true c1,cond_true,den,aY,and_true];symm;simp;omega
 ·by_cases c2:b.hi<a.lo
  ·simp only[decide_eq_false c1,decide_eq_true c2,cond_true,cond_false,den,aY,and_true];symm;simp;omega
  ·simp only[decide_eq_false c1,decide_eq_false c2,cond_false];have:=Nj (n:=n) (ρ:=ρ) (d:=a.l.sub b.l) (f:=λc=>decide (c<=0)) (e:=le a.l b.l) (by simp only[den,U.lE];congr 1;simp;omega) ⟨ha.1,hb.1⟩;exact⟨this.1,this.2⟩
theorem uB {n:Nat} {ρ:Env} {a b:br} (ha:a.ok n ρ) (hb:b.ok n ρ):(mkEq a b).den ρ=decide (a.l.den ρ=b.l.den ρ)/\(mkEq a b).aY n:=by
 have h1:=ha.2;have h2:=hb.2
 unfold mkEq;by_cases c1:a.hi<b.lo
 ·simp only[decide_eq_true c1,cond_true,den,aY,and_true];symm;simp;omega
 ·by_cases c2:b.hi<a.lo
  ·simp only[decide_eq_false c1,decide_eq_true c2,cond_true,cond_false,den,aY,and_true];symm;simp;omega
  ·cases c3:(a.lo==a.hi&&b.lo==b.hi&&a.lo==b.lo)with
   |true=>
    simp only[aQ,beq_iff_eq]at c3;simp only[decide_eq_false c1,decide_eq_false c2,cond_false,cond_true,den,aY,and_true];symm;simp;omega
   |false=>
    cases c4:U.beq a.l b.l with
    |true=>simp only[decide_eq_false c1,decide_eq_false c2,cond_false,cond_true,den,aY,and_true,U.beq_eq c4];simp
    |false=>
     simp only[decide_eq_false c1,decide_eq_false c2,cond_false];have:=Nj (n:=n) (ρ:=ρ) (d:=a.l.sub b.l) (f:=λc=>decide (c=0)) (e:=eq a.l b.l) (by simp only[den,U.lE];congr 1;simp;omega) ⟨ha.1,hb.1⟩;exact⟨this.1,this.2⟩
end bf
end Go.aW
namespace Go.aW
inductive A where
 |int (k:cX) (x:br)
 |bool (b:bf)
 |ptr (b off:Nat)
 |ow (b off:Nat) (a7:br)
 |gptr (g off:Nat)
 |AR (g off:Nat) (a7:br)
 |slc (b off len cap:Nat)
 |con (v:ax)
 |str (l:U)
 |rows (sh:List av) (off code cap:U) (kind:Nat)
 |sl (b aL:Nat) (o ro len cap:U)
 |ep (b aL:Nat) (o i:U) (j:Nat)
inductive W where
 |one (a:A)
 |agg (l:List A)
inductive V where
 |w (x:W)
 |e6 (l:List W)
 |any
 |pj (b len lo:Nat)
 |mI (f:Nat) (hh:List A)
def aZ (op:BinOp) (k:cX) (x y:Int):Int:=
 match op with
 | .and=>k.wrap (lW k.bits x&&&lW k.bits y).toNat
 | .or=>k.wrap (lW k.bits x|||lW k.bits y).toNat
 | .xor=>k.wrap (lW k.bits x^^^lW k.bits y).toNat
 | .andNot=>k.wrap (lW k.bits x&&&~~~(lW k.bits y)).toNat
 |_=>0
inductive T where
 |stuck
 |leaf (v:V)
 |div (n:Nat) (x:U) (d lo hi:Int) (r:T)
 |mul (n:Nat) (x y:U) (lo hi:Int) (r:T)
 |bit (n:Nat) (op:BinOp) (k:cX) (x y:U) (r:T)
 |shr (n:Nat) (x y:U) (lo hi:Int) (r:T)
 |KZ (n:Nat) (cs:List U) (a7:U) (lo hi:Int) (r:T)
 |ux (b:bf) (t e:T)
 |call (id:Nat) (args:List U) (n:Nat) (bds:List (Int×Int)) (r:T)
 |loop (iZ:Nat) (init:List U) (n:Nat) (bds:List (Int×Int)) (r:T)
 |again (iZ:Nat) (vals:List U)
 |both (a b:T)
 |fn (n:Nat) (op:Nat) (args:List U) (lo hi:Int) (r:T)
 |oU (op:Nat) (args:List U) (r:T)
 |tO (n:Nat) (lo hi:Int) (r:T)
 |nat (n:Nat) (r:T)
 |wg (op:Nat) (args:List U) (r:T)
 |ind (n:Nat) (b:bf) (r:T)
def oR:List (Int×Int)->(List Int->Prop)->Prop
 |[],P=>P []
 |(l,h)::b,P=>∀r:Int,l<=r->r<=h->oR b (λrs=>P (r::rs))
def bd:List (Int×Int)->List Int->Prop
 |[],[]=>True
 |(l,h)::b,r::rs=>l<=r/\r<=h/\bd b rs
 |_,_=>False
theorem kM:∀{b:List (Int×Int)} {P:List Int->Prop} {rs:List Int},oR b P->bd b rs->P rs
 |[],_,[],h,_=>h
 |(l,u)::b,P,r::rs,h,hi=>kM (b:=b) (P:=λrs=>P (r::rs)) (h r hi.1 hi.2.1) hi.2.2
 |[],_,_::_,_,hi=>hi.elim
 |(_,_)::_,_,[],_,hi=>hi.elim
abbrev c9:=Nat->List Int->Prop
def c9.set (A:c9) (iZ:Nat) (p:List Int->Prop):c9:=λi=>cond (aA i iZ) p (A i)
def T.holds (S:Nat->List Int->List Int->Prop) (L:V->Env->Prop):T->c9->Env->Prop
 |stuck,_,_=>False
 |leaf v,_,ρ=>L v ρ
 |div n x d lo hi r,A,ρ=>∀q:Int,lo<=q->q<=hi->0<=x.den ρ-d*q->x.den ρ-d*q<d->r.holds S L A (cR ρ n q)
 |mul n x y lo hi r,A,ρ=>∀p:Int,lo<=p->p<=hi->p=x.den ρ*y.den ρ->r.holds S L A (cR ρ n p)
 |bit n op k x y r,A,ρ=>∀z:Int,0<=z->z<=k.max->z=aZ op k (x.den ρ) (y.den ρ)->r.holds S L A (cR ρ n z)
 |shr n x y lo hi r,A,ρ=>∀z:Int,lo<=z->z<=hi->z=x.den ρ/2^(y.den ρ).toNat->r.holds S L A (cR ρ n z)
 |KZ n cs a7 lo hi r,A,ρ=>∀z:Int,lo<=z->z<=hi->z=(cs.map (·.den ρ)).getD (a7.den ρ).toNat 0->r.holds S L A (cR ρ n z)
 |ux b t e,A,ρ=>(b.den ρ=true->t.holds S L A ρ)/\(b.den ρ=false->e.holds S L A ρ)
 |call id args n bds r,A,ρ=>oR bds λrs=>S id (args.map (·.den ρ)) rs->r.holds S L A (bh ρ n rs)
 |loop iZ init n bds r,A,ρ=>∃(I:List Int->Prop) (fo:List Int->Nat),I (init.map (·.den ρ))/\
  oR bds λzs=>I zs->r.holds S L (A.set iZ λvs=>I vs/\fo vs<fo zs) (bh ρ n zs)
 |again iZ vals,A,ρ=>A iZ (vals.map (·.den ρ))
 |both a b,A,ρ=>a.holds S L A ρ/\b.holds S L A ρ
 |fn n op args lo hi r,A,ρ=>∀z:Int,lo<=z->z<=hi->z=aB op (args.map (·.den ρ))->r.holds S L A (cR ρ n z)
 |oU op args r,A,ρ=>ah op (args.map (·.den ρ))/\r.holds S L A ρ
 |tO n lo hi r,A,ρ=>∀z:Int,lo<=z->z<=hi->r.holds S L A (cR ρ n z)
 |nat n r,A,ρ=>∀z:Int,0<=z->r.holds S L A (cR ρ n z)
 |wg op args r,A,ρ=>ah op (args.map (·.den ρ))->r.holds S L A ρ
 |ind n b r,A,ρ=>∀z:Int,0<=z->z<=1->b.den ρ=decide (z=1)->r.holds S L A (cR ρ n z)
abbrev M (α:Type):=Nat->(α->Nat->T)->T
namespace M
variable {α β:Type}
def pure (a:α):M α:=λn k=>k a n
def bind (x:M α) (f:α->M β):M β:=λn k=>x n λa n'=>f a n' k
def fail:M α:=λ_ _=> .stuck
def ao (S:Nat->List Int->List Int->Prop) (L:V->Env->Prop) (x:M α) (n:Nat) (ρ:Env) (R:Env->Nat->α->Prop):Prop:=∀A k,(x n k).holds S L A ρ->∃ae n' a,n<=n'/\agree n ρ ae/\R ae n' a/\(k a n').holds S L A ae
variable {S:Nat->List Int->List Int->Prop} {L:V->Env->Prop} {n:Nat} {ρ:Env}
theorem ao.pure {a:α} {R:Env->Nat->α->Prop} (h:R ρ n a):ao S L (M.pure a) n ρ R:=
 λ_ _ hk=>⟨ρ,n,a,aV _,agree.refl _ _,h,hk⟩
theorem ao.fail {R:Env->Nat->α->Prop}:ao S L (M.fail:M α) n ρ R:=λ_ _ hk=>hk.elim
theorem ao.bind {x:M α} {f:α->M β} {R:Env->Nat->α->Prop} {R':Env->Nat->β->Prop} (hx:ao S L x n ρ R)
 (hf:∀ae n' a,n<=n'->agree n ρ ae->R ae n' a->ao S L (f a) n' ae R'):ao S L (M.bind x f) n ρ R':=by
 intro A k hk;obtain⟨ae,n',a,hn,ha,hR,jD⟩:=hx A _ hk;obtain⟨qz,BT,b,mg,fs,n4,akn⟩:=hf ae n' a hn ha hR A k jD;exact⟨qz,BT,b,gx hn mg,ha.trans fs hn,n4,akn⟩
theorem ao.mono {x:M α} {R R':Env->Nat->α->Prop} (hx:ao S L x n ρ R) (h:∀ae n' a,n<=n'->agree n ρ ae->R ae n' a->R' ae n' a):ao S L x n ρ R':=by
 intro A k hk;obtain⟨ae,n',a,hn,ha,hR,jD⟩:=hx A k hk;exact⟨ae,n',a,hn,ha,h _ _ _ hn ha hR,jD⟩
end M
open M
section
variable {S:Nat->List Int->List Int->Prop} {L:V->Env->Prop} {n:Nat} {ρ:Env}
def x6:List U->Option (List Int)
 |[]=>some []
 |l::r=>match l.dq,x6 r with|some c,some s=>some (c::s)|_,_=>none
theorem MK {ρ:Env}:∀{l:List U} {cs:List Int},x6 l=some cs->l.map (·.den ρ)=cs
 |[],cs,h=>by simp[x6]at h;subst h;rfl
 |l::r,cs,h=>by
  simp only[x6]at h;cases h1:l.dq with
  |none=>simp[h1]at h
  |some c=>
   cases h2:x6 r with
   |none=>simp[h1,h2]at h
   |some s=>
    simp only[h1,h2,aK]at h;subst h;simp only[ch,U.il h1,MK h2]
def ev (op:Nat) (args:List U) (lo hi:Int):M U:=λn k=>match bp op 5,x6 args with
 |true,some cs=>k (.const (aB op cs)) n
 |_,_=> .fn n op args lo hi (k (.var n) (n+1))
def Ig:Nat->List Int->Bool
 |1,[s,i]=>decide (0<=i)&&decide (i<(aa s).length)
 |2,[s,a,b]=>decide (0<=a)&&decide (a<=b)&&decide (b<=(aa s).length)
 |3,[s,t]=>bp ((aa s).length+(aa t).length) 1000000
 |30,[i,n]=>decide (0<=i)&&decide (i<n)
 |32,[a,b,n]=>decide (0<=a)&&decide (a<=b)&&decide (b<=n)
 |39,[x,l,h]=>decide (l<=x)&&decide (x<=h)
 |_,_=>false
theorem af3 {op:Nat} {cs:List Int} (h:Ig op cs=true):ah op cs:=by
 unfold Ig at h;split at h
 ·simp only[aQ,decide_eq_true_eq]at h;exact h
 ·simp only[aQ,decide_eq_true_eq]at h;exact⟨h.1.1,h.1.2,h.2⟩
 ·have h:=et h;show _<=dP;unfold dP;omega
 ·simp only[aQ,decide_eq_true_eq]at h;exact h
 ·simp only[aQ,decide_eq_true_eq]at h;exact⟨h.1.1,h.1.2,h.2⟩
 ·simp only[aQ,decide_eq_true_eq]at h;exact h
 ·cases h
def eP (op:Nat) (args:List U):M Unit:=λn k=>match x6 args with
 |some cs=>cond (Ig op cs) (k () n) (.oU op args (k () n))
 |none=> .oU op args (k () n)
theorem fY {op:Nat} {args:List U} {lo hi:Int} (h1:lo<=aB op (args.map (·.den ρ))) (h2:aB op (args.map (·.den ρ))<=hi):
 ao S L (ev op args lo hi) n ρ λae n' l=>l.aY n'/\l.den ae=aB op (args.map (·.den ρ)):=by
 intro A k hk;unfold ev at hk;split at hk
 ·rename_i cs _ hcs;exact⟨_,n,_,aV _,agree.refl _ _,⟨U.cr _ _,by rw[U.aO,MK hcs]⟩,hk⟩
 ·exact⟨_,n+1,_,kI _,agree.cR _ _ _,⟨U.er (sy n),by simp[U.cj,jQ]⟩,hk _ h1 h2 rfl⟩
theorem fX {op:Nat} {args:List U} {α:Type} {x:M α} {R:Env->Nat->α->Prop} (h:ah op (args.map (·.den ρ))->ao S L x n ρ R):ao S L (bind (eP op args) λ_=>x) n ρ R:=by
 intro A k hk;unfold M.bind eP at hk;split at hk
 ·rename_i cs hcs;cases hb:Ig op cs with
  |true=>
   rw[hb]at hk;exact h (by rw[MK hcs];exact af3 hb) A k hk
  |false=>
   rw[hb]at hk;exact h hk.1 A k hk.2
 ·exact h hk.1 A k hk.2
def sP (x:br) (d:Int):M br:=λn k=>cond (d==1) (k x n) <| cond (x.lo/d==x.hi/d) (k (.const (x.lo/d)) n) (.div n x.l d (x.lo/d) (x.hi/d) (k ⟨.var n,x.lo/d,x.hi/d⟩ (n+1)))
theorem Dy {x:br} {d:Int} (hd:0<d) (hx:x.ok n ρ):ao S L (sP x d) n ρ λae n' q=>q.ok n' ae/\q.l.den ae=x.l.den ρ/d/\(q.lo=x.lo/d/\q.hi=x.hi/d):=by
 intro A k hk;have h1:=ayB hd hx.2.1;have h2:=ayB hd hx.2.2;unfold sP at hk;cases N1:(d==1)with
 |true=>
  have e:d=1:=by simpa using N1
  subst e;simp only[N1,cond_true]at hk;exact⟨ρ,n,x,aV _,agree.refl _ _,⟨hx,by simp,by simp,by simp⟩,hk⟩
 |false=>
 simp only[N1,cond_false]at hk;cases hc:(x.lo/d==x.hi/d)with
 |true=>
  simp only[hc,cond_true]at hk;have hc:x.lo/d=x.hi/d:=by simpa using hc
  exact⟨ρ,n,_,aV _,agree.refl _ _,⟨br.nj _ _ _,by simp only[br.const,U.aO];omega,rfl,hc⟩,hk⟩
 |false=>
  simp only[hc,cond_false,T.holds]at hk;have hm:=ada (x.l.den ρ) (show d≠0 by omega);have uS:=adb (x.l.den ρ) hd;have he:=ade (x.l.den ρ) d;refine⟨_,n+1,_,kI _,agree.cR _ _ _,⟨⟨U.er (sy n),?_,?_⟩,?_,rfl,rfl⟩,hk (x.l.den ρ/d) h1 h2 (by omega) (by omega)⟩<;>
   simp only[U.cj,jQ]<;>omega
def Qp (x:br) (d:Int):M br:=bind (sP x d) λq=>pure ⟨x.l.sub (q.l.smul d),cond (q.lo==q.hi) (x.lo-d*q.lo) 0,cond (q.lo==q.hi) (x.hi-d*q.lo) (d-1)⟩
theorem ZL {x:br} {d:Int} (hd:0<d) (hx:x.ok n ρ):ao S L (Qp x d) n ρ λae n' q=>q.ok n' ae/\q.l.den ae=x.l.den ρ% d:=by
 refine(Dy hd hx).bind λae n' q hn ha ⟨hq,he,oa,aAH⟩=>ao.pure ?_;have jH:=hx.agree ha hn;have hm:=ada (x.l.den ρ) (show d≠0 by omega);have uS:=adb (x.l.den ρ) hd;have aAF:=ade (x.l.den ρ) d;have rP:(x.l.sub (q.l.smul d)).den ae=x.l.den ρ% d:=by
  rw[U.lE,U.kk,U.bw ha hx.1,he];omega
 refine⟨⟨U.xt jH.1 (U.tI hq.1),?_,?_⟩,rP⟩
 ·cases hc:(q.lo==q.hi)with
  |true=>
   have hc:q.lo=q.hi:=by simpa using hc
   have:q.l.den ae=q.lo:=by have:=hq.2;omega
   simp only[cond_true,U.lE,U.kk,this];have:=jH.2.1;omega
  |false=>simp only[cond_false,rP];omega
 ·cases hc:(q.lo==q.hi)with
  |true=>
   have hc:q.lo=q.hi:=by simpa using hc
   have:q.l.den ae=q.lo:=by have:=hq.2;omega
   simp only[cond_true,U.lE,U.kk,this];have:=jH.2.2;omega
  |false=>simp only[cond_false,rP];omega
def two (k:cX):Int:=match k with| .i8| .u8=>256| .i16| .u16=>65536| .i32| .u32=>4294967296| .i64| .u64=>0x10000000000000000
theorem sn (k:cX):two k=(2:Int)^k.bits:=by cases k<;>rfl
def half (k:cX):Int:=cond k.signed (two k/2) 0
theorem Ll (k:cX) (x:Int):k.wrap x=(x+half k)% two k-half k:=by
 cases k<;>simp only[ayC,He,adf,half,two,cond_true,cond_false,CK,Bool.false_and]<;>
  simp<;>(try split)<;>omega
def tQ (k:cX) (x:br):M br:=cond (decide (-half k<=x.lo)&&decide (x.hi<two k-half k)) (pure x) (bind (Qp ⟨x.l.add (.const (half k)),x.lo+half k,x.hi+half k⟩ (two k)) λr=>pure ⟨r.l.add (.const (-half k)),r.lo-half k,r.hi-half k⟩)
theorem xA {k:cX} {x:br} (hx:x.ok n ρ):ao S L (tQ k x) n ρ λae n' q=>q.ok n' ae/\q.l.den ae=k.wrap (x.l.den ρ):=by
 have ht:0<two k:=by cases k<;>decide
 unfold tQ;cases hc:(decide (-half k<=x.lo)&&decide (x.hi<two k-half k))with
 |true=>
  simp only[aQ,decide_eq_true_eq]at hc;refine ao.pure ⟨hx,?_⟩;have h1:=hx.2;rw[Ll,sx (by omega) (by omega)];omega
 |false=>
  refine(ZL (x:=⟨x.l.add (.const (half k)),x.lo+half k,x.hi+half k⟩) ht ⟨U.sj hx.1 (U.cr _ _),?_,?_⟩).bind λae n' r hn ha ⟨hr,he⟩=>ao.pure ?_
  ·rw[U.den_add,U.aO];have:=hx.2.1;simp only;omega
  ·rw[U.den_add,U.aO];have:=hx.2.2;simp only;omega
  ·have e:(r.l.add (.const (-half k))).den ae=k.wrap (x.l.den ρ):=by
    rw[U.den_add,U.aO,he,U.den_add,U.aO,Ll];omega
   refine⟨⟨U.sj hr.1 (U.cr _ _),?_,?_⟩,e⟩<;>simp only[U.den_add,U.aO]<;>have:=hr.2<;>omega
def mulM (x y:br):M br:=λn k=>
 match x.l.dq,y.l.dq with
 |some c,_=>cond (decide (0<=c)) (k ⟨y.l.smul c,c*y.lo,c*y.hi⟩ n) .stuck
 |none,some c=>cond (decide (0<=c)) (k ⟨x.l.smul c,c*x.lo,c*x.hi⟩ n) .stuck
 |none,none=>cond (decide (0<=x.lo)&&decide (0<=y.lo)) (.mul n x.l y.l (x.lo*y.lo) (x.hi*y.hi) (k ⟨.var n,x.lo*y.lo,x.hi*y.hi⟩ (n+1))) .stuck
theorem ZN {x y:br} (hx:x.ok n ρ) (hy:y.ok n ρ):ao S L (mulM x y) n ρ λae n' q=>q.ok n' ae/\q.l.den ae=x.l.den ρ*y.l.den ρ:=by
 intro A k hk;unfold mulM at hk;cases h1:x.l.dq with
 |some c=>
  simp only[h1]at hk;by_cases hc:0<=c
  ·simp only[decide_eq_true hc,cond_true]at hk;refine⟨ρ,n,_,aV _,agree.refl _ _,⟨⟨U.tI hy.1,?_,?_⟩,?_⟩,hk⟩
   ·simp only[U.kk];exact xI hy.2.1 hc
   ·simp only[U.kk];exact xI hy.2.2 hc
   ·simp only[U.kk,U.il h1]
  ·simp only[decide_eq_false hc,cond_false,T.holds]at hk
 |none=>
  cases h2:y.l.dq with
  |some c=>
   simp only[h1,h2]at hk;by_cases hc:0<=c
   ·simp only[decide_eq_true hc,cond_true]at hk;refine⟨ρ,n,_,aV _,agree.refl _ _,⟨⟨U.tI hx.1,?_,?_⟩,?_⟩,hk⟩
    ·simp only[U.kk];exact xI hx.2.1 hc
    ·simp only[U.kk];exact xI hx.2.2 hc
    ·simp only[U.kk,U.il h2];exact vM _ _
   ·simp only[decide_eq_false hc,cond_false,T.holds]at hk
  |none=>
   simp only[h1,h2]at hk;cases hc:(decide (0<=x.lo)&&decide (0<=y.lo))with
   |false=>simp only[hc,cond_false,T.holds]at hk
   |true=>
    simp only[hc,cond_true,T.holds]at hk;simp only[aQ,decide_eq_true_eq]at hc;have a1:x.lo*y.lo<=x.l.den ρ*y.l.den ρ:=adg hx.2.1 hy.2.1 hc.2 (by have:=hx.2.1;omega);have a2:x.l.den ρ*y.l.den ρ<=x.hi*y.hi:=adg hx.2.2 hy.2.2 (by have:=hy.2.1;omega) (by have:=hx.2;omega);refine⟨_,n+1,_,kI _,agree.cR _ _ _,⟨⟨U.er (sy n),?_,?_⟩,?_⟩,hk _ a1 a2 rfl⟩<;>simp only[U.cj,jQ]<;>assumption
def Ar (op:BinOp) (k:cX) (x y:br):M br:=λn c=>cond k.signed .stuck (.bit n op k x.l y.l (c ⟨.var n,0,k.max⟩ (n+1)))
theorem ax2 {k:cX} (hk:k.signed=false) (x:Int):0<=k.wrap x/\k.wrap x<=k.max:=by
 cases k<;>simp[He]at hk<;>simp[ayC,He,adf,cV]<;>omega
theorem afp {k:cX} (hk:k.signed=false) (op:BinOp) (x y:Int):0<=aZ op k x y/\aZ op k x y<=k.max:=by
 unfold aZ;split
 iterate 4 exact ax2 hk _
 cases k<;>simp[He]at hk<;>simp[cV,He,adf]
theorem HY {op:BinOp} {k:cX} {x y:br}:ao S L (Ar op k x y) n ρ λae n' q=>q.ok n' ae/\q.l.den ae=aZ op k (x.l.den ρ) (y.l.den ρ):=by
 intro A c hk;unfold Ar at hk;cases hs:k.signed with
 |true=>simp only[hs,cond_true,T.holds]at hk
 |false=>
  simp only[hs,cond_false,T.holds]at hk;have hb:=afp hs op (x.l.den ρ) (y.l.den ρ);refine⟨_,n+1,_,kI _,agree.cR _ _ _,⟨⟨U.er (sy n),?_,?_⟩,?_⟩,hk _ hb.1 hb.2 rfl⟩<;>simp only[U.cj,jQ]<;>first|exact hb.1|exact hb.2
def J3 (c:Int):Option (Int×Int):=
 match c with
 | .ofNat 0=>none
 | .ofNat c=>
  let b:=2^(lU c+1);let a:=b-c
  cond (aA (2^lU a) a) (some (a,b)) none
 |_=>none
theorem bv_and {w:Nat} (x y:Int):((lW w x&&&lW w y).toNat:Int)=(((x% 2^w).toNat&&&(y% 2^w).toNat:Nat):Int):=by
 rw[BitVec.toNat_and,zR,zR]
 congr
theorem afz {w:Nat} (x y:Int):((lW w x|||lW w y).toNat:Int)=(((x% 2^w).toNat|||(y% 2^w).toNat:Nat):Int):=by
 rw[BitVec.toNat_or,zR,zR]
 congr
theorem ae2 (x a b:Nat) (aAA:a<=b):x&&&(2^b-2^a)=2^a*(x/2^a)-2^b*(x/2^b):=by
 have e1:2^b-2^a=2^a*(2^(b-a)-1):=by
  rw[Nat.mul_sub,<-vN,Hd];congr 2;omega
 have e2:x&&&(2^b-2^a)=2^a*(x/2^a% 2^(b-a)):=by
  rw[e1];apply Nat.eq_of_testBit_eq;intro i;rw[Nat.testBit_and,xH (2^a) (2^(b-a)-1),xH (2^a),ayD,ayD,Nat.testBit_two_pow_sub_one,Nat.testBit_mod_two_pow,Nat.testBit_div_two_pow];by_cases h:a<=i
  ·simp only[h,decide_true,CK];rw[show i-a+a=i by omega,Bool.and_comm]
  ·simp[h]
 rw[e2];have e3:x/2^b=x/2^a/2^(b-a):=by
  rw[LA,<-vN];congr 2;omega
 have e4:2^b=2^a*2^(b-a):=by rw[<-vN];congr 1;omega
 have gR:=ayE (x/2^a) (2^(b-a));rw[e3,e4,Nat.mul_assoc,<-Nat.mul_sub]
 congr 1
 omega
theorem aow {c a b:Int} (h:J3 c=some (a,b)):∃i j:Nat,i<=j/\a=2^i/\b=2^j/\c=b-a/\0<a/\0<b:=by
 unfold J3 at h;split at h
 ·cases h
 ·rename_i c hc;have hc0:c≠0:=λe=>hc (by rw[e]);cases hb:aA (2^lU (2^(lU c+1)-c)) (2^(lU c+1)-c)with
  |false=>simp[hb]at h
  |true=>
   simp only[hb,cond_true,aK,cN]at h;obtain⟨rfl,rfl⟩:=h;have e:=bo hb;have hlt:c<2^(lU c+1):=ayF;have hp:0<2^lU (2^(lU c+1)-c):=tY _;refine⟨lU (2^(lU c+1)-c),lU c+1,?_,?_,?_,?_,?_,?_⟩
   ·rcases m6 (lU c+1) (lU (2^(lU c+1)-c))with ag|ag
    ·have:=Nat.pow_lt_pow_right (a:=2) (by omega) ag;omega
    ·exact ag
   ·rw[<-e];simp
   ·simp
   ·have:((2^(lU c+1)-c:Nat):Int)=((2^(lU c+1):Nat):Int)-(c:Int):=by omega
    simp only[Int.ofNat_eq_natCast];omega
   ·omega
   ·have:0<2^(lU c+1):=tY _;omega
 ·cases h
def andM (x:br) (a b:Int):M br:=bind (sP x a) λp=>bind (sP x b) λq=>pure ⟨(p.l.smul a).sub (q.l.smul b),cond (q.lo==q.hi) (a*p.lo-b*q.lo) 0,cond (q.lo==q.hi) (a*p.hi-b*q.lo) (b-a)⟩
theorem ae1 {x:br} {i j:Nat} (uQ:i<=j) (hx:x.ok n ρ) (h0:0<=x.lo):ao S L (andM x (2^i) (2^j)) n ρ λae n' q=>q.ok n' ae/\q.l.den ae=((x.l.den ρ).toNat&&&(2^j-2^i):Nat):=by
 have hi:(0:Int)<2^i:=by have:=tY i;exact_mod_cast this
 have hj:(0:Int)<2^j:=by have:=tY j;exact_mod_cast this
 refine(Dy hi hx).bind λay n1 p eY dz ⟨hp,ep,_,_⟩=>?_;refine(Dy hj (hx.agree dz eY)).bind λbn n2 q dY cU ⟨hq,eq,_,_⟩=>ao.pure ?_;rw[U.bw dz hx.1]at eq;have Bg:=hp.agree cU dY;have agZ:p.l.den bn=x.l.den ρ/2^i:=by rw[U.bw cU hp.1,ep]
 obtain⟨X,hX⟩:=oI (show 0<=x.l.den ρ by have:=hx.2.1;omega);have e:((p.l.smul (2^i)).sub (q.l.smul (2^j))).den bn=((x.l.den ρ).toNat&&&(2^j-2^i):Nat):=by
  rw[U.lE,U.kk,U.kk,agZ,eq,hX,ek,ae2 X i j uQ];have h1:2^j*(X/2^j)<=2^i*(X/2^i):=by
   have e3:X/2^j=X/2^i/2^(j-i):=by rw[LA,<-vN];congr 2;omega
   have e4:2^j=2^i*2^(j-i):=by rw[<-vN];congr 1;omega
   rw[e3]
   conv=>lhs;rw[e4,Nat.mul_assoc]
   exact Nat.mul_le_mul_left _ (Nat.mul_div_le _ _)
  rw[adh h1];simp
 refine⟨⟨U.xt (U.tI Bg.1) (U.tI hq.1),?_,?_⟩,e⟩
 ·cases hc:(q.lo==q.hi)with
  |true=>
   have hc:q.lo=q.hi:=by simpa using hc
   have h1:q.l.den bn=q.lo:=by have:=hq.2;omega
   simp only[cond_true,U.lE,U.kk,h1];have:=xI Bg.2.1 (rk hi);omega
  |false=>simp only[cond_false,e];omega
 ·cases hc:(q.lo==q.hi)with
  |true=>
   have hc:q.lo=q.hi:=by simpa using hc
   have h1:q.l.den bn=q.lo:=by have:=hq.2;omega
   simp only[cond_true,U.lE,U.kk,h1];have:=xI Bg.2.2 (rk hi);omega
  |false=>
   simp only[cond_false,e];have h2:(x.l.den ρ).toNat&&&(2^j-2^i)<=2^j-2^i:=Nat.and_le_right;have h3:2^i<=2^j:=G5 (by omega) uQ;have h4:((2^j-2^i:Nat):Int)=2^j-2^i:=by rw[adh h3];simp
   omega
end
end Go.aW
namespace Go.aW
open M
def lS (c:Int) (g:Nat):Option Addr:=
 if c=-1 then none else match ab (g:Int)with
  |[[b,o,s]]=>some ⟨b.toNat,o.toNat,if s<0 then none else some s.toNat⟩
  |_=>some ⟨0,0,none⟩
theorem acO (c:Int) (g:Nat):(lS c g).isNone=decide (c=-1):=by
 unfold lS;split
 ·rename_i h;simp[h]
 ·rename_i h;split<;>simp[h]
theorem Sv (p:Option Addr):∃c g,(-2<=c/\c<0)/\lS c g=p:=by
 cases p with
 |none=>exact⟨-1,0,by decide,rfl⟩
 |some a=>
  obtain⟨b,o,s⟩:=a;have key:∀z:Int,∃c g,(-2<=c/\c<0)/\lS c g=some ⟨b,o,if z<0 then none else some z.toNat⟩:=λz=>by
   have h:=eJ [[(b:Int),(o:Int),z]];refine⟨-2,(rc [[(b:Int),(o:Int),z]]).toNat,by decide,?_⟩;unfold lS;rw[if_neg (by decide),Int.toNat_of_nonneg h,di];simp
  cases s with
  |none=>exact key (-1)
  |some k=>have:=key k;rwa [if_neg (by omega),ek]at this
def A.den (ρ:Env) (m:Nat->Nat):A->ax
 | .int k x=> .int k (x.l.den ρ)
 | .bool b=> .bool (b.den ρ)
 | .ptr b off=> .pointer (some ⟨m b,off,none⟩)
 | .ow b off a7=> .pointer (some ⟨m b,off+(a7.l.den ρ).toNat,none⟩)
 | .gptr g off=> .pointer (some ⟨g,off,none⟩)
 | .AR g off a7=> .pointer (some ⟨g,off+(a7.l.den ρ).toNat,none⟩)
 | .slc b off len cap=> .slice (some ⟨m b,off,none⟩) len cap
 | .con v=>v
 | .str l=> .string (az (aa (l.den ρ)))
 | .rows _ _ code _ _=> .int .u8 (code.den ρ)
 | .sl b aL o ro len cap=>if cap.den ρ<0 then .slice (lS (cap.den ρ) (m b)) 0 0 else .slice (some ⟨m b,(o.den ρ).toNat+(ro.den ρ).toNat*aL,none⟩) (len.den ρ).toNat (cap.den ρ).toNat
 | .ep b aL o i j=> .pointer (some ⟨m b,(o.den ρ).toNat+(i.den ρ).toNat*aL+j,none⟩)
def Cr (o ro len cap:Int):Prop:=(0<=o/\0<=ro/\0<=len/\len<=0x7fffffffffffffff)/\(-2<=cap/\ro+cap<=0x7fffffffffffffff)/\(cap<0->len=0)/\(0<=cap->len<=cap)
def A.ok (n nb:Nat) (ρ:Env):A->Prop
 | .int _ x=>x.ok n ρ
 | .bool b=>b.aY n
 | .ptr b _=>b<nb
 | .ow b _ a7=>b<nb/\a7.ok n ρ/\0<=a7.lo
 | .gptr .. =>True
 | .AR _ _ a7=>a7.ok n ρ/\0<=a7.lo
 | .slc b .. =>b<nb
 | .con v=>v.oneCell'=true
 | .str l=>l.aY n/\0<=l.den ρ/\l.den ρ<=b8
 | .rows _ off code cap _=>(off.aY n/\code.aY n/\cap.aY n)/\(0<=code.den ρ/\code.den ρ<=bV)/\-2<=cap.den ρ/\cap.den ρ<=0x7fffffffffffffff
 | .sl b _ o ro len cap=>b<nb/\(o.aY n/\ro.aY n/\len.aY n/\cap.aY n)/\Cr (o.den ρ) (ro.den ρ) (len.den ρ) (cap.den ρ)
 | .ep b _ o i _=>b<nb/\(o.aY n/\i.aY n)/\0<=o.den ρ/\0<=i.den ρ
theorem A.ok.ext {n n' nb jK:Nat} {ρ ae:Env} {a:A} (h:a.ok n nb ρ) (ha:agree n ρ ae) (hn:n<=n') (hb:nb<=jK):a.ok n' jK ae:=by
 cases a<;>simp only[A.ok]at h⊢
 ·exact h.agree ha hn
 ·exact bf.aY.mono hn h
 ·omega
 ·exact⟨by omega,h.2.1.agree ha hn,h.2.2⟩
 ·exact⟨h.1.agree ha hn,h.2⟩
 ·omega
 ·exact h
 ·exact⟨h.1.mono hn,by rw[U.bw ha h.1];exact h.2⟩
 ·obtain⟨⟨h1,h2,h3⟩,h4⟩:=h;exact⟨⟨h1.mono hn,h2.mono hn,h3.mono hn⟩,by rw[U.bw ha h2,U.bw ha h3];exact h4⟩
 ·obtain⟨h1,⟨h2,h3,h4,h5⟩,h6⟩:=h;exact⟨by omega,⟨h2.mono hn,h3.mono hn,h4.mono hn,h5.mono hn⟩,by rw[U.bw ha h2,U.bw ha h3,U.bw ha h4,U.bw ha h5];exact h6⟩
 ·obtain⟨h1,⟨h2,h3⟩,h4⟩:=h;exact⟨by omega,⟨h2.mono hn,h3.mono hn⟩,by rw[U.bw ha h2,U.bw ha h3];exact h4⟩
theorem A.j1 {n nb:Nat} {ρ ae:Env} {m m':Nat->Nat} {a:A} (h:a.ok n nb ρ) (ha:agree n ρ ae) (hm:∀b,b<nb->m' b=m b):a.den ae m'=a.den ρ m:=by
 cases a<;>simp only[A.ok]at h<;>simp only[A.den]
 ·rw[U.bw ha h.1]
 ·rw[bf.bw ha h]
 ·rw[hm _ h]
 ·rw[hm _ h.1,U.bw ha h.2.1.1]
 ·rw[U.bw ha h.1.1]
 ·rw[hm _ h]
 ·rw[U.bw ha h.1]
 ·rw[U.bw ha h.1.2.1]
 ·obtain⟨h1,⟨h2,h3,h4,h5⟩,h6⟩:=h;rw[hm _ h1,U.bw ha h2,U.bw ha h3,U.bw ha h4,U.bw ha h5]
 ·rw[hm _ h.1,U.bw ha h.2.1.1,U.bw ha h.2.1.2]
theorem A.Km {n nb:Nat} {ρ:Env} {m:Nat->Nat} {a:A} (h:a.ok n nb ρ):(a.den ρ m).oneCell'=true:=by
 cases a<;>first|rfl|exact h|(simp only[A.den];split<;>rfl)
def W.den (ρ:Env) (m:Nat->Nat):W->ax
 | .one a=>a.den ρ m
 | .agg l=> .agg (l.map (A.den ρ m)).toArray
def W.ok (n nb:Nat) (ρ:Env):W->Prop
 | .one a=>a.ok n nb ρ
 | .agg l=>∀a∈l,a.ok n nb ρ
theorem W.ok.ext {n n' nb jK:Nat} {ρ ae:Env} {x:W} (h:x.ok n nb ρ) (ha:agree n ρ ae) (hn:n<=n') (hb:nb<=jK):x.ok n' jK ae:=by
 cases x with
 |one a=>exact A.ok.ext h ha hn hb
 |agg l=>exactλa h'=>(h a h').ext ha hn hb
theorem qf {n nb:Nat} {ρ ae:Env} {m m':Nat->Nat} {l:List A} (h:∀a∈l,a.ok n nb ρ) (ha:agree n ρ ae) (hm:∀b,b<nb->m' b=m b):l.map (A.den ae m')=l.map (A.den ρ m):=
 gw λa h'=>A.j1 (h a h') ha hm
theorem W.j1 {n nb:Nat} {ρ ae:Env} {m m':Nat->Nat} {x:W} (h:x.ok n nb ρ) (ha:agree n ρ ae) (hm:∀b,b<nb->m' b=m b):x.den ae m'=x.den ρ m:=by
 cases x with
 |one a=>exact A.j1 h ha hm
 |agg l=>simp only[W.den,qf h ha hm]
def V.rel (ρ:Env) (m:Nat->Nat):V->ax->Prop
 | .w x,v=>v=x.den ρ m
 | .e6 l,v=>v= .tuple (l.map (W.den ρ m)).toArray
 | .any,_=>True
 | .pj b len lo,v=>∃c:Nat,lo<=c/\v= .slice (some ⟨m b,0,none⟩) len c
 | .mI f hh,v=>v= .func (.func f) #[] (hh.map (A.den ρ m)).toArray
def V.ok (n nb:Nat) (ρ:Env):V->Prop
 | .w x=>x.ok n nb ρ
 | .e6 l=>∀x∈l,x.ok n nb ρ
 | .any=>True
 | .pj b _ _=>b<nb
 | .mI _ hh=>∀a∈hh,A.ok n nb ρ a
theorem V.ok.ext {n n' nb jK:Nat} {ρ ae:Env} {x:V} (h:x.ok n nb ρ) (ha:agree n ρ ae) (hn:n<=n') (hb:nb<=jK):x.ok n' jK ae:=by
 cases x with
 |w x=>exact W.ok.ext h ha hn hb
 |e6 l=>exactλa h'=>(h a h').ext ha hn hb
 |any=>trivial
 |pj b len lo=>exact tX h hb
 |mI f hh=>exactλa h'=>(h a h').ext ha hn hb
theorem V.rel.ext {n nb:Nat} {ρ ae:Env} {m m':Nat->Nat} {x:V} {v:ax} (hr:x.rel ρ m v) (h:x.ok n nb ρ) (ha:agree n ρ ae) (hm:∀b,b<nb->m' b=m b):x.rel ae m' v:=by
 cases x with
 |w x=>simp only[V.rel]at hr⊢;rw[W.j1 h ha hm];exact hr
 |e6 l=>simp only[V.rel]at hr⊢;rw[hr];congr 2;exact(gw λa h'=>W.j1 (h a h') ha hm).symm
 |any=>trivial
 |pj b len lo=>obtain⟨c,h1,h2⟩:=hr;exact⟨c,h1,by rw[hm b h];exact h2⟩
 |mI f hh=>simp only[V.rel]at hr⊢;rw[hr];congr 2;exact(gw λa h'=>A.j1 (h a h') ha hm).symm
section
variable {S:Nat->List Int->List Int->Prop} {L:V->Env->Prop} {n:Nat} {ρ:Env}
def HN (s:Int):List (Int×Nat)->Bool
 |[]=>true
 |(k,_)::r=>k% s==0&&HN s r
theorem Uu {s:Int} (ρ:Env):∀{l},HN s l=true->gD ρ l% s=0
 |[],_=>by simp[gD]
 |(k,i)::r,h=>by
  simp only[HN,aQ,beq_iff_eq]at h;have h1:=Uu ρ h.2;obtain⟨c,hc⟩:=SI h.1;obtain⟨d,hd⟩:=SI h1;simp only[gD,hc,hd,Int.mul_assoc];rw[<-Int.mul_add];exact ayG _ _
def U.uk (s:Int) (l:U):Bool:=l.c% s==0&&HN s l.ts
theorem U.MJ {s:Int} (ρ:Env) {l:U} (h:l.uk s=true):l.den ρ% s=0:=by
 simp only[uk,aQ,beq_iff_eq]at h;have h1:=Uu ρ h.2;obtain⟨c,hc⟩:=SI h.1;obtain⟨d,hd⟩:=SI h1;simp only[den,hc,hd];rw[<-Int.mul_add];exact ayG _ _
def above (h:Int):Nat:=2^(lU h.toNat+1)
theorem Uq {x h:Int} (hx:x<=h) (h0:0<=x):x<(above h:Int):=by
 have:h.toNat<2^(lU h.toNat+1):=ayF;unfold above;omega
theorem dR {c:Bool} {α:Type} {x:M α} {R:Env->Nat->α->Prop} (h:c=true->ao S L x n ρ R):ao S L (cond c x fail) n ρ R:=by
 cases c with
 |true=>exact h rfl
 |false=>exact ao.fail
def ku (k:cX):Int:=two k-half k
theorem JX (k:cX):ku k<=two k:=by cases k<;>decide
theorem Zs (k:cX):∃i:Nat,ku k=2^i/\i<=k.bits:=by cases k<;>first|exact⟨7,by decide,by decide⟩|exact⟨8,by decide,by decide⟩|exact⟨15,by decide,by decide⟩|exact⟨16,by decide,by decide⟩|exact⟨31,by decide,by decide⟩|exact⟨32,by decide,by decide⟩|exact⟨63,by decide,by decide⟩|exact⟨64,by decide,by decide⟩
def HM (x:U):List Nat->Nat
 |[]=>1
 |i::r=>cond (x.uk (2^i)) (2^i) (HM x r)
def orM (k:cX) (x y:br):M br:=
 cond (!(decide (0<=x.lo)&&decide (0<=y.lo)&&decide (x.hi<ku k)&&decide (y.hi<ku k))) (cond (decide (0<=x.lo)&&decide (x.hi<ku k)) (
  let s:=HM x.l [24,18,16,12,8,6,4]
  cond (x.l.uk s&&decide (y.hi<ku k)&&decide (x.hi+s<ku k)) (bind (eP 30 [y.l,.const s]) λ_=>pure ⟨x.l.add y.l,x.lo,x.hi+s⟩) fail) fail) <|
 cond (x.l.uk (above y.hi)) (pure ⟨x.l.add y.l,x.lo+y.lo,cond (decide (x.hi+y.hi<two k)) (x.hi+y.hi) (two k-1)⟩) <|
 cond (y.l.uk (above x.hi)) (pure ⟨x.l.add y.l,x.lo+y.lo,cond (decide (x.hi+y.hi<two k)) (x.hi+y.hi) (two k-1)⟩) (Ar .or k x y)
theorem FI {X Y s:Nat} (hs:∃i,s=2^i) (hx:X% s=0) (hy:Y<s):X|||Y=X+Y:=by
 obtain⟨i,rfl⟩:=hs;have e:=ayE X (2^i);rw[hx,kG]at e;rw[<-e,<-Nat.two_pow_add_eq_or_of_lt hy]
theorem Lm {k:cX} {z:Int} (h0:0<=z) (h1:z<ku k):k.wrap z=z:=by
 rw[Ll];have ag:0<=half k:=by cases k<;>decide
 unfold ku at h1;rw[sx (by omega) (by omega)];omega
theorem Dj {k:cX} {x y:Int} (hx:0<=x) (hy:0<=y) (hx2:x<ku k) (uY:y<ku k):aZ .or k x y=((x.toNat|||y.toNat:Nat):Int):=by
 have hl:=JX k;have hx3:x<2^k.bits:=by rw[<-sn];omega
 have EX:y<2^k.bits:=by rw[<-sn];omega
 obtain⟨i,hi,_⟩:=Zs k;obtain⟨X,rfl⟩:=oI hx;obtain⟨Y,rfl⟩:=oI hy;have hX:X<2^i:=by rw[hi]at hx2;exact_mod_cast hx2
 have hY:Y<2^i:=by rw[hi]at uY;exact_mod_cast uY
 have h1:X|||Y<2^i:=ayI hX hY;unfold aZ;simp only;rw[afz,sx hx hx3,sx hy EX];simp only[ek];exact Lm (by omega) (by rw[hi];exact_mod_cast h1)
theorem yd {k:cX} {x y:Int} (hx:0<=x) (hy:0<=y) (hx2:x<ku k) (uY:y<two k):aZ .and k x y=((x.toNat&&&y.toNat:Nat):Int):=by
 have hl:=JX k;have hx3:x<2^k.bits:=by rw[<-sn];omega
 have EX:y<2^k.bits:=by rw[<-sn];omega
 obtain⟨X,rfl⟩:=oI hx;obtain⟨Y,rfl⟩:=oI hy;have h1:X&&&Y<=X:=Nat.and_le_left;unfold aZ;simp only;rw[bv_and,sx hx hx3,sx hy EX];simp only[ek];exact Lm (by omega) (by omega)
theorem toNat_mod {x:Int} {s:Nat} (hx:0<=x) (h:x% (s:Int)=0):x.toNat% s=0:=by
 obtain⟨X,rfl⟩:=oI hx;simp only[ek]
 exact_mod_cast h
theorem aqD {k:cX} {x y:br} (hx:x.ok n ρ) (hy:y.ok n ρ):ao S L (orM k x y) n ρ λae n' q=>q.ok n' ae/\q.l.den ae=aZ .or k (x.l.den ρ) (y.l.den ρ):=by
 unfold orM;cases hc:(!(decide (0<=x.lo)&&decide (0<=y.lo)&&decide (x.hi<ku k)&&decide (y.hi<ku k)))with
 |true=>
  simp only[cond_true];refine dR λh1=>dR λh2=>fX λh3=>ao.pure ?_;simp only[aQ,decide_eq_true_eq]at h1 h2;simp only[ch,ec,ah,U.aO]at h3;obtain⟨⟨h4,h6⟩,h5⟩:=h2;have Dp:=hx.2;have UX:=hy.2
  generalize hs:HM x.l [24,18,16,12,8,6,4]=s at*;have hm:=U.MJ ρ h4;have akU:∃i,s=2^i:=by
   rw[<-hs];generalize [24,18,16,12,8,6,4]=l;induction l with
   |nil=>exact⟨0,rfl⟩
   |cons i r ih=>
    unfold HM;cases x.l.uk (2^i)with
    |true=>exact⟨i,rfl⟩
    |false=>exact ih
  have e:x.l.den ρ+y.l.den ρ=aZ .or k (x.l.den ρ) (y.l.den ρ):=by
   rw[Dj (by omega) h3.1 (by omega) (by omega),FI akU (toNat_mod (by omega) hm) (by omega)];omega
  exact⟨⟨U.sj hx.1 hy.1,by simp only[U.den_add];omega,by simp only[U.den_add];omega⟩,by rw[U.den_add];exact e⟩
 |false=>
  simp only[CL,aQ,decide_eq_true_eq]at hc;obtain⟨⟨⟨h1,h2⟩,AU⟩,aAx⟩:=hc;have Ex:=JX k;have h3:x.hi<two k:=by omega
  have h4:y.hi<two k:=by omega
  have Dp:=hx.2;have UX:=hy.2
  have hb:=Dj (k:=k) (x:=x.l.den ρ) (y:=y.l.den ρ) (by omega) (by omega) (by omega) (by omega);have hlt:aZ .or k (x.l.den ρ) (y.l.den ρ)<two k:=by
   have e1:x.l.den ρ<2^k.bits:=by rw[<-sn];omega
   have e2:y.l.den ρ<2^k.bits:=by rw[<-sn];omega
   have h1:(x.l.den ρ).toNat|||(y.l.den ρ).toNat<2^k.bits:=ayI (by
    have:(x.l.den ρ).toNat=x.l.den ρ:=by omega
    exact_mod_cast (show((x.l.den ρ).toNat:Int)<2^k.bits by omega)) (by exact_mod_cast (show((y.l.den ρ).toNat:Int)<2^k.bits by omega))
   rw[hb,sn]
   exact_mod_cast h1
  have ok:∀q:Int,q=aZ .or k (x.l.den ρ) (y.l.den ρ)->x.l.den ρ+y.l.den ρ=q->(br.mk (x.l.add y.l) (x.lo+y.lo) (cond (decide (x.hi+y.hi<two k)) (x.hi+y.hi) (two k-1))).ok n ρ:=λq nA oc=>⟨U.sj hx.1 hy.1,by simp only[U.den_add];omega,by
   simp only[U.den_add];cases hd:decide (x.hi+y.hi<two k)with
   |true=>simp only[cond_true];omega
   |false=>simp only[cond_false];omega⟩
  simp only[cond_false];cases h5:x.l.uk (above y.hi)with
  |true=>
   have hm:=U.MJ ρ h5;have hl:=Uq UX.2 (by omega);have hs:x.l.den ρ+y.l.den ρ=aZ .or k (x.l.den ρ) (y.l.den ρ):=by
    rw[hb,FI (s:=above y.hi) ⟨_,rfl⟩ (toNat_mod (by omega) hm) (by omega)];omega
   exact ao.pure ⟨ok _ rfl hs,by rw[U.den_add];exact hs⟩
  |false=>
   simp only[cond_false];cases h6:y.l.uk (above x.hi)with
   |true=>
    have hm:=U.MJ ρ h6;have hl:=Uq Dp.2 (by omega);have hs:x.l.den ρ+y.l.den ρ=aZ .or k (x.l.den ρ) (y.l.den ρ):=by
     rw[hb,Nat.or_comm,FI (s:=above x.hi) ⟨_,rfl⟩ (toNat_mod (by omega) hm) (by omega)];omega
    exact ao.pure ⟨ok _ rfl hs,by rw[U.den_add];exact hs⟩
   |false=>exact HY
def HQ (k:cX) (x:br) (c:Int):M br:=
 match J3 c with
 |some (a,b)=>cond (!(decide (0<=x.lo)&&decide (x.hi<ku k)&&decide (c<two k)&&decide (0<=c))) fail (andM x a b)
 |none=>cond (c==0&&decide (0<=x.lo)&&decide (x.hi<ku k)) (pure (.const 0)) (Ar .and k x (.const c))
theorem Uz {k:cX} {x:br} {c:Int} (hx:x.ok n ρ):ao S L (HQ k x c) n ρ λae n' q=>q.ok n' ae/\q.l.den ae=aZ .and k (x.l.den ρ) c:=by
 unfold HQ;have Dp:=hx.2;cases hm:J3 c with
 |some p=>
  obtain⟨a,b⟩:=p;simp only;cases hc:(!(decide (0<=x.lo)&&decide (x.hi<ku k)&&decide (c<two k)&&decide (0<=c)))with
  |true=>exact ao.fail
  |false=>
   simp only[CL,aQ,decide_eq_true_eq]at hc;obtain⟨⟨⟨h1,h2⟩,h3⟩,h4⟩:=hc;obtain⟨i,j,uQ,rfl,rfl,Xl,_,_⟩:=aow hm;refine(ae1 uQ hx h1).mono λae n' q _ _ ⟨ho,he⟩=>⟨ho,?_⟩;rw[he,yd (by omega) h4 (by omega) h3]
   congr 2
   have h3:2^i<=2^j:=G5 (by omega) uQ;have h5:((2^j-2^i:Nat):Int)=2^j-2^i:=by rw[adh h3];simp
   omega
 |none=>
  simp only;cases hc:(c==0&&decide (0<=x.lo)&&decide (x.hi<ku k))with
  |false=>exact HY.mono λae n' q _ _ ⟨h1,h2⟩=>⟨h1,by rw[h2];simp only[br.const,U.aO]⟩
  |true=>
   simp only[aQ,beq_iff_eq,decide_eq_true_eq]at hc;obtain⟨⟨rfl,h1⟩,h2⟩:=hc;refine ao.pure ⟨br.nj _ _ _,?_⟩;rw[yd (by omega) (bO _) (by omega) (by cases k<;>decide)];simp[br.const,U.aO]
theorem afo (k:cX) (x y:Int):aZ .and k x y=aZ .and k y x:=by simp only[aZ,BitVec.and_comm]
def MM (k:cX) (x y:br):M br:=
 match y.l.dq,x.l.dq with
 |some c,_=>HQ k x c
 |none,some c=>HQ k y c
 |none,none=>Ar .and k x y
theorem ae0 {k:cX} {x y:br} (hx:x.ok n ρ) (hy:y.ok n ρ):ao S L (MM k x y) n ρ λae n' q=>q.ok n' ae/\q.l.den ae=aZ .and k (x.l.den ρ) (y.l.den ρ):=by
 unfold MM;cases h1:y.l.dq with
 |some c=>simp only[U.il h1];exact Uz hx
 |none=>
  cases h2:x.l.dq with
  |some c=>simp only[U.il h2];rw[afo];exact Uz hy
  |none=>exact HY
def RH (x y:br):M br:=λn k=> .shr n x.l y.l 0 x.hi (k ⟨.var n,0,x.hi⟩ (n+1))
theorem atQ {x y:br} (hx:x.ok n ρ) (h0:0<=x.lo):ao S L (RH x y) n ρ λae n' q=>q.ok n' ae/\q.l.den ae=x.l.den ρ/2^(y.l.den ρ).toNat:=by
 intro A k hk;simp only[RH,T.holds]at hk;have hp:(0:Int)<2^(y.l.den ρ).toNat:=by have:=tY (y.l.den ρ).toNat;exact_mod_cast this
 have b0:0<=x.l.den ρ:=by have:=hx.2;omega
 have a1:0<=x.l.den ρ/2^(y.l.den ρ).toNat:=SJ b0 (rk hp);have a2:x.l.den ρ/2^(y.l.den ρ).toNat<=x.hi:=oJ (adj _ b0) hx.2.2;exact⟨_,n+1,_,kI _,agree.cR _ _ _,⟨⟨U.er (sy n),by simp only[U.cj,jQ];exact a1,by simp only[U.cj,jQ];exact a2⟩,by simp only[U.cj,jQ]⟩,hk _ a1 a2 rfl⟩
def isInt (k:cX) (x:M br):M A:=bind x λr=>pure (.int k r)
def xl (x:br):M br:=cond (decide (0<=x.lo)) (pure x) (bind (eP 77 [x.l]) λ_=>pure ⟨x.l,0,x.hi⟩)
def Qq (x y:br):M br:=match x.l.dq,y.l.dq with
 |none,none=>bind (xl x) λx=>bind (xl y) λy=>mulM x y
 |_,_=>mulM x y
def br.AE (y:br):Option Int:=match y.l.dq with
 |some c=>some c
 |none=>cond (decide (y.lo=y.hi)) (some y.lo) none
theorem br.Vt {n:Nat} {ρ:Env} {y:br} {c:Int} (hy:y.ok n ρ) (h:y.AE=some c):y.l.den ρ=c:=by
 unfold br.AE at h;cases hc:y.l.dq with
 |some d=>simp only[hc,aK]at h;rw[U.il hc,h]
 |none=>
  simp only[hc]at h;cases hd:decide (y.lo=y.hi)with
  |false=>simp[hd]at h
  |true=>
   simp only[hd,cond_true,aK]at h;have h1:y.lo=y.hi:=by simpa using hd
   have:=hy.2.1;have:=hy.2.2
   omega
def MS (op:BinOp) (k:cX) (x:br) (k':cX) (y:br):M A:=
 match op with
 | .shl=>match y.AE with
  |some c=>cond (decide (0<=c)) (let s:Int:=2^min c.toNat k.bits;isInt k (tQ k ⟨x.l.smul s,x.lo*s,x.hi*s⟩)) fail
  |none=>fail
 | .shr=>match y.AE with
  |some c=>cond (decide (0<=c)) (isInt k (sP x (2^min c.toNat k.bits))) fail
  |none=>cond (decide (0<=x.lo)&&decide (0<=y.lo)&&decide (y.hi<=(k.bits:Int))) (isInt k (RH x y)) fail
 | .add=>cond (decide (k=k')) (isInt k (tQ k ⟨x.l.add y.l,x.lo+y.lo,x.hi+y.hi⟩)) fail
 | .sub=>cond (decide (k=k')) (isInt k (tQ k ⟨x.l.sub y.l,x.lo-y.hi,x.hi-y.lo⟩)) fail
 | .mul=>cond (decide (k=k')) (isInt k (bind (Qq x y) (tQ k))) fail
 | .quo=>match y.l.dq with
  |some c=>cond (decide (k=k')&&decide (0<c)) (bind (xl x) λx=>isInt k (bind (sP x c) (tQ k))) fail
  |none=>cond (decide (k=k')) (bind (xl x) λx=>bind (eP 36 [y.l]) λ_=>isInt k (bind (bind (ev 76 [x.l,y.l] 0 x.hi) λl=>pure ⟨l,0,x.hi⟩) (tQ k))) fail
 | .rem=>match y.l.dq with
  |some c=>cond (decide (k=k')&&decide (0<c)) (bind (xl x) λx=>isInt k (Qp x c)) fail
  |none=>cond (decide (k=k')) (bind (xl x) λx=>bind (eP 36 [y.l]) λ_=>isInt k (bind (ev 38 [x.l,y.l] 0 (cond (decide (y.hi-1<=x.hi)) (y.hi-1) x.hi)) λl=>pure ⟨l,0,cond (decide (y.hi-1<=x.hi)) (y.hi-1) x.hi⟩)) fail
 | .and=>cond (decide (k=k')) (isInt k (MM k x y)) fail
 | .or=>cond (decide (k=k')) (isInt k (orM k x y)) fail
 | .xor=>cond (decide (k=k')) (isInt k (Ar .xor k x y)) fail
 | .andNot=>fail
 | .eql=>cond (decide (k=k')) (pure (.bool (.mkEq x y))) fail
 | .neq=>cond (decide (k=k')) (pure (.bool (.mkNot (.mkEq x y)))) fail
 | .lss=>cond (decide (k=k')) (pure (.bool (.mkLt x y))) fail
 | .leq=>cond (decide (k=k')) (pure (.bool (.mkLe x y))) fail
 | .gtr=>cond (decide (k=k')) (pure (.bool (.mkLt y x))) fail
 | .geq=>cond (decide (k=k')) (pure (.bool (.mkLe y x))) fail
theorem qd {k:cX} {x:M br} {R:Env->Nat->A->Prop} {v:Int} (h:ao S L x n ρ λae n' q=>q.ok n' ae/\q.l.den ae=v)
 (hR:∀ae n' (q:br),n<=n'->agree n ρ ae->q.ok n' ae->q.l.den ae=v->R ae n' (.int k q)):ao S L (isInt k x) n ρ R:=
 h.bind λae n' q hn ha ⟨ho,he⟩=>ao.pure (hR ae n' q hn ha ho he)
theorem B3 {x:br} (hx:x.ok n ρ):ao S L (xl x) n ρ λae n' q=>q.ok n' ae/\q.l=x.l/\q.hi=x.hi/\0<=q.lo/\x.l.den ae=x.l.den ρ:=by
 unfold xl;cases h:decide (0<=x.lo)with
 |true=>exact ao.pure ⟨hx,rfl,rfl,of_decide_eq_true h,rfl⟩
 |false=>
  refine fX λhk=>ao.pure ⟨⟨hx.1,?_,hx.2.2⟩,rfl,rfl,bO _,rfl⟩;simpa [ah,uz]using hk
theorem aoK {x y:br} (hx:x.ok n ρ) (hy:y.ok n ρ):ao S L (Qq x y) n ρ λae n' q=>q.ok n' ae/\q.l.den ae=x.l.den ρ*y.l.den ρ:=by
 unfold Qq;split
 ·refine(B3 hx).bind λay n1 fP eY dz ⟨jH,ex,_,_,pT⟩=>(B3 (hy.agree dz eY)).bind λbn n2 jS dY cU ⟨Pz,NI,_,_,ag7⟩=>(ZN (jH.agree cU dY) Pz).mono λeM n3 q _ _ ⟨h1,h2⟩=>⟨h1,?_⟩;rw[h2,NI,ag7,U.bw dz hy.1,U.bw cU jH.1,ex,pT]
 ·exact ZN hx hy
theorem afm {nb:Nat} {m:Nat->Nat} (P:bk) {op:BinOp} {k k':cX} {x y:br} (t:aR) (hx:x.ok n ρ) (hy:y.ok n ρ):
 ao S L (MS op k x k' y) n ρ λae n' a=>a.ok n' nb ae/\∀w,(binOp op t (.int k (x.l.den ρ)) (.int k' (y.l.den ρ))).run P w= .ok (a.den ae m) w:=by
 have aJ:∀s:Nat,(0:Int)<2^s:=λs=>by have:=tY s;exact_mod_cast this
 cases op<;>simp only[MS]
 case shl=>
  cases hc:y.AE with
  |none=>
   exact ao.fail
  |some c=>
   refine dR λh0=>?_;simp only[decide_eq_true_eq]at h0;have hp:=aJ (min c.toNat k.bits);refine qd (xA (x:=⟨x.l.smul (2^min c.toNat k.bits),x.lo*2^min c.toNat k.bits,x.hi*2^min c.toNat k.bits⟩) ⟨U.tI hx.1,?_,?_⟩) λae n' q _ _ ho he=>⟨ho,λw=>?_⟩
   ·simp only[U.kk];rw[vM];exact xI hx.2.1 (rk hp)
   ·simp only[U.kk];rw[vM x.hi];exact xI hx.2.2 (rk hp)
   ·simp only[A.den,he,U.kk,br.Vt hy hc,binOp,Op.shift];rw[if_neg (by omega)];simp[vM]
 case shr=>
  cases hc:y.AE with
  |some c=>
   refine dR λh0=>?_;simp only[decide_eq_true_eq]at h0;have hp:=aJ (min c.toNat k.bits);refine qd ((Dy hp hx).mono λ_ _ q _ _ h=>⟨h.1,h.2.1⟩) λae n' q _ _ ho he=>⟨ho,λw=>?_⟩;simp only[A.den,he,br.Vt hy hc,binOp,Op.shift];rw[if_neg (by omega)];simp[ayJ _ (rk hp)]
  |none=>
   refine dR λh0=>?_;simp only[aQ,decide_eq_true_eq]at h0;refine qd (atQ hx h0.1.1) λae n' q _ _ ho he=>⟨ho,λw=>?_⟩;have y3:=hy.2;simp only[A.den,he,binOp,Op.shift];rw[if_neg (by omega),show min (y.l.den ρ).toNat k.bits=(y.l.den ρ).toNat by omega];simp[ayJ _ (rk (aJ _))]
 case add=>
  refine dR λh0=>?_;simp only[decide_eq_true_eq]at h0;subst h0;have ER:=hx.2;have y3:=hy.2
  refine qd (xA (x:=⟨x.l.add y.l,x.lo+y.lo,x.hi+y.hi⟩) ⟨U.sj hx.1 hy.1,by simp only[U.den_add];omega,by simp only[U.den_add];omega⟩) λae n' q _ _ ho he=>⟨ho,λw=>?_⟩;simp[A.den,he,U.den_add,binOp,Op.intArith]
 case sub=>
  refine dR λh0=>?_;simp only[decide_eq_true_eq]at h0;subst h0;have ER:=hx.2;have y3:=hy.2
  refine qd (xA (x:=⟨x.l.sub y.l,x.lo-y.hi,x.hi-y.lo⟩) ⟨U.xt hx.1 hy.1,by simp only[U.lE];omega,by simp only[U.lE];omega⟩) λae n' q _ _ ho he=>⟨ho,λw=>?_⟩;simp[A.den,he,U.lE,binOp,Op.intArith]
 case mul=>
  refine dR λh0=>?_;simp only[decide_eq_true_eq]at h0;subst h0;refine qd (v:=k.wrap (x.l.den ρ*y.l.den ρ)) ((aoK hx hy).bind λay n1 p _ _ ⟨hp,ep⟩=>by rw[<-ep];exact xA hp) λae n' q _ _ ho he=>⟨ho,λw=>?_⟩;simp[A.den,he,binOp,Op.intArith]
 case quo=>
  cases hc:y.l.dq with
  |none=>
   refine dR λh0=>(B3 hx).bind λbz n0 fP mN ha0 ⟨jH,ex,Nx,oa,pT⟩=>fX λhk=>?_;have h0:=of_decide_eq_true h0;subst h0;simp only[ch,ec,ah]at hk;have EY:=U.bw ha0 hy.1;have ER:=jH.2;have e1:=SJ (show 0<=fP.l.den bz by omega) (rk hk);have e3:fP.l.den bz/y.l.den bz<=fP.l.den bz:=by
    have h5:=adj (y.l.den bz) (show 0<=fP.l.den bz by omega);exact h5
   have e4:fP.l.den bz/y.l.den bz<=fP.hi:=by omega
   have hf:aB 76 ([fP.l,y.l].map (·.den bz))=fP.l.den bz/y.l.den bz:=rfl;refine qd (v:=k.wrap (fP.l.den bz/y.l.den bz)) (((fY (by rw[hf];exact e1) (by rw[hf];exact e4)).bind λay n1 l _ _ ⟨g1,g2⟩=>ao.pure (R:=λae n' (q:br)=>q.ok n' ae/\q.l.den ae=fP.l.den bz/y.l.den bz) ⟨⟨g1,by simp only;rw[g2,hf];exact e1,by simp only;rw[g2,hf];exact e4⟩,by simp only;rw[g2,hf]⟩).bind λay n1 p _ _ ⟨hp,ep⟩=>by rw[<-ep];exact xA hp) λae n' q _ _ ho he=>⟨ho,λw=>?_⟩;simp only[A.den,he,binOp,Op.intDiv];have alG:0<y.l.den ρ:=EY▸hk;have hx0:0<=x.l.den ρ:=by rw[<-pT,<-ex];omega
   rw[EY,ex,pT,if_neg (by simp),if_neg (by omega),ayK hx0];simp
  |some c=>
   refine dR λh0=>(B3 hx).bind λbz n0 fP mN ha0 ⟨jH,ex,Nx,oa,pT⟩=>?_;simp only[aQ,decide_eq_true_eq]at h0;obtain⟨h0,h1⟩:=h0;subst h0;have ER:=jH.2;refine qd (v:=k.wrap (fP.l.den bz/c)) ((Dy h1 jH).bind λay n1 p _ _ ⟨hp,ep,_⟩=>by rw[<-ep];exact xA hp) λae n' q _ _ ho he=>⟨ho,λw=>?_⟩;have hx0:0<=x.l.den ρ:=by rw[<-pT,<-ex];omega
   simp only[A.den,he,U.il hc,binOp,Op.intDiv];rw[ex,pT,if_neg (by simp),if_neg (by omega),ayK hx0];simp
 case rem=>
  cases hc:y.l.dq with
  |none=>
   refine dR λh0=>(B3 hx).bind λbz n0 fP mN ha0 ⟨jH,ex,Nx,oa,pT⟩=>fX λhk=>?_;have h0:=of_decide_eq_true h0;subst h0;simp only[ch,ec,ah]at hk;have EY:=U.bw ha0 hy.1;have ER:=jH.2;have y3:=(hy.agree ha0 mN).2
   have e1:=ada (fP.l.den bz) (show y.l.den bz≠0 by omega);have e2:=adb (fP.l.den bz) hk;have e3:fP.l.den bz% y.l.den bz<=fP.l.den bz:=by
    have h5:=ade (fP.l.den bz) (y.l.den bz);have h6:=Int.mul_nonneg (rk hk) (SJ (show 0<=fP.l.den bz by omega) (rk hk));omega
   have hf:aB 38 ([fP.l,y.l].map (·.den bz))=fP.l.den bz% y.l.den bz:=rfl;have e4:fP.l.den bz% y.l.den bz<=cond (decide (y.hi-1<=fP.hi)) (y.hi-1) fP.hi:=by
    cases decide (y.hi-1<=fP.hi)with
    |true=>simp only[cond_true];omega
    |false=>simp only[cond_false];omega
   refine qd (v:=fP.l.den bz% y.l.den bz) ((fY (by rw[hf];exact e1) (by rw[hf];exact e4)).bind λay n1 l _ _ ⟨g1,g2⟩=>ao.pure ⟨⟨g1,by simp only;rw[g2,hf];exact e1,by simp only;rw[g2,hf];exact e4⟩,by simp only;rw[g2,hf]⟩) λae n' q _ _ ho he=>⟨ho,λw=>?_⟩;simp only[A.den,he,binOp,Op.intDiv];have alG:0<y.l.den ρ:=EY▸hk;have hx0:0<=x.l.den ρ:=by rw[<-pT,<-ex];omega
   rw[EY,ex,pT,if_neg (by simp),if_neg (by omega),ayL hx0];simp
  |some c=>
   refine dR λh0=>(B3 hx).bind λbz n0 fP mN ha0 ⟨jH,ex,Nx,oa,pT⟩=>?_;simp only[aQ,decide_eq_true_eq]at h0;obtain⟨h0,h1⟩:=h0;subst h0;have ER:=jH.2;refine qd (ZL h1 jH) λae n' q _ _ ho he=>⟨ho,λw=>?_⟩;have hx0:0<=x.l.den ρ:=by rw[<-pT,<-ex];omega
   simp only[A.den,he,U.il hc,binOp,Op.intDiv];rw[ex,pT,if_neg (by simp),if_neg (by omega),ayL hx0];simp
 case and=>
  refine dR λh0=>?_;simp only[decide_eq_true_eq]at h0;subst h0;refine qd (ae0 hx hy) λae n' q _ _ ho he=>⟨ho,λw=>?_⟩;simp[A.den,he,binOp,Op.intBits,aZ]
 case or=>
  refine dR λh0=>?_;simp only[decide_eq_true_eq]at h0;subst h0;refine qd (aqD hx hy) λae n' q _ _ ho he=>⟨ho,λw=>?_⟩;simp[A.den,he,binOp,Op.intBits,aZ]
 case xor=>
  refine dR λh0=>?_;simp only[decide_eq_true_eq]at h0;subst h0;refine qd HY λae n' q _ _ ho he=>⟨ho,λw=>?_⟩;simp[A.den,he,binOp,Op.intBits,aZ]
 case andNot=>
  exact ao.fail
 all_goals
  refine dR λh0=>?_;simp only[decide_eq_true_eq]at h0;subst h0;have e1:=bf.uB hx hy;have e2:=bf.Ip hx hy;have e3:=bf.Vw hx hy;have e4:=bf.Ip hy hx;have gR:=bf.Vw hy hx;refine ao.pure ⟨?_,λw=>?_⟩
  ·first|exact e1.2|exact bf.vv e1.2|exact e2.2|exact e3.2|exact e4.2|exact gR.2
  ·simp[A.den,bf.uC,e1.1,e2.1,e3.1,e4.1,gR.1,binOp,Op.intCmp]
   try rfl
end
end Go.aW
namespace Go.aW
open M
abbrev aj:=List A×(aR×Bool)
abbrev dA:=List (Nat×List (cX×Int))
structure cI where
 b:ai
 r:ai
 ex:Nat->Prop
 ro:Nat->Prop
 ds:List Deferred
def bI:List A->Bool
 |[.rows _ _ _ _ _]=>false
 |_=>true
noncomputable def aS (ρ:Env):List A->Nat
 |[.rows _ _ _ cap k]=>if cap.den ρ<0 then 0 else k
 |_=>2
def bD:List av->List Int->Prop
 |[],[]=>True
 |c::sh,z::r=>(c.dG.1<=z/\z<=c.dG.2)/\bD sh r
 |_,_=>False
def dm:List av->List Int->List ax
 |c::sh,z::r=>c.val z::dm sh r
 |_,_=>[]
def cG (sh:List av) (rows:List (List Int)):List ax:=rows.flatMap (dm sh)
def pL (cells:Array ax) (off:Nat) (sh:List av) (rows:List (List Int)):Prop:=(∀row∈rows,bD sh row)/\∃pre post,cells.toList=pre++cG sh rows++post/\pre.length=off
theorem bD.len:∀{sh:List av} {row:List Int},bD sh row->row.length=sh.length
 |[],[],_=>rfl
 |_::_,_::_,h=>by simp[bD.len h.2]
 |[],_::_,h=>h.elim
 |_::_,[],h=>h.elim
theorem bD.get:∀{sh:List av} {row:List Int} {j:Nat} {c:av},bD sh row->sh[j]?=some c->∃z,row[j]?=some z/\c.dG.1<=z/\z<=c.dG.2/\(dm sh row)[j]?=some (c.val z)
 |c'::sh,z::r,0,c,h,hc=>by
  simp only[m7,aK]at hc;subst hc;exact⟨z,rfl,h.1.1,h.1.2,rfl⟩
 |c'::sh,z::r,j+1,c,h,hc=>bD.get (sh:=sh) (row:=r) (j:=j) h.2 (by simpa using hc)
 |[],_,_,_,_,hc=>by simp at hc
 |_::_,[],_,_,h,_=>h.elim
theorem Gq:∀{sh:List av} {row:List Int},bD sh row->(dm sh row).length=sh.length
 |[],[],_=>rfl
 |_::_,_::_,h=>by simp[dm,Gq h.2]
 |[],_::_,h=>h.elim
 |_::_,[],h=>h.elim
theorem pW {sh:List av}:∀{rows:List (List Int)},(∀row∈rows,bD sh row)->(cG sh rows).length=rows.length*sh.length
 |[],_=>by simp[cG]
 |r::rs,h=>by
  have ih:=pW (rows:=rs) λrow hr=>h row (cx _ hr);have h1:=Gq (h r (by simp));simp only[cG,rl,c8,dj]at ih⊢;rw[ih,h1,qy];omega
theorem ID {sh:List av}:∀{rows:List (List Int)} {i j:Nat} {row:List Int} {v:ax},(∀row∈rows,bD sh row)->rows[i]?=some row->(dm sh row)[j]?=some v->(cG sh rows)[i*sh.length+j]?=some v
 |r::rs,0,j,row,v,h,hi,hj=>by
  simp only[m7,aK]at hi;subst hi;have hlt:=(List.getElem?_eq_some_iff.1 hj).1;simp only[cG,rl,Nat.zero_mul,sB];rw[pE hlt];exact hj
 |r::rs,i+1,j,row,v,h,hi,hj=>by
  have ih:=ID (rows:=rs) (i:=i) (λrow hr=>h row (cx _ hr)) (by simpa using hi) hj;have h1:=Gq (h r (by simp));simp only[cG,rl]at ih⊢;rw[vI (by rw[h1,qy];omega),h1,qy];rw[show i*sh.length+sh.length+j-sh.length=i*sh.length+j by omega];exact ih
 |[],i,_,_,_,_,hi,_=>by simp at hi
theorem uE (sh:List av) (a b:List (List Int)):cG sh (a++b)=cG sh a++cG sh b:=by simp[cG]
def ry (F:Nat->Prop) (w:ai) (sh:List av) (rows:List (List Int)) (v:ax):Prop:=((∃p,v= .slice p 0 0)/\rows=[])∨∃(g o cap:Nat) (cells:Array ax) (t:aR) (fz:Nat×Nat),v= .slice (some ⟨g,o,none⟩) rows.length cap/\(rows.length<=cap/\(cap:Int)<=0x7fffffffffffffff/\rows.length<=0x7ffffffff000)/\F g/\w.heap[g]?=some (.cells cells t fz)/\pL cells o sh rows
def qI (F:Nat->Prop) (w:ai):av->Int->ax->Prop
 | .sub k,z,v=>ry F w (my k) (ab z) v
 |c,z,v=>v=c.val z
def ea (F:Nat->Prop) (w:ai):List av->List Int->List ax->Prop
 |[],[],[]=>True
 |c::sh,z::r,v::vs=>qI F w c z v/\ea F w sh r vs
 |_,_,_=>False
def eF (F:Nat->Prop) (w:ai) (sh:List av):List (List Int)->List ax->Prop
 |[],vs=>vs=[]
 |row::rows,vs=>∃a b,vs=a++b/\ea F w sh row a/\eF F w sh rows b
def iy (F:Nat->Prop) (w:ai) (cells:Array ax) (off:Nat) (sh:List av) (rows:List (List Int)):Prop:=(∀row∈rows,bD sh row)/\∃pre vs post,cells.toList=pre++vs++post/\pre.length=off/\eF F w sh rows vs
def Fr (F:Nat->Prop) (w:ai) (F':Nat->Prop) (w':ai):Prop:=∀g,F g->∀o,w.heap[g]?=some o->F' g/\w'.heap[g]?=some o
theorem Fr.of {F F':Nat->Prop} (w:ai) (h:∀g,F g->F' g):Fr F w F' w:=λg hg o ho=>⟨h g hg,ho⟩
theorem Fr.trans {F F' TY:Nat->Prop} {w w' lp:ai} (h:Fr F w F' w') (h':Fr F' w' TY lp):Fr F w TY lp:=λg hg o ho=>by
 obtain⟨h1,h2⟩:=h g hg o ho;exact h' g h1 o h2
theorem Fr.ext {F F':Nat->Prop} {w w':ai} (h:∀g,F g->F' g) (he:w.Extends w'):Fr F w F' w':=λg hg o ho=>⟨h g hg,by rw[he.block g (Array.getElem?_eq_some_iff.1 ho).1];exact ho⟩
theorem ry.mono {F F':Nat->Prop} {w w':ai} {sh:List av} {rows:List (List Int)} {v:ax} (h:ry F w sh rows v) (hf:Fr F w F' w'):ry F' w' sh rows v:=by
 rcases h with h|⟨g,o,cap,cells,t,fz,h1,h2,h3,h4,h5⟩
 ·exact .inl h
 ·obtain⟨k1,k2⟩:=hf g h3 _ h4;exact .inr ⟨g,o,cap,cells,t,fz,h1,h2,k1,k2,h5⟩
theorem qI.mono {F F':Nat->Prop} {w w':ai} {c:av} {z:Int} {v:ax} (h:qI F w c z v) (hf:Fr F w F' w'):qI F' w' c z v:=by
 cases c with
 |sub k=>exact ry.mono (F:=F) (w:=w) h hf
 |_=>exact h
theorem ea.mono {F F':Nat->Prop} {w w':ai} (hf:Fr F w F' w'):∀{sh:List av} {row:List Int} {vs:List ax},ea F w sh row vs->ea F' w' sh row vs
 |[],[],[],_=>trivial
 |c::sh,z::r,v::vs,h=>⟨h.1.mono hf,ea.mono hf h.2⟩
 |[],_::_,_,h=>h.elim
 |[],[],_::_,h=>h.elim
 |_::_,[],_,h=>h.elim
 |_::_,_::_,[],h=>h.elim
theorem eF.mono {F F':Nat->Prop} {w w':ai} (hf:Fr F w F' w') {sh:List av}:∀{rows:List (List Int)} {vs:List ax},eF F w sh rows vs->eF F' w' sh rows vs
 |[],_,h=>h
 |row::rows,vs,h=>by
  obtain⟨a,b,h1,h2,h3⟩:=h;exact⟨a,b,h1,h2.mono hf,eF.mono hf h3⟩
theorem iy.mono {F F':Nat->Prop} {w w':ai} {cells:Array ax} {off:Nat} {sh:List av} {rows:List (List Int)} (h:iy F w cells off sh rows) (hf:Fr F w F' w'):iy F' w' cells off sh rows:=by
 obtain⟨h1,pre,vs,post,h2,h3,h4⟩:=h;exact⟨h1,pre,vs,post,h2,h3,h4.mono hf⟩
theorem ea.len {F:Nat->Prop} {w:ai}:∀{sh:List av} {row:List Int} {vs:List ax},ea F w sh row vs->vs.length=sh.length
 |[],[],[],_=>rfl
 |c::sh,z::r,v::vs,h=>by simp[ea.len h.2]
 |[],_::_,_,h=>h.elim
 |[],[],_::_,h=>h.elim
 |_::_,[],_,h=>h.elim
 |_::_,_::_,[],h=>h.elim
theorem eF.len {F:Nat->Prop} {w:ai} {sh:List av}:∀{rows:List (List Int)} {vs:List ax},eF F w sh rows vs->vs.length=rows.length*sh.length
 |[],vs,h=>by
  have h:vs=[]:=h;simp[h]
 |row::rows,vs,h=>by
  obtain⟨a,b,rfl,h2,h3⟩:=h;have h4:=h2.len;have h5:=eF.len h3;rw[c8,h4,h5,dj,qy,LD]
theorem Gn {F:Nat->Prop} {w:ai}:∀{sh:List av} {row:List Int} {vs:List ax},hZ sh=true->bD sh row->(ea F w sh row vs↔vs=dm sh row)
 |[],[],[],_,_=>⟨λ_=>rfl,λ_=>trivial⟩
 |[],[],_::_,_,_=>⟨λh=>h.elim,λh=>by cases h⟩
 |c::sh,z::r,[],_,_=>⟨λh=>h.elim,λh=>by cases h⟩
 |c::sh,z::r,v::vs,hp,hr=>by
  have hp:(c.plain&&sh.all av.plain)=true:=hp;simp only[aQ]at hp;have ih:=Gn (F:=F) (w:=w) (vs:=vs) hp.2 hr.2;have hc:qI F w c z v↔v=c.val z:=by
   cases c with
   |sub k=>cases hp.1
   |_=>exact Iff.rfl
  simp only[ea,dm,gY,hc,ih]
 |[],_::_,_,_,h=>h.elim
 |_::_,[],_,_,h=>h.elim
theorem Rk {F:Nat->Prop} {w:ai} {sh:List av} (hp:hZ sh=true):∀{rows:List (List Int)} {vs:List ax},(∀row∈rows,bD sh row)->(eF F w sh rows vs↔vs=cG sh rows)
 |[],vs,_=>by simp[eF,cG]
 |row::rows,vs,h=>by
  have ih:=λb=>Rk (F:=F) (w:=w) hp (vs:=b) λr hr=>h r (cx _ hr);have h0:=h row (by simp);refine⟨λ⟨a,b,h1,h2,h3⟩=>?_,λh1=>⟨dm sh row,cG sh rows,by rw[h1];rfl,(Gn hp h0).2 rfl,(ih _).2 rfl⟩⟩;rw[h1,(Gn hp h0).1 h2,(ih b).1 h3];rfl
theorem k0 {F:Nat->Prop} {w:ai} {cells:Array ax} {off:Nat} {sh:List av} {rows:List (List Int)} (hp:hZ sh=true):iy F w cells off sh rows↔pL cells off sh rows:=
 ⟨λ⟨h1,pre,vs,post,h2,h3,h4⟩=>⟨h1,pre,post,by rw[h2,(Rk hp h1).1 h4],h3⟩,λ⟨h1,pre,post,h2,h3⟩=>⟨h1,pre,cG sh rows,post,h2,h3,(Rk hp h1).2 rfl⟩⟩
theorem ea.get {F:Nat->Prop} {w:ai}:∀{sh:List av} {row:List Int} {vs:List ax} {j:Nat} {c:av},ea F w sh row vs->sh[j]?=some c->∃z v,row[j]?=some z/\vs[j]?=some v/\qI F w c z v
 |c'::sh,z::r,v::vs,0,c,h,hc=>by
  simp only[m7,aK]at hc;subst hc;exact⟨z,v,rfl,rfl,h.1⟩
 |c'::sh,z::r,v::vs,j+1,c,h,hc=>ea.get (sh:=sh) (row:=r) (vs:=vs) (j:=j) h.2 (by simpa using hc)
 |[],_,_,_,_,_,hc=>by simp at hc
 |_::_,[],_,_,_,h,_=>h.elim
 |_::_,_::_,[],_,_,h,_=>h.elim
theorem eF.get {F:Nat->Prop} {w:ai} {sh:List av}:∀{rows:List (List Int)} {vs:List ax} {i:Nat} {row:List Int},eF F w sh rows vs->rows[i]?=some row->ea F w sh row ((vs.drop (i*sh.length)).take sh.length)
 |r::rs,vs,0,row,h,hi=>by
  simp only[m7,aK]at hi;subst hi;obtain⟨a,b,rfl,h2,h3⟩:=h;rw[Nat.zero_mul,List.drop_zero,<-h2.len,List.take_left];exact h2
 |r::rs,vs,i+1,row,h,hi=>by
  obtain⟨a,b,rfl,h2,h3⟩:=h;have ih:=eF.get (i:=i) h3 (by simpa using hi);rw[qy,LD,<-List.drop_drop,<-h2.len,List.drop_left,h2.len];exact ih
 |[],_,_,_,_,hi=>by simp at hi
theorem Rj {F:Nat->Prop} {w:ai} {sh:List av}:∀{r1 r2:List (List Int)} {v1 v2:List ax},eF F w sh r1 v1->eF F w sh r2 v2->eF F w sh (r1++r2) (v1++v2)
 |[],r2,v1,v2,h1,h2=>by
  have h1:v1=[]:=h1;subst h1;exact h2
 |r::r1,r2,v1,v2,h1,h2=>by
  obtain⟨a,b,rfl,k1,k2⟩:=h1;exact⟨a,b++v2,by simp,k1,Rj k2 h2⟩
theorem eF.split {F:Nat->Prop} {w:ai} {sh:List av}:∀{rows:List (List Int)} {vs:List ax} (k:Nat),eF F w sh rows vs->eF F w sh (rows.take k) (vs.take (k*sh.length))/\eF F w sh (rows.drop k) (vs.drop (k*sh.length))
 |rows,vs,0,h=>by simpa [eF]using h
 |[],vs,k+1,h=>by
  have h:vs=[]:=h;subst h;simp[eF]
 |r::rs,vs,k+1,h=>by
  obtain⟨a,b,rfl,h2,h3⟩:=h;obtain⟨k1,k2⟩:=h3.split k;have e:=h2.len;have e2:(k+1)*sh.length=a.length+k*sh.length:=by rw[qy,e,LD]
  rw[e2,List.take_length_add_append,List.drop_length_add_append];exact⟨⟨a,_,rfl,h2,k1⟩,k2⟩
def uj (kind:Nat) (fz:Nat×Nat) (n:Nat):Prop:=(kind=2/\fz=(0,0))∨(kind≠2/\fz=(n,n+1))
theorem uj.two {fz:Nat×Nat} {n:Nat} (h:uj 2 fz n):fz=(0,0):=by
 rcases h with h|h
 ·exact h.2
 ·exact absurd rfl h.1
theorem uj.FG {n:Nat}:uj 2 (0,0) n:= .inl ⟨rfl,rfl⟩
def gQ (w0:cI) (ρ:Env) (F:Nat->Prop) (g:Nat) (sh:List av) (off code cap:U) (kind:Nat) (t:aR) (w:ai):Prop:=kind≠0->(cap.den ρ<0->ab (code.den ρ)=[])/\(0<=cap.den ρ->(w0.ex g∨w0.ro g∨w0.r.heap.size<=g)/\∃cells t' fz,w.heap[g]?=some (.cells cells t' fz)/\(0<=off.den ρ/\iy F w cells (off.den ρ).toNat sh (ab (code.den ρ)))/\(2<=kind->t'=t/\off.den ρ=0/\uj kind fz cells.size/\cells.size=(cap.den ρ).toNat*sh.length/\w0.b.heap.size<=g/\(w0.ex g∨w0.r.heap.size<=g)))
def bX (w0:cI) (ρ:Env) (m:Nat->Nat) (bl:List aj) (g:Nat):Prop:=(w0.ex g∨w0.ro g∨w0.r.heap.size<=g)/\∀(i:Nat) (p:aj),bl[i]?=some p->2<=aS ρ p.1->m i≠g
structure Mem (w0:cI) (ρ:Env) (m:Nat->Nat) (bl:List aj) (w:ai):Prop where
 ext:w0.b.Extends w
 jo:w.os=w0.r.os
 jr:w.tape=w0.r.tape
 iF:w.output=w0.r.output
 ew:w0.r.heap.size<=w.heap.size
 gi:∀i:Nat,i<w0.r.heap.size->¬w0.ex i->w.heap[i]?=w0.r.heap[i]?
 blk:∀(i:Nat) (cs:List A) (t:aR×Bool),bl[i]?=some (cs,t)->bI cs=true->w0.b.heap.size<=m i/\(w0.ex (m i)∨w0.r.heap.size<=m i)/\∃r:List ax,(t.2=false->r=[])/\w.heap[m i]?=some (.cells (cs.map (A.den ρ m)++r).toArray t.1 (0,0))
 rws:∀(i:Nat) (sh:List av) (off code cap:U) (kind:Nat) (t:aR×Bool),bl[i]?=some ([.rows sh off code cap kind],t)->gQ w0 ρ (bX w0 ρ m bl) (m i) sh off code cap kind t.1 w
 inj:∀(i j:Nat) (p q:aj),bl[i]?=some p->bl[j]?=some q->m i=m j->i=j∨(aS ρ p.1<=1/\aS ρ q.1<=1)∨aS ρ p.1=0∨aS ρ q.1=0
theorem Mem.lt {w0:cI} {ρ:Env} {m:Nat->Nat} {bl:List aj} {w:ai} (h:Mem w0 ρ m bl w) {i:Nat} {p:aj} (hi:bl[i]?=some p) (hk:aS ρ p.1≠0):m i<w.heap.size:=by
 obtain⟨cs,t⟩:=p;by_cases ho:bI cs=true
 ·obtain⟨_,_,r,_,h2⟩:=h.blk i cs t hi ho;exact(Array.getElem?_eq_some_iff.1 h2).1
 ·unfold bI at ho;split at ho
  ·rename_i sh off code cap k;simp only[aS]at hk;split at hk
   ·exact absurd rfl hk
   ·rename_i cv;obtain⟨_,cells,t',fz,h2,_⟩:=(h.rws i _ _ _ _ _ t hi hk).2 (by omega);exact(Array.getElem?_eq_some_iff.1 h2).1
  ·exact absurd rfl ho
theorem hT {ρ:Env} {cs:List A} (h:bI cs=true):aS ρ cs=2:=by
 unfold bI at h;unfold aS;split<;>simp_all
def bU (n nb:Nat) (ρ:Env) (bl:List aj):Prop:=∀p∈bl,∀a∈p.1,A.ok n nb ρ a
def eN (gl:dA) (w0:cI):Prop:=∀g cs,(g,cs)∈gl->g<w0.b.heap.size/\∃t pX,w0.b.heap[g]?=some (.cells (cs.map λp=>Value.int p.1 p.2).toArray t pX)
theorem bU.ext {n n' nb jK:Nat} {ρ ae:Env} {bl:List aj} (h:bU n nb ρ bl) (ha:agree n ρ ae) (hn:n<=n') (hb:nb<=jK):bU n' jK ae bl:=
 λp hp a h'=>(h p hp a h').ext ha hn hb
theorem gQ.dQ {w0:cI} {n nb:Nat} {ρ ae:Env} {F:Nat->Prop} {g:Nat} {sh:List av} {off code cap:U} {kind:Nat} {t:aR} {w:ai} (h:gQ w0 ρ F g sh off code cap kind t w) (bg:(A.rows sh off code cap kind).ok n nb ρ) (ha:agree n ρ ae):gQ w0 ae F g sh off code cap kind t w:=by
 unfold gQ at*;rw[U.bw ha bg.1.1,U.bw ha bg.1.2.1,U.bw ha bg.1.2.2];exact h
theorem gQ.grow {w0:cI} {ρ:Env} {F F':Nat->Prop} {g:Nat} {sh:List av} {off code cap:U} {kind:Nat} {t:aR} {w w':ai} (h:gQ w0 ρ F g sh off code cap kind t w) (hf:Fr F w F' w') (he:kind≠0->0<=cap.den ρ->w'.heap[g]?=w.heap[g]?):gQ w0 ρ F' g sh off code cap kind t w':=by
 intro hk;obtain⟨h1,h2⟩:=h hk;refine⟨h1,λhc=>?_⟩;rw[he hk hc];obtain⟨h3,cells,t',fz,h4,⟨h5,h6⟩,h7⟩:=h2 hc;exact⟨h3,cells,t',fz,h4,⟨h5,h6.mono hf⟩,h7⟩
theorem gQ.mono {w0:cI} {ρ:Env} {F F':Nat->Prop} {g:Nat} {sh:List av} {off code cap:U} {kind:Nat} {t:aR} {w:ai} (h:gQ w0 ρ F g sh off code cap kind t w) (hf:∀g,F g->F' g):gQ w0 ρ F' g sh off code cap kind t w:=
 h.grow (Fr.of w hf) λ_ _=>rfl
theorem bX.mono {w0:cI} {ρ ae:Env} {m m':Nat->Nat} {bl aG:List aj} (h:∀(i:Nat) (p:aj),aG[i]?=some p->2<=aS ae p.1->∃j q,bl[j]?=some q/\2<=aS ρ q.1/\m j=m' i):∀g,bX w0 ρ m bl g->bX w0 ae m' aG g:=λg ⟨h1,h2⟩=>⟨h1,λi p hi hk=>by
 obtain⟨j,q,hj,hq,he⟩:=h i p hi hk;rw[<-he];exact h2 j q hj hq⟩
theorem mn {n nb:Nat} {ρ ae:Env} {cs:List A} (bg:∀a∈cs,A.ok n nb ρ a) (ha:agree n ρ ae):aS ae cs=aS ρ cs:=by
 unfold aS;split
 ·rename_i sh off code cap k;have h1:A.ok n nb ρ (.rows sh off code cap k):=bg _ (by simp);rw[U.bw ha h1.1.2.2]
 ·rfl
theorem agree.sym {n:Nat} {ρ ae:Env} (h:agree n ρ ae):agree n ae ρ:=λi hi=>(h i hi).symm
theorem Mem.dQ {w0:cI} {n:Nat} {ρ ae:Env} {m:Nat->Nat} {bl:List aj} {w:ai} (h:Mem w0 ρ m bl w) (hb:bU n bl.length ρ bl) (ha:agree n ρ ae):Mem w0 ae m bl w:=
 ⟨h.ext,h.jo,h.jr,h.iF,h.ew,h.gi,λi cs t hi ho=>by
  obtain⟨h1,h2,r,hr,h3⟩:=h.blk i cs t hi ho;exact⟨h1,h2,r,hr,by rw[qf (hb _ (cM hi)) ha (λ_ _=>rfl)];exact h3⟩,
  λi sh off code cap kind t hi=>((h.rws i sh off code cap kind t hi).dQ (hb _ (cM hi) _ (by simp)) ha).mono (bX.mono λi p hi hk=>⟨i,p,hi,by rw[mn (hb _ (cM hi)) ha]at hk;exact hk,rfl⟩),λi j p q hi hj he=>by
   rw[mn (hb _ (cM hi)) ha,mn (hb _ (cM hj)) ha];exact h.inj i j p q hi hj he⟩
theorem iH {ρ:Env} {sh:List av} {off code cap:U} {k:Nat} (hk:k≠0) (hc:0<=cap.den ρ):aS ρ [.rows sh off code cap k]=k:=by
 simp only[aS];rw[if_neg (by omega)]
theorem Mem.grow {w0:cI} {ρ:Env} {m:Nat->Nat} {bl:List aj} {w w':ai} (h:Mem w0 ρ m bl w) (he:w.Extends w'):Mem w0 ρ m bl w':=
 ⟨h.ext.trans he,he.os.trans h.jo,he.tape.trans h.jr,he.output.trans h.iF,gx h.ew he.size,λi hi hx=>(he.block i (tX hi h.ew)).trans (h.gi i hi hx),λi cs t hi ho=>by
  obtain⟨h1,h2,r,hr,h3⟩:=h.blk i cs t hi ho;exact⟨h1,h2,r,hr,by rw[he.block _ (h.lt hi (by rw[hT ho];decide))];exact h3⟩,λi sh off code cap kind t hi=>(h.rws i sh off code cap kind t hi).grow (Fr.ext (λ_ h=>h) he) λhk hc=>he.block _ (h.lt hi (by simp only[iH hk hc];exact hk)),h.inj⟩
theorem Mem.ne {w0:cI} {ρ:Env} {m:Nat->Nat} {bl:List aj} {w:ai} (h:Mem w0 ρ m bl w) {i j:Nat} {p q:aj} (hi:bl[i]?=some p) (hj:bl[j]?=some q) (hp:2<=aS ρ p.1) (hq:aS ρ q.1≠0) (hne:i≠j):m i≠m j:=λe=>by
 rcases h.inj i j p q hi hj e with h|h|h|h
 ·exact hne h
 ·omega
 ·omega
 ·exact hq h
def dn (n nb:Nat) (ρ:Env) (m:Nat->Nat) (tm:List V) (tmps:Array ax):Prop:=tm.length=tmps.size/\∀(i:Nat) (v:V),tm[i]?=some v->v.ok n nb ρ/\∃x,tmps[i]?=some x/\v.rel ρ m x
theorem dn.ext {n n' nb jK:Nat} {ρ ae:Env} {m m':Nat->Nat} {tm:List V} {tmps:Array ax} (h:dn n nb ρ m tm tmps) (ha:agree n ρ ae) (hn:n<=n') (hb:nb<=jK) (hm:∀b,b<nb->m' b=m b):dn n' jK ae m' tm tmps:=
 ⟨h.1,λi v hv=>by obtain⟨h1,x,h2,h3⟩:=h.2 i v hv;exact⟨h1.ext ha hn hb,x,h2,h3.ext h1 ha hm⟩⟩
def oz:List V->Nat->V->List V
 |[],_,_=>[]
 |_::r,0,v=>v::r
 |x::r,i+1,v=>x::oz r i v
theorem RC:∀(l:List V) (i:Nat) (v:V),oz l i v=l.set i v
 |[],_,_=>rfl
 |_::_,0,_=>rfl
 |_::r,i+1,v=>by simp[oz,RC r i v]
def ey (tm:List V) (d:Option Tmp) (v:V):List V:=match d with|some d=>oz tm d v|none=>tm
theorem dn.put {n nb:Nat} {ρ:Env} {m:Nat->Nat} {tm:List V} {a:Act} {v:V} {x:ax} (h:dn n nb ρ m tm a.tmps) (d:Option Tmp) (hv:v.ok n nb ρ) (hx:v.rel ρ m x):dn n nb ρ m (ey tm d v) (a.put d x).tmps:=by
 cases d with
 |none=>exact h
 |some d=>
  simp only[ey,CW,RC];refine⟨by simp[h.1],λi u hu=>?_⟩;rw[List.getElem?_set]at hu;by_cases hd:d=i
  ·subst hd;simp only[if_true]at hu;split at hu
   ·rename_i hlt;simp only[aK]at hu;subst hu;exact⟨hv,x,by simp[<-h.1,hlt],hx⟩
   ·cases hu
  ·rw[if_neg hd]at hu;obtain⟨h1,y,h2,h3⟩:=h.2 i u hu;exact⟨h1,y,by rw[ayM (by omega)];exact h2,h3⟩
def AD:ax->Option A
 | .int k n=>some (.int k (.const n))
 | .bool b=>some (.bool (.lit b))
 | .string s=>cond (bp s.size 1000000) (some (.str (.const (cT s.data.toList)))) none
 |v=>cond v.oneCell' (some (.con v)) none
theorem Vg {v:ax} {a:A} (h:AD v=some a) (n nb:Nat) (ρ:Env) (m:Nat->Nat):a.ok n nb ρ/\a.den ρ m=v:=by
 unfold AD at h;split at h
 ·simp only[aK]at h;subst h;exact⟨br.nj _ _ _,by simp[A.den,br.const,U.aO]⟩
 ·simp only[aK]at h;subst h;exact⟨trivial,rfl⟩
 ·rename_i s;cases hc:bp s.size 1000000 with
  |false=>simp[hc]at h
  |true=>
   simp only[hc,cond_true,aK]at h;subst h;have hl:s.data.toList.length<=dP:=by
    have:=et hc;have h2:s.data.toList.length=s.size:=by simp
    unfold dP;omega
   refine⟨⟨U.cr _ _,by rw[U.aO];exact lD _,by rw[U.aO];exact kY hl⟩,?_⟩;simp[A.den,U.aO,fj,az]
 ·cases hc:v.oneCell' with
  |false=>simp[hc]at h
  |true=>simp only[hc,cond_true,aK]at h;subst h;exact⟨hc,rfl⟩
def uA:List ax->Option (List A)
 |[]=>some []
 |v::r=>match AD v,uA r with|some a,some l=>some (a::l)|_,_=>none
theorem yh:∀{vs:List ax} {l:List A},uA vs=some l->∀(n nb:Nat) (ρ:Env) (m:Nat->Nat),(∀a∈l,A.ok n nb ρ a)/\l.map (A.den ρ m)=vs
 |[],l,h,n,nb,ρ,m=>by simp[uA]at h;subst h;simp
 |v::r,l,h,n,nb,ρ,m=>by
  simp only[uA]at h;cases h1:AD v with
  |none=>simp[h1]at h
  |some a=>
   cases h2:uA r with
   |none=>simp[h1,h2]at h
   |some bJ=>
    simp only[h1,h2,aK]at h;subst h;have e1:=Vg h1 n nb ρ m;have e2:=yh h2 n nb ρ m;exact⟨λa ha=>by rcases List.mem_cons.1 ha with rfl|ha;exact e1.1;exact e2.1 a ha,by simp[e1.2,e2.2]⟩
def Ij:ax->V
 | .agg cs=>match uA cs.toList with|some l=> .w (.agg l)|none=> .any
 | .tuple _=> .any
 |v=>match AD v with|some a=> .w (.one a)|none=> .any
theorem agf (v:ax) (n nb:Nat) (ρ:Env) (m:Nat->Nat):(Ij v).ok n nb ρ/\(Ij v).rel ρ m v:=by
 unfold Ij;split
 ·rename_i cs;cases h:uA cs.toList with
  |none=>exact⟨trivial,trivial⟩
  |some l=>have e:=yh h n nb ρ m;exact⟨e.1,by simp[V.rel,W.den,e.2]⟩
 ·exact⟨trivial,trivial⟩
 ·cases h:AD v with
  |none=>exact⟨trivial,trivial⟩
  |some a=>have e:=Vg h n nb ρ m;exact⟨e.1,by simp[V.rel,W.den,e.2]⟩
def bK (tm:List V):lX->V
 | .tmp t=>(tm[t]?).getD .any
 | .const v=>Ij v
 | .global g=> .w (.one (.gptr g 0))
 | .func f=> .w (.one (.con (.func (.func f) #[] #[])))
theorem cc {n nb:Nat} {ρ:Env} {m:Nat->Nat} {tm:List V} {a:Act} (h:dn n nb ρ m tm a.tmps) (x:lX):(bK tm x).ok n nb ρ/\(bK tm x).rel ρ m (a.eval x):=by
 cases x with
 |tmp t=>
  simp only[bK,Act.eval];cases ht:tm[t]? with
  |none=>exact⟨trivial,trivial⟩
  |some v=>
   obtain⟨h1,y,h2,h3⟩:=h.2 t v ht;exact⟨h1,by simp only[qv];rw[show a.tmps.getD t undef=y by simp[h2]];exact h3⟩
 |const v=>exact agf v n nb ρ m
 |global g=>exact⟨trivial,rfl⟩
 |func f=>exact⟨rfl,rfl⟩
def nE (P:bk) (t:aR):Option Bool:=
 match P.underlying t with|some (.struct _)=>some true|some (.array _ _)=>some true|some _=>some false|none=>none
def eA (P:bk) (t:aR):Option Nat:=match P.info? t with|some i=>some i.size|none=>none
theorem q4 {P:bk} {t:aR} {b:Bool} (h:nE P t=some b) (w:ai):(isAgg t).run P w= .ok b w:=by
 unfold nE at h;cases hu:P.underlying t with
 |none=>simp[hu]at h
 |some d=>cases d<;>simp[hu]at h<;>subst h<;>simp[isAgg,eK hu]
theorem gM {P:bk} {t:aR} {k:Nat} (h:eA P t=some k) (w:ai):(sizeOf t).run P w= .ok k w:=by
 unfold eA at h;cases hi:P.info? t with
 |none=>simp[hi]at h
 |some i=>simp[hi]at h;subst h;simp[sizeOf,typeInfo,hi]
def Ax (bl:List aj) (gl:dA):A->Option (List A)
 | .ptr b off=>match bl[b]? with|some (cs,_)=>cond (bI cs) (some (cs.drop off)) none|none=>none
 | .gptr g off=>match gl.find? (λp=>aA p.1 g)with|some (_,cs)=>some ((cs.drop off).map λp=> .int p.1 (.const p.2))|none=>none
 |_=>none
theorem iz (g o j:Nat):(⟨g,o,none⟩:Addr).add j=⟨g,o+j,none⟩:=by unfold Addr.add;split<;>simp_all
theorem M9 {w0:cI} {w:ai} {n:Nat} {ρ:Env} {m:Nat->Nat} {bl:List aj} {gl:dA} {p:A} {cs:List A} (hm:Mem w0 ρ m bl w) (hb:bU n bl.length ρ bl) (hg:eN gl w0) (h:Ax bl gl p=some cs):
 ∃g o,p.den ρ m= .pointer (some ⟨g,o,none⟩)/\(∀a∈cs,A.ok n bl.length ρ a)/\∀j a,cs[j]?=some a->w.cell? ⟨g,o+j,none⟩=some (a.den ρ m):=by
 unfold Ax at h;split at h
 ·rename_i b off;cases hbl:bl[b]? with
  |none=>simp[hbl]at h
  |some q=>
   obtain⟨C,t⟩:=q;simp only[hbl]at h;cases jF:bI C with
   |false=>simp[jF]at h
   |true=>
   simp only[jF,cond_true,aK]at h;subst h;obtain⟨h1,_,r,_,h2⟩:=hm.blk b C t hbl jF;refine⟨m b,off,rfl,λa ha=>hb _ (cM hbl) a (nS ha),λj a hj=>?_⟩;rw[vP]at hj;have hlt:off+j<C.length:=(List.getElem?_eq_some_iff.1 hj).1;simp only[jx,h2,rm,pF,if_false,LF];rw[pE (by simpa using hlt),lV,hj];rfl
 ·rename_i g off;cases hf:gl.find? (λp=>aA p.1 g)with
  |none=>simp[hf]at h
  |some q=>
   obtain⟨g',C⟩:=q;simp only[hf,aK]at h;subst h;have ej:g'=g:=by have:=G9 hf;exact bo this
   subst ej;obtain⟨h1,t,pX,h2⟩:=hg g' C (zV hf);refine⟨g',off,rfl,λa ha=>?_,λj a hj=>?_⟩
   ·obtain⟨p,_,rfl⟩:=List.mem_map.1 ha;exact br.nj _ _ _
   ·rw[lV,vP]at hj;cases hq:C[off+j]? with
    |none=>simp[hq]at hj
    |some q=>
     simp only[hq,rf,aK]at hj;subst hj;have:=hm.ext.cell ⟨g',off+j,none⟩ h1;rw[this];simp[jx,h2,hq,A.den,br.const,U.aO]
 ·cases h
def Qd (P:bk) (bl:List aj) (gl:dA) (ty:aR) (p:A):M V:=
 match Ax bl gl p,nE P ty,eA P ty with
 |some cs,some true,some k=>cond (bp k cs.length) (pure (.w (.agg (cs.take k)))) fail
 |some (a::_),some false,_=>pure (.w (.one a))
 |_,_,_=>fail
section
variable {S:Nat->List Int->List Int->Prop} {L:V->Env->Prop} {n:Nat} {ρ:Env} {m:Nat->Nat} {bl:List aj} {gl:dA} {w0:cI} {P:bk}
def kZ (w0:cI) (m:Nat->Nat) (bl:List aj) (n:Nat) (ρ:Env) (run:ai->Result ax) (ae:Env) (n':Nat) (v:V):Prop:=v.ok n' bl.length ae/\∃val,v.rel ae m val/\∀w,Mem w0 ρ m bl w->run w= .ok val w
theorem anN (hb:bU n bl.length ρ bl) (hg:eN gl w0) (hex:∃w,Mem w0 ρ m bl w) (ty:aR) (p:A):ao S L (Qd P bl gl ty p) n ρ (kZ w0 m bl n ρ λw=>(nR ty (p.den ρ m)).run P w):=by
 obtain⟨cd,hx⟩:=hex;unfold Qd;cases hc:Ax bl gl p with
 |none=>exact ao.fail
 |some cs=>
  obtain⟨g,o,hp,bg,_⟩:=M9 hx hb hg hc;have hcell:∀w,Mem w0 ρ m bl w->∀j a,cs[j]?=some a->w.cell? ⟨g,o+j,none⟩=some (a.den ρ m):=λw hw=>by
   obtain⟨g',cg,nz,_,h'⟩:=M9 hw hb hg hc;rw[hp]at nz;simp only[aDS,aK,Addr.mk.injEq,and_true]at nz;obtain⟨rfl,rfl⟩:=nz;exact h'
  cases ha:nE P ty with
  |none=>exact ao.fail
  |some b=>
   cases b with
   |true=>
    cases hs:eA P ty with
    |none=>exact ao.fail
    |some k=>
     refine dR λhk=>ao.pure ⟨λa h=>bg a (kh h),_,rfl,λw hw=>?_⟩;have hk:k<=cs.length:=et hk;have hl:=CS (P:=P) w ⟨g,o,none⟩ ((cs.take k).map (A.den ρ m)) λj v hj=>by
      rw[iz];rw[lV]at hj;cases hq:(cs.take k)[j]? with
      |none=>simp[hq]at hj
      |some a=>
       simp only[hq,rf,aK]at hj;subst hj;refine hcell w hw j a ?_;rw[oK]at hq;split at hq
       ·exact hq
       ·cases hq
     simp only[jW,ly,vL hk]at hl;simp[nR,kK,hp,loadVar,q4 ha,gM hs,hl,W.den]
   |false=>
    cases cs with
    |nil=>exact ao.fail
    |cons a r=>
     refine ao.pure ⟨bg a (by simp),_,rfl,λw hw=>?_⟩;have:=hcell w hw 0 a rfl;simp only[kG]at this;simp[nR,kK,hp,loadVar,q4 ha,this,W.den]
def kindOf (P:bk) (ty:aR):Option cX:=match P.underlying ty with|some (.int k)=>some k|_=>none
def tu:List Int->Int
 |[]=>0
 |[x]=>x
 |x::r=>cond (decide (x<=tu r)) x (tu r)
def tr:List Int->Int
 |[]=>0
 |[x]=>x
 |x::r=>cond (decide (tr r<=x)) x (tr r)
theorem ZJ:∀(l:List Int),∀z∈l,tu l<=z/\z<=tr l
 |[],_,h=>by cases h
 |[x],z,h=>by simp at h;subst h;simp[tu,tr]
 |x::y::r,z,h=>by
  unfold tu tr;have ih:=ZJ (y::r);rcases List.mem_cons.1 h with rfl|h
  ·refine⟨?_,?_⟩
   ·cases hc:decide (z<=tu (y::r))with
    |true=>simp
    |false=>simp at hc⊢;omega
   ·cases hc:decide (tr (y::r)<=z)with
    |true=>simp
    |false=>simp at hc⊢;omega
  ·have:=ih z h;refine⟨?_,?_⟩
   ·cases hc:decide (x<=tu (y::r))with
    |true=>simp at hc⊢;omega
    |false=>simp;exact this.1
   ·cases hc:decide (tr (y::r)<=x)with
    |true=>simp at hc⊢;omega
    |false=>simp;exact this.2
def RA (P:bk) (gl:dA) (ty:aR) (g off:Nat) (a7:br):M V:=λn c=>
 match gl.find? (λp=>aA p.1 g),kindOf P ty with
 |some (_,cs),some k=>cond (((cs.drop off).take (a7.hi.toNat+1)).all (λp=>decide (p.1=k))&&aA ((cs.drop off).take (a7.hi.toNat+1)).length (a7.hi.toNat+1)&&decide (0<=a7.lo))
  (.KZ n (((cs.drop off).take (a7.hi.toNat+1)).map λp=> .const p.2) a7.l (tu (((cs.drop off).take (a7.hi.toNat+1)).map (·.2))) (tr (((cs.drop off).take (a7.hi.toNat+1)).map (·.2)))
    (c (.w (.one (.int k ⟨.var n,tu (((cs.drop off).take (a7.hi.toNat+1)).map (·.2)),tr (((cs.drop off).take (a7.hi.toNat+1)).map (·.2))⟩))) (n+1))) .stuck
 |_,_=> .stuck
theorem atI (hg:eN gl w0) (ty:aR) (g off:Nat) {a7:br} (A8:a7.ok n ρ):ao S L (RA P gl ty g off a7) n ρ (kZ w0 m bl n ρ λw=>(nR ty ((A.AR g off a7).den ρ m)).run P w):=by
 intro azk c hk;unfold RA at hk;cases hf:gl.find? (λp=>aA p.1 g)with
 |none=>simp[hf,T.holds]at hk
 |some q=>
  obtain⟨g',cs⟩:=q;have ej:g'=g:=by have:=G9 hf;exact bo this
  subst ej;cases ft:kindOf P ty with
  |none=>simp[hf,ft,T.holds]at hk
  |some k=>
   simp only[hf,ft]at hk;generalize hC:(cs.drop off).take (a7.hi.toNat+1)=C at hk;cases hc:(C.all (λp=>decide (p.1=k))&&aA C.length (a7.hi.toNat+1)&&decide (0<=a7.lo))with
   |false=>simp[hc,T.holds]at hk
   |true=>
    simp only[hc,cond_true,T.holds]at hk;simp only[aQ,decide_eq_true_eq]at hc;obtain⟨⟨c1,c2⟩,c3⟩:=hc;have c2:=bo c2;have Dp:=A8.2;have hlt:(a7.l.den ρ).toNat<C.length:=by omega
    have hz:((C.map λp=>U.const p.2).map (·.den ρ)).getD (a7.l.den ρ).toNat 0=(C[(a7.l.den ρ).toNat]).2:=by
     simp[ar,hlt,U.aO]
    have lH:=ZJ (C.map (·.2)) _ (List.mem_map_of_mem (Hf hlt));refine⟨_,n+1,_,kI _,agree.cR _ _ _,(show kZ w0 m bl n ρ _ (cR ρ n (((C.map λp=>U.const p.2).map (·.den ρ)).getD (a7.l.den ρ).toNat 0)) (n+1) (.w (.one (.int k ⟨.var n,tu (C.map (·.2)),tr (C.map (·.2))⟩))) from⟨⟨U.er (sy n),?_,?_⟩,_,rfl,?_⟩),hk _ (by rw[hz];exact lH.1) (by rw[hz];exact lH.2) rfl⟩
    ·simp only[U.cj,jQ,hz];exact lH.1
    ·simp only[U.cj,jQ,hz];exact lH.2
    ·intro w hw;have hu:nE P ty=some false:=by
      unfold kindOf at ft;unfold nE;cases hq:P.underlying ty with
      |none=>simp[hq]at ft
      |some d=>cases d<;>simp[hq]at ft<;>rfl
     have iE:(C[(a7.l.den ρ).toNat]).1=k:=by simpa using List.all_eq_true.1 c1 _ (Hf hlt)
     have hcs:cs[off+(a7.l.den ρ).toNat]?=some (C[(a7.l.den ρ).toNat]):=by
      have h3:C[(a7.l.den ρ).toNat]?=some (C[(a7.l.den ρ).toNat]):=gF hlt;have h4:C[(a7.l.den ρ).toNat]?=cs[off+(a7.l.den ρ).toNat]?:=by rw[<-hC,oK,if_pos (by omega),vP]
      rw[<-h4,h3]
     obtain⟨wO,t,pX,ajR⟩:=hg g' cs (zV hf);have hcell:w.cell? ⟨g',off+(a7.l.den ρ).toNat,none⟩=some (.int k (C[(a7.l.den ρ).toNat]).2):=by
      rw[hw.ext.cell _ wO];simp only[jx,ajR,rm,pF,if_false,LF];rw[lV,hcs,rf,iE]
     simp only[W.den,A.den,U.cj,jQ,hz];simp[nR,kK,loadVar,q4 hu,hcell]
end
end Go.aW
namespace Go.aW
open M
abbrev ed:=cB->Option (List aj->List V->M V)
def Ah (P:bk) (o:Oper) (a:Act) (w:ai) (val:ax):Prop:=(execOp a.eval o).run P w= .ok (.value val) w∨∃f args,(execOp a.eval o).run P w= .ok (.enter f args) w/\Calls P f args w λe lp=>e= .returned val/\w.Extends lp
def Af (P:bk) (f:cB) (args:Array ax) (w:ai) (val:ax):Prop:=(callFunc f args).run P w= .ok (.value val) w∨((callFunc f args).run P w= .ok (.enter f args) w/\Calls P f args w λe lp=>e= .returned val/\w.Extends lp)
def db (ρ:Env) (m:Nat->Nat):List V->List ax->Prop
 |[],[]=>True
 |v::r,x::s=>v.rel ρ m x/\db ρ m r s
 |_,_=>False
def fp (S:Nat->List Int->List Int->Prop) (P:bk) (gl:dA) (w0:cI) (cal:ed):Prop:=∀f g,cal f=some g->∀(L:V->Env->Prop) (n:Nat) (ρ:Env) (m:Nat->Nat) (bl:List aj) (vs:List V) (xs:List ax),bU n bl.length ρ bl->(∃w,Mem w0 ρ m bl w)->(∀v∈vs,v.ok n bl.length ρ)->db ρ m vs xs->ao S L (g bl vs) n ρ λae n' v=>v.ok n' bl.length ae/\∃val,v.rel ae m val/\∀w,Mem w0 ρ m bl w->Af P f xs.toArray w val
def DE (P:bk) (s:aR) (f:Nat):Option Field:=match P.underlying s with|some (.struct dK)=>dK[f]?|_=>none
def rC (P:bk) (t:aR):Option (Nat×aR):=match P.underlying t with|some (.array n e)=>some (n,e)|_=>none
def h9 (P:bk) (t:aR):Option aR:=match P.underlying t with|some (.slice e)=>some e|_=>none
def FL (P:bk) (t:aR) (l:List A) (off:Nat):M V:=
 match nE P t,eA P t with
 |some true,some k=>pure (.w (.agg ((l.drop off).take k)))
 |some false,_=>match l[off]? with|some a=>pure (.w (.one a))|none=>fail
 |_,_=>fail
def PE (P:bk) (t:aR) (x:V) (a7:br):M V:=
 match x with
 | .w (.one (.ptr b off))=>match rC P t with
  |some (len,e)=>match eA P e with
   |some s=>match a7.l.dq with
    |some i=>cond (decide (0<=i)&&decide (i<len)) (pure (.w (.one (.ptr b (off+i.toNat*s))))) fail
    |none=>cond (aA s 1&&decide (0<=a7.lo)&&decide (a7.hi<len)) (pure (.w (.one (.ow b off a7)))) fail
   |none=>fail
  |none=>fail
 | .w (.one (.gptr g off))=>match rC P t with
  |some (len,e)=>match eA P e with
   |some s=>match a7.l.dq with
    |some i=>cond (decide (0<=i)&&decide (i<len)) (pure (.w (.one (.gptr g (off+i.toNat*s))))) fail
    |none=>cond (aA s 1) (bind (eP 74 [a7.l,.const len]) λ_=>pure (.w (.one (.AR g off ⟨a7.l,0,(len:Int)-1⟩)))) fail
   |none=>fail
  |none=>fail
 | .w (.one (.slc b off len _))=>match h9 P t with
  |some e=>match eA P e with
   |some s=>match a7.l.dq with
    |some i=>cond (decide (0<=i)&&decide (i<len)) (pure (.w (.one (.ptr b (off+i.toNat*s))))) fail
    |none=>cond (aA s 1&&decide (0<=a7.lo)&&decide (a7.hi<len)) (pure (.w (.one (.ow b off a7)))) fail
   |none=>fail
  |none=>fail
 |_=>fail
def vl:List V->Option (List A)
 |[]=>some []
 | .w (.one a)::r=>match vl r with|some l=>some (a::l)|none=>none
 |_::_=>none
def ag2:List A->List A->Option bf
 |[],[]=>some (.lit true)
 | .int k x::r,.int k' y::r'=>cond (decide (k=k')) (match ag2 r r' with|some b=>some (.mkAnd (.mkEq x y) b)|none=>none) none
 |_,_=>none
def DK (P:bk):Nat->List Field->Bool
 |_,[]=>true
 |i,f::r=>(f.name != "_")&&aA f.offset i&&DK P (i+1) r
noncomputable def pR (P:bk):List Field->List A->List A->M bf
 |[],[],[]=>pure (.lit true)
 |f::dK,.int k a::xs,.int k' b::fA=>match kindOf P f.type with
  |some k2=>cond (decide (k=k')) (bind (pR P dK xs fA) λr=>pure (.mkAnd (.mkEq a b) r)) fail
  |none=>fail
 |f::dK,.str a::xs,.str b::fA=>match P.underlying f.type with
  |some .string=>bind (ev 4 [a,b] 0 1) λl=>bind (pR P dK xs fA) λr=>pure (.mkAnd (.mkEq ⟨l,0,1⟩ (.const 1)) r)
  |_=>fail
 |_,_,_=>fail
noncomputable def VM (P:bk) (g:aR->List A->List A->M bf):Nat->List Field->List A->List A->M bf
 |_,[],_,_=>pure (.lit true)
 |o,f::dK,x,y=>match eA P f.type with
  |some s=>cond ((f.name != "_")&&aA f.offset o) (bind (g f.type (x.take s) (y.take s)) λb=>bind (VM P g (o+s) dK (x.drop s) (y.drop s)) λr=>pure (.mkAnd b r)) fail
  |none=>fail
noncomputable def ag1 (P:bk):Nat->aR->List A->List A->M bf
 |0,_,_,_=>fail
 |d+1,t,x,y=>match P.underlying t with
  |some (.int k)=>match x,y with
   |[.int k1 a],[.int k2 b]=>cond (decide (k1=k2)) (pure (.mkEq a b)) fail
   |_,_=>fail
  |some .string=>match x,y with
   |[.str a],[.str b]=>bind (ev 4 [a,b] 0 1) λl=>pure (.mkEq ⟨l,0,1⟩ (.const 1))
   |_,_=>fail
  |some .bool=>match x,y with
   |[.bool a],[.bool b]=>pure (.mkIff a b)
   |_,_=>fail
  |some (.struct dK)=>cond (!P.stoodInHeld t) (VM P (ag1 P d) 0 dK.toList x y) fail
  |_=>fail
noncomputable def It (P:bk) (t:aR) (x y:List A):M bf:=
 match P.underlying t with
 |some (.struct dK)=>cond (DK P 0 dK.toList&& !P.stoodInHeld t&& !P.eqGuardType P.depth t) (pR P dK.toList x y) fail
 |_=>fail
noncomputable def RU (op:BinOp) (a b:U):M V:=
 match op with
 | .add=>bind (eP 3 [a,b]) λ_=>bind (ev 3 [a,b] 0 b8) λl=>pure (.w (.one (.str l)))
 | .eql=>bind (ev 4 [a,b] 0 1) λl=>pure (.w (.one (.bool (.mkEq ⟨l,0,1⟩ (.const 1)))))
 | .neq=>bind (ev 4 [a,b] 0 1) λl=>pure (.w (.one (.bool (.mkNot (.mkEq ⟨l,0,1⟩ (.const 1))))))
 | .lss=>bind (ev 5 [a,b] 0 1) λl=>pure (.w (.one (.bool (.mkEq ⟨l,0,1⟩ (.const 1)))))
 | .geq=>bind (ev 5 [a,b] 0 1) λl=>pure (.w (.one (.bool (.mkNot (.mkEq ⟨l,0,1⟩ (.const 1))))))
 |_=>fail
def abG (s:U):M V:=bind (ev 0 [s] 0 0x7fffffffffffffff) λl=>pure (.w (.one (.int .i64 ⟨l,0,0x7fffffffffffffff⟩)))
def abF (s i:U):M V:=bind (eP 1 [s,i]) λ_=>bind (ev 1 [s,i] 0 255) λl=>pure (.w (.one (.int .u8 ⟨l,0,255⟩)))
noncomputable def La (s a b:U):M V:=bind (eP 2 [s,a,b]) λ_=>bind (ev 2 [s,a,b] 0 b8) λl=>pure (.w (.one (.str l)))
def mQ (v:V):Option U:=match v with| .w (.one (.int _ a))=>some a.l|_=>none
noncomputable def RV (tm:List V) (s:U) (lo hi:Option lX):M V:=
 match(match lo with|none=>some (U.const 0)|some x=>mQ (bK tm x))with
 |none=>fail
 |some a=>match hi with
  |none=>bind (ev 0 [s] 0 0x7fffffffffffffff) λb=>La s a b
  |some y=>match mQ (bK tm y)with
   |some b=>La s a b
   |none=>fail
noncomputable def UK (P:bk) (op:BinOp) (t:aR) (x y:V):M V:=
 match x,y with
 | .w (.one (.int k a)),.w (.one (.int k' b))=>bind (MS op k a k' b) λr=>pure (.w (.one r))
 | .w (.agg a),.w (.agg b)=>match op with
  | .eql=>bind (It P t a b) λe=>pure (.w (.one (.bool e)))
  | .neq=>bind (It P t a b) λe=>pure (.w (.one (.bool (.mkNot e))))
  |_=>fail
 | .w (.one (.str a)),.w (.one (.str b))=>RU op a b
 | .w (.one (.bool a)),.w (.one (.bool b))=>match op,P.underlying t with
  | .eql,some .bool=>pure (.w (.one (.bool (.mkIff a b))))
  | .neq,some .bool=>pure (.w (.one (.bool (.mkNot (.mkIff a b)))))
  |_,_=>fail
 |_,_=>fail
def ab1 (op:UnOp) (x:V):M V:=
 match op,x with
 | .not,.w (.one (.bool b))=>pure (.w (.one (.bool (.mkNot b))))
 | .xor,.w (.one (.int k a))=>cond (!k.signed&&decide (0<=a.lo)&&decide (a.hi<two k)) (pure (.w (.one (.int k ⟨(U.const (two k-1)).sub a.l,two k-1-a.hi,two k-1-a.lo⟩)))) fail
 | .neg,.w (.one (.int k a))=>bind (tQ k ⟨a.l.smul (-1),-a.hi,-a.lo⟩) λr=>pure (.w (.one (.int k r)))
 |_,_=>fail
def Vh (P:bk) (src dst:aR) (x:V):M V:=
 match P.underlying src,P.underlying dst,x with
 |some _,some .string,.w (.one (.int _ a))=>match a.l.dq with
  |some c=>cond (bp (LG c).size 1000) (pure (.w (.one (.str (.const (cT (LG c).data.toList)))))) fail
  |none=>fail
 |_,_,_=>match P.underlying src,kindOf P dst,x with
 |some _,some k,.w (.one (.int _ a))=>bind (tQ k a) λr=>pure (.w (.one (.int k r)))
 |_,_,_=>fail
def Ii (v:V):Option Int:=match v with| .w (.one (.int _ a))=>a.l.dq|_=>none
def Kp (tm:List V):Option lX->Option (Option Int)
 |none=>some none
 |some x=>match Ii (bK tm x)with|some c=>some (some c)|none=>none
def abw (P:bk) (t:aR) (x:V) (lo hi:Option Int):M V:=
 match x,rC P t with
 | .w (.one (.ptr b off)),some (n,e)=>match eA P e with
  |some s=>cond (decide (0<=lo.getD 0)&&decide (lo.getD 0<=hi.getD n)&&decide (hi.getD n<=n)&&decide (lo.getD 0<n)) (pure (.w (.one (.slc b (off+(lo.getD 0).toNat*s) ((hi.getD n).toNat-(lo.getD 0).toNat) (n-(lo.getD 0).toNat))))) fail
  |none=>fail
 | .w (.one (.slc b off len cap)),none=>match h9 P t with
  |some e=>match eA P e with
   |some s=>cond (decide (0<=lo.getD 0)&&decide (lo.getD 0<=hi.getD len)&&decide (hi.getD len<=cap)&&decide (lo.getD 0<cap)) (pure (.w (.one (.slc b (off+(lo.getD 0).toNat*s) ((hi.getD len).toNat-(lo.getD 0).toNat) (cap-(lo.getD 0).toNat))))) fail
   |none=>fail
  |none=>fail
 |_,_=>fail
def ZX (x:V):M V:=
 match x with
 | .w (.one (.ptr b o))=>pure (.w (.one (.ptr b o)))
 | .w (.one (.ow b o i))=>pure (.w (.one (.ow b o i)))
 | .w (.one (.gptr g o))=>pure (.w (.one (.gptr g o)))
 |_=>fail
def W.cells:W->List A
 | .one a=>[a]
 | .agg l=>l
def lT (P:bk) (t:aR):Option (List A):=
 match P.info? t with
 |some i=>match i.zero with
  |some z=>uA z.cells.toList
  |none=>none
 |none=>none
def sV (place:Nat->Option (Nat×Nat)):List A->List (Nat×V)->Option (List A)
 |cells,[]=>some cells
 |cells,(i,.w u)::r=>match place i with
  |some (off,size)=>cond (aA u.cells.length size&&bp (off+size) cells.length) (sV place (cells.take off++u.cells++cells.drop (off+size)) r) none
  |none=>none
 |_,_::_=>none
def MY (P:bk) (t:aR) (parts:List (Nat×V)):Option (List A):=
 match lT P t,P.underlying t with
 |some z,some (.array _ e)=>match eA P e with
  |some s=>sV (λi=>some (i*s,s)) z parts
  |none=>none
 |some z,some (.struct fields)=>match fields.toList.mapM (λf=>(P.info? f.type).map λi=>(f.offset,i.size))with
  |some places=>sV (places.toArray[·]?) z parts
  |none=>none
 |_,_=>none
noncomputable def QV (P:bk) (cal:ed) (gl:dA) (bl:List aj) (tm:List V) (o:Oper):M V:=
 match o.op with
 | .move x| .assign x=>pure (bK tm x)
 | .load t x=>match bK tm x with
  | .w (.one (.AR g off a7))=>RA P gl t g off a7
  | .w (.one p)=>Qd P bl gl t p
  |_=>fail
 | .nilCheck x=>ZX (bK tm x)
 | .pick c x y=>match bK tm c with
  | .w (.one (.bool (.lit v)))=>pure (cond v (bK tm x) (bK tm y))
  |_=>fail
 | .binOp op t x y _=>UK P op t (bK tm x) (bK tm y)
 | .unOp op _ x=>ab1 op (bK tm x)
 | .convert s d x=>Vh P s d (bK tm x)
 | .indexAddr t x a7=>match bK tm a7 with
  | .w (.one (.int _ i))=>PE P t (bK tm x) i
  |_=>fail
 | .index t x a7=>match bK tm x with
  | .w (.one (.str s))=>match P.underlying t,mQ (bK tm a7)with
   |some .string,some i=>abF s i
   |_,_=>fail
  |_=>match bK tm x,Ii (bK tm a7),rC P t with
   | .w (.agg l),some i,some (len,e)=>match eA P e with
    |some s=>cond (decide (0<=i)&&decide (i<len)) (FL P e l (i.toNat*s)) fail
    |none=>fail
   |_,_,_=>fail
 | .fieldAddr s x f=>match bK tm x,DE P s f with
  | .w (.one (.ptr b off)),some fd=>match eA P fd.type with
   |some (_+1)=>pure (.w (.one (.ptr b (off+fd.offset))))
   |_=>fail
  |_,_=>fail
 | .field s x f=>match bK tm x,DE P s f with
  | .w (.agg l),some fd=>FL P fd.type l fd.offset
  |_,_=>fail
 | .extract x i=>match bK tm x with
  | .e6 l=>match l[i]? with|some u=>pure (.w u)|none=>fail
  |_=>fail
 | .slice t x lo hi none=>match bK tm x,P.underlying t with
  | .w (.one (.str s)),some .string=>RV tm s lo hi
  |_,_=>match Kp tm lo,Kp tm hi with
   |some l,some h=>abw P t (bK tm x) l h
   |_,_=>fail
 | .call c=>match c.callee with
  | .value (.func f)=>match cal f with
   |some g=>g bl (c.args.toList.map (bK tm))
   |none=>fail
  | .builtin .len=>match c.args.toList,c.argTypes.toList with
   |[x],[t]=>match bK tm x,P.underlying t with
    | .w (.one (.str s)),some .string=>abG s
    |_,_=>match bK tm x,h9 P t with
     | .w (.one (.slc _ _ len _)),some _=>pure (.w (.one (.int .i64 (.const len))))
     |_,_=>fail
   |_,_=>fail
  |_=>fail
 | .makeFunc (.func f) first hh=>match first.toList,vl (hh.toList.map (bK tm))with
  |[],some l=>pure (.mI f l)
  |_,_=>fail
 | .build t parts=>match MY P t (parts.toList.map λp=>(p.1,bK tm p.2))with
  |some l=>pure (.w (.agg l))
  |none=>fail
 |_=>fail
section
variable {S:Nat->List Int->List Int->Prop} {L:V->Env->Prop} {n:Nat} {ρ:Env} {m:Nat->Nat} {bl:List aj} {gl:dA} {w0:cI} {P:bk} {tm:List V} {a:Act}
def kL (w0:cI) (m:Nat->Nat) (bl:List aj) (n:Nat) (ρ:Env) (P:bk) (o:Oper) (a:Act) (ae:Env) (n':Nat) (v:V):Prop:=v.ok n' bl.length ae/\∃val,v.rel ae m val/\∀w,Mem w0 ρ m bl w->Ah P o a w val
theorem kL.of_run {o:Oper} {s:Sem ax} {ae:Env} {n':Nat} {v:V} (he:execOp a.eval o=(do pure (kJ (<-s)))) (h:kZ w0 m bl n ρ (λw=>s.run P w) ae n' v):kL w0 m bl n ρ P o a ae n' v:=by
 obtain⟨h1,val,h2,h3⟩:=h;exact⟨h1,val,h2,λw hw=> .inl (by rw[he];simp[h3 w hw])⟩
theorem W.Ic {n nb:Nat} {ρ:Env} {m:Nat->Nat} (u:W) (hu:u.ok n nb ρ):(u.den ρ m).cells=(u.cells.map (A.den ρ m)).toArray:=by
 cases u with
 |one a=>
  have:=A.Km (m:=m) hu;simp only[W.den,W.cells,ch,ec];generalize A.den ρ m a=v at*;cases v<;>first|rfl|simp[Value.oneCell']at this
 |agg l=>simp[W.den,W.cells,Value.cells]
theorem W.Ay {n nb:Nat} {ρ:Env} {u:W} (hu:u.ok n nb ρ):∀a∈u.cells,A.ok n nb ρ a:=by
 cases u with
 |one a=>intro x hx;simp[W.cells]at hx;subst hx;exact hu
 |agg l=>exact hu
def HF (n nb:Nat) (ρ:Env) (m:Nat->Nat):List (Nat×V)->List (Nat×ax)->Prop
 |[],[]=>True
 |p::r,q::s=>(p.1=q.1/\V.ok n nb ρ p.2/\V.rel ρ m p.2 q.2)/\HF n nb ρ m r s
 |_,_=>False
theorem Wf (off:Nat):∀(src:List ax) (dst:Array ax) (k:Nat),off+k+src.length<=dst.size->
 ((src.zipIdx k).foldl (λcs (c,j)=>cs.setIfInBounds (off+j) c) dst)=(dst.toList.take (off+k)++src++dst.toList.drop (off+k+src.length)).toArray
 |[],dst,k,h=>by simp
 |c::src,dst,k,h=>by
  simp only[dj]at h;rw[List.zipIdx_cons,List.foldl_cons,Wf off src _ (k+1) (by simp;omega)]
  congr 1
  simp only[Array.toList_setIfInBounds,dj];have h1:off+k<dst.toList.length:=by simp;omega
  rw[List.take_set,show off+(k+1)=off+k+1 by omega,List.drop_set_of_lt (by omega),List.take_add_one,gF h1];rw[show off+k+1+src.length=off+k+(src.length+1) by omega];simp only[Option.toList_some];rw[List.set_append_right _ _ (by simp;omega)];have hm:min (off+k) dst.size=off+k:=vL (by omega);simp[hm]
theorem Iz {n nb:Nat} {ρ:Env} {m:Nat->Nat} {place:Nat->Option (Nat×Nat)}:∀{parts:List (Nat×V)} {vals:List (Nat×ax)} {cells l:List A},sV place cells parts=some l->(∀a∈cells,A.ok n nb ρ a)->
 HF n nb ρ m parts vals->(∀a∈l,A.ok n nb ρ a)/\adk place (cells.map (A.den ρ m)).toArray vals=some (l.map (A.den ρ m)).toArray
 |[],[],cells,l,h,hc,_=>by simp[sV]at h;subst h;exact⟨hc,rfl⟩
 |(i,.w u)::r,(y5,x)::s,cells,l,h,hc,⟨⟨e1,e2,e3⟩,hr⟩=>by
  simp only at e1;subst e1;simp only[V.rel]at e3;have e3:x=u.den ρ m:=e3;subst e3;simp only[sV]at h;cases hp:place i with
  |none=>simp[hp]at h
  |some q=>
   obtain⟨off,size⟩:=q;simp only[hp]at h;cases hq:(aA u.cells.length size&&bp (off+size) cells.length)with
   |false=>simp[hq]at h
   |true=>
    simp only[hq,cond_true]at h;simp only[aQ]at hq;have q1:=bo hq.1;have q2:=et hq.2;have n6:=W.Ic (m:=m) u e2;obtain⟨g1,g2⟩:=Iz (m:=m) h (λa ha=>by
     rcases List.mem_append.1 ha with ha|ha
     ·rcases List.mem_append.1 ha with ha|ha
      ·exact hc a (kh ha)
      ·exact W.Ay e2 a ha
     ·exact hc a (nS ha)) hr
    refine⟨g1,?_⟩;simp only[adk,hp,n6,List.size_toArray,jW,q1];rw[if_neg (by simp;omega)];rw[<-g2]
    congr 1
    have:=Wf off (u.cells.map (A.den ρ m)) (cells.map (A.den ρ m)).toArray 0 (by simp;omega);simp only[kG]at this;rw[<-Array.foldl_toList];simp only[Array.toList_zipIdx];rw[this];simp[zS,zT,q1]
 |(_,.e6 _)::_,_,_,_,h,_,_=>by simp[sV]at h
 |(_,.any)::_,_,_,_,h,_,_=>by simp[sV]at h
 |[],_::_,_,_,_,_,hr=>hr.elim
 |(_,.w _)::_,[],_,_,_,_,hr=>hr.elim
theorem afx {n nb:Nat} {ρ:Env} {m:Nat->Nat} {t:aR} {parts:List (Nat×V)} {vals:List (Nat×ax)} {l:List A} (h:MY P t parts=some l)
 (hr:HF n nb ρ m parts vals):(∀a∈l,A.ok n nb ρ a)/\P.built t vals=some (l.map (A.den ρ m)).toArray:=by
 unfold MY at h;unfold Program.built;cases hz:lT P t with
 |none=>simp[hz]at h
 |some z=>
  unfold lT at hz;cases hi:P.info? t with
  |none=>simp[hi]at hz
  |some it=>
   simp only[hi]at hz;cases hz0:it.zero with
   |none=>simp[hz0]at hz
   |some z0=>
    simp only[hz0]at hz;have hzs:=yh hz n nb ρ m;have hz1:z0.cells=(z.map (A.den ρ m)).toArray:=by rw[hzs.2]
    cases hu:P.underlying t with
    |none=>simp[lT,hi,hz0,hz,hu]at h
    |some d=>
     cases d<;>try(simp[lT,hi,hz0,hz,hu]at h;done)
     case array len e=>
      simp only[lT,hi,hz0,hz,hu,eA]at h;cases Er:P.info? e with
      |none=>simp[Er]at h
      |some aA2=>
       simp only[Er]at h;simp only[hz0,Er,hz1];exact Iz h hzs.1 hr
     case struct fields=>
      simp only[lT,hi,hz0,hz,hu]at h;cases hp:fields.toList.mapM (λf=>(P.info? f.type).map λi=>(f.offset,i.size))with
      |none=>simp[hp]at h
      |some places=>
       simp only[hp]at h;simp only[hz0,hp,hz1];exact Iz h hzs.1 hr
theorem QH {t:aR} {l:List A} {off:Nat} (hl:∀x∈l,A.ok n bl.length ρ x):ao S L (FL P t l off) n ρ (kZ w0 m bl n ρ λw=>(part t (l.map (A.den ρ m)).toArray off).run P w):=by
 unfold FL;cases h1:nE P t with
 |none=>exact ao.fail
 |some b=>
  cases b with
  |true=>
   cases h2:eA P t with
   |none=>exact ao.fail
   |some k=>
    refine ao.pure ⟨λx hx=>hl x (nS (kh hx)),_,rfl,λw _=>?_⟩;simp[part,q4 h1,gM h2,W.den,zS,zT,List.take_drop]
    try congr 1
  |false=>
   cases h3:l[off]? with
   |none=>exact ao.fail
   |some x=>
    refine ao.pure ⟨hl x (cM h3),_,rfl,λw _=>?_⟩;simp[part,q4 h1,h3,W.den]
theorem uo {t:aR} {len:Nat} {e:aR} (h:rC P t=some (len,e)):P.underlying t=some (.array len e):=by
 unfold rC at h;cases hu:P.underlying t with
 |none=>simp[hu]at h
 |some d=>cases d<;>simp[hu]at h<;>simp[h]
theorem ia {t e:aR} (h:h9 P t=some e):P.underlying t=some (.slice e):=by
 unfold h9 at h;cases hu:P.underlying t with
 |none=>simp[hu]at h
 |some d=>cases d<;>simp[hu]at h<;>simp[h]
theorem Y4 {t:aR} {k:cX} (h:kindOf P t=some k):P.underlying t=some (.int k):=by
 unfold kindOf at h;cases hu:P.underlying t with
 |none=>simp[hu]at h
 |some d=>cases d<;>simp[hu]at h<;>simp[h]
theorem NJ {s:aR} {f:Nat} {fd:Field} (h:DE P s f=some fd):∃dK,P.underlying s=some (.struct dK)/\dK[f]?=some fd:=by
 unfold DE at h;cases hu:P.underlying s with
 |none=>simp[hu]at h
 |some d=>cases d<;>simp[hu]at h<;>exact⟨_,rfl,h⟩
theorem alR {t:aR} {x:V} {k:cX} {a7:br} {X:ax} (hx:x.ok n bl.length ρ) (hX:x.rel ρ m X) (hi:a7.ok n ρ):
 ao S L (PE P t x a7) n ρ (kZ w0 m bl n ρ λw=>(rh t X (.int k (a7.l.den ρ))).run P w):=by
 unfold PE;split
 ·rename_i b off;simp only[V.rel,W.den,A.den]at hX;subst hX;cases h1:rC P t with
  |none=>exact ao.fail
  |some q=>
   obtain⟨len,e⟩:=q;cases h2:eA P e with
   |none=>simp only[h2];exact ao.fail
   |some s=>
    simp only[h2];cases h3:a7.l.dq with
    |some i=>
     refine dR λhc=>ao.pure ⟨hx,_,rfl,λw _=>?_⟩;simp only[aQ,decide_eq_true_eq]at hc;simp[rh,asIntOf,eK (uo h1),kK,U.il h3,hc,gM h2,iz,W.den,A.den]
    |none=>
     refine dR λhc=>ao.pure ⟨?_,_,rfl,λw _=>?_⟩
     ·simp only[aQ,decide_eq_true_eq]at hc;exact⟨hx,hi,hc.1.2⟩
     ·simp only[aQ,decide_eq_true_eq]at hc;have hs:=bo hc.1.1;subst hs;have b1:=hi.2;have c1:0<=a7.l.den ρ:=by omega
      have c2:a7.l.den ρ<len:=by omega
      simp[rh,asIntOf,eK (uo h1),kK,c1,c2,gM h2,iz,W.den,A.den]
 ·rename_i g off;simp only[V.rel,W.den,A.den]at hX;subst hX;cases h1:rC P t with
  |none=>exact ao.fail
  |some q=>
   obtain⟨len,e⟩:=q;cases h2:eA P e with
   |none=>simp only[h2];exact ao.fail
   |some s=>
    simp only[h2];cases h3:a7.l.dq with
    |some i=>
     refine dR λhc=>ao.pure ⟨trivial,_,rfl,λw _=>?_⟩;simp only[aQ,decide_eq_true_eq]at hc;simp[rh,asIntOf,eK (uo h1),kK,U.il h3,hc,gM h2,iz,W.den,A.den]
    |none=>
     refine dR λhc=>fX λhq=>ao.pure ⟨?_,_,rfl,λw _=>?_⟩
     ·simp only[ch,ec,U.aO,ah,uz]at hq;exact⟨⟨hi.1,by show(0:Int)<=_;exact hq.1,by show _<=((len:Int)-1);have:=hq.2;simp only;omega⟩,bO _⟩
     ·simp only[ch,ec,U.aO,ah,uz]at hq;have hs:=bo hc;subst hs;simp[rh,asIntOf,eK (uo h1),kK,hq.1,hq.2,gM h2,iz,W.den,A.den]
 ·rename_i b off len cap;simp only[V.rel,W.den,A.den]at hX;subst hX;cases h1:h9 P t with
  |none=>exact ao.fail
  |some e=>
   cases h2:eA P e with
   |none=>simp only[h2];exact ao.fail
   |some s=>
    simp only[h2];cases h3:a7.l.dq with
    |some i=>
     refine dR λhc=>ao.pure ⟨hx,_,rfl,λw _=>?_⟩;simp only[aQ,decide_eq_true_eq]at hc;simp[rh,asIntOf,eK (ia h1),kK,U.il h3,hc,gM h2,iz,W.den,A.den]
    |none=>
     refine dR λhc=>ao.pure ⟨?_,_,rfl,λw _=>?_⟩
     ·simp only[aQ,decide_eq_true_eq]at hc;exact⟨hx,hi,hc.1.2⟩
     ·simp only[aQ,decide_eq_true_eq]at hc;have hs:=bo hc.1.1;subst hs;have b1:=hi.2;have c1:0<=a7.l.den ρ:=by omega
      have c2:a7.l.den ρ<len:=by omega
      simp[rh,asIntOf,eK (ia h1),kK,c1,c2,gM h2,iz,W.den,A.den]
 ·exact ao.fail
theorem aqv {vs:List V}:∀{l:List A} {xs:List ax},vl vs=some l->(∀v∈vs,V.ok n bl.length ρ v)->db ρ m vs xs->(∀a∈l,A.ok n bl.length ρ a)/\xs=l.map (A.den ρ m):=by
 induction vs with
 |nil=>
  intro l xs h _ hr;simp[vl]at h;subst h;cases xs with
  |nil=>exact⟨λ_ h=>by simp at h,rfl⟩
  |cons _ _=>exact hr.elim
 |cons v r ih=>
  intro l xs h bg hr;cases xs with
  |nil=>cases v<;>exact hr.elim
  |cons x s=>
   cases v with
   |w y=>
    cases y with
    |agg q=>simp[vl]at h
    |one a=>
     cases h1:vl r with
     |none=>simp[vl,h1]at h
     |some bJ=>
      simp only[vl,h1,aK]at h;subst h;obtain⟨e1,e2⟩:=ih h1 (λv hv=>bg v (cx _ hv)) hr.2;have h0:x=a.den ρ m:=hr.1;exact⟨λb hb=>by rcases List.mem_cons.1 hb with rfl|hb;exact bg (.w (.one b)) (by simp);exact e1 b hb,by rw[h0,e2];rfl⟩
   |_=>simp[vl]at h
theorem ya (l:List UInt8):(az l).toList=l:=aD4 l
theorem l6 (l:List UInt8):(az l).size=l.length:=by simp[az,aD5]
theorem UJ (l bJ:List UInt8):(l==bJ)=decide ((if l=bJ then(1:Int)else 0)=1):=by
 by_cases h:l=bJ
 ·subst h;simp
 ·rw[if_neg h];simp[h]
theorem HX (p:Prop) [Decidable p]:(0:Int)<=(if p then 1 else 0)/\(if p then(1:Int)else 0)<=1:=by split<;>decide
theorem Zn (b:Bool):b=decide ((if b=true then(1:Int)else 0)=1):=by cases b<;>rfl
theorem auj {op:BinOp} {t:aR} {x y:lX} {p q:U} (hp:(A.str p).ok n bl.length ρ) (hq:(A.str q).ok n bl.length ρ):
 ao S L (RU op p q) n ρ (kZ w0 m bl n ρ λw=>(do eqGuard op t x y (.string (az (aa (p.den ρ)))) (.string (az (aa (q.den ρ))));binOp op t (.string (az (aa (p.den ρ)))) (.string (az (aa (q.den ρ)))):Sem ax).run P w):=by
 have b1:=HX (aa (p.den ρ)=aa (q.den ρ));have b2:=HX (dV (aa (p.den ρ)) (aa (q.den ρ))=true);unfold RU;split
 ·refine fX λhc=>?_;have hc:(aa (p.den ρ)).length+(aa (q.den ρ)).length<=dP:=hc;have hl:(aa (p.den ρ)++aa (q.den ρ)).length<=dP:=by simpa using hc
  refine(fY (op:=3) (args:=[p,q]) (lD _) (kY hl)).bind λay n1 l _ _ ⟨h1,h2⟩=>?_;have h2:l.den ay=cT (aa (p.den ρ)++aa (q.den ρ)):=h2;refine ao.pure ⟨⟨h1,by rw[h2];exact lD _,by rw[h2];exact kY hl⟩,_,rfl,λw _=>?_⟩;have hr:=run_string_add_sum (P:=P) w (az (aa (p.den ρ))) (az (aa (q.den ρ))) (by rw[l6,l6];unfold dP at hc;omega);simp only[eqGuard,binOp_string_add,W.den,A.den,h2,fj];simp[hr];exact aD6 _ _
 ·refine(fY (op:=4) (args:=[p,q]) b1.1 b1.2).bind λay n1 l _ _ ⟨h1,h2⟩=>?_;have h2:l.den ay=if aa (p.den ρ)=aa (q.den ρ)then 1 else 0:=h2
  have e:=bf.uB (n:=n1) (ρ:=ay) (a:=⟨l,0,1⟩) (b:= .const 1) ⟨h1,by simp only[h2];exact b1.1,by simp only[h2];exact b1.2⟩ (br.nj _ _ _);refine ao.pure ⟨e.2,_,rfl,λw _=>?_⟩;simp only[W.den,A.den,binOp_string_eql,ya];rw[e.1];simp only[h2,br.const,U.aO,UJ];simp[eqGuard]
 ·refine(fY (op:=4) (args:=[p,q]) b1.1 b1.2).bind λay n1 l _ _ ⟨h1,h2⟩=>?_;have h2:l.den ay=if aa (p.den ρ)=aa (q.den ρ)then 1 else 0:=h2
  have e:=bf.uB (n:=n1) (ρ:=ay) (a:=⟨l,0,1⟩) (b:= .const 1) ⟨h1,by simp only[h2];exact b1.1,by simp only[h2];exact b1.2⟩ (br.nj _ _ _);refine ao.pure ⟨bf.vv e.2,_,rfl,λw _=>?_⟩;simp only[W.den,A.den,bf.uC,binOp_string_neq,ya];rw[e.1];simp only[h2,br.const,U.aO,UJ];simp[eqGuard]
 ·refine(fY (op:=5) (args:=[p,q]) b2.1 b2.2).bind λay n1 l _ _ ⟨h1,h2⟩=>?_;have h2:l.den ay=if dV (aa (p.den ρ)) (aa (q.den ρ))=true then 1 else 0:=h2
  have e:=bf.uB (n:=n1) (ρ:=ay) (a:=⟨l,0,1⟩) (b:= .const 1) ⟨h1,by simp only[h2];exact b2.1,by simp only[h2];exact b2.2⟩ (br.nj _ _ _);refine ao.pure ⟨e.2,_,rfl,λw _=>?_⟩;simp only[W.den,A.den,binOp_string_lss,ya];rw[e.1];simp only[h2,br.const,U.aO];rw[<-Zn];simp[eqGuard]
 ·refine(fY (op:=5) (args:=[p,q]) b2.1 b2.2).bind λay n1 l _ _ ⟨h1,h2⟩=>?_;have h2:l.den ay=if dV (aa (p.den ρ)) (aa (q.den ρ))=true then 1 else 0:=h2
  have e:=bf.uB (n:=n1) (ρ:=ay) (a:=⟨l,0,1⟩) (b:= .const 1) ⟨h1,by simp only[h2];exact b2.1,by simp only[h2];exact b2.2⟩ (br.nj _ _ _);refine ao.pure ⟨bf.vv e.2,_,rfl,λw _=>?_⟩;simp only[W.den,A.den,bf.uC,binOp_string_geq,ya];rw[e.1];simp only[h2,br.const,U.aO];rw[<-Zn];simp[eqGuard]
 ·exact ao.fail
theorem aul {t ty:aR} {p:U} (hu:P.underlying t=some .string) (hp:(A.str p).ok n bl.length ρ):
 ao S L (abG p) n ρ (kZ w0 m bl n ρ λw=>(Hg #[t] ty #[.string (az (aa (p.den ρ)))]).run P w):=by
 have hl:=vV hp.2.2;unfold dP at hl;refine(fY (op:=0) (args:=[p]) (zQ _) (by show((aa (p.den ρ)).length:Int)<=_;omega)).bind λay n1 l _ _ ⟨h1,h2⟩=>?_;have h2:l.den ay=((aa (p.den ρ)).length:Int):=h2;refine ao.pure ⟨⟨h1,by simp only[h2];omega,by simp only[h2];omega⟩,_,rfl,λw _=>?_⟩;simp[Hg,eK hu,goInt,W.den,A.den,h2,l6]
theorem auk {t:aR} {k:cX} {p i:U} (hu:P.underlying t=some .string) (hp:(A.str p).ok n bl.length ρ):
 ao S L (abF p i) n ρ (kZ w0 m bl n ρ λw=>(LH t (.string (az (aa (p.den ρ)))) (.int k (i.den ρ))).run P w):=by
 refine fX λhc=>?_;have hc:0<=i.den ρ/\i.den ρ<((aa (p.den ρ)).length:Int):=hc;have hlt:(i.den ρ).toNat<(aa (p.den ρ)).length:=by omega
 have hb:=((aa (p.den ρ)).getD (i.den ρ).toNat 0).toNat_lt;refine(fY (op:=1) (args:=[p,i]) (zQ _) (by show(((aa (p.den ρ)).getD (i.den ρ).toNat 0).toNat:Int)<=_;omega)).bind λay n1 l _ _ ⟨h1,h2⟩=>?_;have h2:l.den ay=(((aa (p.den ρ)).getD (i.den ρ).toNat 0).toNat:Int):=h2;refine ao.pure ⟨⟨h1,by simp only[h2];omega,by simp only[h2];omega⟩,_,rfl,λw _=>?_⟩;have e:(az (aa (p.den ρ)))[(i.den ρ).toNat]?=some ((aa (p.den ρ)).getD (i.den ρ).toNat 0):=by
  rw[aD7 _ _ (by rw[l6];exact hlt)];simp[az,ar,hlt];rfl
 simp[LH,asIntOf,eK hu,hc.1,e,W.den,A.den,h2]
theorem aun {p a b:U} (hp:(A.str p).ok n bl.length ρ):ao S L (La p a b) n ρ λae n' v=>v.ok n' bl.length ae/\v.rel ae m (.string ((az (aa (p.den ρ))).extract (a.den ρ).toNat (b.den ρ).toNat))/\0<=a.den ρ/\a.den ρ<=b.den ρ/\b.den ρ<=((aa (p.den ρ)).length:Int):=by
 refine fX λhc=>?_;have hc:0<=a.den ρ/\a.den ρ<=b.den ρ/\b.den ρ<=((aa (p.den ρ)).length:Int):=hc;have hl:=vV hp.2.2;have hl2:(((aa (p.den ρ)).drop (a.den ρ).toNat).take ((b.den ρ).toNat-(a.den ρ).toNat)).length<=dP:=by simp;omega
 refine(fY (op:=2) (args:=[p,a,b]) (lD _) (kY hl2)).bind λay n1 l _ _ ⟨h1,h2⟩=>?_;have h2:l.den ay=cT (((aa (p.den ρ)).drop (a.den ρ).toNat).take ((b.den ρ).toNat-(a.den ρ).toNat)):=h2;refine ao.pure ⟨⟨h1,by rw[h2];exact lD _,by rw[h2];exact kY hl2⟩,?_,hc⟩;show _=_;simp only[W.den,A.den,h2,fj]
 congr 1
 exact aD8 _ _ _
theorem u3 {v:V} {l:U} {x:ax} (h:mQ v=some l) (hr:v.rel ρ m x) (bg:v.ok n bl.length ρ):∃k,x= .int k (l.den ρ)/\l.aY n:=by
 unfold mQ at h;split at h
 ·rename_i k a;simp only[aK]at h;subst h;exact⟨k,hr,bg.1⟩
 ·cases h
theorem mx {k:cX} {i:Int} {y:Nat} {mH:BoundsCode} (p1:0<=i) (aJ:i<=y) (w:ai):(Hh (.int k i) y mH).run P w= .ok i.toNat w:=by
 simp[Hh,asIntOf,p1,aJ]
theorem aum {t:aR} {p:U} {lo hi:Option lX} (hu:P.underlying t=some .string) (hp:(A.str p).ok n bl.length ρ) (ht:dn n bl.length ρ m tm a.tmps):
 ao S L (RV tm p lo hi) n ρ (kZ w0 m bl n ρ λw=>(nQ t (.string (az (aa (p.den ρ)))) (lo.map a.eval) (hi.map a.eval) none).run P w):=by
 unfold RV;split
 ·exact ao.fail
 ·rename_i la yO;have oa:∃f:Option ax,lo.map a.eval=f/\(f=none/\la.den ρ=0∨∃k,f=some (.int k (la.den ρ))):=by
   cases lo with
   |none=>simp only[aK]at yO;subst yO;exact⟨none,rfl,.inl ⟨rfl,U.aO _ _⟩⟩
   |some x=>
    obtain⟨k,hk,_⟩:=u3 (m:=m) (bl:=bl) yO (cc ht x).2 (cc ht x).1;exact⟨_,rfl,.inr ⟨k,by rw[<-hk];rfl⟩⟩
  obtain⟨V5,e1,im⟩:=oa;have key:∀(lb:U) (ay:Env) (n1:Nat),n<=n1->agree n ρ ay->(hi.map a.eval=none/\lb.den ay=((aa (p.den ρ)).length:Int)∨∃k,hi.map a.eval=some (.int k (lb.den ay)))->la.aY n->
   ao S L (La p la lb) n1 ay (kZ w0 m bl n ρ λw=>(nQ t (.string (az (aa (p.den ρ)))) (lo.map a.eval) (hi.map a.eval) none).run P w):=λlb ay n1 hn ha ag ak8=>by
   have yS:(A.str p).ok n1 bl.length ay:=hp.ext ha hn (aV _);have ep:p.den ay=p.den ρ:=U.bw ha hp.1;have AH:la.den ay=la.den ρ:=U.bw ha ak8;refine(aun (m:=m) (bl:=bl) (a:=la) (b:=lb) yS).mono λbn n2 v _ _ ⟨q1,q2,q3,dr,kA⟩=>⟨q1,_,q2,λw _=>?_⟩;rw[ep,AH]at*;have qK:(jz false (az (aa (p.den ρ))).size (az (aa (p.den ρ))).size V5 (hi.map a.eval) none).run P w= .ok ((la.den ρ).toNat,(lb.den ay).toNat,(az (aa (p.den ρ))).size) w:=by
    rw[l6];rcases im with⟨rfl,hz⟩|⟨k,rfl⟩<;>rcases ag with⟨h1,h2⟩|⟨k2,h1⟩
    ·rw[h1,hz,h2];simp[jz]
    ·rw[h1,hz];simp[jz,mx (P:=P) (by omega:0<=lb.den ay) kA]
    ·rw[h1,h2];simp[jz,mx (P:=P) (y:=(aa (p.den ρ)).length) q3 (by omega)]
    ·rw[h1];simp[jz,mx (P:=P) (by omega:0<=lb.den ay) kA,mx (P:=P) (y:=(lb.den ay).toNat) q3 (by omega)]
   rw[e1];simp[nQ,LI,eK hu,qK]
  have A9:la.aY n:=by
   cases lo with
   |none=>simp only[aK]at yO;subst yO;exact U.cr _ _
   |some x=>exact(u3 (m:=m) (bl:=bl) yO (cc ht x).2 (cc ht x).1).choose_spec.2
  cases hi with
  |none=>
   have hl:=vV hp.2.2;unfold dP at hl;exact(fY (op:=0) (args:=[p]) (zQ _) (by show((aa (p.den ρ)).length:Int)<=_;omega)).bind λay n1 l hn ha ⟨h1,h2⟩=>key l ay n1 hn ha (.inl ⟨rfl,h2⟩) A9
  |some y=>
   simp only;cases hy:mQ (bK tm y)with
   |none=>exact ao.fail
   |some b=>
    obtain⟨k,hk,_⟩:=u3 (m:=m) (bl:=bl) hy (cc ht y).2 (cc ht y).1;exact key b ρ n (aV _) (agree.refl _ _) (.inr ⟨k,by rw[<-hk];rfl⟩) A9
theorem Hz {xs:List lX} (h:dn n bl.length ρ m tm a.tmps):db ρ m (xs.map (bK tm)) (xs.map a.eval):=by
 induction xs with
 |nil=>trivial
 |cons x r ih=>exact⟨(cc h x).2,ih⟩
theorem Ro {c:Call} {f:cB} (hc:c.callee= .value (.func f)) (o:Oper) (ho:o.op= .call c):execOp a.eval o=callFunc f (c.args.map a.eval):=by
 simp only[execOp,ho,resolve,hc,Act.eval,adl];simp[invoke,bind_pure_comp]
theorem NB {nb:Nat} {m:Nat->Nat}:∀(dK:List Field) (x y:List A) (i n:Nat) (ρ:Env),DK P i dK=true->(∀a∈x,A.ok n nb ρ a)->(∀a∈y,A.ok n nb ρ a)->
 ao S L (pR P dK x y) n ρ λae n' b=>b.aY n'/\∀(w:ai) (d:Nat) (xs fA:Array ax),xs.toList.drop i=x.map (A.den ρ m)->fA.toList.drop i=y.map (A.den ρ m)->(Op.eqFields (d+1) xs fA dK).run P w= .ok (b.den ae) w
 |[],[],[],i,n,ρ,_,_,_=>ao.pure ⟨trivial,λw d xs fA _ _=>by simp[Op.eqFields,bf.den]⟩
 |f::dK,x::xs,y::fA,i,n,ρ,hf,hx,hy=>by
  cases x with
  |int k a=>
   cases y with
   |int k' b=>
    unfold DK at hf;simp only[aQ,bne_iff_ne,ne_eq]at hf;obtain⟨⟨hn,ho⟩,hf⟩:=hf;have ho:=bo ho;unfold pR;split
    ·rename_i k2 hk2;have hu:=Y4 hk2;refine dR λhk=>?_;have hk:k=k':=by simpa using hk
     subst hk;have aoY:a.ok n ρ:=hx (.int k a) (by simp);have aoZ:b.ok n ρ:=hy (.int k b) (by simp);refine(NB (nb:=nb) (m:=m) dK xs fA (i+1) n ρ hf (λz hz=>hx z (cx _ hz)) (λz hz=>hy z (cx _ hz))).bind λae n' r mh jk ⟨r1,r2⟩=>ao.pure ?_;have e1:=bf.uB (aoY.agree jk mh) (aoZ.agree jk mh);refine⟨bf.abk e1.2 r1,λw d vz vA EN EO=>?_⟩;have NZ:vz[i]?=some (.int k (a.l.den ρ)):=by
      have:=congrArg List.head? EN;simpa [A.den]using this
     have N0:vA[i]?=some (.int k (b.l.den ρ)):=by
      have:=congrArg List.head? EO;simpa [A.den]using this
     have Np:vz.toList.drop (i+1)=xs.map (A.den ρ m):=by
      have:=congrArg List.tail EN;simpa using this
     have aH:vA.toList.drop (i+1)=fA.map (A.den ρ m):=by
      have:=congrArg List.tail EO;simpa using this
     have QO:(part f.type vz f.offset).run P w= .ok (.int k (a.l.den ρ)) w:=by simp[part,isAgg,eK hu,ho,NZ]
     have QP:(part f.type vA f.offset).run P w= .ok (.int k (b.l.den ρ)) w:=by simp[part,isAgg,eK hu,ho,N0]
     have AH:a.l.den ae=a.l.den ρ:=by
      have:=A.j1 (m:=m) (m':=m) (hx (.int k a) (by simp)) jk (λ_ _=>rfl);simpa [A.den]using this
     have oY:b.l.den ae=b.l.den ρ:=by
      have:=A.j1 (m:=m) (m':=m) (hy (.int k b) (by simp)) jk (λ_ _=>rfl);simpa [A.den]using this
     simp only[Op.eqFields,ne_eq,hn,not_false_eq_true,if_true,gy,QO,QP,gG,run_equalIn_int w d f.type k k2 _ _ hu,bf.Vu,e1.1,AH,oY];by_cases hq:a.l.den ρ=b.l.den ρ
     ·simp[hq,r2 w d vz vA Np aH]
     ·simp[hq]
    ·exact ao.fail
   |_=>unfold pR;exact ao.fail
  |str a=>
   cases y with
   |str b=>
    unfold DK at hf;simp only[aQ,bne_iff_ne,ne_eq]at hf;obtain⟨⟨hn,ho⟩,hf⟩:=hf;have ho:=bo ho;unfold pR;split
    ·rename_i hu;have b1:=HX (aa (a.den ρ)=aa (b.den ρ));refine(fY (op:=4) (args:=[a,b]) b1.1 b1.2).bind λay n1 l eY AY ⟨h1,h2⟩=>?_;have h2:l.den ay=if aa (a.den ρ)=aa (b.den ρ)then 1 else 0:=h2
     have hx1:∀z∈xs,A.ok n1 nb ay z:=λz hz=>(hx z (cx _ hz)).ext AY eY (aV _);have alH:∀z∈fA,A.ok n1 nb ay z:=λz hz=>(hy z (cx _ hz)).ext AY eY (aV _);have ol:(⟨l,0,1⟩:br).ok n1 ay:=⟨h1,by simp only[h2];exact b1.1,by simp only[h2];exact b1.2⟩;refine(NB (nb:=nb) (m:=m) dK xs fA (i+1) n1 ay hf hx1 alH).bind λae n' r mh jk ⟨r1,r2⟩=>ao.pure ?_;have e1:=bf.uB (n:=n') (ρ:=ae) (a:=⟨l,0,1⟩) (b:= .const 1) (ol.agree jk mh) (br.nj _ _ _);refine⟨bf.abk e1.2 r1,λw d vz vA EN EO=>?_⟩;have NZ:vz[i]?=some (.string (az (aa (a.den ρ)))):=by
      have:=congrArg List.head? EN;simpa [A.den]using this
     have N0:vA[i]?=some (.string (az (aa (b.den ρ)))):=by
      have:=congrArg List.head? EO;simpa [A.den]using this
     have Np:vz.toList.drop (i+1)=xs.map (A.den ay m):=by
      have:=congrArg List.tail EN;rw[gw (g:=A.den ρ m) λz hz=>A.j1 (hx z (cx _ hz)) AY (λ_ _=>rfl)];simpa using this
     have aH:vA.toList.drop (i+1)=fA.map (A.den ay m):=by
      have:=congrArg List.tail EO;rw[gw (g:=A.den ρ m) λz hz=>A.j1 (hy z (cx _ hz)) AY (λ_ _=>rfl)];simpa using this
     have QO:(part f.type vz f.offset).run P w= .ok (.string (az (aa (a.den ρ)))) w:=by simp[part,isAgg,eK hu,ho,NZ]
     have QP:(part f.type vA f.offset).run P w= .ok (.string (az (aa (b.den ρ)))) w:=by simp[part,isAgg,eK hu,ho,N0]
     have el:l.den ae=l.den ay:=U.bw jk h1;have e2:(bf.mkEq ⟨l,0,1⟩ (.const 1)).den ae=decide (aa (a.den ρ)=aa (b.den ρ)):=by
      rw[e1.1];simp only[br.const,U.aO,el,h2];by_cases hq:aa (a.den ρ)=aa (b.den ρ)<;>simp[hq]
     simp only[Op.eqFields,ne_eq,hn,not_false_eq_true,if_true,gy,QO,QP,gG,run_equalIn_string w d f.type _ _ hu,bf.Vu,e2,ya];by_cases hq:aa (a.den ρ)=aa (b.den ρ)
     ·simp[hq,r2 w d vz vA Np aH]
     ·simp[hq]
    ·exact ao.fail
   |_=>unfold pR;exact ao.fail
  |_=>unfold pR;exact ao.fail
 |[],_::_,_,_,_,_,_,_,_=>by unfold pR;exact ao.fail
 |[],[],y::_,_,_,_,_,_,_=>by cases y<;>(unfold pR;exact ao.fail)
 |_::_,[],_,_,_,_,_,_,_=>by unfold pR;exact ao.fail
 |_::_,x::_,[],_,_,_,_,_,_=>by cases x<;>(unfold pR;exact ao.fail)
theorem VN {nb:Nat} {m:Nat->Nat} {t:aR} {x y:List A} (hx:∀a∈x,A.ok n nb ρ a) (hy:∀a∈y,A.ok n nb ρ a):
 ao S L (It P t x y) n ρ λae n' b=>b.aY n'/\P.eqGuardType P.depth t=false/\∀w,(Op.equalIn 10000 t (.agg (x.map (A.den ρ m)).toArray) (.agg (y.map (A.den ρ m)).toArray)).run P w= .ok (b.den ae) w:=by
 unfold It;split
 ·rename_i dK hu;refine dR λhg=>?_;simp only[aQ,iP]at hg;refine(NB (nb:=nb) (m:=m) dK.toList x y 0 n ρ hg.1.1 hx hy).mono λae n' b _ _ ⟨h1,h2⟩=>⟨h1,hg.2,λw=>?_⟩;have hf:P.fieldsOf t=dK:=by simp[Program.fieldsOf,hu]
  rw[run_equalIn_struct w 9999 t _ _ (by rw[hf];exact hu) hg.1.2,hf];exact h2 w 9998 _ _ (by simp) (by simp)
 ·exact ao.fail
theorem asu {cal:ed} (cp:fp S P gl w0 cal) (hb:bU n bl.length ρ bl) (hg:eN gl w0) (hex:∃w,Mem w0 ρ m bl w) (ht:dn n bl.length ρ m tm a.tmps) (o:Oper):
 ao S L (QV P cal gl bl tm o) n ρ (kL w0 m bl n ρ P o a):=by
 unfold QV;split
 case h_1 x h=>
  exact ao.pure ⟨(cc ht x).1,_,(cc ht x).2,λw _=> .inl (by simp[execOp,h])⟩
 case h_2 x h=>
  exact ao.pure ⟨(cc ht x).1,_,(cc ht x).2,λw _=> .inl (by simp[execOp,h])⟩
 case h_3 t x h=>
  have hx:=cc ht x;have he:execOp a.eval o=(do pure (kJ (<-nR t (a.eval x)))):=by simp only[execOp,h]
  split
  ·rename_i g off a7 hv;rw[hv]at hx;have c7:a.eval x=(A.AR g off a7).den ρ m:=hx.2;rw[c7]at he;exact(atI hg t g off hx.1.1).mono λ_ _ _ _ _ hq=>kL.of_run he hq
  ·rename_i p _ hv;rw[hv]at hx;have c7:a.eval x=p.den ρ m:=hx.2;rw[c7]at he;exact(anN hb hg hex t p).mono λ_ _ _ _ _ hq=>kL.of_run he hq
  ·exact ao.fail
 case h_4 x h=>
  have hx:=cc ht x;unfold ZX;split<;>first
   |exact ao.fail
   |(rename_i hv
     rw[hv]at hx;refine ao.pure ⟨hx.1,_,rfl,λw _=> .inl ?_⟩;have c7:=hx.2;simp only[V.rel,W.den,A.den]at c7;simp[execOp,h,c7,W.den,A.den])
 case h_5 c x y h=>
  have hc:=cc ht c;split
  ·rename_i v hv;rw[hv]at hc;have e1:a.eval c= .bool v:=hc.2;cases v with
   |true=>exact ao.pure ⟨(cc ht x).1,_,(cc ht x).2,λw _=> .inl (by simp[execOp,h,e1,asBool])⟩
   |false=>exact ao.pure ⟨(cc ht y).1,_,(cc ht y).2,λw _=> .inl (by simp[execOp,h,e1,asBool])⟩
  ·exact ao.fail
 case h_6 op t x y t' h=>
  have hx:=cc ht x;have hy:=cc ht y;unfold UK;split
  ·rename_i k p k' q oe hv2;rw[oe]at hx;rw[hv2]at hy;have e1:a.eval x= .int k (p.l.den ρ):=hx.2;have e2:a.eval y= .int k' (q.l.den ρ):=hy.2;refine(afm (nb:=bl.length) (m:=m) P t hx.1 hy.1).bind λay n1 r _ _ ⟨h1,h2⟩=>ao.pure ⟨h1,_,rfl,λw _=> .inl ?_⟩;have hgd:(eqGuard op t x y (.int k (p.l.den ρ)) (.int k' (q.l.den ρ))).run P w= .ok () w:=by cases op<;>simp[eqGuard]
   simp only[execOp,h,e1,e2];simp[hgd,h2,W.den]
  ·rename_i p q oe hv2;rw[oe]at hx;rw[hv2]at hy;have e1:a.eval x= .agg (p.map (A.den ρ m)).toArray:=hx.2;have e2:a.eval y= .agg (q.map (A.den ρ m)).toArray:=hy.2;split
   ·refine(VN (m:=m) (t:=t) hx.1 hy.1).bind λae n' r _ _ ⟨r1,g1,r2⟩=>ao.pure ⟨r1,_,rfl,λw _=> .inl ?_⟩;simp only[execOp,h,e1,e2];simp[run_eqGuard_agg w .eql t x y _ _ g1,run_eql_struct,r2,W.den,A.den]
   ·refine(VN (m:=m) (t:=t) hx.1 hy.1).bind λae n' r _ _ ⟨r1,g1,r2⟩=>ao.pure ⟨bf.vv r1,_,rfl,λw _=> .inl ?_⟩;simp only[execOp,h,e1,e2];simp[run_eqGuard_agg w .neq t x y _ _ g1,run_neq_struct,r2,W.den,A.den,bf.uC]
   ·exact ao.fail
  ·rename_i p q oe hv2;rw[oe]at hx;rw[hv2]at hy;have e1:a.eval x= .string (az (aa (p.den ρ))):=hx.2;have e2:a.eval y= .string (az (aa (q.den ρ))):=hy.2;have he:execOp a.eval o=(do pure (kJ (<-(do eqGuard op t x y (.string (az (aa (p.den ρ)))) (.string (az (aa (q.den ρ))));binOp op t (.string (az (aa (p.den ρ)))) (.string (az (aa (q.den ρ)))):Sem ax)))):=by simp only[execOp,h,e1,e2]
   exact(auj (op:=op) (t:=t) (x:=x) (y:=y) (w0:=w0) (m:=m) hx.1 hy.1).mono λ_ _ _ _ _ hq=>kL.of_run he hq
  ·rename_i p q oe hv2;rw[oe]at hx;rw[hv2]at hy;have e1:a.eval x= .bool (p.den ρ):=hx.2;have e2:a.eval y= .bool (q.den ρ):=hy.2;have hgd:(eqGuard op t x y (.bool (p.den ρ)) (.bool (q.den ρ))).run P=λw=> .ok () w:=by funext w;cases op<;>simp[eqGuard]
   split
   ·rename_i hu;refine ao.pure ⟨bf.abl hx.1 hy.1,_,rfl,λw _=> .inl ?_⟩;simp only[execOp,h,e1,e2];simp[hgd,run_eql_bool w t _ _ hu,W.den,A.den,bf.Vv]
   ·rename_i hu;refine ao.pure ⟨bf.vv (bf.abl hx.1 hy.1),_,rfl,λw _=> .inl ?_⟩;simp only[execOp,h,e1,e2];simp[hgd,run_neq_bool w t _ _ hu,W.den,A.den,bf.Vv,bf.uC]
   ·exact ao.fail
  ·exact ao.fail
 case h_7 op t x h=>
  have hx:=cc ht x;unfold ab1;split
  ·rename_i b hv;rw[hv]at hx;have e1:a.eval x= .bool (b.den ρ):=hx.2;refine ao.pure ⟨bf.vv hx.1,_,rfl,λw _=> .inl ?_⟩;simp[execOp,h,e1,Op.unary,W.den,A.den,bf.uC]
  ·rename_i k p hv;rw[hv]at hx;have e1:a.eval x= .int k (p.l.den ρ):=hx.2;refine dR λhc=>?_;simp only[aQ,iP,decide_eq_true_eq]at hc;have hp:=hx.1;have UW:=br.ok.agree (n':=n) hp (agree.refl n ρ) (aV _);have b2:=UW.2;have e2:((U.const (two k-1)).sub p.l).den ρ=two k-1-p.l.den ρ:=by rw[U.lE,U.aO]
   refine ao.pure ⟨⟨U.xt (U.cr _ _) UW.1,by simp only[e2];omega,by simp only[e2];omega⟩,_,rfl,λw _=> .inl ?_⟩;have key:k.wrap (lW k.bits (if k.signed=true then-1 else k.max)^^^lW k.bits (p.l.den ρ)).toNat=two k-1-p.l.den ρ:=by
    have hk:=hc.1.1;obtain⟨X,hX⟩:=oI (show 0<=p.l.den ρ by omega);have hlt:X<2^k.bits:=by
     have:(X:Int)<2^k.bits:=by rw[<-sn,<-hX];omega
     exact_mod_cast this
    have hall:(lW k.bits (if k.signed=true then-1 else k.max))=BitVec.allOnes k.bits:=by
     cases k<;>simp[He]at hk<;>rfl
    rw[hall,BitVec.allOnes_xor,BitVec.toNat_not,hX,zR];have e3:((X:Int)% ((2^k.bits:Nat):Int)).toNat=X:=by
     rw[sx (by omega) (by exact_mod_cast hlt)];rfl
    rw[e3,Ll];have ag:half k=0:=by simp[half,hk]
    have h2:two k=((2^k.bits:Nat):Int):=by rw[sn];simp
    rw[ag,h2,Int.add_zero,Int.sub_zero,sx (by omega) (by omega)];omega
   simp only[execOp,h,e1,Op.unary,Op.intBits,W.den,A.den,e2];simp at key;simp[key]
  ·rename_i k p hv;rw[hv]at hx;have e1:a.eval x= .int k (p.l.den ρ):=hx.2;have b2:=br.ok.agree (n':=n) hx.1 (agree.refl n ρ) (aV _);have b3:=b2.2;have e2:(p.l.smul (-1)).den ρ=-p.l.den ρ:=by rw[U.kk];omega
   refine(xA (k:=k) (x:=⟨p.l.smul (-1),-p.hi,-p.lo⟩) ⟨U.tI b2.1,by simp only[e2];omega,by simp only[e2];omega⟩).bind λay n1 r _ _ ⟨h1,h2⟩=>ao.pure ⟨h1,_,rfl,λw _=> .inl ?_⟩;simp only[e2]at h2;simp[execOp,h,e1,Op.unary,Op.intArith,W.den,A.den,h2]
  ·exact ao.fail
 case h_8 s d x h=>
  have hx:=cc ht x;unfold Vh;split
  ·rename_i k' p hu hk hv;rw[hv]at hx;have e1:a.eval x= .int k' (p.l.den ρ):=hx.2;split
   ·rename_i c hc;refine dR λhsz=>?_;have hl:(LG c).data.toList.length<=dP:=by
     have:=et hsz;have h2:(LG c).data.toList.length=(LG c).size:=by simp
     unfold dP;omega
    refine ao.pure ⟨⟨U.cr _ _,by rw[U.aO];exact lD _,by rw[U.aO];exact kY hl⟩,_,rfl,λw _=> .inl ?_⟩;simp[execOp,h,e1,convert,eK hu,eK hk,Conv.intToString,W.den,A.den,U.aO,fj,az,U.il hc]
   ·exact ao.fail
  ·split
   rotate_left
   ·exact ao.fail
   rename_i k k' p hu hk hv;rw[hv]at hx;have e1:a.eval x= .int k' (p.l.den ρ):=hx.2;refine(xA (k:=k) hx.1).bind λay n1 r _ _ ⟨h1,h2⟩=>ao.pure ⟨h1,_,rfl,λw _=> .inl ?_⟩;simp[execOp,h,e1,convert,eK hu,eK (Y4 hk),Conv.intToInt,W.den,A.den,h2]
 case h_9 t x a7 h=>
  have hx:=cc ht x;have hi:=cc ht a7;split
  ·rename_i k i hv;rw[hv]at hi;have e1:a.eval a7= .int k (i.l.den ρ):=hi.2;have he:execOp a.eval o=(do pure (kJ (<-rh t (a.eval x) (.int k (i.l.den ρ))))):=by simp only[execOp,h,e1]
   exact(alR hx.1 hx.2 hi.1).mono λ_ _ _ _ _ hq=>kL.of_run he hq
  ·exact ao.fail
 case h_10 t x a7 h=>
  have hx:=cc ht x;have hi:=cc ht a7;split
  ·rename_i s hv;rw[hv]at hx;have e1:a.eval x= .string (az (aa (s.den ρ))):=hx.2;split
   ·rename_i i hu A0;obtain⟨k,hk,_⟩:=u3 (m:=m) (bl:=bl) A0 hi.2 hi.1;have he:execOp a.eval o=(do pure (kJ (<-LH t (.string (az (aa (s.den ρ)))) (.int k (i.den ρ))))):=by simp only[execOp,h,e1,hk]
    exact(auk (w0:=w0) (m:=m) hu hx.1).mono λ_ _ _ _ _ hq=>kL.of_run he hq
   ·exact ao.fail
  split
  ·rename_i l i len e hv A0 wJ;rw[hv]at hx;have e1:a.eval x= .agg (l.map (A.den ρ m)).toArray:=hx.2;have e2:∃k,a.eval a7= .int k i:=by
    unfold Ii at A0;split at A0
    ·rename_i k p hv2;rw[hv2]at hi;have:a.eval a7= .int k (p.l.den ρ):=hi.2;exact⟨k,by rw[this,U.il A0]⟩
    ·cases A0
   obtain⟨k,e2⟩:=e2;split
   ·rename_i s hs;refine dR λhc=>?_;simp only[aQ,decide_eq_true_eq]at hc;refine(QH (w0:=w0) (m:=m) (bl:=bl) hx.1).mono λay n1 v _ _ ⟨q1,val,q2,q3⟩=>⟨q1,val,q2,λw hw=> .inl ?_⟩;have:=q3 w hw;simp[execOp,h,e1,e2,LH,asIntOf,eK (uo wJ),hc,gM hs,this]
   ·exact ao.fail
  ·exact ao.fail
 case h_11 s x f h=>
  have hx:=cc ht x;split
  ·rename_i b off fd hv hf;rw[hv]at hx;have e1:a.eval x= .pointer (some ⟨m b,off,none⟩):=hx.2;obtain⟨dK,hu,Eg⟩:=NJ hf;split
   ·rename_i k hs;refine ao.pure ⟨hx.1,_,rfl,λw _=> .inl ?_⟩;simp[execOp,h,e1,CP,eK hu,Eg,kK,fieldPlace,gM hs,iz,W.den,A.den]
   ·exact ao.fail
  ·exact ao.fail
 case h_12 s x f h=>
  have hx:=cc ht x;split
  ·rename_i l fd hv hf;rw[hv]at hx;have e1:a.eval x= .agg (l.map (A.den ρ m)).toArray:=hx.2;obtain⟨dK,hu,Eg⟩:=NJ hf;refine(QH (w0:=w0) (m:=m) (bl:=bl) hx.1).mono λay n1 v _ _ ⟨q1,val,q2,q3⟩=>⟨q1,val,q2,λw hw=> .inl ?_⟩;have:=q3 w hw;simp[execOp,h,e1,Instr.field,asAgg,eK hu,Eg,this]
  ·exact ao.fail
 case h_13 x i h=>
  have hx:=cc ht x;split
  ·rename_i l hv;rw[hv]at hx;have e1:a.eval x= .tuple (l.map (W.den ρ m)).toArray:=hx.2;split
   ·rename_i u hu;refine ao.pure ⟨hx.1 u (cM hu),_,rfl,λw _=> .inl ?_⟩;simp[execOp,h,e1,SG,hu]
   ·exact ao.fail
  ·exact ao.fail
 case h_14 t x lo hi h=>
  have hx:=cc ht x;split
  ·rename_i s hv hu;rw[hv]at hx;have e1:a.eval x= .string (az (aa (s.den ρ))):=hx.2;have he:execOp a.eval o=(do pure (kJ (<-nQ t (.string (az (aa (s.den ρ)))) (lo.map a.eval) (hi.map a.eval) none))):=by simp only[execOp,h,e1];rfl
   exact(aum (w0:=w0) (m:=m) hu hx.1 ht).mono λ_ _ _ _ _ hq=>kL.of_run he hq
  have key:∀(y:Option lX) (c:Option Int),Kp tm y=some c->∃f:Int->ax,(∀c,∃k,f c= .int k c)/\y.map a.eval=c.map f:=by
   intro y c hy;unfold Kp at hy;cases y with
   |none=>simp at hy;subst hy;exact⟨λc=> .int .i64 c,λc=>⟨_,rfl⟩,rfl⟩
   |some y=>
    simp only at hy;have hi:=cc ht y;unfold Ii at hy;split at hy
    ·rename_i c' hq;split at hq
     ·rename_i k p hv2;simp only[aK]at hy;subst hy;rw[hv2]at hi;have:a.eval y= .int k (p.l.den ρ):=hi.2;exact⟨λc=> .int k c,λc=>⟨_,rfl⟩,by simp[this,U.il hq]⟩
     ·cases hq
    ·cases hy
  split
  ·rename_i l ag h1 h2;obtain⟨V5,V6,V7⟩:=key lo l h1;obtain⟨aAr,Iy,VV⟩:=key hi ag h2;unfold abw;split
   ·rename_i b off zf e hv wJ;rw[hv]at hx;have e1:a.eval x= .pointer (some ⟨m b,off,none⟩):=hx.2;split
    ·rename_i s hs;refine dR λhc=>?_;simp only[aQ,decide_eq_true_eq]at hc;refine ao.pure ⟨hx.1,_,rfl,λw _=> .inl ?_⟩;have hb1:(jz false zf zf (lo.map a.eval) (hi.map a.eval) none).run P w= .ok ((l.getD 0).toNat,(ag.getD zf).toNat,zf) w:=by
      rw[V7,VV];have c1:∀(k:cX) (i:Int) (y:Nat) (mH:BoundsCode),0<=i->i<=y->(Hh (.int k i) y mH).run P w= .ok i.toNat w:=λk i y mH p1 aJ=>by
       simp[Hh,asIntOf,p1,aJ]
      cases l with
      |none=>
       cases ag with
       |none=>simp[jz]
       |some h'=>
        obtain⟨k',jD⟩:=Iy h';simp only[LJ,qv]at hc;simp[jz,jD,c1 k' h' zf _ (by omega) (by omega)]
      |some bJ=>
       obtain⟨k1,iE⟩:=V6 bJ;cases ag with
       |none=>
        simp only[LJ,qv]at hc;simp[jz,iE,c1 k1 bJ zf _ (by omega) (by omega)]
       |some h'=>
        obtain⟨k',jD⟩:=Iy h';simp only[qv]at hc;simp[jz,jD,iE,c1 k' h' zf _ (by omega) (by omega),c1 k1 bJ h'.toNat _ (by omega) (by omega)]
     simp only[execOp,h,e1,SL,nQ];simp[eK (uo wJ),kK,hb1,gM hs,iz,W.den,A.den];intro hq;have h3:=hc.2;omega
    ·exact ao.fail
   ·rename_i b off len cap hv wJ;rw[hv]at hx;have e1:a.eval x= .slice (some ⟨m b,off,none⟩) len cap:=hx.2;split
    ·rename_i e o8;split
     ·rename_i s hs;refine dR λhc=>?_;simp only[aQ,decide_eq_true_eq]at hc;refine ao.pure ⟨hx.1,_,rfl,λw _=> .inl ?_⟩;have hb1:(jz true len cap (lo.map a.eval) (hi.map a.eval) none).run P w= .ok ((l.getD 0).toNat,(ag.getD len).toNat,cap) w:=by
       rw[V7,VV];have c1:∀(k:cX) (i:Int) (y:Nat) (mH:BoundsCode),0<=i->i<=y->(Hh (.int k i) y mH).run P w= .ok i.toNat w:=λk i y mH p1 aJ=>by
        simp[Hh,asIntOf,p1,aJ]
       cases l with
       |none=>
        cases ag with
        |none=>simp[jz]
        |some h'=>
         obtain⟨k',jD⟩:=Iy h';simp only[LJ,qv]at hc;simp[jz,jD,c1 k' h' cap _ (by omega) (by omega)]
       |some bJ=>
        obtain⟨k1,iE⟩:=V6 bJ;cases ag with
        |none=>
         simp only[LJ,qv]at hc;simp[jz,iE,c1 k1 bJ len _ (by omega) (by omega)]
        |some h'=>
         obtain⟨k',jD⟩:=Iy h';simp only[qv]at hc;simp[jz,jD,iE,c1 k' h' cap _ (by omega) (by omega),c1 k1 bJ h'.toNat _ (by omega) (by omega)]
      simp only[execOp,h,e1,SL,nQ];simp[eK (ia o8),LI,hb1,gM hs,iz,W.den,A.den];intro hq;have h3:=hc.2;omega
     ·exact ao.fail
    ·exact ao.fail
   ·exact ao.fail
  ·exact ao.fail
 case h_15 c h=>
  split
  ·rename_i f hc;split
   ·rename_i g OO;have mf:∀v∈c.args.toList.map (bK tm),V.ok n bl.length ρ v:=λv hv=>by
     obtain⟨x,_,rfl⟩:=List.mem_map.1 hv;exact(cc ht x).1
    refine(cp f g OO L n ρ m bl _ _ hb hex mf (Hz (xs:=c.args.toList) ht)).mono λay n1 v _ _ ⟨q1,val,q2,q3⟩=>⟨q1,val,q2,λw hw=>?_⟩;have he:=Ro (a:=a) hc o h;have ha:(c.args.toList.map a.eval).toArray=c.args.map a.eval:=by
     rw[<-vQ]
    have dr:=q3 w hw;rw[ha]at dr;rcases dr with dr|⟨dr,kA⟩
    ·exact .inl (by rw[he];exact dr)
    ·exact .inr ⟨f,_,by rw[he];exact dr,kA⟩
   ·exact ao.fail
  ·rename_i hc;split
   ·rename_i x t gm qb;have hx:=cc ht x;split
    ·rename_i s hv hu;rw[hv]at hx;have e1:a.eval x= .string (az (aa (s.den ρ))):=hx.2;have a1:c.args=#[x]:=by rw[<-lx (xs:=c.args),gm]
     have a2:c.argTypes=#[t]:=by rw[<-lx (xs:=c.argTypes),qb]
     have he:execOp a.eval o=(do pure (kJ (<-Hg #[t] o.type #[.string (az (aa (s.den ρ)))]))):=by
      simp[execOp,h,resolve,hc,a1,a2,e1,invoke,builtin]
     exact(aul (w0:=w0) (m:=m) hu hx.1).mono λ_ _ _ _ _ hq=>kL.of_run he hq
    split
    ·rename_i b off len cap e hv hs;rw[hv]at hx;have e1:a.eval x= .slice (some ⟨m b,off,none⟩) len cap:=hx.2;refine ao.pure ⟨br.nj _ _ _,_,rfl,λw _=> .inl ?_⟩;have a1:c.args=#[x]:=by rw[<-lx (xs:=c.args),gm]
     have a2:c.argTypes=#[t]:=by rw[<-lx (xs:=c.argTypes),qb]
     simp[execOp,h,resolve,hc,a1,a2,e1,invoke,builtin,Hg,eK (ia hs),goInt,W.den,A.den,br.const,U.aO]
    ·exact ao.fail
   ·exact ao.fail
  ·exact ao.fail
 case h_16 f first hh h=>
  split
  ·rename_i l hf hl;obtain⟨g1,g2⟩:=aqv (m:=m) hl (λv hv=>by obtain⟨x,_,rfl⟩:=List.mem_map.1 hv;exact(cc ht x).1) (Hz (xs:=hh.toList) ht);have XA:first=#[]:=by rw[<-lx (xs:=first),hf]
   have wL:hh.map a.eval=(l.map (A.den ρ m)).toArray:=by rw[<-g2,<-vQ]
   refine ao.pure ⟨g1,_,rfl,λw _=> .inl ?_⟩;simp only[execOp,h,wL,XA];simp[Instr.makeFunc]
  ·exact ao.fail
 case h_17 t parts h=>
  split
  ·rename_i l hl;obtain⟨g1,g2⟩:=afx (n:=n) (nb:=bl.length) (ρ:=ρ) (m:=m) (vals:=(parts.map λ(i,x)=>(i,a.eval x)).toList) hl (by
    rw[vQ];generalize parts.toList=ps;induction ps with
    |nil=>exact trivial
    |cons p r ih=>exact⟨⟨rfl,cc ht p.2⟩,ih⟩)
   refine ao.pure ⟨g1,_,rfl,λw _=> .inl ?_⟩;simp only[execOp,h];simp[run_build w t _ _ g2,W.den]
  ·exact ao.fail
 case h_18=>exact ao.fail
end
end Go.aW
namespace Go.aW
open M
noncomputable def Du (c:av) (code i:U) (j:Nat):M A:=
 match c with
 | .int k lo hi=>bind (ev 21 [code,i,.const j] lo hi) λl=>pure (.int k ⟨l,lo,hi⟩)
 | .str=>bind (ev 21 [code,i,.const j] 0 b8) λl=>pure (.str l)
 | .bool=>bind (ev 21 [code,i,.const j] 0 1) λl=>pure (.bool (.mkEq ⟨l,0,1⟩ (.const 1)))
 | .sub _=>fail
 | .nil=>pure (.con (.slice none 0 0))
noncomputable def Ib (code i:U):Nat->List av->M (List A)
 |_,[]=>pure []
 |j,c::r=>bind (Du c code i j) λa=>bind (Ib code i (j+1) r) λl=>pure (a::l)
noncomputable def Rh (c:av) (code:U):Nat->U->M (List A)
 |0,_=>pure []
 |q+1,i=>bind (eP 21 [code,i]) λ_=>bind (Du c code i 0) λa=>bind (Rh c code q (i.add (.const 1))) λl=>pure (a::l)
noncomputable def Nz (P:bk) (bl:List aj) (t:aR) (b aL:Nat) (o i:U) (j:Nat):M V:=
 match bl[b]? with
 |some ([.rows sh off code cap kind],_)=>cond (ck 0 kind&&aA aL sh.length&&U.beq o off) (bind (eP 21 [code,i]) λ_=>match nE P t,eA P t with
  |some true,some k=>cond (bp (j+k) sh.length) (bind (Ib code i j ((sh.drop j).take k)) λl=>pure (.w (.agg l))) (match sh,j with
   |[c],0=>bind (Rh c code k i) λl=>pure (.w (.agg l))
   |_,_=>fail)
  |some false,_=>match sh[j]? with
   |some c=>bind (Du c code i j) λa=>pure (.w (.one a))
   |none=>fail
  |_,_=>fail) fail
 |_=>fail
def RI (P:bk) (t:aR) (b aL:Nat) (o ro len:U) (a7:U):M V:=
 match h9 P t with
 |some e=>match eA P e with
  |some s=>cond (aA s aL) (bind (eP 30 [a7,len]) λ_=>pure (.w (.one (.ep b aL o (ro.add a7) 0)))) fail
  |none=>fail
 |none=>fail
def Am (op:Nat) (ls:List U):M Unit:=λn k=> .wg op ls (k () n)
def RM (P:bk) (t:aR) (b aL:Nat) (o ro len cap:U) (x y:U):M V:=
 match h9 P t with
 |some e=>match eA P e with
  |some s=>cond (aA s aL) (bind (eP 32 [x,y,len]) λ_=>match x.dq with
   |some 0=>pure (.w (.one (.sl b aL o ro y cap)))
   |_=>bind (Am 68 [len,cap]) λ_=>bind (ev 33 [ro,x,cap] 0 0x8000000000000001) λr=>pure (.w (.one (.sl b aL o r (y.sub x) (cap.sub x))))) fail
  |none=>fail
 |none=>fail
def uw (tm:List V) (d:U):Option lX->Option U
 |none=>some d
 |some x=>mQ (bK tm x)
def UZ:List av->Bool
 |[.int .u8 lo hi]=>decide (lo=0)&&decide (hi=255)
 |_=>false
noncomputable def RL (bl:List aj) (b aL:Nat) (o ro len:U):M V:=
 match bl[b]? with
 |some ([.rows sh off code cap kind],_)=>cond (ck 0 kind&&aA aL 1&&U.beq o off&&UZ sh) (bind (eP 35 [code,ro,ro.add len]) λ_=>bind (ev 34 [code,ro,ro.add len] 0 b8) λl=>pure (.w (.one (.str l)))) fail
 |_=>fail
def Dn {α:Type} (b:bf) (x y:M α):M α:=λn k=>match b with
 | .lit v=>cond v (x n k) (y n k)
 |b=> .ux b (x n k) (y n k)
def ZI (k:cX) (x y:br):M V:=Dn (.mkLt y x) (pure (.w (.one (.int k y)))) (pure (.w (.one (.int k x))))
def ZE (k:cX) (x y:br):M V:=Dn (.mkLt x y) (pure (.w (.one (.int k y)))) (pure (.w (.one (.int k x))))
def l7:List A->Option (List Bool)
 |[]=>some []
 | .bool (.lit b)::r=>match l7 r with|some l=>some (b::l)|none=>none
 |_::_=>none
def u1:Nat->List Bool->List UInt8
 |_,[]=>[]
 |i,b::r=>cond b (jV i::u1 (i+1) r) (u1 (i+1) r)
def Rz (bl:List aj) (b off:Nat) (a7:br):M V:=
 match bl[b]? with
 |some (cs,_)=>match l7 ((cs.drop off).take (a7.hi.toNat+1))with
  |some l=>cond (aA l.length (a7.hi.toNat+1)&&bp a7.hi.toNat 255&&decide (0<=a7.lo)&&bI cs) (bind (ev 43 [.const (cT (u1 0 l)),a7.l] 0 1) λr=>pure (.w (.one (.bool (.mkEq ⟨r,0,1⟩ (.const 1)))))) fail
  |none=>fail
 |none=>fail
noncomputable def Ri (P:bk) (bl:List aj) (tm:List V) (o:Oper):Option (M V):=
 match o.op with
 | .load t x=>match bK tm x with
  | .w (.one (.ep b aL o i j))=>some (Nz P bl t b aL o i j)
  | .w (.one (.ow b off a7))=>match P.underlying t with
   |some .bool=>some (Rz bl b off a7)
   |_=>none
  |_=>none
 | .nilCheck x=>match bK tm x with
  | .w (.one (.ep b aL o i j))=>some (pure (.w (.one (.ep b aL o i j))))
  |_=>none
 | .indexAddr t x a7=>match bK tm x,bK tm a7 with
  | .w (.one (.sl b aL o ro len cap)),.w (.one (.int _ i))=>some (RI P t b aL o ro len i.l)
  |_,_=>none
 | .sliceToArrayPointer t x=>match bK tm x,rC P t with
  | .w (.one (.sl b aL o ro len cap)),some (k,_)=>some (cond (ck 0 k) (bind (eP 30 [.const ((k:Int)-1),len]) λ_=>pure (.w (.one (.ep b aL o ro 0)))) fail)
  |_,_=>none
 | .fieldAddr s x f=>match bK tm x,DE P s f with
  | .w (.one (.ep b aL o i j)),some fd=>match eA P fd.type with
   |some (_+1)=>some (pure (.w (.one (.ep b aL o i (j+fd.offset)))))
   |_=>none
  |_,_=>none
 | .slice t x lo hi none=>match bK tm x with
  | .w (.one (.sl b aL o ro len cap))=>match uw tm (.const 0) lo,uw tm len hi with
   |some p,some q=>some (RM P t b aL o ro len cap p q)
   |_,_=>none
  |_=>none
 | .convert s d x=>match bK tm x,h9 P s,P.underlying d with
  | .w (.one (.sl b aL o ro len cap)),some e,some .string=>match P.underlying e with
   |some (.int .u8)=>some (RL bl b aL o ro len)
   |_=>none
  |_,_,_=>none
 | .call c=>match c.callee with
  | .builtin .len=>match c.args.toList,c.argTypes.toList with
   |[x],[t]=>match bK tm x,h9 P t with
    | .w (.one (.sl b aL o ro len cap)),some _=>some (pure (.w (.one (.int .i64 ⟨len,0,0x7fffffffffffffff⟩))))
    |_,_=>none
   |_,_=>none
  | .builtin .min=>match c.args.toList with
   |[x,y]=>match bK tm x,bK tm y with
    | .w (.one (.int k p)),.w (.one (.int k' q))=>cond (decide (k=k')) (some (ZI k p q)) none
    |_,_=>none
   |_=>none
  | .builtin .max=>match c.args.toList with
   |[x,y]=>match bK tm x,bK tm y with
    | .w (.one (.int k p)),.w (.one (.int k' q))=>cond (decide (k=k')) (some (ZE k p q)) none
    |_,_=>none
   |_=>none
  |_=>none
 | .binOp op t x y _=>match h9 P t,bK tm x,bK tm y with
  |some _,.w (.one (.sl b aL o ro len cap)),.w (.one (.con (.slice none 0 0)))=>match op with
   | .eql=>some (bind (Am 53 [cap,len]) λ_=>pure (.w (.one (.bool (.eq cap (.const (-1)))))))
   | .neq=>some (bind (Am 53 [cap,len]) λ_=>pure (.w (.one (.bool (.mkNot (.eq cap (.const (-1))))))))
   |_=>none
  |_,_,_=>none
 |_=>none
def HT (bl:List aj) (b off:Nat):Option (List av×U×Nat):=
 match bl[b]? with
 |some ([.rows sh o code cap kind],_)=>match cap.dq with
  |some c=>cond (aA off 0&&ck 0 kind&&U.beq o (.const 0)&&decide (0<=c)&&hZ sh) (some (sh,code,c.toNat)) none
  |none=>none
 |_=>none
noncomputable def HO (code:U) (sh:List av):Nat->Nat->M (List A)
 |_,0=>pure []
 |i,k+1=>bind (Ib code (.const i) 0 sh) λa=>bind (HO code sh (i+1) k) λl=>pure (a++l)
def RN (P:bk) (t:aR) (b aL:Nat) (o ro len cap:U) (x y z:U):M V:=
 match h9 P t with
 |some e=>match eA P e with
  |some s=>cond (aA s aL) (bind (cond (U.beq z len) (eP 78 [x,y,z,cap]) (eP 64 [x,y,z,len])) λ_=>bind (ev 33 [ro,x,z] 0 0x8000000000000000) λr=>pure (.w (.one (.sl b aL o r (y.sub x) (z.sub x))))) fail
  |none=>fail
 |none=>fail
def YV (bl:List aj) (b:Nat):Bool:=match bl[b]? with
 |some ([.rows _ _ _ _ kind],_)=>aA kind 1
 |_=>false
def RO (P:bk) (bl:List aj) (t:aR) (b aL:Nat) (o ro len cap:U) (x y z:U):M V:=
 cond (YV bl b&&U.beq z len&&U.beq y len&&U.beq x (.const 0))
  (match h9 P t with
    |some e=>match eA P e with
     |some s=>cond (aA s aL) (bind (ev 62 [cap,len] (-2) 0x7fffffffffffffff) λc=>pure (.w (.one (.sl b aL o ro len c)))) fail
     |none=>fail
    |none=>fail) (RN P t b aL o ro len cap x y z)
def PD (P:bk) (e:aR) (l:List A) (s:Nat) (i:U):Nat->Nat->M V
 |_,0=>fail
 |j,r+1=>Dn (.eq i (.const j)) (FL P e l (j*s)) (PD P e l s i (j+1) r)
noncomputable def KP (P:bk) (bl:List aj) (tm:List V) (o:Oper):Option (M V):=
 match o.op with
 | .index t x a7=>match bK tm x,bK tm a7,rC P t with
  | .w (.agg l),.w (.one (.int k p)),some (len,e)=>match eA P e,p.l.dq with
   |some s,none=>cond (bp len 8) (some (PD P e l s p.l 0 len)) none
   |_,_=>none
  |_,_,_=>none
 | .indexAddr t x a7=>match bK tm x,bK tm a7 with
  | .w (.one (.ptr b off)),.w (.one (.int _ i))=>match HT bl b off,rC P t with
   |some (sh,code,c),some (len,e)=>match eA P e with
    |some s=>cond (aA s sh.length&&aA len c) (some (bind (eP 30 [i.l,.const len]) λ_=>pure (.w (.one (.ep b s (.const 0) i.l 0))))) none
    |none=>none
   |_,_=>none
  |_,_=>none
 | .load t x=>match bK tm x with
  | .w (.one (.ptr b off))=>match HT bl b off,nE P t,eA P t with
   |some (sh,code,c),some true,some k=>cond (aA k (c*sh.length)) (some (bind (eP 31 [code,.const c]) λ_=>bind (HO code sh 0 c) λl=>pure (.w (.agg l)))) none
   |_,_,_=>none
  |_=>none
 | .slice t x lo (some hi) (some fF)=>match bK tm x with
  | .w (.one (.sl b aL cg ro len cap))=>match uw tm (.const 0) lo,mQ (bK tm hi),mQ (bK tm fF)with
   |some p,some q,some r=>some (RO P bl t b aL cg ro len cap p q r)
   |_,_,_=>none
  |_=>none
 | .call c=>match c.callee with
  | .builtin .len=>match c.args.toList,c.argTypes.toList with
   |[x],[t]=>match bK tm x,h9 P t with
    | .w (.one (.con (.slice none 0 0))),some _=>some (pure (.w (.one (.int .i64 (.const 0)))))
    |_,_=>none
   |_,_=>none
  |_=>none
 |_=>none
noncomputable def Iq (cal:ed) (bl:List aj) (tm:List V) (o:Oper):Option (M V):=
 match o.op with
 | .call c=>match c.callee with
  | .value (.tmp x)=>match bK tm (.tmp x)with
   | .w (.one (.con (.func (.func f) Iw Ix)))=>cond (aA Iw.size 0&&aA Ix.size 0) ((cal f).map λg=>g bl (c.args.toList.map (bK tm))) none
   |_=>none
  |_=>none
 |_=>none
noncomputable def tG (P:bk) (cal:ed) (gl:dA) (bl:List aj) (tm:List V) (o:Oper):M V:=
 match Ri P bl tm o with
 |some x=>x
 |none=>match KP P bl tm o with
  |some x=>x
  |none=>match Iq cal bl tm o with
   |some x=>x
   |none=>QV P cal gl bl tm o
theorem pL.get {cells:Array ax} {off:Nat} {sh:List av} {rows:List (List Int)} (h:pL cells off sh rows) {i j:Nat} {row:List Int} {v:ax} (hi:rows[i]?=some row) (hj:(dm sh row)[j]?=some v):cells[off+i*sh.length+j]?=some v:=by
 obtain⟨h1,pre,post,h2,h3⟩:=h;have h4:=ID h1 hi hj;rw[<-CQ,h2,eG,vI (by omega),pE]
 ·rw[show off+i*sh.length+j-pre.length=i*sh.length+j by omega];exact h4
 ·have:=(List.getElem?_eq_some_iff.1 h4).1;omega
theorem iy.cell {F:Nat->Prop} {w:ai} {cells:Array ax} {off:Nat} {sh:List av} {rows:List (List Int)} (h:iy F w cells off sh rows) {i j:Nat} {row:List Int} {c:av} (hi:rows[i]?=some row) (hc:sh[j]?=some c):∃z v,row[j]?=some z/\cells[off+i*sh.length+j]?=some v/\qI F w c z v:=by
 obtain⟨h1,pre,vs,post,h2,h3,h4⟩:=h;obtain⟨z,v,k1,k2,k3⟩:=(h4.get hi).get hc;refine⟨z,v,k1,?_,k3⟩;rw[oK]at k2;split at k2
 ·rw[vP]at k2;have hlt:=(List.getElem?_eq_some_iff.1 k2).1;rw[<-CQ,h2,eG,vI (by omega),pE (by omega)];rw[show off+i*sh.length+j-pre.length=i*sh.length+j by omega];exact k2
 ·cases k2
theorem aaW:∀{sh:List av} {row:List Int} {j:Nat} {c:av} {z:Int},bD sh row->sh[j]?=some c->row[j]?=some z->(dm sh row)[j]?=some (c.val z)
 |c'::sh,GK::r,0,c,z,h,hc,hz=>by
  simp only[m7,aK]at hc hz;subst hc;subst hz;rfl
 |c'::sh,GK::r,j+1,c,z,h,hc,hz=>by
  simp only[List.getElem?_cons_succ]at hc hz;exact aaW (sh:=sh) h.2 hc hz
 |[],_,_,_,_,_,hc,_=>by simp at hc
 |_::_,[],_,_,_,h,_,_=>h.elim
theorem iy.get {F:Nat->Prop} {w:ai} {cells:Array ax} {off:Nat} {sh:List av} {rows:List (List Int)} (h:iy F w cells off sh rows) {i j:Nat} {row:List Int} {v:ax} {c:av} (hi:rows[i]?=some row) (hc:sh[j]?=some c) (hp:c.plain=true) (hj:(dm sh row)[j]?=some v):cells[off+i*sh.length+j]?=some v:=by
 obtain⟨z,v',k1,k2,k3⟩:=h.cell hi hc;have e:=aaW (h.1 row (cM hi)) hc k1;rw[hj]at e;have e2:v'=c.val z:=by
  cases c with
  |sub _=>cases hp
  |_=>exact k3
 rw[k2,e2,<-fQ e]
section
variable {S:Nat->List Int->List Int->Prop} {L:V->Env->Prop} {n:Nat} {ρ:Env} {m:Nat->Nat} {bl:List aj} {gl:dA} {w0:cI} {P:bk} {tm:List V} {a:Act}
theorem MW {α:Type} {b:bf} {x y:M α} {R:Env->Nat->α->Prop} (h1:b.den ρ=true->ao S L x n ρ R) (h2:b.den ρ=false->ao S L y n ρ R):ao S L (Dn b x y) n ρ R:=by
 intro A k hk;unfold Dn at hk;cases hb:b.den ρ with
 |true=>
  cases b with
  |lit v=>simp only[bf.den]at hb;subst hb;exact h1 rfl A k hk
  |_=>exact h1 hb A k (hk.1 hb)
 |false=>
  cases b with
  |lit v=>simp only[bf.den]at hb;subst hb;exact h2 rfl A k hk
  |_=>exact h2 hb A k (hk.2 hb)
theorem M8 {nb:Nat} {c:av} {code i:U} {j:Nat} {z:Int} {row:List Int} (hrow:(ab (code.den ρ))[(i.den ρ).toNat]?=some row) (hz:row[j]?=some z) (h1:c.dG.1<=z) (h2:z<=c.dG.2):
 ao S L (Du c code i j) n ρ λae n' x=>x.ok n' nb ae/\x.den ae m=c.val z/\c.plain=true:=by
 have hf:aB 21 ([code,i,U.const (j:Nat)].map (·.den ρ))=z:=by
  simp only[ch,ec,U.aO,aB,ek];simp[ar,hrow,hz]
 cases c with
 |int k lo hi=>
  refine(fY (by rw[hf];exact h1) (by rw[hf];exact h2)).bind λay n1 l _ _ ⟨g1,g2⟩=>ao.pure ⟨⟨g1,?_,?_⟩,?_,rfl⟩
  ·rw[g2,hf];exact h1
  ·rw[g2,hf];exact h2
  ·simp only[A.den,av.val];rw[g2,hf]
 |str=>
  refine(fY (by rw[hf];exact h1) (by rw[hf];exact h2)).bind λay n1 l _ _ ⟨g1,g2⟩=>ao.pure ⟨⟨g1,?_,?_⟩,?_,rfl⟩
  ·rw[g2,hf];exact h1
  ·rw[g2,hf];exact h2
  ·simp only[A.den,av.val];rw[g2,hf]
 |bool=>
  refine(fY (by rw[hf];exact h1) (by rw[hf];exact h2)).bind λay n1 l _ _ ⟨g1,g2⟩=>ao.pure ?_;have bg:br.ok n1 ay ⟨l,0,1⟩:=⟨g1,by simp only;rw[g2,hf];exact h1,by simp only;rw[g2,hf];exact h2⟩;have e:=bf.uB bg (br.nj n1 ay 1);refine⟨e.2,?_,rfl⟩;simp only[A.den,av.val];rw[e.1];simp only[br.const,U.aO];rw[g2,hf]
 |sub k=>exact ao.fail
 |nil=>exact ao.pure ⟨(rfl:(Value.slice none 0 0).oneCell'=true),rfl,rfl⟩
theorem Na {nb:Nat} {sh:List av} {row:List Int} (bg:bD sh row):∀{r:List av} {n:Nat} {ρ:Env} {code i:U} {j:Nat},code.aY n->i.aY n->(ab (code.den ρ))[(i.den ρ).toNat]?=some row->(∀(x:Nat) (c:av),r[x]?=some c->sh[j+x]?=some c)->
 ao S L (Ib code i j r) n ρ λae n' l=>(∀a∈l,A.ok n' nb ae a)/\l.length=r.length/\∀(x:Nat) (a:A),l[x]?=some a->∃c,sh[j+x]?=some c/\c.plain=true/\(dm sh row)[j+x]?=some (a.den ae m)
 |[],n,ρ,code,i,j,_,_,_,_=>ao.pure ⟨λ_ h=>by simp at h,rfl,λx a h=>by simp at h⟩
 |c::r,n,ρ,code,i,j,yX,yY,hrow,hr=>by
  have h0:=hr 0 c rfl;obtain⟨z,h1,h2,h3,h4⟩:=bg.get h0;refine(M8 (nb:=nb) (m:=m) hrow h1 h2 h3).bind λay n1 y hn ha ⟨g1,g2,g3⟩=>?_;refine(Na (nb:=nb) (r:=r) (n:=n1) (ρ:=ay) (code:=code) (i:=i) (j:=j+1) bg (yX.mono hn) (yY.mono hn) (by rw[U.bw ha yX,U.bw ha yY];exact hrow) (λx c hx=>by
   have:=hr (x+1) c (by simpa using hx);rw[show j+1+x=j+(x+1) by omega];exact this)).bind λbn n2 l dY cU ⟨k1,k2,k3⟩=>ao.pure ⟨λb hb=>?_,by simp[k2],λx b hb=>?_⟩
  ·rcases List.mem_cons.1 hb with rfl|hb
   ·exact g1.ext cU dY (aV _)
   ·exact k1 b hb
  ·cases x with
   |zero=>
    simp only[m7,aK]at hb;subst hb;exact⟨c,h0,g3,by rw[A.j1 g1 cU (λ_ _=>rfl),g2];exact h4⟩
   |succ x=>
    have:=k3 x b (by simpa using hb);rw[show j+(x+1)=j+1+x by omega];exact this
theorem aa2 {nb:Nat} {c:av} {code:U}:∀{q n:Nat} {ρ:Env} {i:U},(∀row∈ab (code.den ρ),bD [c] row)->code.aY n->i.aY n->
 ao S L (Rh c code q i) n ρ λae n' l=>(∀a∈l,A.ok n' nb ae a)/\l.length=q/\∀(x:Nat) (a:A),l[x]?=some a->∃row,(ab (code.den ρ))[(i.den ρ).toNat+x]?=some row/\c.plain=true/\(dm [c] row)[0]?=some (a.den ae m)
 |0,n,ρ,i,_,_,_=>ao.pure ⟨λ_ h=>by simp at h,rfl,λx a h=>by simp at h⟩
 |q+1,n,ρ,i,hO,yX,yY=>by
  refine fX λhk=>?_;simp only[ch,ec,ah]at hk;have hlt:(i.den ρ).toNat<(ab (code.den ρ)).length:=by omega
  have hrow:(ab (code.den ρ))[(i.den ρ).toNat]?=some (ab (code.den ρ))[(i.den ρ).toNat]:=gF hlt;have bg:=hO _ (Hf hlt);generalize (ab (code.den ρ))[(i.den ρ).toNat]=row at hrow bg;obtain⟨z,h1,h2,h3,h4⟩:=bg.get (show([c]:List av)[0]?=some c from rfl);refine(M8 (nb:=nb) (m:=m) hrow h1 h2 h3).bind λay n1 y hn ha ⟨g1,g2,g4⟩=>?_;have gS:=U.bw ha yX;have hid:=U.bw ha yY;refine(aa2 (nb:=nb) (q:=q) (n:=n1) (ρ:=ay) (i:=i.add (.const 1)) (by rw[gS];exact hO) (yX.mono hn) (U.sj (yY.mono hn) (U.cr _ _))).bind λbn n2 l dY cU ⟨k1,k2,k3⟩=>ao.pure ⟨λb hb=>?_,by simp[k2],λx b hb=>?_⟩
  ·rcases List.mem_cons.1 hb with rfl|hb
   ·exact g1.ext cU dY (aV _)
   ·exact k1 b hb
  ·cases x with
   |zero=>
    simp only[m7,aK]at hb;subst hb;exact⟨row,by simpa using hrow,g4,by rw[A.j1 g1 cU (λ_ _=>rfl),g2];exact h4⟩
   |succ x=>
    obtain⟨xq,r1,r3,r2⟩:=k3 x b (by simpa using hb);rw[gS,U.den_add,U.aO,hid]at r1;exact⟨xq,by rw[<-r1];congr 1;omega,r3,r2⟩
theorem ag0 (hb:bU n bl.length ρ bl) (hex:∃w,Mem w0 ρ m bl w) (t:aR) {b aL:Nat} {o i:U} {j:Nat} (hx:(A.ep b aL o i j).ok n bl.length ρ):
 ao S L (Nz P bl t b aL o i j) n ρ (kZ w0 m bl n ρ λw=>(nR t ((A.ep b aL o i j).den ρ m)).run P w):=by
 obtain⟨cd,qR⟩:=hex;unfold Nz;split
 ·rename_i sh off code cap kind t' hbl;refine dR λhc=>fX λhk=>?_;simp only[aQ]at hc;obtain⟨⟨c1,c2⟩,c3⟩:=hc;have c1:0<kind:=et c1;have c2:=bo c2;have c3:=U.beq_eq c3;subst c3;have Bi:(A.rows sh o code cap kind).ok n bl.length ρ:=hb _ (cM hbl) _ (by simp);simp only[ch,ec,ah]at hk;have hlt:(i.den ρ).toNat<(ab (code.den ρ)).length:=by omega
  have hrow:(ab (code.den ρ))[(i.den ρ).toNat]?=some (ab (code.den ρ))[(i.den ρ).toNat]:=gF hlt;generalize (ab (code.den ρ))[(i.den ρ).toNat]=row at hrow;have cv:0<=cap.den ρ:=by
   rcases ic (cap.den ρ) 0 with h|h
   ·have:=(qR.rws b sh o code cap kind t' hbl (by omega)).1 h;rw[this]at hlt;simp at hlt
   ·exact h
  have jE:∀w,Mem w0 ρ m bl w->bD sh row/\∀(x:Nat) (v:ax) (c:av),sh[x]?=some c->c.plain=true->(dm sh row)[x]?=some v->w.cell? ⟨m b,(o.den ρ).toNat+(i.den ρ).toNat*aL+x,none⟩=some v:=λw hw=>by
   obtain⟨_,cells,gq,fz,g1,⟨g2,g3⟩,_⟩:=(hw.rws b sh o code cap kind t' hbl (by omega)).2 cv;refine⟨g3.1 _ (cM hrow),λx v c hc hp hv=>?_⟩;have:=g3.get hrow hc hp hv;simp only[jx,g1,rm,pF,if_false];rw[c2];exact this
  have hO:=(jE cd qR).1;cases n5:nE P t with
  |none=>exact ao.fail
  |some rA=>
   cases rA with
   |true=>
    cases hs:eA P t with
    |none=>exact ao.fail
    |some k=>
     simp only;cases hk2:bp (j+k) sh.length with
     |false=>
      simp only[cond_false];split
      ·rename_i c _;have hall:∀row∈ab (code.den ρ),bD [c] row:=by
        obtain⟨_,cells,gq,fz,g1,⟨g2,g3⟩,_⟩:=(qR.rws b [c] o code cap kind t' hbl (by omega)).2 cv;exact g3.1
       refine(aa2 (nb:=bl.length) (m:=m) (q:=k) (i:=i) hall Bi.1.2.1 hx.2.1.2).bind λay n1 l hn ha ⟨g1,g2,g3⟩=>ao.pure ⟨g1,_,rfl,λw hw=>?_⟩;have hl:=CS (P:=P) w ⟨m b,(o.den ρ).toNat+(i.den ρ).toNat*aL+0,none⟩ (l.map (A.den ay m)) λx v hj=>by
        rw[iz];rw[lV]at hj;cases hq:l[x]? with
        |none=>simp[hq]at hj
        |some y=>
         simp only[hq,rf,aK]at hj;subst hj;obtain⟨xq,r1,r3,r2⟩:=g3 x y hq;obtain⟨_,cells,gq,fz,e1,⟨e2,e3⟩,_⟩:=(hw.rws b [c] o code cap kind t' hbl (by omega)).2 cv;have:=e3.get (j:=0) (c:=c) r1 rfl r3 r2;simp only[jx,e1,rm,pF,if_false];simp only[dj,fe]at c2 this;rw[c2];rw[<-this];congr 1;omega
       simp only[jW,g2,kG]at hl;simp[nR,kK,A.den,loadVar,q4 n5,gM hs,hl,W.den]
      ·exact ao.fail
     |true=>
     simp only[cond_true];have hk2:=et hk2;refine(Na (nb:=bl.length) (m:=m) (r:=(sh.drop j).take k) hO Bi.1.2.1 hx.2.1.2 hrow (λx c ES=>by
      rw[oK]at ES;split at ES
      ·rw[vP]at ES;exact ES
      ·cases ES)).bind λay n1 l hn ha ⟨g1,g2,g3⟩=>ao.pure ⟨g1,_,rfl,λw hw=>?_⟩
     have hl:=CS (P:=P) w ⟨m b,(o.den ρ).toNat+(i.den ρ).toNat*aL+j,none⟩ (l.map (A.den ay m)) λx v hj=>by
      rw[iz];rw[lV]at hj;cases hq:l[x]? with
      |none=>simp[hq]at hj
      |some y=>
       simp only[hq,rf,aK]at hj;subst hj;rw[zZ];obtain⟨c,q1,q2,q3⟩:=g3 x y hq;exact(jE w hw).2 (j+x) _ c q1 q2 q3
     simp only[jW,g2,ly,List.length_drop,vL (show k<=sh.length-j by omega)]at hl;simp[nR,kK,A.den,loadVar,q4 n5,gM hs,hl,W.den]
   |false=>
    cases hc:sh[j]? with
    |none=>simp only;exact ao.fail
    |some c=>
     simp only;obtain⟨z,h1,h2,h3,h4⟩:=hO.get hc;refine(M8 (nb:=bl.length) (m:=m) hrow h1 h2 h3).bind λay n1 y hn ha ⟨g1,g2,g3⟩=>ao.pure ⟨g1,_,rfl,λw hw=>?_⟩;have:=(jE w hw).2 j _ c hc g3 h4;have Pc:(A.ep b aL o i j).den ρ m= .pointer (some ⟨m b,(o.den ρ).toNat+(i.den ρ).toNat*aL+j,none⟩):=rfl;simp[nR,kK,Pc,loadVar,q4 n5,this,W.den,g2]
 ·exact ao.fail
theorem oA {b aL:Nat} {o ro len cap:U} (hx:(A.sl b aL o ro len cap).ok n bl.length ρ):∃p,(A.sl b aL o ro len cap).den ρ m= .slice p (len.den ρ).toNat (if cap.den ρ<0 then 0 else(cap.den ρ).toNat)/\(cap.den ρ<0->p=lS (cap.den ρ) (m b))/\(0<=cap.den ρ->p=some ⟨m b,(o.den ρ).toNat+(ro.den ρ).toNat*aL,none⟩):=by
 obtain⟨_,_,_,_,h3,_⟩:=hx;simp only[A.den];by_cases hc:cap.den ρ<0
 ·rw[if_pos hc,if_pos hc,h3 hc];exact⟨_,rfl,λ_=>rfl,λh=>by omega⟩
 ·rw[if_neg hc,if_neg hc];exact⟨_,rfl,λh=>absurd h hc,λ_=>rfl⟩
theorem atV {t:aR} {b aL:Nat} {o ro len cap a7:U} {k:cX} (hx:(A.sl b aL o ro len cap).ok n bl.length ρ) (hi:a7.aY n):
 ao S L (RI P t b aL o ro len a7) n ρ (kZ w0 m bl n ρ λw=>(rh t ((A.sl b aL o ro len cap).den ρ m) (.int k (a7.den ρ))).run P w):=by
 unfold RI;cases h1:h9 P t with
 |none=>exact ao.fail
 |some e=>
  cases h2:eA P e with
  |none=>simp only[h2];exact ao.fail
  |some s=>
   simp only[h2];refine dR λhs=>fX λhk=>ao.pure ?_;have hs:=bo hs;subst hs;simp only[ch,ec,ah]at hk;obtain⟨x1,⟨x2,x3,bL,gg⟩,⟨je,oH,lq,nN⟩,oF,fH,gW⟩:=hx;have cv:¬(cap.den ρ<0):=λh=>by have:=fH h;omega
   refine⟨⟨x1,⟨x2,U.sj x3 hi⟩,je,by rw[U.den_add];omega⟩,_,rfl,λw _=>?_⟩;have c2:a7.den ρ<((len.den ρ).toNat:Int):=by omega
   have e1:(ro.den ρ+a7.den ρ).toNat=(ro.den ρ).toNat+(a7.den ρ).toNat:=by omega
   simp only[A.den,if_neg cv,W.den,U.den_add,e1];simp[-ayY,rh,asIntOf,eK (ia h1),hk.1,c2,gM h2,iz,ue,zZ]
theorem HZ {d:U} {y:Option lX} {l:U} (h:uw tm d y=some l) (ht:dn n bl.length ρ m tm a.tmps):(y=none/\l=d)∨∃k,y.map a.eval=some (.int k (l.den ρ))/\l.aY n:=by
 cases y with
 |none=>exact .inl ⟨rfl,by simpa [uw]using h.symm⟩
 |some x=>
  obtain⟨k,hk,h2⟩:=u3 (m:=m) (bl:=bl) h (cc ht x).2 (cc ht x).1;exact .inr ⟨k,by rw[<-hk];rfl,h2⟩
theorem HV {op:Nat} {ls:List U} (h:ah op (ls.map (·.den ρ))):ao S L (Am op ls) n ρ λae n' _=>ae=ρ/\n'=n:=λA k hk=>⟨ρ,n,(),aV _,agree.refl _ _,⟨rfl,rfl⟩,hk h⟩
theorem at0 {t:aR} {b aL:Nat} {o ro len cap p q:U} {lo hi:Option lX} (hx:(A.sl b aL o ro len cap).ok n bl.length ρ) (ht:dn n bl.length ρ m tm a.tmps) (hp:uw tm (.const 0) lo=some p) (hq:uw tm len hi=some q):
 ao S L (RM P t b aL o ro len cap p q) n ρ (kZ w0 m bl n ρ λw=>(nQ t ((A.sl b aL o ro len cap).den ρ m) (lo.map a.eval) (hi.map a.eval) none).run P w):=by
 unfold RM;cases h1:h9 P t with
 |none=>exact ao.fail
 |some e=>
  cases h2:eA P e with
  |none=>simp only[h2];exact ao.fail
  |some s=>
   simp only[h2];refine dR λhs=>fX λhk=>?_;have hs:=bo hs;subst hs;simp only[ch,ec,ah]at hk;obtain⟨k1,k2,k3⟩:=hk;have jH:=hx;obtain⟨x1,⟨x2,x3,bL,gg⟩,⟨je,oH,lq,nN⟩,⟨oF,oG⟩,fH,gW⟩:=hx;have hsp:=HZ hp ht;have Jq:=HZ hq ht;have zz:p.aY n:=by rcases hsp with⟨_,rfl⟩|⟨_,_,h⟩;exact U.cr _ _;exact h
   have zA:q.aY n:=by rcases Jq with⟨_,rfl⟩|⟨_,_,h⟩;exact bL;exact h
   obtain⟨ptr,e1,e2,e3⟩:=oA (m:=m) jH;have qK:∀w,(jz true (len.den ρ).toNat (if cap.den ρ<0 then 0 else(cap.den ρ).toNat) (lo.map a.eval) (hi.map a.eval) none).run P w= .ok ((p.den ρ).toNat,(q.den ρ).toNat,(if cap.den ρ<0 then 0 else(cap.den ρ).toNat)) w:=λw=>by
    have hle:(len.den ρ)<=((if cap.den ρ<0 then 0 else(cap.den ρ).toNat:Nat):Int):=by
     split
     ·rename_i h;rw[fH h];simp
     ·rename_i h;have:=gW (by omega);omega
    generalize (if cap.den ρ<0 then 0 else(cap.den ρ).toNat)=C at hle;rcases hsp with⟨rfl,rfl⟩|⟨PZ,nz,_⟩<;>rcases Jq with⟨rfl,rfl⟩|⟨Y6,hq',_⟩
    ·simp[jz,U.aO]
    ·rw[hq'];simp[jz,U.aO,mx (P:=P) (by omega:0<=q.den ρ) (by omega:q.den ρ<=(C:Int))]
    ·rw[nz];simp[jz,mx (P:=P) (y:=(q.den ρ).toNat) k1 (by omega)]
    ·rw[nz,hq'];simp[jz,mx (P:=P) (by omega:0<=q.den ρ) (by omega:q.den ρ<=(C:Int)),mx (P:=P) (y:=(q.den ρ).toNat) k1 (by omega)]
   have hrun:∀(w:ai) (r:Int),r=(if p.den ρ=cap.den ρ then ro.den ρ else ro.den ρ+p.den ρ)->
    (nQ t ((A.sl b s o ro len cap).den ρ m) (lo.map a.eval) (hi.map a.eval) none).run P w= .ok (if cap.den ρ-p.den ρ<0 then .slice (lS (cap.den ρ-p.den ρ) (m b)) 0 0 else .slice (some ⟨m b,(o.den ρ).toNat+r.toNat*s,none⟩) (q.den ρ-p.den ρ).toNat (cap.den ρ-p.den ρ).toNat) w:=λw r hr=>by
    rw[e1];have e4:(q.den ρ).toNat-(p.den ρ).toNat=(q.den ρ-p.den ρ).toNat:=by omega
    simp only[nQ,gy,eK (ia h1),gG,LI,qK w,gM h2,ie,e4];by_cases hc:cap.den ρ<0
    ·have hl:=fH hc;have Bf:p.den ρ=0:=by omega
     rw[if_pos hc,e2 hc,if_pos (by omega)];have:q.den ρ=0:=by omega
     simp[Bf,this,hc]
    ·rw[if_neg hc,e3 (by omega)];have fr:=gW (by omega);have A1:¬(cap.den ρ-p.den ρ<0):=by omega
     rw[if_neg A1];have gR:(cap.den ρ).toNat-(p.den ρ).toNat=(cap.den ρ-p.den ρ).toNat:=by omega
     rw[gR];by_cases EC:p.den ρ=cap.den ρ
     ·rw[if_pos EC]at hr;have h7:(cap.den ρ).toNat=(p.den ρ).toNat:=by omega
      rw[if_pos h7,hr]
     ·rw[if_neg EC]at hr;have h7:¬(cap.den ρ).toNat=(p.den ρ).toNat:=by omega
      rw[if_neg h7,hr];have gh:(ro.den ρ+p.den ρ).toNat=(ro.den ρ).toNat+(p.den ρ).toNat:=by omega
      rw[gh,ue,<-zZ];simp[iz]
   split
   ·rename_i h0;have Bf:=U.il h0 (ρ:=ρ);refine ao.pure ⟨⟨x1,⟨x2,x3,zA,gg⟩,⟨je,oH,by omega,by omega⟩,⟨oF,oG⟩,λh=>?_,λh=>?_⟩,_,rfl,λw _=>?_⟩
    ·have:=fH h;omega
    ·have:=gW h;omega
    ·have hr:=hrun w (ro.den ρ) (by rw[Bf];split<;>omega);rw[Bf]at hr;simp only[Int.sub_zero]at hr;simp only[W.den,A.den]at hr⊢;exact hr
   ·have hb1:(0:Int)<=aB 33 ([ro,p,cap].map (·.den ρ)):=by
     simp only[ch,ec,aB];split<;>omega
    have hb2:aB 33 ([ro,p,cap].map (·.den ρ))<=0x8000000000000001:=by
     simp only[ch,ec,aB];by_cases hc:cap.den ρ<0
     ·have:=fH hc;split<;>omega
     ·have:=gW (by omega);split<;>omega
    refine(HV (op:=68) (ls:=[len,cap]) (show len.den ρ<=cap.den ρ∨len.den ρ=0 from by
     by_cases hc:cap.den ρ<0
     ·exact .inr (fH hc)
     ·exact .inl (gW (by omega)))).bind λbz n0 _ _ _ ⟨y4,mN⟩=>?_
    have y4:=y4.symm;have mN:=mN.symm
    subst y4;subst mN;refine(fY hb1 hb2).bind λay n1 r hn ha ⟨g1,g2⟩=>ao.pure ?_;simp only[ch,ec,aB]at g2;have a1:=U.bw ha x2;have a2:=U.bw ha zA;have a3:=U.bw ha zz;have a4:=U.bw ha gg
    refine⟨⟨x1,⟨x2.mono hn,g1,U.xt (zA.mono hn) (zz.mono hn),U.xt (gg.mono hn) (zz.mono hn)⟩,?_⟩,_,rfl,λw _=>?_⟩
    ·rw[U.lE,U.lE,a1,a2,a3,a4,g2];refine⟨⟨je,?_,by omega,by omega⟩,⟨?_,?_⟩,λh=>?_,λh=>?_⟩
     ·split<;>omega
     ·by_cases hc:cap.den ρ<0
      ·have:=fH hc;omega
      ·have:=gW (by omega);omega
     ·split<;>omega
     ·by_cases hc:cap.den ρ<0
      ·have:=fH hc;omega
      ·have:=gW (by omega);omega
     ·by_cases hc:cap.den ρ<0
      ·have:=fH hc;omega
      ·have:=gW (by omega);omega
    ·refine(hrun w (r.den ay) g2).trans ?_;simp only[W.den,A.den,U.lE,a1,a2,a3,a4]
theorem atq (w:ai) (src e:aR) (hs:P.underlying src=some (.slice e)) (he:P.underlying e=some (.int .u8)) (p:Option Addr) (c:Nat):
 ∀dst,P.underlying dst=some .string->(convert src dst (.slice p 0 c)).run P w= .ok (.string aEq) w:=by
 intro dst hd;cases p with
 |none=>exact run_convert_bytes_nil w src e hs he _ _ dst hd
 |some a=>
  have hl:(loadCells a 0).run P w= .ok ([]:List ax).toArray w:=by
   have:=CS (P:=P) w a ([]:List ax) (λj v hj=>by simp at hj);simpa using this
  rw[run_convert_bytes_string w src dst e _ 0 c hs he hd,run_bytesToString w _ 0 c [] hl];simp
theorem atX (hb:bU n bl.length ρ bl) (hex:∃w,Mem w0 ρ m bl w) {src dst e:aR} (hs:P.underlying src=some (.slice e)) (he:P.underlying e=some (.int .u8)) (hd:P.underlying dst=some .string) {b aL:Nat} {o ro len cap:U} (hx:(A.sl b aL o ro len cap).ok n bl.length ρ):
 ao S L (RL bl b aL o ro len) n ρ (kZ w0 m bl n ρ λw=>(convert src dst ((A.sl b aL o ro len cap).den ρ m)).run P w):=by
 obtain⟨cd,qR⟩:=hex;unfold RL;split
 ·rename_i sh off code dX kind t' hbl;refine dR λhc=>fX λhk=>?_;simp only[aQ]at hc;obtain⟨⟨⟨c1,c2⟩,c3⟩,c4⟩:=hc;have c1:0<kind:=et c1;have c2:=bo c2;have c3:=U.beq_eq c3;subst c3;subst c2;simp only[ch,ec,ah,U.den_add]at hk;obtain⟨ptr,e1,e2,e3⟩:=oA (m:=m) hx;obtain⟨x1,⟨x2,x3,bL,gg⟩,⟨je,oH,lq,nN⟩,⟨oF,oG⟩,fH,gW⟩:=hx;generalize hR:ab (code.den ρ)=rows at hk;have qN:dX.den ρ<0->rows=[]:=λh=>by rw[<-hR];exact(qR.rws b sh o code dX kind t' hbl (by omega)).1 h
  have gm:(((rows.drop (ro.den ρ).toNat).take (len.den ρ).toNat).map λrow=>row.getD 0 0).length=(len.den ρ).toNat:=by
   simp;omega
  have hf:aB 34 ([code,ro,ro.add len].map (·.den ρ))=cT ((((rows.drop (ro.den ρ).toNat).take (len.den ρ).toNat).map λrow=>row.getD 0 0).map λz=>jV z.toNat):=by
   simp only[ch,ec,aB,U.den_add,hR];have:(ro.den ρ+len.den ρ).toNat-(ro.den ρ).toNat=(len.den ρ).toNat:=by omega
   rw[this,jf];rfl
  generalize hX:(((rows.drop (ro.den ρ).toNat).take (len.den ρ).toNat).map λrow=>row.getD 0 0)=xs at gm hf;have hl:(xs.map λz=>jV z.toNat).length<=dP:=by
   have:(xs.map λz=>jV z.toNat).length=(len.den ρ).toNat:=by simp[gm]
   unfold dP;omega
  refine(fY (by rw[hf];exact lD _) (by rw[hf];exact kY hl)).bind λay n1 l _ _ ⟨g1,g2⟩=>ao.pure ⟨⟨g1,by rw[g2,hf];exact lD _,by rw[g2,hf];exact kY hl⟩,_,rfl,λw hw=>?_⟩;have og:(W.one (A.str l)).den ay m= .string (strOfNums xs):=by
   simp only[W.den,A.den,g2,hf,fj];rfl
  rw[og];show(convert src dst ((A.sl b 1 o ro len cap).den ρ m)).run P w=_;rw[e1];by_cases cv:cap.den ρ<0
  ·have hl0:=fH cv;rw[e2 cv,if_pos cv];have Yn:xs=[]:=ra (by rw[gm,hl0];rfl);rw[Yn,show(len.den ρ).toNat=0 by omega,atq w src e hs he _ _ dst hd];rfl
  ·rw[e3 (by omega),if_neg cv];by_cases OB:dX.den ρ<0
   ·have jq:=qN OB;have hl0:len.den ρ=0:=by rw[jq]at hk;simp at hk;omega
    have Yn:xs=[]:=ra (by rw[gm,hl0];rfl);exact run_convert_bytes_arg w src e hs he (m b) _ _ _ xs gm (λi hi=>by rw[hl0]at hi;simp at hi) dst hd
   ·obtain⟨_,cells,gq,fz,k1,⟨k2,k3⟩,_⟩:=(hw.rws b sh o code dX kind t' hbl (by omega)).2 (by omega);refine run_convert_bytes_arg w src e hs he (m b) _ _ _ xs gm (λi hi=>?_) dst hd;have hlt:(ro.den ρ).toNat+i<rows.length:=by omega
    have hrow:(ab (code.den ρ))[(ro.den ρ).toNat+i]?=some rows[(ro.den ρ).toNat+i]:=by rw[hR];exact gF hlt
    have iq:∃lo hi,sh=[.int .u8 lo hi]:=by
     unfold UZ at c4;split at c4
     ·exact⟨_,_,rfl⟩
     ·cases c4
    obtain⟨lo,cH,rfl⟩:=iq;have Bi:=k3.1 _ (cM hrow);obtain⟨z,q1,_,_,dr⟩:=Bi.get (j:=0) (c:= .int .u8 lo cH) rfl;have:=k3.get (j:=0) (c:= .int .u8 lo cH) hrow rfl rfl dr;have hz:xs.getD i 0=z:=by
     rw[<-hX];have:i<(len.den ρ).toNat:=hi;simp[ar,oK,this,hlt,q1]
    simp only[jx,k1,rm,pF,if_false,hz];simp only[dj,fe,kG,sB,Hd]at this;rw[show(o.den ρ).toNat+(ro.den ρ).toNat*1+i=(o.den ρ).toNat+((ro.den ρ).toNat+i) by omega];exact this
 ·exact ao.fail
theorem aoA {k:cX} {x y:br} {t:aR} {ts:Array aR} (hx:x.ok n ρ) (hy:y.ok n ρ):ao S L (ZI k x y) n ρ (kZ w0 m bl n ρ λw=>(SO ts t #[.int k (x.l.den ρ),.int k (y.l.den ρ)]).run P w):=by
 have e:=bf.Ip hy hx;have hr:∀w,(SO ts t #[.int k (x.l.den ρ),.int k (y.l.den ρ)]).run P w= .ok (.int k (if y.l.den ρ<x.l.den ρ then y.l.den ρ else x.l.den ρ)) w:=λw=>by
  simp[SO,Builtin.min2]
 refine MW (λhb=>ao.pure ⟨hy,_,rfl,λw _=>?_⟩) λhb=>ao.pure ⟨hx,_,rfl,λw _=>?_⟩
 ·rw[e.1]at hb;simp only[hr,if_pos (of_decide_eq_true hb)];rfl
 ·rw[e.1]at hb;simp only[hr,if_neg (of_decide_eq_false hb)];rfl
theorem aox {k:cX} {x y:br} {t:aR} {ts:Array aR} (hx:x.ok n ρ) (hy:y.ok n ρ):ao S L (ZE k x y) n ρ (kZ w0 m bl n ρ λw=>(SP ts t #[.int k (x.l.den ρ),.int k (y.l.den ρ)]).run P w):=by
 have e:=bf.Ip hx hy;have hr:∀w,(SP ts t #[.int k (x.l.den ρ),.int k (y.l.den ρ)]).run P w= .ok (.int k (if x.l.den ρ<y.l.den ρ then y.l.den ρ else x.l.den ρ)) w:=λw=>by
  simp[SP,Builtin.max2]
 refine MW (λhb=>ao.pure ⟨hy,_,rfl,λw _=>?_⟩) λhb=>ao.pure ⟨hx,_,rfl,λw _=>?_⟩
 ·rw[e.1]at hb;simp only[hr,if_pos (of_decide_eq_true hb)];rfl
 ·rw[e.1]at hb;simp only[hr,if_neg (of_decide_eq_false hb)];rfl
theorem UU:∀{cs:List A} {l:List Bool},l7 cs=some l->cs=l.map λb=>A.bool (.lit b)
 |[],l,h=>by simp[l7]at h;subst h;rfl
 | .bool (.lit b)::r,l,h=>by
  simp only[l7]at h;cases hr:l7 r with
  |none=>simp[hr]at h
  |some bJ=>
   simp only[hr,aK]at h;subst h;simp[UU hr]
 | .bool (.eq ..)::_,_,h| .bool (.lt ..)::_,_,h| .bool (.le ..)::_,_,h| .bool (.not ..)::_,_,h| .bool (.and ..)::_,_,h| .bool (.iff ..)::_,_,h=>by simp[l7]at h
 | .int .. ::_,_,h=>by simp[l7]at h
 | .ptr .. ::_,_,h=>by simp[l7]at h
 | .ow .. ::_,_,h=>by simp[l7]at h
 | .gptr .. ::_,_,h=>by simp[l7]at h
 | .slc .. ::_,_,h=>by simp[l7]at h
 | .con _::_,_,h=>by simp[l7]at h
 | .str _::_,_,h=>by simp[l7]at h
 | .rows .. ::_,_,h=>by simp[l7]at h
 | .sl .. ::_,_,h=>by simp[l7]at h
 | .ep .. ::_,_,h=>by simp[l7]at h
theorem YE:∀(l:List Bool) (s:Nat),s+l.length<=256->∀i:Nat,i<256->(jV i∈u1 s l↔s<=i/\l[i-s]?=some true)
 |[],s,_,i,_=>by simp[u1]
 |b::r,s,h,i,hi=>by
  simp only[dj]at h;have ih:=YE r (s+1) (by omega) i hi;have hne:s≠i->jV i≠jV s:=λhne he=>by
   have:=congrArg UInt8.toNat he;simp at this;omega
  have key:(s+1<=i/\r[i-(s+1)]?=some true)↔(s<i/\(b::r)[i-s]?=some true):=by
   constructor
   ·rintro⟨h1,h2⟩
    refine⟨h1,?_⟩;rw[show i-s=(i-(s+1))+1 by omega];simpa using h2
   ·rintro⟨h1,h2⟩
    refine⟨h1,?_⟩;rw[show i-s=(i-(s+1))+1 by omega]at h2;simpa using h2
  unfold u1;cases b with
  |true=>
   simp only[cond_true,kg,ih,key];by_cases he:s=i
   ·subst he;simp
   ·constructor
    ·rintro(h1|h1)
     ·exact absurd h1 (hne he)
     ·exact⟨by omega,h1.2⟩
    ·rintro⟨h1,h2⟩;exact .inr ⟨by omega,h2⟩
  |false=>
   simp only[cond_false,ih,key];by_cases he:s=i
   ·subst he;simp
   ·constructor
    ·rintro⟨h1,h2⟩;exact⟨by omega,h2⟩
    ·rintro⟨h1,h2⟩;exact⟨by omega,h2⟩
theorem atH (hb:bU n bl.length ρ bl) {ty:aR} (hu:P.underlying ty=some .bool) (b off:Nat) {a7:br} (A8:a7.ok n ρ):ao S L (Rz bl b off a7) n ρ (kZ w0 m bl n ρ λw=>(nR ty ((A.ow b off a7).den ρ m)).run P w):=by
 unfold Rz;cases hbl:bl[b]? with
 |none=>exact ao.fail
 |some q=>
  obtain⟨cs,t⟩:=q;simp only;cases hi:l7 ((cs.drop off).take (a7.hi.toNat+1))with
  |none=>exact ao.fail
  |some l=>
   refine dR λhc=>?_;simp only[aQ,decide_eq_true_eq]at hc;obtain⟨⟨⟨hc1,hc2⟩,Xj⟩,hq⟩:=hc;have hlen:=bo hc1;have DS:=et hc2;have e:=UU hi;have Dp:=A8.2;have hlt:(a7.l.den ρ).toNat<l.length:=by omega
   have iW:cT (u1 0 l)=(U.const (cT (u1 0 l))).den ρ:=(U.aO _ _).symm;have hf:aB 43 ([U.const (cT (u1 0 l)),a7.l].map (·.den ρ))=if l[(a7.l.den ρ).toNat]=true then 1 else 0:=by
    simp only[ch,ec,aB,U.aO,fj];have:=YE l 0 (by omega) (a7.l.den ρ).toNat (by omega);simp only[Nat.sub_zero,kW,true_and,gF hlt,aK]at this;simp only[this]
   have b1:=HX (l[(a7.l.den ρ).toNat]=true);refine(fY (by rw[hf];exact b1.1) (by rw[hf];exact b1.2)).bind λay n1 r hn ha ⟨g1,g2⟩=>?_;rw[hf]at g2;have e2:=bf.uB (n:=n1) (ρ:=ay) (a:=⟨r,0,1⟩) (b:= .const 1) ⟨g1,by simp only[g2];exact b1.1,by simp only[g2];exact b1.2⟩ (br.nj _ _ _);refine ao.pure ⟨e2.2,_,rfl,λw hw=>?_⟩;obtain⟨_,_,zx,_,h2⟩:=hw.blk b cs t hbl hq;have hcs:cs[off+(a7.l.den ρ).toNat]?=some (.bool (.lit l[(a7.l.den ρ).toNat])):=by
    have h1:((cs.drop off).take (a7.hi.toNat+1))[(a7.l.den ρ).toNat]?=some (.bool (.lit l[(a7.l.den ρ).toNat])):=by rw[e];simp[hlt]
    rw[oK]at h1;split at h1
    ·rw[vP]at h1;exact h1
    ·cases h1
   have ajV:=(List.getElem?_eq_some_iff.1 hcs).1;have hcell:w.cell? ⟨m b,off+(a7.l.den ρ).toNat,none⟩=some (.bool l[(a7.l.den ρ).toNat]):=by
    simp only[jx,h2,rm,pF,if_false,LF];rw[pE (by simpa using ajV),lV,hcs];rfl
   have n5:nE P ty=some false:=by unfold nE;rw[hu]
   have Pc:(A.ow b off a7).den ρ m= .pointer (some ⟨m b,off+(a7.l.den ρ).toNat,none⟩):=rfl;simp only[W.den,A.den];rw[e2.1];simp only[g2,br.const,U.aO];have Oy:decide ((if l[(a7.l.den ρ).toNat]=true then(1:Int)else 0)=1)=l[(a7.l.den ρ).toNat]:=by
    cases l[(a7.l.den ρ).toNat]<;>rfl
   rw[Oy];have akS:=Pc;simp only[A.den]at akS;simp[nR,kK,loadVar,q4 n5,hcell]
theorem Gs (w:ai) {t e:aR} (hu:P.underlying t=some (.slice e)) (p:Option Addr) (l c:Nat):(binOp .eql t (.slice p l c) (.slice none 0 0)).run P w= .ok (.bool p.isNone) w:=by
 have h:binOp .eql t (.slice p l c) (.slice none 0 0)=(do pure (.bool (<-Op.equal t (.slice p l c) (.slice none 0 0)))):=rfl;rw[h];simp only[gy,run_equal_slice_nil w t e p l c hu,gG,ie]
theorem att (w:ai) {t e:aR} (hu:P.underlying t=some (.slice e)) (p:Option Addr) (l c:Nat):(binOp .neq t (.slice p l c) (.slice none 0 0)).run P w= .ok (.bool !p.isNone) w:=by
 have h:binOp .neq t (.slice p l c) (.slice none 0 0)=(do pure (.bool (!(<-Op.equal t (.slice p l c) (.slice none 0 0))))):=rfl;rw[h];simp only[gy,run_equal_slice_nil w t e p l c hu,gG,ie]
theorem UC {b off:Nat} {sh:List av} {code:U} {c:Nat} (h:HT bl b off=some (sh,code,c)):off=0/\∃cap kind t,bl[b]?=some ([.rows sh (.const 0) code cap kind],t)/\0<kind/\(∀ρ,cap.den ρ=(c:Int))/\hZ sh=true:=by
 unfold HT at h;split at h
 ·rename_i cF o code' cap kind t hbl;split at h
  ·rename_i q hq;cases hc:(aA off 0&&ck 0 kind&&U.beq o (.const 0)&&decide (0<=q)&&hZ cF)with
   |false=>rw[hc]at h;cases h
   |true=>
    rw[hc]at h;simp only[cond_true,aK,cN]at h;obtain⟨rfl,rfl,rfl⟩:=h;simp only[aQ,decide_eq_true_eq]at hc;obtain⟨⟨⟨⟨c1,c2⟩,c3⟩,c4⟩,c5⟩:=hc;have c3:=U.beq_eq c3;subst c3;exact⟨bo c1,cap,kind,t,hbl,et c2,λρ=>by rw[U.il hq];omega,c5⟩
  ·cases h
 ·cases h
theorem Ux {nb:Nat} {sh:List av}:∀{k i:Nat} {n:Nat} {ρ:Env} {code:U},code.aY n->(∀row∈ab (code.den ρ),bD sh row)->(ab (code.den ρ)).length=i+k->
 ao S L (HO code sh i k) n ρ λae n' l=>(∀a∈l,A.ok n' nb ae a)/\l.length=k*sh.length/\∀(x:Nat) (a:A),l[x]?=some a->(cG sh (ab (code.den ρ)))[i*sh.length+x]?=some (a.den ae m)
 |0,i,n,ρ,code,_,_,_=>ao.pure ⟨λ_ h=>by simp at h,by simp,λx a h=>by simp at h⟩
 |k+1,i,n,ρ,code,hs,hO,hl=>by
  unfold HO;have hlt:i<(ab (code.den ρ)).length:=by omega
  have hrow:(ab (code.den ρ))[i]?=some (ab (code.den ρ))[i]:=gF hlt;generalize (ab (code.den ρ))[i]=row at hrow;refine(Na (nb:=nb) (m:=m) (r:=sh) (j:=0) (i:= .const (i:Nat)) (code:=code) (hO row (cM hrow)) hs (U.cr _ _) (by rw[U.aO,ek];exact hrow) (λx c hx=>by rw[sB];exact hx)).bind λay n1 l1 eY dz ⟨g1,g2,g3⟩=>?_;have e1:code.den ay=code.den ρ:=U.bw dz hs;refine(Ux (nb:=nb) (k:=k) (i:=i+1) (code:=code) (hs.mono eY) (by rw[e1];exact hO) (by rw[e1];omega)).bind λbn n2 l2 dY cU ⟨k1,k2,k3⟩=>ao.pure ⟨λa ha=>?_,by rw[c8,g2,k2,qy];omega,λx a hx=>?_⟩
  ·rcases List.mem_append.1 ha with ha|ha
   ·exact(g1 a ha).ext cU dY (aV _)
   ·exact k1 a ha
  ·rw[List.getElem?_append]at hx;split at hx
   ·rename_i hlt;obtain⟨_,_,_,this⟩:=g3 x a hx;rw[sB]at this;rw[A.j1 (g1 a (cM hx)) cU (λ_ _=>rfl)];exact ID hO hrow this
   ·rename_i e8;have:=k3 (x-l1.length) a hx;rw[e1,g2]at this;rw[g2]at e8;rw[show i*sh.length+x=(i+1)*sh.length+(x-sh.length) by rw[qy];omega];exact this
theorem af2 {α:Type} {p q r len cap:U} {f:Unit->M α} {R:Env->Nat->α->Prop} (h11:cap.den ρ<0->len.den ρ=0) (fr:0<=cap.den ρ->len.den ρ<=cap.den ρ) (h:(0<=p.den ρ/\p.den ρ<=q.den ρ/\q.den ρ<=r.den ρ/\r.den ρ<=cap.den ρ)->ao S L (f ()) n ρ R):
 ao S L (bind (cond (U.beq r len) (eP 78 [p,q,r,cap]) (eP 64 [p,q,r,len])) f) n ρ R:=by
 cases U.beq r len with
 |true=>exact fX λhk=>h hk
 |false=>
  refine fX λhk=>h ?_;have hk:0<=p.den ρ/\p.den ρ<=q.den ρ/\q.den ρ<=r.den ρ/\r.den ρ<=len.den ρ/\0<len.den ρ:=hk;have hc:0<=cap.den ρ:=by
   rcases ic (cap.den ρ) 0 with h|h
   ·have:=h11 h;omega
   ·exact h
  have:=fr hc;omega
theorem atZ {t:aR} {b aL:Nat} {o ro len cap p q r:U} {lo:Option lX} {hi fF:lX} (hx:(A.sl b aL o ro len cap).ok n bl.length ρ) (ht:dn n bl.length ρ m tm a.tmps) (hp:uw tm (.const 0) lo=some p) (hq:mQ (bK tm hi)=some q) (hr:mQ (bK tm fF)=some r):
 ao S L (RN P t b aL o ro len cap p q r) n ρ (kZ w0 m bl n ρ λw=>(nQ t ((A.sl b aL o ro len cap).den ρ m) (lo.map a.eval) (some (a.eval hi)) (some (a.eval fF))).run P w):=by
 unfold RN;cases h1:h9 P t with
 |none=>exact ao.fail
 |some e=>
  cases h2:eA P e with
  |none=>simp only[h2];exact ao.fail
  |some s=>
   simp only[h2];refine dR λhs=>af2 (λh=>hx.2.2.2.2.1 h) (λh=>hx.2.2.2.2.2 h) λhk=>?_;have hs:=bo hs;subst hs;obtain⟨k1,k2,k3,k4⟩:=hk;have jH:=hx;obtain⟨x1,⟨x2,x3,bL,gg⟩,⟨je,oH,lq,nN⟩,⟨oF,oG⟩,fH,gW⟩:=hx;have hsp:=HZ hp ht;have zz:p.aY n:=by rcases hsp with⟨_,rfl⟩|⟨_,_,h⟩;exact U.cr _ _;exact h
   obtain⟨Y6,hq',zA⟩:=u3 (m:=m) (bl:=bl) hq (cc ht hi).2 (cc ht hi).1;obtain⟨amI,mj,Rw⟩:=u3 (m:=m) (bl:=bl) hr (cc ht fF).2 (cc ht fF).1;obtain⟨ptr,e1,e2,e3⟩:=oA (m:=m) jH;have hc:¬(cap.den ρ<0):=by omega
   have fr:=gW (by omega);have Ir:=e1;rw[if_neg hc,e3 (by omega)]at Ir;have hf:aB 33 ([ro,p,r].map (·.den ρ))=(if p.den ρ=r.den ρ then ro.den ρ else ro.den ρ+p.den ρ):=rfl;refine(fY (by rw[hf];split<;>omega) (by rw[hf];split<;>omega)).bind λay n1 zx hn ha ⟨g1,g2⟩=>ao.pure ?_;rw[hf]at g2;have a1:=U.bw ha x2;have a2:=U.bw ha zA;have a3:=U.bw ha zz;have a4:=U.bw ha Rw
   refine⟨⟨x1,⟨x2.mono hn,g1,U.xt (zA.mono hn) (zz.mono hn),U.xt (Rw.mono hn) (zz.mono hn)⟩,?_⟩,_,rfl,λw _=>?_⟩
   ·rw[U.lE,U.lE,a1,a2,a3,a4,g2];refine⟨⟨je,?_,by omega,by omega⟩,⟨by omega,?_⟩,λh=>by omega,λh=>by omega⟩
    ·split<;>omega
    ·split<;>omega
   ·rw[Ir];have qK:(jz true (len.den ρ).toNat (cap.den ρ).toNat (lo.map a.eval) (some (a.eval hi)) (some (a.eval fF))).run P w= .ok ((p.den ρ).toNat,(q.den ρ).toNat,(r.den ρ).toNat) w:=by
     rw[hq',mj];rcases hsp with⟨rfl,rfl⟩|⟨PZ,nz,_⟩
     ·simp[jz,U.aO,mx (P:=P) (y:=(cap.den ρ).toNat) (by omega:0<=r.den ρ) (by omega),mx (P:=P) (y:=(r.den ρ).toNat) (by omega:0<=q.den ρ) (by omega)]
     ·rw[nz];simp[jz,mx (P:=P) (y:=(cap.den ρ).toNat) (by omega:0<=r.den ρ) (by omega),mx (P:=P) (y:=(r.den ρ).toNat) (by omega:0<=q.den ρ) (by omega),mx (P:=P) (y:=(q.den ρ).toNat) k1 (by omega)]
    have e4:(q.den ρ).toNat-(p.den ρ).toNat=(q.den ρ-p.den ρ).toNat:=by omega
    have gR:(r.den ρ).toNat-(p.den ρ).toNat=(r.den ρ-p.den ρ).toNat:=by omega
    simp only[nQ,gy,eK (ia h1),gG,LI,qK,gM h2,ie,e4,gR,W.den,A.den,U.lE,a1,a2,a3,a4,g2];rw[if_neg (show ¬(r.den ρ-p.den ρ<0) by omega)];by_cases EC:p.den ρ=r.den ρ
    ·rw[if_pos EC,if_pos (by omega)]
    ·rw[if_neg EC,if_neg (by omega)];have gh:(ro.den ρ+p.den ρ).toNat=(ro.den ρ).toNat+(p.den ρ).toNat:=by omega
     rw[gh,ue,<-zZ];simp[iz]
theorem atY {t:aR} {b aL:Nat} {o ro len cap p q r:U} {lo:Option lX} {hi fF:lX} (hx:(A.sl b aL o ro len cap).ok n bl.length ρ) (ht:dn n bl.length ρ m tm a.tmps) (hp:uw tm (.const 0) lo=some p) (hq:mQ (bK tm hi)=some q) (hr:mQ (bK tm fF)=some r):
 ao S L (RO P bl t b aL o ro len cap p q r) n ρ (kZ w0 m bl n ρ λw=>(nQ t ((A.sl b aL o ro len cap).den ρ m) (lo.map a.eval) (some (a.eval hi)) (some (a.eval fF))).run P w):=by
 unfold RO;cases hc:(YV bl b&&U.beq r len&&U.beq q len&&U.beq p (.const 0))with
 |false=>exact atZ hx ht hp hq hr
 |true=>
  simp only[aQ]at hc;obtain⟨⟨⟨_,c1⟩,c2⟩,c3⟩:=hc;simp only[cond_true];cases h1:h9 P t with
  |none=>exact ao.fail
  |some e=>
   cases h2:eA P e with
   |none=>simp only[h2];exact ao.fail
   |some s=>
    simp only[h2];refine dR λhs=>?_;have hs:=bo hs;have jH:=hx;obtain⟨x1,⟨x2,x3,bL,gg⟩,⟨je,oH,lq,nN⟩,⟨oF,oG⟩,fH,gW⟩:=hx;have hsp:=HZ hp ht;obtain⟨Y6,hq',zA⟩:=u3 (m:=m) (bl:=bl) hq (cc ht hi).2 (cc ht hi).1;obtain⟨amI,mj,Rw⟩:=u3 (m:=m) (bl:=bl) hr (cc ht fF).2 (cc ht fF).1;have e1:=U.beq_eq c1;have e2:=U.beq_eq c2;have e3:=U.beq_eq c3;subst e1;subst e2;subst e3;have hf:aB 62 ([cap,q].map (·.den ρ))=min (cap.den ρ) (q.den ρ):=rfl;have oa:∀w:ai,(jz true (q.den ρ).toNat (if cap.den ρ<0 then 0 else(cap.den ρ).toNat) (lo.map a.eval) (some (a.eval hi)) (some (a.eval fF))).run P w= .ok (0,(q.den ρ).toNat,(q.den ρ).toNat) w:=λw=>by
     have iW:(q.den ρ).toNat<=(if cap.den ρ<0 then 0 else(cap.den ρ).toNat):=by
      split
      ·rename_i h;have:=fH h;omega
      ·rename_i h;have:=gW (by omega);omega
     rw[hq',mj];rcases hsp with⟨rfl,_⟩|⟨PZ,nz,_⟩
     ·simp[jz,mx (P:=P) (y:=(if cap.den ρ<0 then 0 else(cap.den ρ).toNat)) lq (by omega),mx (P:=P) (y:=(q.den ρ).toNat) lq (by omega)]
     ·rw[nz,U.aO];simp[jz,mx (P:=P) (y:=(if cap.den ρ<0 then 0 else(cap.den ρ).toNat)) lq (by omega),mx (P:=P) (y:=(q.den ρ).toNat) lq (by omega),mx (P:=P) (y:=(q.den ρ).toNat) (bO 0) (by omega)]
    obtain⟨ptr,d1,d2,d3⟩:=oA (m:=m) jH;refine(fY (by rw[hf];omega) (by rw[hf];omega)).bind λay n1 c hn ha ⟨g1,g2⟩=>ao.pure ?_;rw[hf]at g2;have a1:=U.bw ha x2;have a2:=U.bw ha x3;have a4:=U.bw ha bL
    refine⟨⟨x1,⟨x2.mono hn,x3.mono hn,bL.mono hn,g1⟩,?_⟩,_,rfl,λw _=>?_⟩
    ·rw[a1,a2,a4,g2];refine⟨⟨je,oH,lq,nN⟩,⟨by omega,by omega⟩,λh=>?_,λh=>?_⟩
     ·rcases ic (cap.den ρ) 0 with h0|h0
      ·exact fH h0
      ·have:=gW h0;omega
     ·rcases ic (cap.den ρ) 0 with h0|h0
      ·omega
      ·have:=gW h0;omega
    ·rw[d1];simp only[nQ,gy,eK (ia h1),gG,LI,oa w,gM h2,ie,Nat.sub_zero,W.den,A.den,a1,a2,a4,g2];by_cases hc:cap.den ρ<0
     ·have hl:=fH hc;rw[if_pos (show min (cap.den ρ) (q.den ρ)<0 by omega),d2 hc,hl,show min (cap.den ρ) 0=cap.den ρ by omega];rfl
     ·have:=gW (by omega);rw[if_neg (show ¬min (cap.den ρ) (q.den ρ)<0 by omega),d3 (by omega),show min (cap.den ρ) (q.den ρ)=q.den ρ by omega];by_cases h0:(q.den ρ).toNat=0
      ·rw[h0];rfl
      ·rw[if_neg (by omega)];simp[iz]
theorem as8 (hb:bU n bl.length ρ bl) (hex:∃w,Mem w0 ρ m bl w) (ht:dn n bl.length ρ m tm a.tmps) (o:Oper) {q:M V} (hq:KP P bl tm o=some q):ao S L q n ρ (kL w0 m bl n ρ P o a):=by
 obtain⟨cd,qR⟩:=hex;unfold KP at hq;split at hq
 ·rename_i t x a7 h;have hx:=cc ht x;have hi:=cc ht a7;split at hq
  ·rename_i l k p len e hv uW wJ;rw[hv]at hx;rw[uW]at hi;split at hq
   ·rename_i s hs hno;cases hc:bp len 8 with
    |false=>rw[hc]at hq;cases hq
    |true=>
     rw[hc]at hq;simp only[cond_true,aK]at hq;subst hq;have e1:a.eval x= .agg (l.map (A.den ρ m)).toArray:=hx.2;have e2:a.eval a7= .int k (p.l.den ρ):=hi.2;have main:∀r j,j+r=len->ao S L (PD P e l s p.l j r) n ρ (kL w0 m bl n ρ P o a):=by
      intro r;induction r with
      |zero=>intro j _;exact ao.fail
      |succ r ih=>
       intro j hj;refine MW (λhb=>?_) λ_=>ih (j+1) (by omega);have hb:p.l.den ρ=(U.const j).den ρ:=by simpa [bf.den]using hb
       rw[U.aO]at hb;have hlt:((j:Nat):Int)<(len:Nat):=by omega
       have e8:(0:Int)<=(j:Nat):=by omega
       refine(QH (w0:=w0) (m:=m) (bl:=bl) (off:=j*s) hx.1).mono λay n1 v _ _ ⟨q1,val,q2,q3⟩=>⟨q1,val,q2,λw hw=> .inl ?_⟩;have:=q3 w hw;rw[hb]at e2;simp[execOp,h,e1,e2,LH,asIntOf,eK (uo wJ),e8,hlt,gM hs,this];intro hle;omega
     exact main len 0 (by omega)
   ·cases hq
  ·cases hq
 ·rename_i t x a7 h;have hx:=cc ht x;have hi:=cc ht a7;split at hq
  ·rename_i b off k i hv uW;rw[hv]at hx;rw[uW]at hi;split at hq
   ·rename_i sh code c len e rN wJ;split at hq
    ·rename_i s hs;cases hc:(aA s sh.length&&aA len c)with
     |false=>rw[hc]at hq;cases hq
     |true=>
      rw[hc]at hq;simp only[cond_true,aK]at hq;subst hq;simp only[aQ]at hc;have c2:=bo hc.2;subst c2;obtain⟨rfl,cap,kind,bN,hbl,hk,cv,XZ⟩:=UC rN;refine fX λJa=>ao.pure ?_;simp only[ch,ec,ah,U.aO]at Ja;have c7:a.eval x= .pointer (some ⟨m b,0,none⟩):=hx.2;have OT:a.eval a7= .int k (i.l.den ρ):=hi.2;have OU:br.ok n ρ i:=hi.1;have om:b<bl.length:=hx.1;refine⟨⟨om,⟨U.cr _ _,OU.1⟩,by rw[U.aO];omega,Ja.1⟩,_,rfl,λw _=> .inl ?_⟩;have c1:i.l.den ρ<((len:Nat):Int):=Ja.2;simp[execOp,h,c7,OT,rh,asIntOf,eK (uo wJ),kK,Ja.1,c1,gM hs,iz,W.den,A.den,U.aO]
    ·cases hq
   ·cases hq
  ·cases hq
 ·rename_i t x h;have hx:=cc ht x;split at hq
  ·rename_i b off hv;rw[hv]at hx;split at hq
   ·rename_i sh code c k rN n5 hs;cases hc:(aA k (c*sh.length))with
    |false=>rw[hc]at hq;cases hq
    |true=>
     rw[hc]at hq;simp only[cond_true,aK]at hq;subst hq;have hc:=bo hc;subst hc;obtain⟨rfl,cap,kind,bN,hbl,hk,cv,XZ⟩:=UC rN;refine fX λyK=>?_;simp only[ch,ec,ah,U.aO]at yK;have eS:(A.rows sh (.const 0) code cap kind).ok n bl.length ρ:=hb _ (cM hbl) _ (by simp);have jE:∀w,Mem w0 ρ m bl w->∃cells t' fz,w.heap[m b]?=some (.cells cells t' fz)/\pL cells 0 sh (ab (code.den ρ)):=λw hw=>by
      obtain⟨_,cells,gq,fz,g1,⟨g2,g3⟩,_⟩:=(hw.rws b sh (.const 0) code cap kind bN hbl (by omega)).2 (by rw[cv];omega);rw[U.aO]at g3;exact⟨cells,gq,fz,g1,(k0 XZ).1 g3⟩
     obtain⟨_,_,_,_,ak4⟩:=jE cd qR;refine(Ux (nb:=bl.length) (m:=m) (k:=c) (i:=0) eS.1.2.1 ak4.1 (by omega)).bind λay n1 l hn ha ⟨g1,g2,g3⟩=>ao.pure ⟨g1,_,rfl,λw hw=> .inl ?_⟩;obtain⟨cells,gq,fz,q1,q2⟩:=jE w hw;have hl:=CS (P:=P) w ⟨m b,0,none⟩ (l.map (A.den ay m)) λx v hj=>by
      rw[iz];rw[lV]at hj;cases hq:l[x]? with
      |none=>simp[hq]at hj
      |some y=>
       simp only[hq,rf,aK]at hj;subst hj;have h3:=g3 x y hq;rw[Nat.zero_mul,sB]at h3;simp only[jx,q1,rm,pF,if_false];obtain⟨_,pre,post,p1,aJ⟩:=q2;have gf:pre=[]:=ra aJ;subst gf;have hlt:=(List.getElem?_eq_some_iff.1 h3).1;rw[<-CQ,p1,List.nil_append,pE (by omega),sB];exact h3
     simp only[jW,g2]at hl;have c7:a.eval x= .pointer (some ⟨m b,0,none⟩):=hx.2;simp[execOp,h,c7,nR,kK,loadVar,q4 n5,gM hs,hl,W.den]
   ·cases hq
  ·cases hq
 ·rename_i t x lo hi fF h;have hx:=cc ht x;split at hq
  ·rename_i b aL off ro len cap hv;rw[hv]at hx;have c7:a.eval x=(A.sl b aL off ro len cap).den ρ m:=hx.2;have he:execOp a.eval o=(do pure (kJ (<-nQ t ((A.sl b aL off ro len cap).den ρ m) (lo.map a.eval) (some (a.eval hi)) (some (a.eval fF))))):=by simp only[execOp,h,c7];rfl
   split at hq
   ·rename_i p q' r hp hq' hr;cases hq;exact(atY hx.1 ht hp hq' hr).mono λ_ _ _ _ _ hq=>kL.of_run he hq
   ·cases hq
  ·cases hq
 ·rename_i c h;split at hq
  ·rename_i hc;split at hq
   ·rename_i x t gm qb;have hx:=cc ht x;split at hq
    ·rename_i e hv hs;cases hq;rw[hv]at hx;have c7:a.eval x= .slice none 0 0:=hx.2;have a1:c.args=#[x]:=by rw[<-lx (xs:=c.args),gm]
     have a2:c.argTypes=#[t]:=by rw[<-lx (xs:=c.argTypes),qb]
     refine ao.pure ⟨br.nj _ _ _,_,rfl,λw _=> .inl ?_⟩;simp[execOp,h,resolve,hc,a1,a2,c7,invoke,builtin,Hg,eK (ia hs),goInt,W.den,A.den,br.const,U.aO]
    ·cases hq
   ·cases hq
  ·cases hq
 ·cases hq
theorem Gc {cal:ed} (cp:fp S P gl w0 cal) (hb:bU n bl.length ρ bl) (hg:eN gl w0) (hex:∃w,Mem w0 ρ m bl w) (ht:dn n bl.length ρ m tm a.tmps) (o:Oper):
 ao S L (tG P cal gl bl tm o) n ρ (kL w0 m bl n ρ P o a):=by
 unfold tG;cases hq:Ri P bl tm o with
 |none=>
  simp only;cases oc:KP P bl tm o with
  |some q=>exact as8 hb hex ht o oc
  |none=>
  simp only;cases hd:Iq cal bl tm o with
  |none=>exact asu cp hb hg hex ht o
  |some q=>
   simp only;unfold Iq at hd;split at hd
   ·rename_i c ho;split at hd
    ·rename_i x hc;split at hd
     ·rename_i f Iw Ix hv;cases hz:(aA Iw.size 0&&aA Ix.size 0)with
      |false=>rw[hz]at hd;cases hd
      |true=>
       rw[hz]at hd;simp only[cond_true,Option.map_eq_some_iff]at hd;obtain⟨g,OO,rfl⟩:=hd;simp only[aQ,Nat.beq_eq]at hz;have e0:Iw=#[]:=vS hz.1;have e1:Ix=#[]:=vS hz.2;subst e0 e1;have hx:=cc ht (.tmp x);rw[hv]at hx;have c7:a.eval (.tmp x)= .func (.func f) #[] #[]:=hx.2;have mf:∀v∈c.args.toList.map (bK tm),V.ok n bl.length ρ v:=λv hv=>by
        obtain⟨x,_,rfl⟩:=List.mem_map.1 hv;exact(cc ht x).1
       have he:execOp a.eval o=callFunc f (c.args.map a.eval):=by
        simp only[execOp,ho,resolve,hc,c7,adl];simp[invoke,bind_pure_comp]
       refine(cp f g OO L n ρ m bl _ _ hb hex mf (Hz (xs:=c.args.toList) ht)).mono λay n1 v _ _ ⟨q1,val,q2,q3⟩=>⟨q1,val,q2,λw hw=>?_⟩;have ha:(c.args.toList.map a.eval).toArray=c.args.map a.eval:=by
        rw[<-vQ]
       have dr:=q3 w hw;rw[ha]at dr;rcases dr with dr|⟨dr,kA⟩
       ·exact .inl (by rw[he];exact dr)
       ·exact .inr ⟨f,_,by rw[he];exact dr,kA⟩
     ·cases hd
    ·cases hd
   ·cases hd
 |some q=>
  simp only;unfold Ri at hq;split at hq
  case h_1 t x h=>
   have hx:=cc ht x;split at hq
   ·rename_i b aL off i j hv;cases hq;rw[hv]at hx;have c7:a.eval x=(A.ep b aL off i j).den ρ m:=hx.2;have he:execOp a.eval o=(do pure (kJ (<-nR t ((A.ep b aL off i j).den ρ m)))):=by simp only[execOp,h,c7]
    exact(ag0 hb hex t hx.1).mono λ_ _ _ _ _ hq=>kL.of_run he hq
   ·rename_i b off a7 hv;split at hq
    ·rename_i hu;cases hq;rw[hv]at hx;have c7:a.eval x=(A.ow b off a7).den ρ m:=hx.2;have he:execOp a.eval o=(do pure (kJ (<-nR t ((A.ow b off a7).den ρ m)))):=by simp only[execOp,h,c7]
     exact(atH hb hu b off hx.1.2.1).mono λ_ _ _ _ _ hq=>kL.of_run he hq
    ·cases hq
   ·cases hq
  case h_2 x h=>
   have hx:=cc ht x;split at hq
   ·rename_i b aL off i j hv;cases hq;rw[hv]at hx;refine ao.pure ⟨hx.1,_,rfl,λw _=> .inl ?_⟩;have c7:=hx.2;simp only[V.rel,W.den,A.den]at c7;simp[execOp,h,c7,W.den,A.den]
   ·cases hq
  case h_3 t x a7 h=>
   have hx:=cc ht x;have hi:=cc ht a7;split at hq
   ·rename_i b aL off ro len cap k i hv uW;cases hq;rw[hv]at hx;rw[uW]at hi;have c7:a.eval x=(A.sl b aL off ro len cap).den ρ m:=hx.2;have OT:a.eval a7= .int k (i.l.den ρ):=hi.2;have he:execOp a.eval o=(do pure (kJ (<-rh t ((A.sl b aL off ro len cap).den ρ m) (.int k (i.l.den ρ))))):=by simp only[execOp,h,c7,OT]
    have OU:br.ok n ρ i:=hi.1;exact(atV hx.1 OU.1).mono λ_ _ _ _ _ hq=>kL.of_run he hq
   ·cases hq
  case h_4 t x h=>
   have hx:=cc ht x;split at hq
   ·rename_i b aL off ro len cap k e hv ha;cases hq;rw[hv]at hx;refine dR λhc=>fX λhk=>?_;have hc:0<k:=et hc;simp only[ch,ec,U.aO,ah]at hk;have bg:A.ok n bl.length ρ (.sl b aL off ro len cap):=hx.1;obtain⟨h1,⟨h2,h3,h4,h5⟩,h6⟩:=bg;have cv:¬cap.den ρ<0:=λJj=>by have:=h6.2.2.1 Jj;omega
    refine ao.pure ⟨⟨h1,⟨h2,h3⟩,h6.1.1,h6.1.2.1⟩,_,rfl,λw _=> .inl ?_⟩;have c7:a.eval x=(A.sl b aL off ro len cap).den ρ m:=hx.2;have hle:¬(len.den ρ).toNat<k:=by omega
    simp only[execOp,h];rw[c7];simp only[A.den,if_neg cv];simp[Instr.arrayAt,eK (uo ha),hle,W.den,A.den]
   ·cases hq
  case h_5 s x f h=>
   have hx:=cc ht x;split at hq
   ·rename_i b aL off i j fd hv hf;rw[hv]at hx;obtain⟨dK,hu,Eg⟩:=NJ hf;split at hq
    ·rename_i k hs;cases hq;refine ao.pure ⟨hx.1,_,rfl,λw _=> .inl ?_⟩;have c7:=hx.2;simp only[V.rel,W.den,A.den]at c7;simp[execOp,h,c7,CP,eK hu,Eg,kK,fieldPlace,gM hs,iz,W.den,A.den,zZ]
    ·cases hq
   ·cases hq
  case h_6 t x lo hi h=>
   have hx:=cc ht x;split at hq
   ·rename_i b aL off ro len cap hv;rw[hv]at hx;have c7:a.eval x=(A.sl b aL off ro len cap).den ρ m:=hx.2;have he:execOp a.eval o=(do pure (kJ (<-nQ t ((A.sl b aL off ro len cap).den ρ m) (lo.map a.eval) (hi.map a.eval) none))):=by simp only[execOp,h,c7];rfl
    split at hq
    ·rename_i p q' hp hq';cases hq;exact(at0 hx.1 ht hp hq').mono λ_ _ _ _ _ hq=>kL.of_run he hq
    ·cases hq
   ·cases hq
  case h_7 s d x h=>
   have hx:=cc ht x;split at hq
   ·rename_i b aL off ro len cap e hv hs hd;split at hq
    ·rename_i aj3;cases hq;rw[hv]at hx;have c7:a.eval x=(A.sl b aL off ro len cap).den ρ m:=hx.2;have he:execOp a.eval o=(do pure (kJ (<-convert s d ((A.sl b aL off ro len cap).den ρ m)))):=by simp only[execOp,h,c7]
     exact(atX hb hex (ia hs) aj3 hd hx.1).mono λ_ _ _ _ _ hq=>kL.of_run he hq
    ·cases hq
   ·cases hq
  case h_8 c h=>
   split at hq
   ·rename_i hc;split at hq
    ·rename_i x t gm qb;have hx:=cc ht x;split at hq
     ·rename_i b aL off ro len cap e hv hs;cases hq;rw[hv]at hx;have c7:a.eval x=(A.sl b aL off ro len cap).den ρ m:=hx.2;have om:(A.sl b aL off ro len cap).ok n bl.length ρ:=hx.1;obtain⟨ptr,e1,_,_⟩:=oA (m:=m) om;rw[e1]at c7;obtain⟨x1,⟨x2,x3,bL,gg⟩,⟨je,oH,lq,nN⟩,_⟩:=om;have a1:c.args=#[x]:=by rw[<-lx (xs:=c.args),gm]
      have a2:c.argTypes=#[t]:=by rw[<-lx (xs:=c.argTypes),qb]
      refine ao.pure ⟨⟨bL,lq,nN⟩,_,rfl,λw _=> .inl ?_⟩;have e4:((len.den ρ).toNat:Int)=len.den ρ:=by omega
      simp[-ayY,execOp,h,resolve,hc,a1,a2,c7,invoke,builtin,Hg,eK (ia hs),goInt,W.den,A.den,e4]
     ·cases hq
    ·cases hq
   ·rename_i hc;split at hq
    ·rename_i x y gm;have hx:=cc ht x;have hy:=cc ht y;split at hq
     ·rename_i k p k' q' oe hv2;by_cases kq:k=k'
      ·subst kq;simp only[decide_true,cond_true]at hq;cases hq;rw[oe]at hx;rw[hv2]at hy;have e1:a.eval x= .int k (p.l.den ρ):=hx.2;have e2:a.eval y= .int k (q'.l.den ρ):=hy.2;have a1:c.args=#[x,y]:=by rw[<-lx (xs:=c.args),gm]
       have he:execOp a.eval o=(do pure (kJ (<-SO c.argTypes o.type #[.int k (p.l.den ρ),.int k (q'.l.den ρ)]))):=by
        simp[execOp,h,resolve,hc,a1,e1,e2,invoke,builtin]
       exact(aoA hx.1 hy.1).mono λ_ _ _ _ _ hq=>kL.of_run he hq
      ·simp[kq]at hq
     ·cases hq
    ·cases hq
   ·rename_i hc;split at hq
    ·rename_i x y gm;have hx:=cc ht x;have hy:=cc ht y;split at hq
     ·rename_i k p k' q' oe hv2;by_cases kq:k=k'
      ·subst kq;simp only[decide_true,cond_true]at hq;cases hq;rw[oe]at hx;rw[hv2]at hy;have e1:a.eval x= .int k (p.l.den ρ):=hx.2;have e2:a.eval y= .int k (q'.l.den ρ):=hy.2;have a1:c.args=#[x,y]:=by rw[<-lx (xs:=c.args),gm]
       have he:execOp a.eval o=(do pure (kJ (<-SP c.argTypes o.type #[.int k (p.l.den ρ),.int k (q'.l.den ρ)]))):=by
        simp[execOp,h,resolve,hc,a1,e1,e2,invoke,builtin]
       exact(aox hx.1 hy.1).mono λ_ _ _ _ _ hq=>kL.of_run he hq
      ·simp[kq]at hq
     ·cases hq
    ·cases hq
   ·cases hq
  case h_9 op t x y q0 h=>
   have hx:=cc ht x;have hy:=cc ht y;split at hq
   ·rename_i e b aL cg ro len cap hs oe hv2;rw[oe]at hx;rw[hv2]at hy;have c7:a.eval x=(A.sl b aL cg ro len cap).den ρ m:=hx.2;have r4:a.eval y= .slice none 0 0:=hy.2;have om:(A.sl b aL cg ro len cap).ok n bl.length ρ:=hx.1;obtain⟨ptr,e1,e2,e3⟩:=oA (m:=m) om;rw[e1]at c7;obtain⟨x1,⟨x2,x3,bL,gg⟩,_,_,fH,_⟩:=om;have has:ah 53 ([cap,len].map (·.den ρ)):=fH;have hp:ptr.isNone=decide (cap.den ρ=-1):=by
     rcases ic (cap.den ρ) 0 with h0|h0
     ·rw[e2 h0,acO]
     ·rw[e3 h0,decide_eq_false (by omega)];rfl
    split at hq
    ·cases hq;refine(HV has).bind λay n1 _ _ _ ⟨mP,hn⟩=>?_;have mP:=mP.symm;have hn:=hn.symm;subst mP hn;refine ao.pure ⟨⟨gg,U.cr _ _⟩,_,rfl,λw _=> .inl ?_⟩;have hg0:eqGuard .eql t x y (.slice ptr (len.den ρ).toNat (if cap.den ρ<0 then 0 else(cap.den ρ).toNat)) (.slice none 0 0)=CR ():=rfl;have he:execOp a.eval o=(do pure (kJ (<-binOp .eql t (.slice ptr (len.den ρ).toNat (if cap.den ρ<0 then 0 else(cap.den ρ).toNat)) (.slice none 0 0)))):=by
      simp only[execOp,h,c7,r4,hg0,pure_bind]
     simp only[he,gy,Gs w (ia hs),gG,ie,hp];simp[W.den,A.den,bf.den,U.aO]
    ·cases hq;refine(HV has).bind λay n1 _ _ _ ⟨mP,hn⟩=>?_;have mP:=mP.symm;have hn:=hn.symm;subst mP hn;refine ao.pure ⟨bf.vv ⟨gg,U.cr _ _⟩,_,rfl,λw _=> .inl ?_⟩;have hg0:eqGuard .neq t x y (.slice ptr (len.den ρ).toNat (if cap.den ρ<0 then 0 else(cap.den ρ).toNat)) (.slice none 0 0)=CR ():=rfl;have he:execOp a.eval o=(do pure (kJ (<-binOp .neq t (.slice ptr (len.den ρ).toNat (if cap.den ρ<0 then 0 else(cap.den ρ).toNat)) (.slice none 0 0)))):=by
      simp only[execOp,h,c7,r4,hg0,pure_bind]
     simp only[he,gy,att w (ia hs),gG,ie,hp];simp[W.den,A.den,bf.den,bf.uC,U.aO]
    ·cases hq
   ·cases hq
  case h_10=>cases hq
end
end Go.aW
namespace Go.aW
def Vx (ops:Array Oper) (n:Nat):Bool:=
 (cD n).all λi=>match ops[i]? with
   |none=>false
   |some oi=>(oi.after.all λe=> !ri .any e||ck e.on i)&&(match oi.op with| .select .. =>false|_=>true)&&
    (cD n).all λj=>aA i j||match ops[j]? with
      |none=>false
      |some oj=>match oj.dst with
       |none=>true
       |some d=>(!(oi.looksAt ops).contains d||vR .any ops i j||vR .any ops j i)&& !(match oi.dst with|some d'=>aA d' d|none=>false)
def OI (size n:Nat):Array Bool:=((cD size).map λi=>ck i n).toArray
def AM (o:Oper):Bool:=match o.op with| .move _| .assign _| .extract _ _=>true|_=>false
def rH (ops:Array Oper) (i:Nat):Bool:=match ops[i]? with|some o=>AM o|none=>false
def e7 (o:Oper):Bool:=match o.op,o.guard,o.dst with| .alloc _,none,some _=>true|_,_,_=>false
def pM (ops:Array Oper) (i:Nat):Bool:=match ops[i]? with|some o=>e7 o|none=>false
def ZR (ops:Array Oper) (n:Nat):Bool:=
 (cD n).all λi=> !pM ops i||match ops[i]? with
   |some oi=>match oi.dst with
    |some d=>(cD n).all λj=>match ops[j]? with|some oj=> !(oj.looksAt ops).contains d|none=>true
    |none=>false
   |none=>false
def abt (ops:Array Oper) (n:Nat):Bool:=(cD n).all λi=>rH ops i||(cD (n+1)).any λj=>ck i j&&vR .any ops j i&&(aA j n|| !rH ops j)
def aho (ops:Array Oper) (n:Nat):Bool:=
 (cD n).all λi=> !rH ops i||(cD ops.size).all λj=>ck j n||vR .any ops j i||(match ops[i]?,ops[j]? with|some oi,some oj=>oi.apart ops oj|_,_=>false)
def Cx (ops:Array Oper) (n:Nat):Bool:=zU ops&&aho ops n&&ZR ops n&&Vx ops n&&bp n ops.size&&(aA n ops.size||(abt ops n&&ayP .any ops n))&&ayQ .any ops (ops.size-n) n (OI ops.size n)
def calm (Q:Exit->Act->ai->Prop):Exit->Act->ai->Prop
 | .panic _,_,_=>False
 |e,a,w=>Q e a w
theorem uv {a b:Nat} (h:ck a b=true):a<b:=et h
theorem aoo {a b:Nat} (h:a<b):ck a b=true:=Nat.ble_eq_true_of_le h
section
variable {P:bk} {ops:Array Oper} {C:ai->Prop}
def sI (P:bk) (ops:Array Oper) (C:ai->Prop) (o:Oper) (v:ax) (a:Act):Prop:=(ud o (yielded ops a.tmps)=true/\∀w,C w->Ah P o a w v)∨(ud o (yielded ops a.tmps)=false/\v=undef)
def xQ (P:bk) (ops:Array Oper) (C:ai->Prop) (F:Act->Prop):List Oper->Act->Prop
 |[],a=>F a
 |o::r,a=>cond (e7 o) (xQ P ops C F r a) (∃v,sI P ops C o v a/\xQ P ops C F r (a.put o.dst v))
theorem QW {Q:Act->Prop}:∀(l:List Oper) (a:Act),xQ P ops C Q l a->∃(as:Nat->Act) (vs:Nat->ax),as 0=a/\(∀i o,l[i]?=some o->(e7 o=false->sI P ops C o (vs i) (as i)/\as (i+1)=(as i).put o.dst (vs i))/\(e7 o=true->as (i+1)=as i))/\Q (as l.length)
 |[],a,h=>⟨λ_=>a,λ_=>undef,rfl,λi o hi=>by simp at hi,h⟩
 |o::r,a,h=>by
  unfold xQ at h;cases dk:e7 o with
  |true=>
   simp only[dk,cond_true]at h;obtain⟨as,vs,e0,hs,hQ⟩:=QW r _ h;refine⟨λi=>match i with|0=>a|i+1=>as i,λi=>match i with|0=>undef|i+1=>vs i,rfl,λi cg hi=>?_,hQ⟩;cases i with
   |zero=>
    simp at hi;subst hi;exact⟨λh1=>by(rw[dk]at h1;cases h1),λ_=>e0⟩
   |succ i=>
    simp at hi;exact hs i cg hi
  |false=>
   simp only[dk,cond_false]at h;obtain⟨v,hy,h2⟩:=h;obtain⟨as,vs,e0,hs,hQ⟩:=QW r _ h2;refine⟨λi=>match i with|0=>a|i+1=>as i,λi=>match i with|0=>v|i+1=>vs i,rfl,λi cg hi=>?_,hQ⟩;cases i with
   |zero=>
    simp at hi;subst hi;exact⟨λ_=>⟨hy,e0⟩,λh1=>by(rw[dk]at h1;cases h1)⟩
   |succ i=>
    simp at hi;exact hs i cg hi
theorem aci {Q:Exit->Act->ai->Prop} {md:adn}:∀(f:Nat) (listed:Array Bool) (a:Act) (w:ai),wpAny P md ops Q f listed a w->wpAny P md ops Q (f+1) listed a w
 |0,_,_,_,h=>⟨λ_=>h.2,λi hi=>by rw[h.1]at hi;cases hi⟩
 |f+1,_,_,_,h=>⟨h.1,λi hi=>wpOp_mono (λa' w' h'=>aci f _ a' w' h') (h.2 i hi)⟩
theorem ach {Q:Exit->Act->ai->Prop} {md:adn} {listed:Array Bool} {a:Act} {w:ai} {f k8:Nat} (h:wpAny P md ops Q f listed a w) (hle:f<=k8):wpAny P md ops Q k8 listed a w:=by
 induction hle with
 |refl=>exact h
 |step _ ih=>exact aci _ _ _ _ ih
theorem Vi {α:Type} {p q:α->Bool}:∀{l:List α},(∀x∈l,q x=true->p x=true)->(∃x∈l,p x=true/\q x=false)->l.countP q<l.countP p
 |[],_,⟨x,hx,_⟩=>by simp at hx
 |y::r,h1,⟨x,hx,h2,h3⟩=>by
  have hle:r.countP q<=r.countP p:=List.countP_mono_left λz hz=>h1 z (cx _ hz);rw[ayR,ayR];rcases List.mem_cons.1 hx with rfl|hx
  ·simp[h2,h3];omega
  ·have ih:=Vi (l:=r) (λz hz=>h1 z (cx _ hz)) ⟨x,hx,h2,h3⟩;have:=h1 y (by simp);cases hq:q y<;>cases hp:p y<;>simp[hq,hp]at this⊢<;>omega
theorem sO {n i:Nat} {oi:Oper} (h:Vx ops n=true) (hi:i<n) (ho:ops[i]?=some oi):
 (∀e∈oi.after,ri .any e=true->e.on<i)/\(∀cs b,oi.op≠ .select cs b)/\
 ∀j oj d,j<n->j≠i->ops[j]?=some oj->oj.dst=some d->oi.dst≠some d/\(d∈oi.looksAt ops->vR .any ops i j=true∨vR .any ops j i=true):=by
 have h1:=List.all_eq_true.1 h i (List.mem_range.2 hi);simp only[ho,aQ]at h1;obtain⟨⟨h1,h2⟩,h3⟩:=h1;refine⟨λe he hb=>?_,λcs b hc=>by simp[hc]at h2,λj oj d hj hne jn hd=>?_⟩
 ·have:=Array.all_eq_true_iff_forall_mem.1 h1 e he;simp only[hb,G7,xJ]at this;exact uv this
 ·have h4:=List.all_eq_true.1 h3 j (List.mem_range.2 hj);have h5:aA i j=false:=by cases hb:aA i j with|false=>rfl|true=>exact absurd (bo hb).symm hne
  simp only[h5,xJ,jn,hd,aQ]at h4;refine⟨λaj2=>?_,λjE=>?_⟩
  ·have:=h4.2;simp[aj2]at this
  ·have:=h4.1;have hc:(oi.looksAt ops).contains d=true:=by simpa using jE
   simp only[hc,G7,xJ,pD]at this;exact this
theorem aeO {a b:Act} (h1:a.defers=b.defers) (h2:∀t:Nat,a.tmps[t]?=b.tmps[t]?):a=b:=by
 cases a;cases b;simp only at h1 h2;rw[h1,ayS h2]
theorem tC {a:Act} {o:Option Tmp} {v:ax} {t:Nat} (h:o≠some t):(a.put o v).tmps[t]?=a.tmps[t]?:=by
 cases o with
 |none=>rfl
 |some d=>simp only[CW];rw[ayM (λe=>h (by rw[e]))]
theorem put_defers (a:Act) (o:Option Tmp) (v:ax):(a.put o v).defers=a.defers:=by cases o<;>rfl
theorem zn (a:Act) (o:Option Tmp) (v:ax):(a.put o v).tmps.size=a.tmps.size:=by cases o<;>simp[CW]
theorem ahm {o:Oper} {a:Act} {v:ax} {w:ai} (hf:AM o=true) (hC:C w) (h:sI P ops C o v a):Yields P ops o v a:=by
 rcases h with⟨h1,h2⟩|h
 ·refine .inl ⟨h1,λw'=>?_⟩;have h3:=h2 w hC;unfold Ah at h3;unfold AM at hf;split at hf
  ·rename_i x ho;simp only[execOp,ho,ie]at h3⊢;rcases h3 with h3|⟨f,args,h3,_⟩
   ·simp only[ac7,ayT,and_true]at h3;rw[h3]
   ·simp at h3
  ·rename_i x ho;simp only[execOp,ho,ie]at h3⊢;rcases h3 with h3|⟨f,args,h3,_⟩
   ·simp only[ac7,ayT,and_true]at h3;rw[h3]
   ·simp at h3
  ·rename_i x i ho;simp only[execOp,ho,gy]at h3⊢;unfold SG at h3⊢;cases hx:a.eval x<;>simp only[hx]at h3⊢<;>try(simp[ayU]at h3;done)
   rename_i vs;cases hv:vs[i]? with
   |none=>simp[hv,ayU]at h3
   |some u=>simp[hv]at h3;simp[h3]
  ·cases hf
 ·exact .inr h
theorem atT {n:Nat} {listed:Array Bool} (hs:abt ops n=true) (hc:ayP .any ops n=true) (hn:n<ops.size) (inv:HeadInv .any ops n listed):
 ∀(d i:Nat),n-i=d->i<n->rH ops i=false->listed.getD i false=false->∀t,n<=t->t∉kX .any ops listed:=by
 intro d;induction d using Nat.strongRecOn with
 |_ d ih=>
  intro i hd hi im ks t ht hr;obtain⟨_,aad,Pb,hall⟩:=mem_ready.1 hr;have ali:t<ops.size:=(Array.getElem?_eq_some_iff.1 Pb).1;by_cases alj:t=n
  ·subst alj;have h1:=List.all_eq_true.1 hs i (List.mem_range.2 hi);simp only[im,xJ]at h1;obtain⟨j,hj,n7⟩:=List.any_eq_true.1 h1;simp only[aQ,pD]at n7;obtain⟨⟨XG,yI⟩,OV⟩:=n7;have XG:=uv XG;obtain⟨oj,jn,e,he,hb,Be⟩:=zW yI;have aAL:j<=t:=by have:=List.mem_range.1 hj;omega
   by_cases XI:j=t
   ·subst XI;have:oj=aad:=fQ (jn.symm.trans Pb);subst this;have h2:=hall e he hb;rw[Be,ks]at h2;cases h2
   ·cases hl:listed.getD j false with
    |true=>
     have h2:=inv.closed j oj jn hl e he hb;rw[Be,ks]at h2;cases h2
    |false=>
     have akb:rH ops j=false:=by
      rcases OV with h3|h3
      ·exact absurd (bo h3) XI
      ·simpa using h3
     exact ih (t-j) (by omega) j rfl (by omega) akb hl t (aV _) hr
  ·have h1:=List.all_eq_true.1 hc t (List.mem_range.2 ali);simp only[pD,decide_eq_true_eq]at h1;rcases h1 with h1|h1
   ·omega
   ·obtain⟨cg,gk,e,he,hb,Be⟩:=zW h1;have:cg=aad:=fQ (gk.symm.trans Pb);subst this;have h2:=hall e he hb;rw[Be,zX (inv.tail (t-1) (by omega) (by omega))]at h2;cases h2
theorem ahl {o:Oper} (h:AM o=true):e7 o=false:=by
 unfold AM at h;unfold e7;cases ho:o.op<;>simp only[ho]at h⊢<;>cases h
theorem aoP {n i j:Nat} {oi oj:Oper} {d:Tmp} (h:ZR ops n=true) (hi:i<n) (ho:ops[i]?=some oi) (dk:e7 oi=true) (hd:oi.dst=some d) (hj:j<n) (jn:ops[j]?=some oj):d∉oj.looksAt ops:=by
 have h1:=List.all_eq_true.1 h i (List.mem_range.2 hi);have ha:pM ops i=true:=by simp[pM,ho,dk]
 simp only[ha,G7,xJ,ho,hd]at h1;have h2:=List.all_eq_true.1 h1 j (List.mem_range.2 hj);simp only[jn,iP]at h2;intro hm;have:(oj.looksAt ops).contains d=true:=by simpa using hm
 rw[this]at h2;cases h2
theorem ax0 {Q:Exit->Act->ai->Prop} {o:Oper} {i:Nat} {v:ax} {a:Act} {w:ai} {K:Act->ai->Prop} (hi:ops[i]?=some o) (hC:C w) (hy:sI P ops C o v a) (h:∀w',w.Extends w'->K (a.put o.dst v) w'):wpOp P ops Q i K a w:=by
 unfold wpOp;simp only[hi];rcases hy with⟨h1,h2⟩|⟨h1,h2⟩
 ·rw[if_pos h1];refine .inl ?_;unfold m9;rcases h2 w hC with h3|⟨f,args,h3,h4⟩
  ·rw[h3];exact h w (m8 w)
  ·rw[h3];refine h4.mono λe lp ⟨he,hx⟩=>?_;subst he;exact h lp hx
 ·rw[if_neg (by simp[h1]),<-h2];exact h w (m8 w)
theorem sI.of_same {o:Oper} {v:ax} {a a':Act} (hy:sI P ops C o v a) (he:execOp a'.eval o=execOp a.eval o) (hw:ud o (yielded ops a'.tmps)=ud o (yielded ops a.tmps)):sI P ops C o v a':=by
 unfold sI Ah at*;rw[he,hw];exact hy
structure Uk (ops:Array Oper) (n:Nat) (S:Nat->Prop) (a an b:Act) (eL:Nat->Nat):Prop where
 d:b.defers=a.defers
 aL:b.tmps.size=a.tmps.size
 q:∀t:Nat,(∃j o,j<n/\S j/\ops[j]?=some o/\e7 o=false/\o.dst=some t)->b.tmps[t]?=an.tmps[t]?
 al:∀(t:Nat) j o,j<n->S j->ops[j]?=some o->e7 o=true->o.dst=some t->t<b.tmps.size->b.tmps[t]?=some (.pointer (some ⟨eL j,0,none⟩))
 no:∀t:Nat,(∀j o,j<n->S j->ops[j]?=some o->o.dst≠some t)->b.tmps[t]?=a.tmps[t]?
structure Fin (ops:Array Oper) (n:Nat) (an b:Act) (eL:Nat->Nat):Prop where
 d:b.defers=an.defers
 aL:b.tmps.size=an.tmps.size
 al:∀(t:Nat) j o,j<n->ops[j]?=some o->e7 o=true->o.dst=some t->t<b.tmps.size->b.tmps[t]?=some (.pointer (some ⟨eL j,0,none⟩))
 no:∀t:Nat,(∀j o,j<n->ops[j]?=some o->e7 o=true->o.dst≠some t)->b.tmps[t]?=an.tmps[t]?
def vY (ops:Array Oper) (n:Nat) (S:Nat->Prop) (Z:Nat->Obj) (eL:Nat->Nat) (aL:Nat) (w:ai):Prop:=(∀j,j<n->S j->pM ops j=true->aL<=eL j/\w.heap[eL j]?=some (Z j))/\∀i j,i<n->j<n->S i->S j->pM ops i=true->pM ops j=true->eL i=eL j->i=j
theorem vY.grow {n:Nat} {S:Nat->Prop} {Z:Nat->Obj} {eL:Nat->Nat} {aL:Nat} {w w':ai} (h:vY ops n S Z eL aL w) (he:w.Extends w'):vY ops n S Z eL aL w':=
 ⟨λj h1 h2 h3=>by
  obtain⟨h4,h5⟩:=h.1 j h1 h2 h3;exact⟨h4,by rw[he.block _ (Array.getElem?_eq_some_iff.1 h5).1];exact h5⟩,h.2⟩
theorem ax1 {Q:Exit->Act->ai->Prop} {a:Act} {w:ai} {l:List Oper} (n:Nat) (Z:Nat->Obj) (hm:P.follows .mixedOrders=true) (hB:Cx l.toArray n=true) (hC:∀w',w.drew.Extends w'->C w')
 (IZ:∀j o,j<n->l.toArray[j]?=some o->e7 o=true->∀(b:Act) w',(execOp b.eval o).run P w'= .ok (.value (.pointer (some ⟨w'.heap.size,0,none⟩))) (w'.alloc (Z j)))
 (h:xQ P l.toArray C (λan=>∀eL b w',Fin l.toArray n an b eL->w.drew.Extends w'->vY l.toArray n (λ_=>True) Z eL w.drew.heap.size w'->wpList P l.toArray (calm Q) (l.drop n) b w') (l.take n) a):wpAny P .any l.toArray (calm Q) l.toArray.size (sz l.toArray.size false) a {w with drawn:=w.drawn+1}:=by
 simp only[Cx,aQ]at hB;obtain⟨⟨⟨⟨⟨⟨akG,s8⟩,jm⟩,s6⟩,hle⟩,X8⟩,alb⟩:=hB;have hle:n<=l.length:=by simpa using et hle
 obtain⟨as,vs,e0,hs,bH⟩:=QW _ _ h;have hlen:(l.take n).length=n:=by simp;omega
 rw[hlen]at bH;have hop:∀i,i<n->∃o,l.toArray[i]?=some o/\(e7 o=false->sI P l.toArray C o (vs i) (as i)/\as (i+1)=(as i).put o.dst (vs i))/\(e7 o=true->as (i+1)=as i):=λi hi=>by
  have hlt:i<l.length:=by omega
  have h1:(l.take n)[i]?=some l[i]:=by rw[oK,if_pos hi,gF hlt]
  have h2:=hs i _ h1;exact⟨l[i],by simp[hlt],h2⟩
 have Ed:∀i,i<=n->(as i).defers=a.defers/\(as i).tmps.size=a.tmps.size:=by
  intro i;induction i with
  |zero=>intro _;rw[e0];exact⟨rfl,rfl⟩
  |succ i ih=>
   intro hi;obtain⟨o,ho,h1,h2⟩:=hop i (by omega);cases dk:e7 o with
   |true=>rw[h2 dk];exact ih (by omega)
   |false=>rw[(h1 dk).2,put_defers,zn];exact ih (by omega)
 have WT:∀i,i<=n->∀t:Nat,(∀j o,j<i->l.toArray[j]?=some o->e7 o=false->o.dst≠some t)->(as i).tmps[t]?=a.tmps[t]?:=by
  intro i;induction i with
  |zero=>intro _ t _;rw[e0]
  |succ i ih=>
   intro hi t hno;obtain⟨o,ho,h1,h2⟩:=hop i (by omega);have YG:=ih (by omega) t λj o hj=>hno j o (by omega);cases dk:e7 o with
   |true=>rw[h2 dk];exact YG
   |false=>rw[(h1 dk).2,tC (hno i o (by omega) ho dk)];exact YG
 have WS:∀(d i:Nat),i+d=n->∀t:Nat,(∃j o,j<i/\l.toArray[j]?=some o/\o.dst=some t)->(as n).tmps[t]?=(as i).tmps[t]?:=by
  intro d;induction d with
  |zero=>intro i hi t _;rw[show i=n by omega]
  |succ d ih=>
   intro i hi t hj;obtain⟨o,ho,h1,h2⟩:=hop i (by omega);rw[ih (i+1) (by omega) t (by obtain⟨j,o,h1,h2⟩:=hj;exact⟨j,o,by omega,h2⟩)];cases dk:e7 o with
   |true=>rw[h2 dk]
   |false=>
    rw[(h1 dk).2];obtain⟨j,oj,yI,n7,OV⟩:=hj;exact tC ((sO s6 (show i<n by omega) ho).2.2 j oj t (by omega) (by omega) n7 OV).1
 have hsz:l.toArray.size=l.length:=by simp
 have main:∀(f:Nat) (listed:Array Bool) (b:Act) (w1:ai) (eL:Nat->Nat),HeadInv .any l.toArray n listed->w.drew.Extends w1->
  Uk l.toArray n (λj=>listed.getD j false=true) a (as n) b eL->vY l.toArray n (λj=>listed.getD j false=true) Z eL w.drew.heap.size w1->
  (cD n).countP (λi=> !listed.getD i false)+(l.length-n)<=f->wpAny P .any l.toArray (calm Q) f listed b w1:=by
  intro f;have done:∀(listed:Array Bool) (b:Act) (w1:ai) (eL:Nat->Nat),HeadInv .any l.toArray n listed->w.drew.Extends w1->
   Uk l.toArray n (λj=>listed.getD j false=true) a (as n) b eL->vY l.toArray n (λj=>listed.getD j false=true) Z eL w.drew.heap.size w1->(∀i,i<n->listed.getD i false=true)->
   wpAny P .any l.toArray (calm Q) (l.drop n).length listed b w1:=by
   intro listed b w1 eL inv pZ km rL hall;have hl:listed=OI l.toArray.size n:=by
    apply ayS;intro i;unfold OI;simp only[LF,lV];rcases m6 i l.length with hi|hi
    ·rw[List.getElem?_range (by simpa using hi)];have cH:i<listed.size:=by rw[inv.size];simpa using hi
     rcases m6 i n with de|de
     ·have:=hall i de;simp[cH]at this;simp[cH,this,aoo de]
     ·have:=inv.tail i de (by simpa using hi);simp[cH]at this;have hb:ck i n=false:=by cases hq:ck i n with|false=>rfl|true=>have:=uv hq;omega
      simp[cH,this,hb]
    ·have h1:listed.size<=i:=by rw[inv.size];simpa using hi
     have h2:(cD l.toArray.size)[i]?=none:=by simp;omega
     rw[h2,vG h1];rfl
   have Jq:ayQ .any l.toArray (l.drop n).length n listed=true:=by rw[hl];simpa using alb
   refine wpAny_of_seq (P:=P) (md:= .any) (Q':=calm Q) (l.drop n) n listed b w1 (λj=>by simp[vP]) Jq (bH eL b w1 ?_ pZ ?_)
   ·refine⟨km.d.trans (Ed n (aV _)).1.symm,km.aL.trans (Ed n (aV _)).2.symm,λt j o h1 h3 h4 h5=>km.al t j o h1 (hall j h1) h3 h4 h5,λt hno=>?_⟩;by_cases hq:∃j o,j<n/\l.toArray[j]?=some o/\e7 o=false/\o.dst=some t
    ·obtain⟨j,o,h1,h2,h3,h4⟩:=hq;exact km.q t ⟨j,o,h1,hall j h1,h2,h3,h4⟩
    ·have hq':∀j o,j<n->l.toArray[j]?=some o->e7 o=false->o.dst≠some t:=λj o h1 h2 h3 h4=>hq ⟨j,o,h1,h2,h3,h4⟩;rw[km.no t λj o h1 _ h3=>(by
      cases dk:e7 o with
      |true=>exact hno j o h1 h3 dk
      |false=>exact hq' j o h1 h3 dk),WT n (aV _) t hq']
   ·exact⟨λj h1 _ h3=>rL.1 j h1 (hall j h1) h3,λi j h1 h2 _ _ h5 h6=>rL.2 i j h1 h2 (hall i h1) (hall j h2) h5 h6⟩
  have Uw:∀(listed:Array Bool),(cD n).countP (λi=> !listed.getD i false)=0->∀i,i<n->listed.getD i false=true:=λlisted hc i hi=>by
   cases hq:listed.getD i false with
   |true=>rfl
   |false=>
    have:0<(cD n).countP (λi=> !listed.getD i false):=List.countP_pos_iff.2 ⟨i,List.mem_range.2 hi,by simp[hq]⟩;omega
  induction f with
  |zero=>
   intro listed b w1 eL inv pZ km rL hf;have:=done listed b w1 eL inv pZ km rL (Uw listed (by omega));exact ach this (by simp;omega)
  |succ f ih=>
   intro listed b w1 eL inv pZ km rL hf;by_cases ajW:(cD n).countP (λi=> !listed.getD i false)=0
   ·exact ach (done listed b w1 eL inv pZ km rL (Uw listed ajW)) (by simp;omega)
   ·
    have mi:∃i,i<n/\listed.getD i false=false:=by
     have h1:0<(cD n).countP (λi=> !listed.getD i false):=by omega
     obtain⟨i,hi,hq⟩:=List.countP_pos_iff.1 h1;exact⟨i,List.mem_range.1 hi,by simpa using hq⟩
    have hne:kX .any l.toArray listed≠[]:=by
     have key:∀k,∀i,i<=k->i<n->listed.getD i false=false->kX .any l.toArray listed≠[]:=by
      intro k;induction k with
      |zero=>
       intro i OR de hq qN;obtain⟨o,ho,_,_⟩:=hop i de;have hlt:i<listed.size:=by rw[inv.size];exact(Array.getElem?_eq_some_iff.1 ho).1
       have:i∈kX .any l.toArray listed:=mem_ready.2 ⟨getD_in hlt hq,o,ho,λe he hb=>by have:=(sO s6 de ho).1 e he hb;omega⟩;rw[qN]at this;cases this
      |succ k PG=>
       intro i OR de hq qN;obtain⟨o,ho,_,_⟩:=hop i de;have hlt:i<listed.size:=by rw[inv.size];exact(Array.getElem?_eq_some_iff.1 ho).1
       have:i∈kX .any l.toArray listed:=mem_ready.2 ⟨getD_in hlt hq,o,ho,λe he hb=>by
        have h1:=(sO s6 de ho).1 e he hb;cases oc:listed.getD e.on false with
        |true=>rfl
        |false=>exact absurd qN (PG e.on (by omega) (by omega) oc)⟩
       rw[qN]at this;cases this
     obtain⟨i,hi,hq⟩:=mi;exact key i i (aV _) hi hq
    have c0:∀i,i∈kX .any l.toArray listed->∀j,(listed.setIfInBounds i true).getD j false=true↔(j=i∨listed.getD j false=true):=λi hi j=>by
     obtain⟨ks,oi,yR,hall⟩:=mem_ready.1 hi;have hlt:i<listed.size:=by rw[inv.size];exact(Array.getElem?_eq_some_iff.1 yR).1
     by_cases hj:i=j
     ·subst hj;simp[hlt]
     ·rw[getD_set_ne false hj];exact⟨.inr,λh=>h.resolve_left (λe=>hj e.symm)⟩
    have Jh:∀i,i∈kX .any l.toArray listed->i<n->(cD n).countP (λj=> !(listed.setIfInBounds i true).getD j false)+(l.length-n)<=f:=λi hi de=>by
     obtain⟨ks,_⟩:=mem_ready.1 hi;have:(cD n).countP (λj=> !(listed.setIfInBounds i true).getD j false)<(cD n).countP (λj=> !listed.getD j false):=by
      refine Vi (λj _ hj=>?_) ⟨i,List.mem_range.2 de,?_,?_⟩
      ·cases hq:listed.getD j false with
       |false=>rfl
       |true=>rw[(c0 i hi j).2 (.inr hq)]at hj;cases hj
      ·simp only[zX ks];rfl
      ·simp only[(c0 i hi i).2 (.inl rfl)];rfl
     omega
    have step:∀i,i∈kX .any l.toArray listed->i<n->∀o,l.toArray[i]?=some o->e7 o=false->sI P l.toArray C o (vs i) b/\∀w',w1.Extends w'->wpAny P .any l.toArray (calm Q) f (listed.setIfInBounds i true) (b.put o.dst (vs i)) w':=by
     intro i hi de o ho dk;obtain⟨ks,oi,yR,hall⟩:=mem_ready.1 hi;have:o=oi:=fQ (ho.symm.trans yR);subst this;obtain⟨cg,gk,Pz,_⟩:=hop i de;have:cg=o:=fQ (gk.symm.trans ho);subst this;obtain⟨hy,he⟩:=Pz dk;have wN:=sO s6 de ho;have Ya:∀t:Nat,t∈cg.looksAt l.toArray->b.tmps[t]?=(as i).tmps[t]?:=λt ht=>by
      by_cases hw:∃j oj,j<i/\l.toArray[j]?=some oj/\e7 oj=false/\oj.dst=some t
      ·obtain⟨j,oj,h1,h2,yq,h3⟩:=hw;rw[<-WS (n-i) i (by omega) t ⟨j,oj,h1,h2,h3⟩];refine km.q t ⟨j,oj,by omega,?_,h2,yq,h3⟩;rcases(wN.2.2 j oj t (by omega) (by omega) h2 h3).2 ht with h4|h4
       ·obtain⟨Qy,O8,e,rQ,rR,uP⟩:=zW h4;have:Qy=cg:=fQ (O8.symm.trans ho);subst this;have:=hall e rQ rR
        rwa [uP]at this
       ·obtain⟨BW,EB,e,rQ,rR,uP⟩:=zW h4;have:BW=oj:=fQ (EB.symm.trans h2);subst this;have:=(sO s6 (show j<n by omega) h2).1 e rQ rR;omega
      ·rw[WT i (by omega) t λj oj h1 h2 yq h3=>hw ⟨j,oj,h1,h2,yq,h3⟩];refine km.no t λj oj h1 hl h2 h3=>?_;cases W7:e7 oj with
       |true=>exact aoP jm h1 h2 W7 h3 de ho ht
       |false=>
        by_cases ef:j=i
        ·subst ef;rw[zX ks]at hl;cases hl
        ·rcases(wN.2.2 j oj t h1 ef h2 h3).2 ht with h4|h4
         ·obtain⟨Qy,O8,e,rQ,rR,uP⟩:=zW h4;have:Qy=cg:=fQ (O8.symm.trans ho);subst this;have:=wN.1 e rQ rR;exact hw ⟨j,oj,by omega,h2,W7,h3⟩
         ·obtain⟨BW,EB,e,rQ,rR,uP⟩:=zW h4;have:BW=oj:=fQ (EB.symm.trans h2);subst this;have:=inv.closed j BW h2 hl e rQ rR;rw[uP,zX ks]at this;cases this
     have aj5:∀x∈cg.op.operands,b.eval x=(as i).eval x:=λx hx=>by
      cases x with
      |tmp t=>
       have:=Ya t (List.mem_append_left _ (List.mem_filterMap.2 ⟨.tmp t,by simpa using hx,rfl⟩));simp only[Act.eval];simp[this]
      |_=>rfl
     have hex:execOp b.eval cg=execOp (as i).eval cg:=execOp_congr cg wN.2.1 aj5;have Bn:ud cg (yielded l.toArray b.tmps)=ud cg (yielded l.toArray (as i).tmps):=by
      unfold ud;cases hg:cg.guard with
      |none=>rfl
      |some NY=>
       obtain⟨g,want⟩:=NY;have:yielded l.toArray b.tmps g=yielded l.toArray (as i).tmps g:=by
        unfold yielded;cases ht:(l.toArray[g]?).bind (·.dst)with
        |none=>rfl
        |some t=>
         have:=Ya t (List.mem_append_right _ (by simp only[hg,ht];simp));simp[this]
       simp only[this]
     refine⟨hy.of_same hex Bn,λw' nC=>?_⟩;refine ih _ _ _ eL (inv.set hi de) (pZ.trans nC) ⟨(put_defers _ _ _).trans km.d,(zn _ _ _).trans km.aL,?_,?_,?_⟩ (vY.grow (w:=w1) ⟨λj h1 h2 h3=>?_,λi1 cm h1 h2 h3 h4 h5 h6=>?_⟩ nC) (Jh i hi de)
     ·rintro t ⟨j,oj,h1,h2,h3,AU,h4⟩
      by_cases ht:cg.dst=some t
      ·have e1:(as n).tmps[t]?=(as (i+1)).tmps[t]?:=WS (n-(i+1)) (i+1) (by omega) t ⟨i,cg,by omega,ho,ht⟩;rw[e1,he,ht];simp only[CW];have X4:b.tmps.size=(as i).tmps.size:=km.aL.trans (Ed i (by omega)).2.symm;rcases m6 t b.tmps.size with h5|h5
       ·simp[h5,X4▸h5]
       ·rw[vG (by simpa using h5),vG (by rw[Array.size_setIfInBounds,<-X4];exact h5)]
      ·rw[tC ht];rcases(c0 i hi j).1 h2 with rfl|h5
       ·have:oj=cg:=fQ (h3.symm.trans ho);subst this;exact absurd h4 ht
       ·exact km.q t ⟨j,oj,h1,h5,h3,AU,h4⟩
     ·intro t j oj h1 h2 h3 h4 h5 h6;rcases(c0 i hi j).1 h2 with rfl|h7
      ·have:oj=cg:=fQ (h3.symm.trans ho);subst this;rw[dk]at h4;cases h4
      ·have ef:j≠i:=λe=>by subst e;rw[zX ks]at h7;cases h7
       have ht:cg.dst≠some t:=(wN.2.2 j oj t h1 ef h3 h5).1;rw[tC ht];rw[zn]at h6;exact km.al t j oj h1 h7 h3 h4 h5 h6
     ·intro t hno;have ht:cg.dst≠some t:=hno i cg de ((c0 i hi i).2 (.inl rfl)) ho;rw[tC ht];exact km.no t λj oj h1 h2 h3=>hno j oj h1 ((c0 i hi j).2 (.inr h2)) h3
     ·rcases(c0 i hi j).1 h2 with rfl|h7
      ·simp[pM,ho,dk]at h3
      ·exact rL.1 j h1 h7 h3
     ·have k1:listed.getD i1 false=true:=by
       rcases(c0 i hi i1).1 h3 with rfl|h7
       ·simp[pM,ho,dk]at h5
       ·exact h7
      have k2:listed.getD cm false=true:=by
       rcases(c0 i hi cm).1 h4 with rfl|h7
       ·simp[pM,ho,dk]at h6
       ·exact h7
      exact rL.2 i1 cm h1 h2 k1 k2 h5 h6
    by_cases im:∃i,i∈kX .any l.toArray listed/\i<n/\rH l.toArray i=true
    ·obtain⟨i,hi,de,p7⟩:=im;obtain⟨o,ho,_,_⟩:=hop i de;obtain⟨ks,oi,yR,hall⟩:=mem_ready.1 hi;have XB:AM o=true:=by unfold rH at p7;simpa [ho]using p7
     have dk:e7 o=false:=ahl XB;obtain⟨y3,O6⟩:=step i hi de o ho dk;refine wpAny_first ho (Region.noSelect_spec akG) (λc a' w' hq=>hq.elim) f listed b w1 (λj oj jn ef td akm=>?_) hi (ahm XB (hC w1 pZ) y3) (O6 w1 (m8 w1));have Ez:vR .any l.toArray j i=false:=by
      cases hq:vR .any l.toArray j i with
      |false=>rfl
      |true=>
       obtain⟨BW,EB,e,rQ,rR,uP⟩:=zW hq;have:BW=oj:=fQ (EB.symm.trans jn);subst this;exact absurd uP (akm e rQ rR)
     have XV:j<n->vR .any l.toArray i j=false:=λn8=>by
      cases hq:vR .any l.toArray i j with
      |false=>rfl
      |true=>
       obtain⟨cg,gk,e,rQ,rR,uP⟩:=zW hq;have:cg=oi:=fQ (gk.symm.trans yR);subst this;have:=hall e rQ rR;rw[uP,zX td]at this;cases this
     by_cases n8:j<n
     ·have d1:=(sO s6 de ho).2.2 j oj;have d2:=(sO s6 n8 jn).2.2 i o;simp only[Oper.apart,aQ];constructor
      ·cases hd:o.dst with
       |none=>rfl
       |some d=>
        have:=d2 d de (λe=>ef e.symm) ho hd;simp only[aQ,iP,bne_iff_ne,ne_eq];refine⟨?_,this.1⟩;cases hc:(oj.looksAt l.toArray).contains d with
        |false=>rfl
        |true=>
         rcases this.2 (by simpa using hc)with h1|h1
         ·rw[Ez]at h1;cases h1
         ·rw[XV n8]at h1;cases h1
      ·cases hd:oj.dst with
       |none=>rfl
       |some d=>
        have:=d1 d n8 ef jn hd;simp only[iP];cases hc:(o.looksAt l.toArray).contains d with
        |false=>rfl
        |true=>
         rcases this.2 (by simpa using hc)with h1|h1
         ·rw[XV n8]at h1;cases h1
         ·rw[Ez]at h1;cases h1
     ·have h1:=List.all_eq_true.1 s8 i (List.mem_range.2 de);simp only[p7,G7,xJ]at h1;have h2:=List.all_eq_true.1 h1 j (List.mem_range.2 (Array.getElem?_eq_some_iff.1 jn).1);have hb:ck j n=false:=by cases hq:ck j n with|false=>rfl|true=>exact absurd (uv hq) n8
      simp only[hb,Ez,xJ,ho,jn]at h2;exact h2
    ·
     have ob:∃i,i<n/\rH l.toArray i=false/\listed.getD i false=false:=by
      have key:∀k,∀i,i<=k->i<n->listed.getD i false=false->∃i,i<n/\rH l.toArray i=false/\listed.getD i false=false:=by
       intro k;induction k with
       |zero=>
        intro i OR de hq;cases ko:rH l.toArray i with
        |false=>exact⟨i,de,ko,hq⟩
        |true=>
         obtain⟨o,ho,_,_⟩:=hop i de;have hlt:i<listed.size:=by rw[inv.size];exact(Array.getElem?_eq_some_iff.1 ho).1
         exact absurd ⟨i,mem_ready.2 ⟨getD_in hlt hq,o,ho,λe he hb=>by have:=(sO s6 de ho).1 e he hb;omega⟩,de,ko⟩ im
       |succ k PG=>
        intro i OR de hq;cases ko:rH l.toArray i with
        |false=>exact⟨i,de,ko,hq⟩
        |true=>
         obtain⟨o,ho,_,_⟩:=hop i de;have hlt:i<listed.size:=by rw[inv.size];exact(Array.getElem?_eq_some_iff.1 ho).1
         by_cases hdone:∀e∈o.after,ri .any e=true->listed.getD e.on false=true
         ·exact absurd ⟨i,mem_ready.2 ⟨getD_in hlt hq,o,ho,hdone⟩,de,ko⟩ im
         ·have hex:∃e,e∈o.after/\ri .any e=true/\¬listed.getD e.on false=true:=by
           apply adp;intro hno;exact hdone λe he hb=>adp λoc=>hno ⟨e,he,hb,oc⟩
          obtain⟨e,he,hb,oc⟩:=hex;have h1:=(sO s6 de ho).1 e he hb;exact PG e.on (by omega) (by omega) (by simpa using oc)
      obtain⟨i,hi,hq⟩:=mi;exact key i i (aV _) hi hq
     refine⟨λh0=>absurd h0 hne,λi hi=>?_⟩;have de:i<n:=by
      rcases m6 i n with h1|h1
      ·exact h1
      ·exfalso;obtain⟨_,oi,yR,_⟩:=mem_ready.1 hi;have aAJ:i<l.toArray.size:=(Array.getElem?_eq_some_iff.1 yR).1;simp only[pD,aQ]at X8;rcases X8 with h2|⟨h2,h3⟩
       ·have:=bo h2;omega
       ·obtain⟨i0,o7,aj7,qP⟩:=ob;exact atT h2 h3 (by omega) inv (n-i0) i0 rfl o7 aj7 qP i h1 hi
     obtain⟨o,ho,_,_⟩:=hop i de;cases dk:e7 o with
     |false=>
      obtain⟨y3,O6⟩:=step i hi de o ho dk;exact ax0 ho (hC w1 pZ) y3 O6
     |true=>
      obtain⟨ks,_⟩:=mem_ready.1 hi;have hgd:o.guard=none/\∃d,o.dst=some d:=by
       unfold e7 at dk;split at dk
       ·rename_i h1 h2 h3;exact⟨h2,_,h3⟩
       ·cases dk
      obtain⟨hgd,d,hd⟩:=hgd;have wN:=sO s6 de ho;unfold wpOp;simp only[ho];rw[if_pos (by simp[ud,hgd])];refine .inl ?_;unfold m9;rw[IZ i o de ho dk b w1];show wpAny P .any l.toArray (calm Q) f (listed.setIfInBounds i true) (b.put o.dst _) _;have PC:∀j,j<n->listed.getD j false=true->pM l.toArray j=true->eL j<w1.heap.size:=λj h1 h2 h3=>(Array.getElem?_eq_some_iff.1 (rL.1 j h1 h2 h3).2).1;refine ih _ _ _ (λj=>if j=i then w1.heap.size else eL j) (inv.set hi de) (pZ.alloc _) ⟨(put_defers _ _ _).trans km.d,(zn _ _ _).trans km.aL,?_,?_,?_⟩ ⟨λj h1 h2 h3=>?_,λi1 cm h1 h2 h3 h4 h5 h6 h7=>?_⟩ (Jh i hi de)
      ·rintro t ⟨j,oj,h1,h2,h3,AU,h4⟩
       rcases(c0 i hi j).1 h2 with rfl|h5
       ·have:oj=o:=fQ (h3.symm.trans ho);subst this;rw[dk]at AU;cases AU
       ·have ef:j≠i:=λe=>by subst e;rw[zX ks]at h5;cases h5
        rw[tC (wN.2.2 j oj t h1 ef h3 h4).1];exact km.q t ⟨j,oj,h1,h5,h3,AU,h4⟩
      ·intro t j oj h1 h2 h3 h4 h5 h6;rcases(c0 i hi j).1 h2 with rfl|h7
       ·have:oj=o:=fQ (h3.symm.trans ho);subst this;rw[h5];simp only[if_true];rw[zn]at h6;simp[CW,h6]
       ·have ef:j≠i:=λe=>by subst e;rw[zX ks]at h7;cases h7
        rw[tC (wN.2.2 j oj t h1 ef h3 h5).1];rw[zn]at h6;rw[if_neg ef];exact km.al t j oj h1 h7 h3 h4 h5 h6
      ·intro t hno;rw[tC (hno i o de ((c0 i hi i).2 (.inl rfl)) ho)];exact km.no t λj oj h1 h2 h3=>hno j oj h1 ((c0 i hi j).2 (.inr h2)) h3
      ·show w.drew.heap.size<=(if j=i then w1.heap.size else eL j)/\(w1.alloc (Z i)).heap[(if j=i then w1.heap.size else eL j)]?=some (Z j);by_cases ef:j=i
       ·subst ef;rw[if_pos rfl];exact⟨pZ.size,heap_alloc_new w1 (Z j)⟩
       ·rw[if_neg ef];have h7:=((c0 i hi j).1 h2).resolve_left ef;obtain⟨h8,bE⟩:=rL.1 j h1 h7 h3;exact⟨h8,by rw[heap_alloc_old w1 _ (PC j h1 h7 h3)];exact bE⟩
      ·change (if i1=i then w1.heap.size else eL i1)=(if cm=i then w1.heap.size else eL cm)at h7;by_cases h8:i1=i<;>by_cases bE:cm=i
       ·rw[h8,bE]
       ·rw[if_pos h8,if_neg bE]at h7;have:=PC cm h2 (((c0 i hi cm).1 h4).resolve_left bE) h6;omega
       ·rw[if_neg h8,if_pos bE]at h7;have:=PC i1 h1 (((c0 i hi i1).1 h3).resolve_left h8) h5;omega
       ·rw[if_neg h8,if_neg bE]at h7;exact rL.2 i1 cm h1 h2 (((c0 i hi i1).1 h3).resolve_left h8) (((c0 i hi cm).1 h4).resolve_left bE) h5 h6 h7
 have amd:HeadInv .any l.toArray n (sz l.toArray.size false):=
  ⟨by simp,λj oj _ hl=>(by rw[getD_replicate_false]at hl;cases hl),λt _ ht=>getD_in (by simpa using ht) (getD_replicate_false _ _)⟩
 have Ke:∀j,¬(sz l.toArray.size false).getD j false=true:=λj h=>by rw[getD_replicate_false]at h;cases h
 refine main l.toArray.size _ a _ (λ_=>0) amd (m8 w.drew) ⟨rfl,rfl,λt ⟨j,o,_,h2,_⟩=>absurd h2 (Ke j),λt j o _ h2=>absurd h2 (Ke j),λ_ _=>rfl⟩ ⟨λj _ h2=>absurd h2 (Ke j),λi j _ _ h3=>absurd h3 (Ke i)⟩ ?_;have:(cD n).countP (λi=> !(sz l.toArray.size false).getD i false)<=n:=by
  have:=List.countP_le_length (p:=λi=> !(sz l.toArray.size false).getD i false) (l:=cD n);simpa using this
 omega
end
end Go.aW
namespace Go.aW
open M
inductive X where
 |normal
 |exit (id:Nat)
 |ret
def X.to:X->Exit
 |normal=> .normal
 |exit id=> .exit id
 |ret=> .ret
abbrev fC:=Nat->List V->List aj->T
abbrev nc:=X->fC
abbrev RK:=Nat->V->List aj->T
abbrev ij:=cB->Nat->List V->List aj->RK->T
structure dc where
 eC:List Nat
 ints:List (Nat×Int×Int)
 cells:List (Nat×Nat×Int×Int)
 oT:List Nat:=[]
 nW:List (Nat×List av×aR):=[]
 Ci:List (Nat×List av×Nat):=[]
 iL:List (Nat×List av):=[]
def cy:List aj->Nat->aj->List aj
 |[],_,_=>[]
 |_::r,0,b=>b::r
 |x::r,i+1,b=>x::cy r i b
theorem iN:∀(l:List aj) (i:Nat) (b:aj),cy l i b=l.set i b
 |[],_,_=>rfl
 |_::_,0,_=>rfl
 |_::r,i+1,b=>by simp[cy,iN r i b]
def asv (cal:ed) (dyn:Bool) (o:Oper):Bool:=
 match o.op with
 | .alloc _| .box _ _| .store _ _ _| .buildSlice _ _ _| .makeSlice _ _ _=>false
 | .call c=>match c.callee with
  | .value (.func f)=>(cal f).isSome
  | .value (.tmp _)=>dyn
  | .builtin .append=>false
  | .builtin .clear=>false
  | .builtin .copy=>false
  |_=>true
 |_=>true
def Gf (z:List A) (len:Nat):List A:=(cD (len*z.length)).map λi=>(z[i% z.length]?).getD (.con undef)
def MX (P:bk) (t:aR) (len:Nat) (parts:List (Nat×V)):Option (List A×aR):=
 match h9 P t with
 |some e=>match eA P e,lT P e with
  |some s,some z=>cond (aA z.length s&&ck 0 s&&bp (len*s) 16777216) (match sV (λi=>some (i*s,s)) (Gf z len) parts with|some cs=>some (cs,e)|none=>none) none
  |_,_=>none
 |none=>none
def o6 (bl:List aj) (b off k:Nat):Option (List A):=
 match bl[b]? with
 |some (cs,_)=>cond (bp (off+k) cs.length&&bI cs) (some ((cs.drop off).take k)) none
 |none=>none
def Wu (i:TypeInfo) (e:aR) (z:List A) (d:Option Tmp) (kT vu len:Nat) (olds news:List A) (n:Nat) (tm:List V) (bl:List aj) (k:fC):T:=cond (bp (kT+len) 1000000&&bp (Builtin.nextslicecap (kT+len) vu*i.bytes) 281474976710656&&ck vu (kT+len)&&ck 0 len&&aA z.length i.size&&ck 0 i.size&&bI (olds++news)&&bI (olds++news++z)) (.both (k n (ey tm d (.w (.one (.slc bl.length 0 (kT+len) (kT+len))))) (bl++[(olds++news,(e,false))])) (k n (ey tm d (.pj bl.length (kT+len) (kT+len+1))) (bl++[(olds++news++z,(e,true))]))) .stuck
def amf:V->Bool
 | .w (.one (.con (.slice none 0 0)))=>true
 |_=>false
def azZ (P:bk) (d:Option Tmp) (t t':aR) (s x:V) (n:Nat) (tm:List V) (bl:List aj) (k:fC):T:=
 match x,h9 P t with
 | .w (.one (.slc b' dZ w8 _)),some e=>match P.info? e,lT P e with
  |some i,some z=>match o6 bl b' dZ (w8*i.size)with
   |some news=>cond (!(aA t t')) .stuck <| cond (amf s) (Wu i e z d 0 0 w8 [] news n tm bl k) <| match s with
    | .w (.one (.slc b off len cap))=>match o6 bl b off (len*i.size)with
     |some olds=>Wu i e z d len cap w8 olds news n tm bl k
     |none=> .stuck
    | .pj b len lo=>match bl[b]? with
     |some (cs,ty)=>cond (bp (len+w8) lo&&bp ((len+w8)*i.size) cs.length&&ck 0 (w8*i.size)&&bI cs&&bI (cs.take (len*i.size)++news++cs.drop (len*i.size+news.length))) (k n (ey tm d (.pj b (len+w8) lo)) (cy bl b (cs.take (len*i.size)++news++cs.drop (len*i.size+news.length),ty))) .stuck
     |none=> .stuck
    |_=> .stuck
   |none=> .stuck
  |_,_=> .stuck
 |_,_=> .stuck
def kC (sh:List av):Bool:=bp sh.length 100&&ck 0 sh.length&&sh.all λc=>match c with
 | .int _ lo hi=>decide (-0x10000000000000000<=lo)&&decide (hi<=0x10000000000000000)
 |_=>true
def y7 (e:bf):M U:=λn k=> .ind n e (k (.var n) (n+1))
def Ia (c:av) (a:A):M U:=
 match c,a with
 | .int k lo hi,.int k' x=>cond (decide (k=k')&&decide (lo<=x.lo)&&decide (x.hi<=hi)) (pure x.l) fail
 | .str,.str l=>pure l
 | .bool,.bool e=>match e with
  | .lit v=>pure (.const (cond v 1 0))
  |e=>y7 e
 | .nil,.con (.slice none 0 0)=>pure (.const 0)
 |_,_=>fail
def Gl:List av->List A->M (List U)
 |[],[]=>pure []
 |c::sh,a::r=>bind (Ia c a) λl=>bind (Gl sh r) λls=>pure (l::ls)
 |_,_=>fail
noncomputable def x7 (sh:List av):List (List A)->U->M U
 |[],c=>pure c
 |row::rs,c=>bind (Gl sh row) λls=>bind (ev 23 (c::ls) 0 bV) λc'=>x7 sh rs c'
def FB (bl:List aj):A->List aj
 | .sl b _ _ _ _ _=>match bl[b]? with
  |some ([.rows sh off code cap 2],t)=>cy bl b ([.rows sh off code cap 1],t)
  |_=>bl
 |_=>bl
def xa (bl:List aj):List A->List aj
 |[]=>bl
 |a::r=>xa (FB bl a) r
def Au (cap cO:U):M Unit:=cond (U.beq cap cO) (pure ()) (eP 40 [cap,cO])
noncomputable def M7 (bl:List aj) (c:av) (a:A):M U:=
 match c with
 | .sub k=>match a with
  | .sl b aL o ro len cap=>match bl[b]? with
   |some ([.rows sh off code cO kind],_)=>cond (aA kind 1&&jc sh (my k)&&U.beq o off&&aA aL sh.length) (bind (eP 22 [code,ro,ro.add len]) λ_=>bind (eP 79 [len,.const 0x7ffffffff000]) λ_=>bind (Au cap cO) λ_=>ev 22 [code,ro,ro.add len] 0 sF) fail
   |_=>fail
  | .con (.slice none 0 0)=>pure (.const 0)
  | .slc _ _ 0 0=>pure (.const 0)
  |_=>fail
 |c=>Ia c a
noncomputable def Gm (bl:List aj):List av->List A->M (List U)
 |[],[]=>pure []
 |c::sh,a::r=>bind (M7 bl c a) λl=>bind (Gm bl sh r) λls=>pure (l::ls)
 |_,_=>fail
noncomputable def HS (bl:List aj) (sh:List av):List (List A)->U->M U
 |[],c=>pure c
 |row::rs,c=>bind (Gm bl sh row) λls=>bind (ev 23 (c::ls) 0 bV) λc'=>HS bl sh rs c'
def k6 (w:Nat):Nat->List A->List (List A)
 |0,_=>[]
 |k+1,l=>l.take w::k6 w k (l.drop w)
noncomputable def K7 (P:bk) (mZ:aR) (sh:List av) (bl:List aj) (x:V) (base:U):M (U×U):=
 match x with
 | .w (.one (.slc b off len _))=>match o6 bl b off (len*sh.length),h9 P mZ with
  |some cs,some _=>bind (eP 23 [base,.const len]) λ_=>bind (HS bl sh (k6 sh.length len cs) base) λc=>pure (c,.const len)
  |_,_=>fail
 | .w (.one (.sl b aL o ro len _))=>match bl[b]?,h9 P mZ with
  |some ([.rows cF off code cO kind],_),some _=>cond (ck 0 kind&&jc sh cF&&U.beq o off&&aA aL sh.length) (bind (eP 22 [code,ro,ro.add len]) λ_=>bind (eP 23 [base,len]) λ_=>bind (ev 22 [code,ro,ro.add len] 0 bV) λs=>bind (ev 24 [base,s] 0 bV) λc=>pure (c,len)) fail
  |_,_=>fail
 |_=>fail
def atN (bl:List aj):V->Option (List av)
 | .w (.one (.sl b _ _ _ _ _))=>match bl[b]? with
  |some ([.rows sh _ _ _ _],_)=>some sh
  |_=>none
 |_=>none
def Gu:List A->Option (List av)
 |[]=>some []
 | .int k _::r=>(Gu r).map (.int k k.min k.max::·)
 | .str _::r=>(Gu r).map (.str::·)
 | .bool _::r=>(Gu r).map (.bool::·)
 | .con (.slice none 0 0)::r=>(Gu r).map (.sub 1::·)
 |_=>none
def atO (bl:List aj) (s x:V) (z:List A):Option (List av):=match atN bl x with
 |some sh=>some sh
 |none=>match s,x with
  | .w (.one (.slc ..)),.w (.one (.slc ..))=>Gu z
  |_,_=>none
def Sw:V->Bool
 | .w (.one (.sl _ _ _ _ len cap))=>match len.dq,cap.dq with|some l,some c=>decide (l=0)&&decide (c=0)|_,_=>false
 | .w (.one (.slc _ _ len cap))=>aA len 0&&aA cap 0
 | .w (.one (.con (.slice none 0 0)))=>true
 |_=>false
noncomputable def DP (kd:Nat) (e:aR) (d:Option Tmp) (sh:List av) (code len:U) (n:Nat) (tm:List V) (bl:List aj) (k:fC):T:=.tO n (-2) 0x7fffffffffffffff (k (n+1) (ey tm d (.w (.one (.sl bl.length sh.length (.const 0) (.const 0) len (.var n))))) (bl++[([.rows sh (.const 0) code (.var n) kd],(e,false))]))
noncomputable def AS (e:aR) (d:Option Tmp) (sh:List av) (code len:U) (n:Nat) (tm:List V) (bl:List aj) (k:fC):T:=.tO n (-2) 0x7fffffffffffffff (k (n+1) (ey tm d (.w (.one (.sl bl.length sh.length (.const 0) (.const 0) len (.var n))))) (bl++[([.rows sh (.const 0) code (.var n) 2],(e,false))]))
noncomputable def Wh (P:bk) (mZ e:aR) (d:Option Tmp) (sh:List av) (s x:V) (n:Nat) (tm:List V) (bl:List aj) (k:fC):T:=
 K7 P mZ sh bl x (.const 0) n λp n'=>match p.2.dq with
  |some 0=>k n' (ey tm d s) bl
  |some _=>AS e d sh p.1 p.2 n' tm bl k
  |none=> .ux (.le p.2 (.const 0)) (k n' (ey tm d s) bl) (AS e d sh p.1 p.2 n' tm bl k)
def AQ (sh:List av) (i:TypeInfo) (z:List A):Bool:=kC sh&&aA i.size sh.length&&aA z.length sh.length&&bp i.bytes 131072
noncomputable def MN (P:bk) (d:Option Tmp) (t t':aR) (s x:V) (n:Nat) (tm:List V) (bl:List aj) (k:fC):Option T:=
 match h9 P t with
 |none=>none
 |some e=>match P.info? e,lT P e with
  |some i,some z=>match Sw s with
   |true=>match atO bl s x z with
    |some sh=>cond (AQ sh i z) (some (Wh P t' e d sh s x n tm bl k)) none
    |none=>none
   |false=>match s with
    | .w (.one (.sl b _ o ro len cap))=>match bl[b]? with
     |some ([.rows sh off code cO kind],bN)=>cond (AQ sh i z&&aA kind 2&&U.beq o (.const 0)&&U.beq off (.const 0)&&U.beq ro (.const 0)&&U.beq cap cO&&aA bN.1 e)
      (some (.oU 31 [code,len] (K7 P t' sh bl x code n λp n'=>AS e d sh p.1 (len.add p.2) n' tm (cy bl b ([.rows sh off code cO 0],bN)) k))) none
     |_=>none
    |_=>none
  |_,_=>none
def J0 (bl:List aj):V->List aj
 | .w (.one (.slc b _ _ _))=>match bl[b]? with
  |some (cs,_)=>xa bl cs
  |none=>bl
 |_=>bl
noncomputable def RS (P:bk) (o:Oper) (n:Nat) (tm:List V) (bl:List aj) (k:fC):Option T:=
 match o.op with
 | .call c=>match c.callee with
  | .builtin .append=>match c.args.toList,c.argTypes.toList with
   |[s,x],[t,t']=>MN P o.dst t t' (bK tm s) (bK tm x) n tm (J0 bl (bK tm x)) k
   |_,_=>none
  |_=>none
 |_=>none
def jC:List av:=[.int .u8 0 255]
def JI (fn:Func):Bool:=fn.name== "internal/bytealg.MakeNoZero" &&fn.body.isNone&&fn.origin== ""
noncomputable def Nb (code i:U):Nat->List av->Nat->List aj->(Nat->List A->List aj->T)->T
 |_,[],n,bl,k=>k n [] bl
 |j,c::r,n,bl,k=>match c with
  | .sub q=>ev 21 [code,i,.const j] 0 sF n λz n=> .nat n (.tO (n+1) (-2) 0x7fffffffffffffff (ev 20 [z] 0 0x7ffffffff000 (n+2) λlen n'=>
   Nb code i (j+1) r n' (bl++[([.rows (my q) (.var n) z (.var (n+1)) 1],(0,false))]) λn2 l gC=>k n2 (.sl bl.length (my q).length (.var n) (.const 0) len (.var (n+1))::l) gC))
  |c=>Du c code i j n λa n=>Nb code i (j+1) r n bl λn2 l gC=>k n2 (a::l) gC
noncomputable def aCJ (P:bk) (o:Oper) (n:Nat) (tm:List V) (bl:List aj) (k:fC):Option T:=
 match o.op with
 | .load t p=>match bK tm p with
  | .w (.one (.ep b aL cg i j))=>match bl[b]?,nE P t,eA P t with
   |some ([.rows sh off code cap kind],_),some rA,some s=>cond (ck 0 kind&&aA aL sh.length&&U.beq cg off&&bp (j+s) sh.length&& !(hZ ((sh.drop j).take s))&&(rA||aA s 1))
    (some (eP 21 [code,i] n λ_ n=>Nb code i j ((sh.drop j).take s) n bl λn l bl=>match rA,l with
      |true,l=>k n (ey tm o.dst (.w (.agg l))) bl
      |false,[a]=>k n (ey tm o.dst (.w (.one a))) bl
      |_,_=> .stuck)) none
   |_,_,_=>none
  |_=>none
 |_=>none
noncomputable def vw (P:bk) (o:Oper) (n:Nat) (tm:List V) (bl:List aj) (k:fC):Option T:=
 match o.op with
 | .store t p x=>match bK tm p,bK tm x with
  | .w (.one (.ep b aL cg i j)),.w u=>match(xa bl u.cells)[b]?,eA P t with
   |some ([.rows sh off code cap kind],bN),some s=>cond (bp 2 kind&&aA aL sh.length&&U.beq cg off&&aA u.cells.length s&&ck 0 s&&bp (j+s) sh.length&&kC sh)
    (some (eP 21 [code,i] n λ_ n=>Am 67 [code,i,.const sh.length] n λ_ n=>Gm (xa bl u.cells) ((sh.drop j).take s) u.cells n λls n=>ev 42 (code::i:: .const j::ls) 0 bV n λcode' n=>k n (ey tm o.dst (.e6 [])) (cy (xa bl u.cells) b ([.rows sh off code' cap kind],bN)))) none
   |_,_=>none
  |_,_=>none
 | .convert s d x=>match bK tm x with
  | .w (.one (.str l))=>match P.underlying s,h9 P d with
   |some .string,some e=>match P.underlying e with
    |some (.int .u8)=>some (ev 27 [l] 0 bV n λcode n=>ev 0 [l] 0 0x7fffffffffffffff n λlen n=>DP 3 e o.dst jC code len n tm bl k)
    |_=>none
   |_,_=>none
  |_=>none
 | .makeSlice t x y=>match h9 P t,mQ (bK tm x),mQ (bK tm y)with
  |some e,some j7,some jJ=>match P.info? e with
   |some i=>match i.zero with
    |some (.int .u8 z)=>cond (aA i.size 1&&bp i.bytes 1024&&decide (z=0)) (some (.oU 49 [j7,jJ] (ev 26 [j7,.const 0] 0 bV n λcode n=>DP 2 e o.dst jC code j7 n tm bl k))) none
    |_=>none
   |none=>none
  |_,_,_=>none
 | .call c=>match c.callee with
  | .value (.func f)=>match P.funcs[f]?,c.args.toList with
   |some fn,[x]=>match bK tm x,fn.resultTypes.toList with
    | .w (.one (.int .i64 y)),[t]=>match h9 P t with
     |some e=>match P.underlying e with
      |some (.int .u8)=>cond (JI fn) (some (.oU 26 [y.l] (.tO n 0 bV (.wg 31 [.var n,y.l] (.tO (n+1) 0 0x7fffffffffffffff (.wg 79 [y.l,.var (n+1)]
       (k (n+2) (ey tm o.dst (.w (.one (.sl bl.length 1 (.const 0) (.const 0) y.l (.var (n+1)))))) (bl++[([.rows jC (.const 0) (.var n) (.var (n+1)) 2],(e,false))]))))))))
       none
      |_=>none
     |none=>none
    |_,_=>none
   |_,_=>none
  |_=>none
 |_=>none
noncomputable def RT (P:bk) (o:Oper) (n:Nat) (tm:List V) (bl:List aj) (k:fC):Option T:=
 match o.op with
 | .call c=>match c.callee with
  | .builtin .copy=>match c.args.toList,c.argTypes.toList with
   |[x,y],[t,t']=>match bK tm x,bK tm y,h9 P t with
    | .w (.one (.sl b aL cg ro len cap)),.w (.one (.sl b2 RY mq fi iY Ds)),some e=>match bl[b]?,bl[b2]?,eA P e with
     |some ([.rows sh off code cO kind],bN),some ([.rows K2 Ki ff uy tp],_),some s=>cond (bp 2 kind&&ck 0 tp&&U.beq cg off&&U.beq mq Ki&&jc sh K2&&aA aL sh.length&&aA RY sh.length&&aA s sh.length&&kC sh&&hZ sh)
      (some (eP 80 [code,ro,len] n λ_ n=>eP 22 [ff,fi,fi.add iY] n λ_ n=>ev 62 [iY,len] 0 0x7fffffffffffffff n λq n=>ev 22 [ff,fi,fi.add q] 0 bV n λsrc n=>ev 63 [code,ro,src] 0 bV n λcode' n=>k n (ey tm o.dst (.w (.one (.int .i64 ⟨q,0,0x7fffffffffffffff⟩)))) (cy bl b ([.rows sh off code' cO kind],bN)))) none
     |_,_,_=>none
    | .w (.one (.sl ..)),.w (.one (.con (.slice none 0 0))),some e=>match eA P e with
     |some _=>some (k n (ey tm o.dst (.w (.one (.int .i64 ⟨.const 0,0,0⟩)))) bl)
     |none=>none
    |_,_,_=>none
   |_,_=>none
  |_=>none
 |_=>none
def Ng:V->Option (Nat×List A)
 | .mI f hh=>some (f,hh)
 | .w (.one (.con (.func (.func f) a b)))=>cond (aA a.size 0&&aA b.size 0) (some (f,[])) none
 |_=>none
noncomputable def RQ (P:bk) (gl:dA) (cal:ed) (inl:ij) (o:Oper) (n:Nat) (tm:List V) (bl:List aj) (k:fC):T:=
 match o.op with
 | .alloc t=>match lT P t with
  |some cs=>cond (bI cs) (k n (ey tm o.dst (.w (.one (.ptr bl.length 0)))) (bl++[(cs,(t,false))])) .stuck
  |none=> .stuck
 | .box t x=>match bK tm x with
  | .w u=>cond (bI u.cells) (k n (ey tm o.dst (.w (.one (.ptr bl.length 0)))) (bl++[(u.cells,(t,false))])) .stuck
  |_=> .stuck
 | .buildSlice t len parts=>match MX P t len (parts.toList.map λp=>(p.1,bK tm p.2))with
  |some (cs,e)=>cond (bI cs) (k n (ey tm o.dst (.w (.one (.slc bl.length 0 len len)))) (bl++[(cs,(e,false))])) .stuck
  |none=> .stuck
 | .store t p x=>match bK tm p,bK tm x with
  | .w (.one (.ptr b off)),.w u=>match bl[b]?,eA P t with
   |some (cs,bN),some s=>cond (aA u.cells.length s&&bp (off+s) cs.length&&ck 0 s&&bI cs&&bI (cs.take off++u.cells++cs.drop (off+s))) (k n (ey tm o.dst (.e6 [])) (cy bl b (cs.take off++u.cells++cs.drop (off+s),bN))) .stuck
   |_,_=> .stuck
  |_,_=> .stuck
 | .call c=>match c.callee with
  | .value (.func f)=>match cal f with
   |some _=>tG P cal gl bl tm o n λv n'=>k n' (ey tm o.dst v) bl
   |none=>inl f n (c.args.toList.map (bK tm)) bl λn' v aG=>k n' (ey tm o.dst v) aG
  | .value (.tmp x)=>match Iq cal bl tm o with
   |some _=>tG P cal gl bl tm o n λv n'=>k n' (ey tm o.dst v) bl
   |none=>match Ng (bK tm (.tmp x))with
   |some (f,hh)=>inl f n (c.args.toList.map (bK tm)++hh.map λy=>V.w (.one y)) bl λn' v aG=>k n' (ey tm o.dst v) aG
   |none=> .stuck
  |_=>tG P cal gl bl tm o n λv n'=>k n' (ey tm o.dst v) bl
 |_=>tG P cal gl bl tm o n λv n'=>k n' (ey tm o.dst v) bl
noncomputable def Gv (P:bk) (gl:dA) (cal:ed) (inl:ij) (o:Oper) (n:Nat) (tm:List V) (bl:List aj) (k:fC):T:=
 match RS P o n tm bl k with
 |some t=>t
 |none=>match vw P o n tm bl k with
  |some t=>t
  |none=>match RT P o n tm bl k with
   |some t=>t
   |none=>RQ P gl cal inl o n tm bl k
def qF:bf->Bool->Option (U×Option Int×Option Int)
 | .le p q,true=>match p.dq,q.dq with|some c,none=>some (q,some c,none)|none,some c=>some (p,none,some c)|_,_=>none
 | .le p q,false=>match p.dq,q.dq with|some c,none=>some (q,none,some (c-1))|none,some c=>some (p,some (c+1),none)|_,_=>none
 | .lt p q,true=>match p.dq,q.dq with|some c,none=>some (q,some (c+1),none)|none,some c=>some (p,none,some (c-1))|_,_=>none
 | .lt p q,false=>match p.dq,q.dq with|some c,none=>some (q,none,some c)|none,some c=>some (p,some c,none)|_,_=>none
 | .not b,v=>qF b (!v)
 |_,_=>none
def BQ (a:Int):Option Int->Int
 |some b=>cond (decide (a<=b)) b a
 |none=>a
def FE (a:Int):Option Int->Int
 |some b=>cond (decide (b<=a)) b a
 |none=>a
def Il (b:bf) (v:Bool) (r:Option (U×Option Int×Option Int)):V->V
 | .w (.one (.bool e))=> .w (.one (.bool (cond (bf.beq e b) (.lit v) e)))
 | .w (.one (.int k x))=>match r with
  |some (l,lo,hi)=> .w (.one (.int k (cond (U.beq x.l l) (cond (decide (BQ x.lo lo=FE x.hi hi)) (.const (BQ x.lo lo)) ⟨x.l,BQ x.lo lo,FE x.hi hi⟩) x)))
  |none=> .w (.one (.int k x))
 |u=>u
def qm (b:bf) (v:Bool) (l:List V):List V:=l.map (Il b v (qF b v))
def uH (ops:Array Oper) (tm:List V) (o:Oper) (yes no:List V->T):T:=
 match o.guard with
 |none=>yes tm
 |some (g,want)=>match(ops[g]?).bind (·.dst)with
  |none=> .stuck
  |some d=>match tm[d]? with
   |some (.w (.one (.bool b)))=>match b with
    | .lit v=>cond (v==want) (yes tm) (no tm)
    |b=> .ux b (cond want (yes (qm b true tm)) (no (qm b true tm))) (cond want (no (qm b false tm)) (yes (qm b false tm)))
   |some (.e6 [])=>no tm
   |_=> .stuck
noncomputable def BZ (P:bk) (gl:dA) (cal:ed) (inl:ij) (ops:Array Oper):List Oper->Nat->List V->List aj->fC->T
 |[],n,tm,bl,k=>k n tm bl
 |o::r,n,tm,bl,k=>uH ops tm o (λtm=>Gv P gl cal inl o n tm bl λn' bq aG=>BZ P gl cal inl ops r n' bq aG k) (λtm=>BZ P gl cal inl ops r n (ey tm o.dst (.e6 [])) bl k)
def HP (g:Nat->T):List Nat->T
 |[]=> .stuck
 |[i]=>g i
 |i::r=> .both (g i) (HP g r)
noncomputable def A3 (P:bk) (gl:dA) (cal:ed) (ops:Array Oper):List Oper->Nat->List V->List aj->(Nat->List V->T)->T
 |[],n,tm,bl,k=>k n tm
 |o::r,n,tm,bl,k=>cond (e7 o) (A3 P gl cal ops r n tm bl k) (uH ops tm o (λtm=>tG P cal gl bl tm o n λv n'=>A3 P gl cal ops r n' (ey tm o.dst v) bl k) (λtm=>A3 P gl cal ops r n (ey tm o.dst (.e6 [])) bl k))
def Da (P:bk):List Oper->Nat->List V->List aj->fC->T
 |[],n,tm,bl,k=>k n tm bl
 |o::r,n,tm,bl,k=>cond (e7 o) (match o.op with
  | .alloc t=>match lT P t with
   |some cs=>cond (bI cs) (Da P r n (ey tm o.dst (.w (.one (.ptr bl.length 0)))) (bl++[(cs,(t,false))]) k) .stuck
   |none=> .stuck
  |_=> .stuck) (Da P r n tm bl k)
def Lu (P:bk) (l:List Oper):Bool:=l.all λo=> !e7 o||(match o.op with| .alloc t=>(lT P t).isSome|_=>false)
def A4 (cal:ed) (dyn:Bool) (ops:Array Oper):List Tmp->List Oper->Nat
 |_,[]=>0
 |ds,o::r=>cond ((o.looksAt ops).any ds.contains) 0 <| cond (e7 o) (A4 cal dyn ops (match o.dst with|some d=>d::ds|none=>ds) r+1) <| cond (asv cal dyn o) (A4 cal dyn ops ds r+1) 0
def A5 (P:bk) (cal:ed) (ops:Array Oper):Nat:=cond (Cx ops (A4 cal false ops [] ops.toList)&&Lu P (ops.toList.take (A4 cal false ops [] ops.toList))) (A4 cal false ops [] ops.toList) (A4 cal true ops [] ops.toList)
def AL:Code->Option Nat
 | .region id _ _=>some id
 | .seq a b=>match AL a with|some i=>some i|none=>AL b
 | .block _ c| .loop c| .scope c=>AL c
 | .cond _ a b=>match AL a with|some i=>some i|none=>AL b
 |_=>none
def Nh:ax->ax->Bool
 | .pointer none,.pointer none=>true
 | .slice none 0 0,.slice none 0 0=>true
 | .func (.func f) a b,.func (.func k8) a' b'=>aA f k8&&aA a.size 0&&aA b.size 0&&aA a'.size 0&&aA b'.size 0
 |_,_=>false
def A.beq:A->A->Bool
 | .int k x,.int k' y=>decide (k=k')&&U.beq x.l y.l&&x.lo==y.lo&&x.hi==y.hi
 | .bool a,.bool b=>bf.beq a b
 | .con a,.con b=>Nh a b
 | .ptr b o,.ptr b' cg=>aA b b'&&aA o cg
 | .gptr b o,.gptr b' cg=>aA b b'&&aA o cg
 | .slc b o l c,.slc b' cg bJ c'=>aA b b'&&aA o cg&&aA l bJ&&aA c c'
 | .str a,.str b=>U.beq a b
 | .rows sh o c q k,.rows cF cg c' q' k'=>jc sh cF&&U.beq o cg&&U.beq c c'&&U.beq q q'&&aA k k'
 | .sl b z o r l c,.sl b' GK cg r' bJ c'=>aA b b'&&aA z GK&&U.beq o cg&&U.beq r r'&&U.beq l bJ&&U.beq c c'
 | .ep b z o i j,.ep b' GK cg y5 PL=>aA b b'&&aA z GK&&U.beq o cg&&U.beq i y5&&aA j PL
 |_,_=>false
def nh:List A->List A->Bool
 |[],[]=>true
 |a::r,b::s=>A.beq a b&&nh r s
 |_,_=>false
def V.beq:V->V->Bool
 | .w (.one a),.w (.one b)=>A.beq a b
 | .w (.agg l),.w (.agg bJ)=>nh l bJ
 | .e6 [],.e6 []=>true
 | .mI f l,.mI k8 bJ=>aA f k8&&nh l bJ
 |_,_=>false
def wq (i:Nat):List (Nat×Int×Int)->Option (Int×Int)
 |[]=>none
 |(j,lo,hi)::r=>cond (aA i j) (some (lo,hi)) (wq i r)
noncomputable def hs (eC:List Nat) (ints:List (Nat×Int×Int)):Nat->Nat->List V->Option (List V×List U×List (Int×Int))
 |_,_,[]=>some ([],[],[])
 |i,s,v::r=>cond (eC.any (aA i)) (match hs eC ints (i+1) s r with|some (t,l,b)=>some (v::t,l,b)|none=>none)
  (match wq i ints with
  |some (lo,hi)=>match v with
   | .w (.one (.int k x))=>cond (decide (lo<=x.lo)&&decide (x.hi<=hi)) (match hs eC ints (i+1) (s+1) r with|some (t,l,b)=>some (.w (.one (.int k ⟨.var s,lo,hi⟩))::t,x.l::l,(lo,hi)::b)|none=>none) none
   | .w (.one (.str x))=>(match hs eC ints (i+1) (s+1) r with|some (t,l,b)=>some (.w (.one (.str (.var s)))::t,x::l,(0,b8)::b)|none=>none)
   |_=>none
  |none=>match hs eC ints (i+1) s r with|some (t,l,b)=>some (.any::t,l,b)|none=>none)
noncomputable def jh (lo hi:Int) (s:Nat):A->Option (A×U×(Int×Int))
 | .int k x=>cond (decide (lo<=x.lo)&&decide (x.hi<=hi)) (some (.int k ⟨.var s,lo,hi⟩,x.l,(lo,hi))) none
 | .str x=>some (.str (.var s),x,(0,b8))
 | .rows sh off code cap k=>some (.rows sh off (.var s) cap k,code,(0,bV))
 |_=>none
noncomputable def ha (ints:List (Nat×Int×Int)):Nat->Nat->List A->Option (List A×List U×List (Int×Int))
 |_,_,[]=>some ([],[],[])
 |i,s,v::r=>match wq i ints with
  |some (lo,hi)=>match jh lo hi s v with
   |some (a,x,dG)=>match ha ints (i+1) (s+1) r with|some (t,l,b)=>some (a::t,x::l,dG::b)|none=>none
   |none=>none
  |none=>match ha ints (i+1) s r with|some (t,l,b)=>some (v::t,l,b)|none=>none
def cellsOf (b:Nat):List (Nat×Nat×Int×Int)->List (Nat×Int×Int)
 |[]=>[]
 |(b',c,q)::r=>cond (aA b b') ((c,q)::cellsOf b r) (cellsOf b r)
noncomputable def hb (cells:List (Nat×Nat×Int×Int)):Nat->Nat->List aj->Option (List aj×List U×List (Int×Int))
 |_,_,[]=>some ([],[],[])
 |i,s,(cs,ty)::r=>match ha (cellsOf i cells) 0 s cs with
  |some (c,l,b)=>match hb cells (i+1) (s+l.length) r with
   |some (t,bJ,b')=>some ((c,ty)::t,l++bJ,b++b')
   |none=>none
  |none=>none
def ld:List V->List V->Bool
 |[],[]=>true
 | .any::r,_::s=>ld r s
 |v::r,u::s=>V.beq v u&&ld r s
 |_,_=>false
def k9:List aj->List aj->Bool
 |[],[]=>true
 |(c,t)::r,(c',t')::s=>nh c c'&&aA t.1 t'.1&&(t.2==t'.2)&&k9 r s
 |_,_=>false
def dM:aj:=([.rows [] (.const 0) (.const 0) (.const 0) 0],(0,false))
def qT:List A->Bool
 |[.rows _ _ _ _ k]=>aA k 1
 |_=>false
def cL (N:Nat):Nat->List aj->List aj
 |_,[]=>[]
 |i,p::r=>cond (ck i N&&(bI p.1||qT p.1)) p dM::cL N (i+1) r
def yE (N:Nat) (tm:List V) (bl:List aj) (o:Oper):Bool:=match o.op with
 | .move _| .assign _| .extract _ _| .fieldAddr .. =>true
 | .load _ p=>match bK tm p with
  | .w (.one (.ptr b _))=>ck b N&&(match bl[b]? with|some p=>bI p.1|none=>false)
  |_=>false
 | .slice _ x _ _ _=>match bK tm x with| .w (.one (.sl ..))=>true|_=>false
 |_=>false
def asc:List A->Nat->Bool
 |[.rows sh _ _ _ _],j=>match sh[j]? with|some c=>c.plain|none=>false
 |_,_=>false
def Ef (N:Nat) (tm:List V) (bl:List aj) (o:Oper):Bool:=match o.op with
 | .binOp _ _ x y _=>match bK tm x,bK tm y with
  | .w (.one (.int ..)),.w (.one (.int ..))=>true
  | .w (.one (.str _)),.w (.one (.str _))=>true
  |_,_=>false
 | .indexAddr _ x _=>match bK tm x with| .w (.one (.sl ..))=>true| .w (.one (.ptr ..))=>true|_=>false
 | .slice _ x _ _ _=>match bK tm x with| .w (.one (.str _))=>true|_=>false
 | .load _ p=>match bK tm p with
  | .w (.one (.ep b _ _ _ j))=>ck b N&&(match bl[b]? with|some p=>qT p.1&&asc p.1 j|none=>false)
  |_=>false
 |_=>false
def nF (o:Oper):Bool:=match o.op with| .store .. =>true|_=>false
def Qh (o:Oper):Bool:=match o.op with| .move _| .assign _| .extract _ _| .fieldAddr .. | .load .. | .slice .. =>true|_=>false
def YS (o:Oper):Bool:=match o.op with| .call c=>(match c.callee with| .value _=>true|_=>false)|_=>false
def RJ (P:bk) (l:List Oper):Bool:=l.any λo=>match o.op with| .load t _=>(h9 P t).isSome|_=>false
def Qm (P:bk) (ops:Array Oper):Bool:=(ops.toList.any (λo=>nF o||YS o)&&bp 7 (ops.toList.filter λo=> !Qh o).length)||RJ P ops.toList
def Xv (P:bk) (N:Nat) (tm:List V) (bl:List aj) (ops:Array Oper) (listed:Array Bool):Option Nat:=
 cond (zU ops) ((kX .any ops listed).find? λi=>(match ops[i]? with|some o=>yE N tm bl o||(Qm P ops&&Ef N tm bl o)|none=>false)&&SH .any ops listed i) none
def ao1 (ops:Array Oper) (tm:List V) (o:Oper):Bool:=match o.guard with
 |some (g,want)=>match(ops[g]?).bind (·.dst)with
  |some d=>match tm[d]? with
   |some (.w (.one (.bool (.lit v))))=> !(v==want)
   |some (.e6 [])=>true
   |_=>false
  |none=>false
 |none=>false
def Z3 (tm:List V) (ops:Array Oper) (listed:Array Bool):Option Nat:=
 cond (zU ops) ((kX .any ops listed).find? λi=>(match ops[i]? with|some o=>ao1 ops tm o|none=>false)&&SH .any ops listed i) none
def preB:List aj->List aj->Bool
 |(c,t)::r,(c',t')::s=>nh c c'&&aA t.1 t'.1&&(t.2==t'.2)&&preB r s
 |[],_=>true
 |_,_=>false
noncomputable def um (P:bk) (gl:dA) (cal:ed) (inl:ij) (ops:Array Oper) (N:Nat) (qD:List aj):Nat->Array Bool->Nat->List V->List aj->fC->T
 |0,listed,n,tm,bl,k=>match kX .any ops listed with
  |[]=>k n tm bl
  |_=> .stuck
 |f+1,listed,n,tm,bl,k=>match kX .any ops listed with
  |[]=>k n tm bl
  |l=>match Xv P N tm bl ops listed with
   |some i=>match ops[i]? with
    |none=> .stuck
    |some o=>uH ops tm o (λtm=>tG P cal gl (cL N 0 bl) tm o n λv n'=>um P gl cal inl ops N qD f (listed.setIfInBounds i true) n' (ey tm o.dst v) bl k) (λtm=>um P gl cal inl ops N qD f (listed.setIfInBounds i true) n (ey tm o.dst (.e6 [])) bl k)
   |none=>match Z3 tm ops listed with
    |some i=>match ops[i]? with
     |none=> .stuck
     |some o=>uH ops tm o (λ_=> .stuck) (λtm=>um P gl cal inl ops N qD f (listed.setIfInBounds i true) n (ey tm o.dst (.e6 [])) bl k)
    |none=>HP (λi=>match ops[i]? with
    |none=> .stuck
    |some o=>uH ops tm o (λtm=>Gv P gl cal inl o n tm bl λn' bq aG=>cond (preB qD (cL N 0 aG)) (um P gl cal inl ops N qD f (listed.setIfInBounds i true) n' bq aG k) .stuck) (λtm=>um P gl cal inl ops N qD f (listed.setIfInBounds i true) n (ey tm o.dst (.e6 [])) bl k)) l
def K8 (ops:Array Oper) (k:Nat):Bool:=match ops[k]? with|some o=>nF o|none=>false
def ky (ops:Array Oper) (L:Array Bool):Bool:=(cD ops.size).all λk=> !(K8 ops k&&L.getD k true)
def Se (ops:Array Oper) (i:Nat):Bool:=ops.toList.all λo=> !(nF o)||o.after.toList.any λe=>ri .any e&&aA e.on i
def Zf (ops:Array Oper):Bool:=ops.toList.any YS&&ops.toList.any nF&&(cD ops.size).all λk=>match ops[k]? with
 |some o=>match o.op with
  | .load .. =>Se ops k
  |_=>true
 |none=>true
def B4 (P:bk) (o:Oper):Bool:=match o.op with
 | .move _| .assign _| .extract _ _=>true
 | .fieldAddr s _ i=>match P.underlying s with
  |some (.struct dK)=>match dK[i]? with
   |some f=>match eA P f.type with
    |some k=>ck 0 k
    |none=>false
   |none=>false
  |_=>false
 |_=>false
def Xw (P:bk) (N:Nat) (tm:List V) (bl:List aj) (ops:Array Oper) (listed:Array Bool):Option Nat:=
 cond (zU ops) ((kX .any ops listed).find? λi=>(match ops[i]? with|some o=>B4 P o||(ky ops listed&&(yE N tm bl o||Ef N tm bl o)&& !(nF o)&&Se ops i)|none=>false)&&SH .any ops listed i) none
noncomputable def wa (P:bk) (gl:dA) (cal:ed) (inl:ij) (ops:Array Oper) (N:Nat) (qD:List aj):Nat->Array Bool->Nat->List V->List aj->fC->T
 |0,listed,n,tm,bl,k=>match kX .any ops listed with
  |[]=>k n tm bl
  |_=> .stuck
 |f+1,listed,n,tm,bl,k=>match kX .any ops listed with
  |[]=>k n tm bl
  |l=>match Xw P N tm bl ops listed with
   |some i=>match ops[i]? with
    |none=> .stuck
    |some o=>uH ops tm o (λtm=>tG P cal gl (cL N 0 bl) tm o n λv n'=>wa P gl cal inl ops N qD f (listed.setIfInBounds i true) n' (ey tm o.dst v) bl k) (λtm=>wa P gl cal inl ops N qD f (listed.setIfInBounds i true) n (ey tm o.dst (.e6 [])) bl k)
   |none=>HP (λi=>match ops[i]? with
    |none=> .stuck
    |some o=>uH ops tm o (λtm=>Gv P gl cal inl o n tm bl λn' bq aG=>cond (!(ky ops (listed.setIfInBounds i true))||preB qD (cL N 0 aG)) (wa P gl cal inl ops N qD f (listed.setIfInBounds i true) n' bq aG k) .stuck) (λtm=>wa P gl cal inl ops N qD f (listed.setIfInBounds i true) n (ey tm o.dst (.e6 [])) bl k)) l
def aeR (ops:List Oper) (tm:List V) (p:lX):Nat:=match p with
 | .tmp d=>match ops.find? λo=>o.dst==some d with
  |some o=>match o.op with
   | .fieldAddr _ x _=>match bK tm x with| .w (.one (.ptr b _))=>b|_=>0
   |_=>0
  |none=>match bK tm p with| .w (.one (.ptr b _))=>b|_=>0
 |_=>0
def Ut (ops:List Oper) (tm:List V):List Oper->Nat->Nat
 |[],N=>N
 |o::r,N=>Ut ops tm r (match o.op with| .store _ p _=>min N (aeR ops tm p)|_=>N)
def Ee (P:bk) (ops:Array Oper) (tm:List V) (bl:List aj):Nat:=cond (Qm P ops) (min bl.length (Ut ops.toList tm ops.toList bl.length)) (cond (ops.toList.any nF) 0 bl.length)
def Q9 (body:Nat->List V->List aj->nc->T):Nat->Nat->List V->List aj->nc->T
 |0,_,_,_,_=> .stuck
 |r+1,n,tm,bl,k=>body n tm bl λx n' bq aG=>match x with
  | .normal=>Q9 body r n' bq aG k
  |x=>k x n' bq aG
def sJ (lo:Nat):List (Nat×List av×aR)->List V->List aj->List Nat->Option (List U×List Nat)
 |[],_,_,used=>some ([],used)
 |(s,sh,e)::r,tm,bl,used=>match tm[s]? with
  |some (.w (.one (.con (.slice none 0 0))))=>match sJ lo r tm bl used with
   |some (l,u)=>some (.const 0:: .const 0:: .const (-1)::l,u)
   |none=>none
  |some (.w (.one (.sl b aL o ro len cap)))=>match bl[b]? with
   |some ([.rows cF off code cO kind],t)=>cond (jc sh cF&&aA kind 2&&U.beq o (.const 0)&&U.beq off (.const 0)&&U.beq ro (.const 0)&&U.beq cap cO&&aA t.1 e&&aA aL sh.length&&bp lo b&& !(used.any (aA b)))
    (match sJ lo r tm bl (b::used)with
    |some (l,u)=>some (code::len::cap::l,u)
    |none=>none) none
   |_=>none
  |_=>none
def ll:List Nat->List aj->List aj
 |[],bl=>bl
 |b::r,bl=>match bl[b]? with
  |some ([.rows sh off code cap _],t)=>ll r (cy bl b ([.rows sh off code cap 0],t))
  |_=>ll r bl
def ym:List (Nat×Int×Int)->List V->M (List V)
 |[],tm=>pure tm
 |(s,lo,hi)::r,tm=>match tm[s]? with
  |some (.w (.one (.int k x)))=>cond (decide (lo<=x.lo)&&decide (x.hi<=hi)) (ym r tm) (bind (eP 39 [x.l,.const lo,.const hi]) λ_=>ym r (oz tm s (.w (.one (.int k ⟨x.l,lo,hi⟩)))))
  |_=>ym r tm
def Dm (tm:List V):List Nat->M (List U)
 |[]=>pure []
 |s::r=>match tm[s]? with
  |some (.w (.one (.bool e)))=>bind (match e with| .lit v=>pure (.const (cond v 1 0))|e=>y7 e) λl=>bind (Dm tm r) λls=>pure (l::ls)
  |_=>fail
def o5:List Nat->Nat->List V->List V
 |[],_,tm=>tm
 |s::r,v,tm=>o5 r (v+1) (oz tm s (.w (.one (.bool (.eq (.var v) (.const 1))))))
def p6:List (Nat×List av×aR)->Nat->List V->List aj->List V×List aj
 |[],_,tm,bl=>(tm,bl)
 |(s,sh,e)::r,v,tm,bl=>p6 r (v+3) (oz tm s (.w (.one (.sl bl.length sh.length (.const 0) (.const 0) (.var (v+1)) (.var (v+2)))))) (bl++[([.rows sh (.const 0) (.var v) (.var (v+2)) 2],(e,false))])
def H4 (l:List Nat):List (Int×Int):=l.map λ_=>(0,1)
noncomputable def x4 (l:List (Nat×List av×aR)):List (Int×Int):=l.flatMap λ_=>[(0,bV),(0,0x7fffffffffffffff),(-2,0x7fffffffffffffff)]
noncomputable def Gr:List (Nat×List av×Nat)->List aj->M (List aj)
 |[],bl=>pure bl
 |(b,sh,c)::r,bl=>match bl[b]? with
  |some (C,t)=>cond (bI C) (cond (!t.2&&aA C.length (c*sh.length)&&kC sh&&bp c 1000000&&hZ sh) (bind (x7 sh (k6 sh.length c C) (.const 0)) λcode=>Gr r (cy bl b ([.rows sh (.const 0) code (.const c) 2],t))) fail) (Gr r bl)
  |none=>fail
def zb:List (Nat×List av)->List V->List aj->List aj
 |[],_,bl=>bl
 |(s,_)::r,tm,bl=>match tm[s]? with
  |some (.w (.one a))=>zb r tm (FB bl a)
  |_=>zb r tm bl
def xn:List (Nat×List av)->List V->List aj->Option (List U)
 |[],_,_=>some []
 |(s,sh)::r,tm,bl=>match tm[s]? with
  |some (.w (.one (.con (.slice none 0 0))))=>match xn r tm bl with
   |some l=>some (.const 0:: .const 0:: .const (-1)::l)
   |none=>none
  |some (.w (.one (.slc _ _ 0 0)))=>match xn r tm bl with
   |some l=>some (.const 0:: .const 0:: .const (-2)::l)
   |none=>none
  |some (.w (.one (.sl b aL o ro len cap)))=>match bl[b]? with
   |some ([.rows cF off code cO kind],t)=>cond (jc sh cF&&aA kind 1&&U.beq o off&&U.beq ro (.const 0)&&U.beq cap cO&&aA aL sh.length)
    (match xn r tm bl with
    |some l=>some (code::len::cap::l)
    |none=>none) none
   |_=>none
  |_=>none
def Kd:Nat->M Unit
 |0=>pure ()
 |k+1=>λn Ab=> .nat n (Kd k (n+1) Ab)
def headD:List (Nat×List av)->Nat->Nat->List V->List aj->List V×List aj
 |[],_,_,tm,bl=>(tm,bl)
 |(s,sh)::r,v,u,tm,bl=>headD r (v+3) (u+1) (oz tm s (.w (.one (.sl bl.length sh.length (.var u) (.const 0) (.var (v+1)) (.var (v+2)))))) (bl++[([.rows sh (.var u) (.var v) (.var (v+2)) 1],(0,false))])
noncomputable def xm (l:List (Nat×List av)):List (Int×Int):=l.flatMap λ_=>[(0,bV),(0,0x7fffffffffffffff),(-2,0x7fffffffffffffff)]
noncomputable def xo:List (Nat×List av)->Nat->List V->List aj->(Nat->List V->List aj->T)->T
 |[],n,tm,bl,k=>k n tm bl
 |(s,sh)::r,n,tm,bl,k=>match tm[s]? with
  |some (.w (.one (.sl b aL o ro len cap)))=>match bl[b]? with
   |some ([.rows cF off code cO kind],_)=>cond (jc sh cF&&aA kind 1&&U.beq o off&&aA aL sh.length&& !(U.beq ro (.const 0)&&U.beq cap cO))
    (.oU 22 [code,ro,ro.add len] (.oU 40 [cap,cO] (.fn n 22 [code,ro,ro.add len] 0 bV
      (xo r (n+1) (oz tm s (.w (.one (.sl bl.length aL (o.add (ro.smul aL)) (.const 0) len cap)))) (bl++[([.rows sh (o.add (ro.smul aL)) (.var n) cap 1],(0,false))]) k))))
    (xo r n tm bl k)
   |_=>xo r n tm bl k
  |_=>xo r n tm bl k
noncomputable def Qg (li:dc) (body:Nat->List V->List aj->nc->T) (n:Nat) (tm:List V) (bl:List aj) (k:nc):T:=
 Gr li.Ci bl n λbl n=>ym li.ints tm n λtm n=>Dm tm li.oT n λlb n=>match hs li.eC li.ints 0 (n+1) tm,sJ 0 li.nW tm bl [],xn li.iL tm bl with
 |some (kD,l1,b1),some (la,us),some iJ=>match hb li.cells 0 (n+1+l1.length) (ll us bl)with
  |none=> .stuck
  |some (dp,l2,b2)=>cond (!(ld kD kD&&k9 dp dp)) .stuck <| .loop n (l1++l2++(lb++la++iJ)) (n+1) (b1++b2++(H4 li.oT++x4 li.nW++xm li.iL))
   (Kd li.iL.length (n+1+l1.length+l2.length+(lb++la++iJ).length) λ_ N=>
   let d:=headD li.iL (n+1+l1.length+l2.length+(lb++la).length) (n+1+l1.length+l2.length+(lb++la++iJ).length) (o5 li.oT (n+1+l1.length+l2.length) kD) dp;let e:=p6 li.nW (n+1+l1.length+l2.length+lb.length) d.1 d.2
   body N e.1 e.2 λx n' bq aG=>match x with
   | .normal=>xo li.iL n' bq (zb li.iL bq aG) λn' bq aG=>ym li.ints bq n' λbq n'=>Dm bq li.oT n' λZg n'=>match hs li.eC li.ints 0 (n+1) bq,sJ bl.length li.nW bq aG [],xn li.iL bq aG with
    |some (vx,v1,_),some (P2,_),some Zz=>match hb li.cells 0 (n+1+v1.length) (aG.take bl.length)with
     |none=> .stuck
     |some (mF,v2,_)=>cond (ld kD vx&&k9 dp mF) (.again n (v1++v2++(Zg++P2++Zz))) .stuck
    |_,_,_=> .stuck
   |x=>k x n' bq aG)
 |_,_,_=> .stuck
noncomputable def Qf (li:dc) (body:Nat->List V->List aj->nc->T) (n:Nat) (tm:List V) (bl:List aj) (k:nc):T:=xo li.iL n tm (zb li.iL tm bl) λn tm bl=>Qg li body n tm bl k
def aaI (tm:List V) (b:Nat):Nat:=cond (bp 1000 b) (match tm[b-1000]? with|some (.w (.one (.ptr g _)))=>g|_=>b) b
def at3 (l:dc) (tm:List V):dc:={l with cells:=l.cells.map λc=>(aaI tm c.1,c.2),Ci:=l.Ci.map λc=>(aaI tm c.1,c.2)}
noncomputable def k7 (P:bk) (gl:dA) (cal:ed) (inl:ij) (li:Nat->Option dc) (rounds:Nat):Code->Nat->List V->List aj->nc->T
 | .skip,n,tm,bl,k=>k .normal n tm bl
 | .region _ ops draw,n,tm,bl,k=>cond draw
  (let h:=A5 P cal ops
   cond (Cx ops h&&Lu P (ops.toList.take h)&& !RJ P (ops.toList.take h)) (A3 P gl cal ops (ops.toList.take h) n tm bl λn' bq=>Da P (ops.toList.take h) n' bq bl λn' bq aG=>BZ P gl cal inl ops (ops.toList.drop h) n' bq aG (k .normal)) (cond (Zf ops) (wa P gl cal inl ops bl.length (cL bl.length 0 bl) ops.size (sz ops.size false) n tm bl (k .normal)) (cond (bp (ops.toList.filter λo=> !Qh o).length 24) (um P gl cal inl ops (Ee P ops tm bl) (cL (Ee P ops tm bl) 0 bl) ops.size (sz ops.size false) n tm bl (k .normal)) .stuck)))
  (BZ P gl cal inl ops ops.toList n tm bl (k .normal))
 | .seq a b,n,tm,bl,k=>k7 P gl cal inl li rounds a n tm bl λx n' bq aG=>match x with
  | .normal=>k7 P gl cal inl li rounds b n' bq aG k
  |x=>k x n' bq aG
 | .cond c a b,n,tm,bl,k=>match bK tm c with
  | .w (.one (.bool e))=>match e with
   | .lit v=>cond v (k7 P gl cal inl li rounds a n tm bl k) (k7 P gl cal inl li rounds b n tm bl k)
   |e=> .ux e (k7 P gl cal inl li rounds a n (qm e true tm) bl k) (k7 P gl cal inl li rounds b n (qm e false tm) bl k)
  |_=> .stuck
 | .block id c,n,tm,bl,k=>k7 P gl cal inl li rounds c n tm bl λx n' bq aG=>match x with
  | .exit wT=>cond (aA wT id) (k .normal n' bq aG) (k (.exit wT) n' bq aG)
  |x=>k x n' bq aG
 | .loop c,n,tm,bl,k=>match(AL c).bind li with
  |some l=>Qf (at3 l tm) (λn tm bl k=>k7 P gl cal inl li rounds c n tm bl k) n tm bl k
  |none=>Q9 (λn tm bl k=>k7 P gl cal inl li rounds c n tm bl k) rounds n tm bl k
 | .exit id,n,tm,bl,k=>k (.exit id) n tm bl
 | .ret,n,tm,bl,k=>k .ret n tm bl
 |_,_,_,_,_=> .stuck
def Gj (P:bk) (gl:dA) (bl:List aj) (tm:List V):ResultVar->Option W
 | .tmp t=>match tm[t]? with|some (.w u)=>some u|_=>none
 | .cell a t=>match tm[a]? with
  |some (.w (.one p))=>match Ax bl gl p,nE P t,eA P t with
   |some cs,some true,some k=>cond (bp k cs.length) (some (.agg (cs.take k))) none
   |some (x::_),some false,_=>some (.one x)
   |_,_,_=>none
  |_=>none
def zv (P:bk) (gl:dA) (bl:List aj) (tm:List V):List ResultVar->Option (List W)
 |[]=>some []
 |r::s=>match Gj P gl bl tm r,zv P gl bl tm s with|some u,some l=>some (u::l)|_,_=>none
def QA (tm:List V):List ResultVar->Option V
 |[.tmp t]=>match tm[t]? with
  |some (.mI f c)=>some (.mI f c)
  |some (.pj b l lo)=>some (.pj b l lo)
  |_=>none
 |_=>none
def Gh (P:bk) (gl:dA) (fn:Func) (n:Nat) (tm:List V) (bl:List aj) (k:RK):T:=
 match zv P gl bl tm fn.results.toList with
 |some [u]=>k n (.w u) bl
 |some l=>k n (.e6 l) bl
 |none=>match QA tm fn.results.toList with
  |some v=>k n v bl
  |none=> .stuck
def Cd:Nat->List V
 |0=>[]
 |n+1=> .e6 []::Cd n
noncomputable def H2 (P:bk) (gl:dA) (cal:ed) (inl:ij) (li:cB->Nat->Option dc) (rounds:Nat):ij:=
 λf n vs bl k=>match P.funcs[f]? with
  |none=> .stuck
  |some fn=>match fn.body with
   |none=> .stuck
   |some c=>cond (!(fn.name== "runtime.NumGoroutine")&&bp vs.length fn.ntmps) (k7 P gl cal inl (li f) rounds c n (vs++Cd (fn.ntmps-vs.length)) bl λx n' bq aG=>match x with
    | .exit _=> .stuck
    |_=>Gh P gl fn n' bq aG k) .stuck
noncomputable def H9 (P:bk) (gl:dA) (cal:ed) (li:cB->Nat->Option dc) (rounds:Nat):Nat->ij
 |0=>λ_ _ _ _ _=> .stuck
 |d+1=>H2 P gl cal (H9 P gl cal li rounds d) li rounds
abbrev ig:=cB->Option (Nat->List V->List aj->RK->T)
noncomputable def QB (bc:ig) (inl:ij):ij:=λf n vs bl k=>match bc f with
 |some g=>g n vs bl k
 |none=>inl f n vs bl k
noncomputable def yf (bc:ig) (P:bk) (gl:dA) (cal:ed) (li:cB->Nat->Option dc) (rounds:Nat):Nat->ij
 |0=>λ_ _ _ _ _=> .stuck
 |d+1=>H2 P gl cal (QB bc (yf bc P gl cal li rounds d)) li rounds
end Go.aW
