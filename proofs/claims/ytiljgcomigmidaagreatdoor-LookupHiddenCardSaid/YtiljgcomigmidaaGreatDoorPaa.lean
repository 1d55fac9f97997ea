/- Texts as numbers. -/
import GoSem.ClaimData
import GoSem.Op.String
import Derived.WalkKit
import Derived.Laws.StructEq
import Derived.ChangeKeysEq
import Derived.Laws.Tables
import Derived.Laws.Strings2
import Derived.Laws.Concat
import Derived.Laws.Cover1
import Derived.Laws.Cover3
import Derived.Laws.BytesArg
import Derived.StillTail
import Derived.OrdersHeld
import Derived.Laws.CopyRow
import Derived.Deep.LoopGhost
open Array renaming toArray_toList->lU,replicate->rN,getElem?_eq_none->uV,toList_map->u1,eq_empty_of_size_eq_zero->u3,getElem?_toList->Ga,getElem?_setIfInBounds_ne->auH,ext_getElem?->auN
open BitVec renaming ofInt->o4,toNat_ofInt->Kn
open Bool renaming and_eq_true->aO,not_eq_true'->fX,not_eq_false'->mw,or_eq_true->ow,false_eq_true->pL,false_or->ta,true_and->wF,not_true->F8
open ByteArray renaming size->az9,empty->aAu
open Classical renaming choose_spec->Rj,choose->aal,byContradiction->aaI
open Function renaming comp->Kg
open Go renaming World->ai,Value->az,TypeId->aQ,Program->bj,FuncId->cz,IntKind->dj,run_underlying->fe,Operand->lW,getD_both->ze,run_loadCells_list->Gd
open Go.Act renaming put->Ct
open Go.Builtin renaming len_->Gi,min_->Rx
open Go.ByteArray renaming toList_mk->az8,mk_append_mk->aAa,getElem?_lt'->aAb,extract_mk->aAc
open Go.Deferred renaming ofValue->aaF
open Go.Instr renaming sliceBounds->jo,sureAddr->lV,sliceAt->nK,loadAt->oA,indexAt->te,fieldAt->Cp,sliceBound->Gj,slice->Kr,extract->Rn,index->Rs,fill->aaE
open Go.IntKind renaming max->hO,signed->Gg,bits->aaA,wrap->auz
open Go.Next renaming value->kO
open Go.Next.value renaming injEq->auO
open Go.Op renaming bytesLess->dy
open Go.Oper renaming wp->m6
open Go.Region renaming ready->kP,binds->qy,wanted->tk,waitsFor->u2,noSelect->y8,waitsFor_spec->zc,free->Ro,Mode->aaH,chainB->auK,seqB->auL
open Go.Result renaming andThen_ok->gy,andThen->auP
open Go.Result.ok renaming injEq->aau
open Go.Sem renaming run_bind->gm,run_pure->hS
open Go.Utf8 renaming encode->Kq
open Go.Value.pointer renaming injEq->azW
open Go.World renaming cell?->jI
open Go.World.Extends renaming refl->m4
open Int renaming le_refl->bB,toNat_natCast->eW,lt_or_le->hQ,le_trans->pJ,natCast_nonneg->rS,eq_ofNat_of_zero_le->td,le_of_lt->uY,emod_eq_of_lt->wI,mul_comm->wJ,mul_le_mul_of_nonneg_left->za,dvd_of_emod_eq_zero->Rq,emod_nonneg->aax,emod_lt_of_pos->aay,mul_ediv_add_emod->aaz,mul_le_mul->aaB,ofNat_sub->aaC,ediv_le_ediv->auy,mul_emod_right->auD,ediv_nonneg->auF,fdiv_eq_ediv_of_nonneg->auG,ofNat_toNat->auU
open List renaming getD->aC,map_cons->cp,mem_cons_of_mem->cD,length_cons->cW,mem_of_getElem?->c0,range->c8,length_append->dn,map_nil->er,length_nil->eH,replicate->eX,map_congr_left->gI,append_assoc->gJ,getElem?_eq_getElem->hP,mem_of_mem_take->j1,length_map->j2,mem_cons->ks,map_map->kN,getElem?_cons_zero->m1,length_take->m5,mem_of_mem_drop->nL,getElem?_map->ox,getElem?_take->o0,flatMap_cons->qA,getElem?_append_left->rT,eq_nil_of_length_eq_zero->tl,getElem?_append_right->uW,getElem?_drop->wK,map_take->y6,map_drop->y7,mem_of_find?_eq_some->y9,map_id->F5,find?_some->Gb,getElem_mem->Gh,getElem?_toArray->Kp,countP_cons->auM
open List.cons renaming injEq->lp
open Nat renaming beq->aH,le_refl->aV,ble->bu,eq_of_beq_eq_true->bx,blt->bY,le_of_ble_eq_true->eh,le_trans->gk,zero_le->iF,le_succ->ku,add_zero->lq,log2->lT,lt_or_ge->mx,lt_succ_self->rU,succ_mul->rP,lt_of_lt_of_le->uX,add_mul->u5,min_eq_left->wH,pow_succ->y3,mul_comm->y4,zero_add->zb,two_pow_pos->Co,add_assoc->Cw,mul_one->Gf,div_div_eq_div_mul->Kk,pow_add->Ko,pow_le_pow_right->Ri,mul_div_cancel_left->aam,one_le_two_pow->aan,testBit_mul_two_pow->auA,div_add_mod->auB,lt_log2_self->auC,or_lt_two_pow->auE
open Option renaming getD_some->qx,isSome_none->rQ,map_some->tc,getD_none->Rt,map_none->aaG
open Option.some renaming injEq->aL,inj->gH
open Prod.mk renaming injEq->ct
open Pure renaming pure->Cq
open UInt8 renaming ofNat->kq
set_option linter.unusedVariables false
set_option linter.unusedSimpArgs false
namespace Go.ba
def ly:List UInt8->Nat
 |[]=>0
 |b::r=>(b.toNat+1)+257*ly r
def wm:Nat->Nat->List UInt8
 |0,_=>[]
 |f+1,n=>match n with
  |0=>[]
  |k+1=>kq (k% 257)::wm f ((k+1)/257)
theorem LZ (b:UInt8) (r:List UInt8):ly (b::r)=(b.toNat+1)+257*ly r:=rfl
theorem acE (b:UInt8) (r:List UInt8):ly (b::r)=(b.toNat+257*ly r)+1:=by rw[LZ];omega
theorem YW:∀(l:List UInt8) (f:Nat),l.length<=f->wm f (ly l)=l
 |[],0,_=>rfl
 |[],f+1,_=>rfl
 |b::r,0,h=>by simp at h
 |b::r,f+1,h=>by
  have hb:=b.toNat_lt;rw[acE];show kq ((b.toNat+257*ly r)% 257)::wm f ((b.toNat+257*ly r+1)/257)=b::r;have e1:(b.toNat+257*ly r)% 257=b.toNat:=by omega
  have e2:(b.toNat+257*ly r+1)/257=ly r:=by omega
  rw[e1,e2,YW r f (by simpa using h)];simp
theorem YX:∀(f n k:Nat),n<257^k->(wm f n).length<=k
 |0,_,_,_=>by simp[wm]
 |f+1,0,k,_=>by simp[wm]
 |f+1,n+1,0,h=>by simp at h
 |f+1,n+1,k+1,h=>by
  have:(n+1)/257<257^k:=by rw[Nat.div_lt_iff_lt_mul (by decide)];rw[y3]at h;exact h
  have ih:=YX f ((n+1)/257) k this;simp only[wm,cW];omega
theorem Tn:∀(l:List UInt8),ly l<257^l.length
 |[]=>by simp[ly]
 |b::r=>by
  have ih:=Tn r;have hb:=b.toNat_lt;unfold ly;rw[cW,y3];omega
theorem Tm:∀(l:List UInt8),l.length<=ly l
 |[]=>by simp
 |b::r=>by
  have ih:=Tm r;unfold ly;rw[cW];omega
theorem To:∀(l:List UInt8),0<l.length->2^(l.length-1)<=ly l
 |[b],_=>by rw[LZ];show 1<=_;omega
 |b::c::r,_=>by
  have ih:=To (c::r) (by simp);rw[LZ b];simp only[cW,Nat.add_sub_cancel]at ih⊢;rw[y3];omega
def U (z:Int):List UInt8:=wm (lT z.toNat+1) z.toNat
def cZ (l:List UInt8):Int:=ly l
theorem dZ (l:List UInt8):U (cZ l)=l:=by
 unfold U cZ;rw[eW];apply YW;by_cases h:l.length=0
 ·omega
 ·have h1:=To l (by omega);have h2:ly l≠0:=by have:=Tm l;omega
  have h3:=(Nat.le_log2 h2).2 h1;omega
theorem nR (l:List UInt8):0<=cZ l:=rS _
theorem aa9 (k:Nat):∃H:Int,(∀l:List UInt8,l.length<=k->cZ l<=H)/\∀z:Int,z<=H->(U z).length<=k:=by
 refine⟨(257^k:Nat)-1,λl h=>?_,λz h=>?_⟩
 ·have h1:=Tn l;have h2:257^l.length<=257^k:=Ri (by decide) h;unfold cZ;omega
 ·unfold U;apply YX;have:=Nat.pow_pos (n:=k) (show 0<257 by decide);omega
def eN:Nat:=140737488351232
theorem Lk:∃H:Int,(∀l:List UInt8,l.length<=eN->cZ l<=H)/\∀z:Int,z<=H->(U z).length<=eN:=aa9 eN
noncomputable def bp:Int:=aal Lk
theorem my {l:List UInt8} (h:l.length<=eN):cZ l<=bp:=(Rj Lk).1 l h
theorem rW {z:Int} (h:z<=bp):(U z).length<=eN:=(Rj Lk).2 z h
theorem fZ:0<=bp:=by have:=my (l:=[]) (by simp);exact this
def qf (l:List UInt8):List UInt8:=cond (bu l.length 1000000) l []
theorem ai5 (l:List UInt8):0<=cZ (qf l)/\cZ (qf l)<=bp:=by
 refine⟨nR _,my ?_⟩;unfold qf;cases h:bu l.length 1000000 with
 |true=>have:=eh h;simp only[cond_true];unfold eN;omega
 |false=>simp
def aG (l:List UInt8):ByteArray:=⟨l.toArray⟩
def tq (z:Int):Nat:=if 0<=z then 2*z.toNat else 2*(-z).toNat-1
def wz (n:Nat):Int:=if n% 2=0 then((n/2:Nat):Int)else-(((n+1)/2:Nat):Int)
theorem atz (z:Int):wz (tq z)=z:=by
 unfold tq wz;split
 ·rw[if_pos (by omega)];omega
 ·rw[if_neg (by omega)];omega
def lc:List Nat->Nat
 |[]=>0
 |x::r=>2^x*(2*lc r+1)
def nE:Nat->Nat->Nat
 |0,_=>0
 |f+1,n=>if n% 2=0 then nE f (n/2)+1 else 0
theorem ZA (k:Nat):∀(x f:Nat),x<f->nE f (2^x*(2*k+1))=x
 |0,f+1,_=>by
  unfold nE;rw[if_neg (by rw[Nat.pow_zero,Nat.one_mul];omega)]
 |x+1,f+1,h=>by
  unfold nE;have e:2^(x+1)*(2*k+1)=2*(2^x*(2*k+1)):=by rw[y3,y4 (2^x) 2,Nat.mul_assoc]
  rw[e,if_pos (by omega),aam _ (by decide),ZA k x f (by omega)]
def uv:Nat->Nat->List Nat
 |0,_=>[]
 |f+1,n=>if n=0 then []else nE n n::uv f (n/2^nE n n/2)
theorem ak1 (x:Nat):x<2^x:=Nat.lt_two_pow_self
theorem OZ:∀l:List Nat,l.length<=lc l
 |[]=>aV _
 |x::r=>by
  have ih:=OZ r;unfold lc;have h1:1<=2^x:=aan;have h2:2*lc r+1<=2^x*(2*lc r+1):=Nat.le_mul_of_pos_left _ h1;rw[cW];omega
theorem O1:∀(l:List Nat) (f:Nat),l.length<=f->uv f (lc l)=l
 |[],0,_=>rfl
 |[],f+1,_=>by simp[uv,lc]
 |x::r,0,h=>by simp at h
 |x::r,f+1,h=>by
  have h1:1<=2^x:=aan;have h2:2^x<=2^x*(2*lc r+1):=Nat.le_mul_of_pos_right _ (by omega);have h3:=ak1 x;have hz:lc (x::r)≠0:=by
   have hl:lc (x::r)=2^x*(2*lc r+1):=rfl;omega
  have ht:nE (lc (x::r)) (lc (x::r))=x:=by
   show nE (2^x*(2*lc r+1)) (2^x*(2*lc r+1))=x;exact ZA _ _ _ (by omega)
  unfold uv;rw[if_neg hz,ht];have e:lc (x::r)/2^x/2=lc r:=by
   have hl:lc (x::r)=2^x*(2*lc r+1):=rfl;rw[hl,aam _ (by omega)];omega
  rw[e,O1 r f (by simpa using h)]
theorem OY (X:Nat):∀k:Nat,∃B,∀l:List Nat,l.length<=k->(∀x∈l,x<=X)->lc l<=B
 |0=>⟨0,λl h _=>by
  have:l=[]:=List.length_eq_zero_iff.1 (by omega);subst this;exact aV _⟩
 |k+1=>by
  obtain⟨B,hB⟩:=OY X k;refine⟨2^X*(2*B+1),λl h hx=>?_⟩;cases l with
  |nil=>exact iF _
  |cons x r=>
   unfold lc;have h1:=hB r (by simpa using h) λy hy=>hx y (cD _ hy);exact Nat.mul_le_mul (Ri (by decide) (hx x (by simp))) (by omega)
def rc (l:List (List Int)):Int:=(lc (l.map λrow=>lc (row.map tq)):Nat)
def ab (z:Int):List (List Int):=(uv z.toNat z.toNat).map λn=>(uv n n).map wz
theorem ak7 (l:List Int):(l.map tq).map wz=l:=by
 rw[kN]
 conv=>rhs;rw[<-F5 l]
 exact gI λz _=>atz z
theorem du (l:List (List Int)):ab (rc l)=l:=by
 unfold ab rc;rw[eW,O1 _ _ (OZ _),kN]
 conv=>rhs;rw[<-F5 l]
 refine gI λrow _=>?_;simp only[Kg,id];rw[O1 _ _ (OZ _),ak7]
theorem fa (l:List (List Int)):0<=rc l:=rS _
theorem SE (X:Int) (bJ:0<=X):∃H:Int,∀l:List (List Int),l.length<=maxLen->(∀row∈l,row.length<=100/\∀z∈row,-X<=z/\z<=X)->rc l<=H:=by
 obtain⟨B,hB⟩:=OY (2*X.toNat) 100;obtain⟨C,hC⟩:=OY B maxLen;refine⟨(C:Nat),λl h hr=>?_⟩;unfold rc;have:=hC (l.map λrow=>lc (row.map tq)) (by simpa using h) λx hx=>by
  obtain⟨row,hrow,rfl⟩:=List.mem_map.1 hx;refine hB _ (by simpa using(hr row hrow).1) λy hy=>?_;obtain⟨z,hz,rfl⟩:=List.mem_map.1 hy;have h1:=(hr row hrow).2 z hz;unfold tq;split<;>omega
 omega
def P2 (row:List Int):Prop:=row.length<=100/\∀z∈row,-(18446744073709551616+bp)<=z/\z<=18446744073709551616+bp
theorem SA:∃H:Int,∀l:List (List Int),l.length<=maxLen->(∀row∈l,P2 row)->rc l<=H:=SE _ (by have:=fZ;omega)
noncomputable def rY:Int:=aal SA
theorem Sz {l:List (List Int)} (h:l.length<=maxLen) (hr:∀row∈l,P2 row):rc l<=rY:=Rj SA l h hr
theorem CD:0<=rY:=pJ (fa []) (Sz (l:=[]) (by simp) (by simp))
def P1 (row:List Int):Prop:=row.length<=100/\∀z∈row,-(18446744073709551616+bp+rY)<=z/\z<=18446744073709551616+bp+rY
theorem SD:∃H:Int,∀l:List (List Int),l.length<=maxLen->(∀row∈l,P1 row)->rc l<=H:=SE _ (by have:=fZ;have:=CD;omega)
noncomputable def cc:Int:=max (aal SD) rY
theorem oF {l:List (List Int)} (h:l.length<=maxLen) (hr:∀row∈l,P1 row):rc l<=cc:=pJ (Rj SD l h hr) (Int.le_max_left _ _)
inductive ay where
 |int (k:dj) (lo hi:Int)
 |str
 |bool
 |sub (k:Nat)
 |nil
def mo:Nat->List ay
 |0=>[.int .u8 0 255]
 |2=>[.int .i64 4 4,.int .i64 0 0,.str,.nil,.nil]
 |_=>[.str]
def ay.plain:ay->Bool
 | .sub _=>false
 |_=>true
def iP (sh:List ay):Bool:=sh.all ay.plain
def ay.beq:ay->ay->Bool
 |int k lo hi,int a6 Xg nn=>decide (k=a6)&&decide (lo=Xg)&&decide (hi=nn)
 |str,str=>true
 |bool,bool=>true
 |sub k,sub a6=>aH k a6
 |nil,nil=>true
 |_,_=>false
theorem ay.beq_eq:∀{a b:ay},ay.beq a b=true->a=b
 |int k lo hi,int a6 Xg nn,h=>by
  simp only[ay.beq,aO,decide_eq_true_eq]at h;rw[h.1.1,h.1.2,h.2]
 |str,str,_=>rfl
 |bool,bool,_=>rfl
 |int ..,str,h=>by cases h
 |int ..,bool,h=>by cases h
 |str,int ..,h=>by cases h
 |str,bool,h=>by cases h
 |bool,int ..,h=>by cases h
 |bool,str,h=>by cases h
 |sub _,sub _,h=>by rw[bx h]
 |int ..,sub _,h=>by cases h
 |str,sub _,h=>by cases h
 |bool,sub _,h=>by cases h
 |sub _,int ..,h=>by cases h
 |sub _,str,h=>by cases h
 |sub _,bool,h=>by cases h
 |nil,nil,_=>rfl
 |nil,int ..,h=>by cases h
 |nil,str,h=>by cases h
 |nil,bool,h=>by cases h
 |nil,sub _,h=>by cases h
 |int ..,nil,h=>by cases h
 |str,nil,h=>by cases h
 |bool,nil,h=>by cases h
 |sub _,nil,h=>by cases h
def h9:List ay->List ay->Bool
 |[],[]=>true
 |a::r,b::s=>ay.beq a b&&h9 r s
 |_,_=>false
theorem oW:∀{a b:List ay},h9 a b=true->a=b
 |[],[],_=>rfl
 |a::r,b::s,h=>by
  simp only[h9,aO]at h;rw[ay.beq_eq h.1,oW h.2]
 |[],_::_,h=>by cases h
 |_::_,[],h=>by cases h
noncomputable def ay.dQ:ay->Int×Int
 |int _ lo hi=>(lo,hi)
 |str=>(0,bp)
 |bool=>(0,1)
 |sub _=>(0,rY)
 |nil=>(0,0)
def ay.val:ay->Int->az
 |int k _ _,z=> .int k z
 |str,z=> .string (aG (U z))
 |bool,z=> .bool (decide (z=1))
 |sub _,_=> .slice none 0 0
 |nil,_=> .slice none 0 0
def aw:Nat->List Int->Int
 |0,[s]=>(U s).length
 |1,[s,i]=>((U s).getD i.toNat 0).toNat
 |2,[s,a,b]=>cZ (((U s).drop a.toNat).take (b.toNat-a.toNat))
 |3,[s,t]=>cZ (U s++U t)
 |4,[s,t]=>if U s=U t then 1 else 0
 |5,[s,t]=>if dy (U s) (U t)=true then 1 else 0
 |20,[c]=>(ab c).length
 |21,[c,i,j]=>((ab c).getD i.toNat []).getD j.toNat 0
 |22,[c,a,b]=>rc (((ab c).drop a.toNat).take (b.toNat-a.toNat))
 |23,c::row=>rc (ab c++[row])
 |24,[c,e]=>rc (ab c++ab e)
 |25,c::i::row=>rc ((ab c).set i.toNat row)
 |26,n::row=>rc (eX n.toNat row)
 |27,[s]=>rc ((U s).map λb=>[(b.toNat:Int)])
 |34,[c,a,b]=>cZ ((((ab c).drop a.toNat).take (b.toNat-a.toNat)).map λrow=>kq (row.getD 0 0).toNat)
 |37,[x,y]=>x*2^y.toNat
 |38,[x,y]=>x% y
 |76,[x,y]=>x/y
 |33,[r,a,c]=>if a=c then r else r+a
 |29,[c,i,j,v]=>rc ((ab c).set i.toNat (((ab c).getD i.toNat []).set j.toNat v))
 |42,c::i::j::vs=>rc ((ab c).set i.toNat (((ab c).getD i.toNat []).take j.toNat++vs++((ab c).getD i.toNat []).drop (j.toNat+vs.length)))
 |43,[s,i]=>if kq i.toNat∈U s then 1 else 0
 |61,c::a::k::row=>rc ((ab c).take a.toNat++eX k.toNat row++(ab c).drop (a.toNat+k.toNat))
 |62,[a,b]=>min a b
 |63,[c,a,s]=>rc ((ab c).take a.toNat++ab s++(ab c).drop (a.toNat+(ab s).length))
 |28,[c]=>cZ ((ab c).map λrow=>kq (row.getD 0 0).toNat)
 |_,_=>0
def ky (z:Int):Prop:=∀b∈U z,b<128
def l8 (a b:Int):Prop:=(ab a).length=(ab b).length/\(ab a).length<=1000000/\(∀row∈ab a,ky (row.getD 0 0))/\(∀row∈ab b,ky (row.getD 2 0))/\∀i j:Nat,i<j->j<(ab a).length->dy (U (((ab a).getD i []).getD 0 0)) (U (((ab a).getD j []).getD 0 0))=true
noncomputable def zK:Nat->List Int->Prop
 |70,[l,c]=>c∣l
 |71,z::_=>(ab z).length<=1000000000
 |72,z::_=>64∣(ab z).length/\(ab z).length<=1000001000
 |73,z::_=>128∣(ab z).length/\(ab z).length<=1000001000
 |74,[i,l]=>0<=i/\i<l
 |78,[x,y,z,c]=>0<=x/\x<=y/\y<=z/\z<=c
 |79,[l,c]=>l<=c
 |75,l=>∀z∈l,(ab z).length<=100000000
 |77,[x]=>0<=x
 |80,[c,a,k]=>0<=a/\0<=k/\a+k<=(ab c).length
 |84,[_,_,d]=>(ab d).length<=100000000
 |85,z::_=>(ab z).length<=1000000/\∀row∈ab z,(ab (row.getD 2 0)).length<=1000000
 |86,z::_=>∀row∈ab z,row.getD 0 0<128
 |87,[a,b,s,_,_,t,_,_]=>l8 a b/\ky s/\ky t
 |88,a::b::_=>l8 a b
 |89,[_,_,t,_,_]=>ky t
 |90,l=>∀z∈l,(U z).length<=10000000
 |91,l=>∀z∈l,(U z).length<=2000
 |_,_=>False
def af:Nat->List Int->Prop
 |1,[s,i]=>0<=i/\i<(U s).length
 |2,[s,a,b]=>0<=a/\a<=b/\b<=(U s).length
 |3,[s,t]=>(U s).length+(U t).length<=eN
 |21,[c,i]=>0<=i/\i<(ab c).length
 |30,[i,n]=>0<=i/\i<n
 |31,[c,n]=>n=(ab c).length
 |32,[a,b,n]=>0<=a/\a<=b/\b<=n
 |22,[c,a,b]=>0<=a/\a<=b/\b<=(ab c).length
 |35,[c,a,b]=>(0<=a/\a<=b/\b<=(ab c).length)/\b-a<=140737488351232
 |36,[y]=>0<y
 |39,[x,l,h]=>l<=x/\x<=h
 |40,[a,b]=>0<=a->0<=b
 |41,[s]=>(U s).length<=4294967280
 |44,[w,s]=>U w=[]∨(U s).length<=4294967280
 |23,[c,k]=>(ab c).length+k<=1073741824
 |26,[n]=>0<=n/\n<=1073741824
 |48,r::_=>(ab r).length<=1099511627776
 |50,s::_=>(U s).length<=1073741824
 |49,[l,c]=>0<=l/\l<=c/\c<=1073741824
 |64,[p,q,r,l]=>0<=p/\p<=q/\q<=r/\r<=l/\0<l
 |65,[c,a,k]=>0<=a/\0<k/\a+k<=(ab c).length
 |66,r::_=>(ab r).length<=1000000
 |68,[l,c]=>l<=c∨l=0
 |67,[c,i,k]=>((ab c).getD i.toNat []).length=k.toNat
 |53,[c,l]=>c<0->l=0
 |52,[c,a,b]=>0<=a/\a<b/\b<=(ab c).length/\(ab c).length<=1073741824
 |51,[c,i,r]=>(0<=i/\i<=(ab c).length)/\(ab r).length=1/\(ab c).length+1<=1073741824
 |op,l=>zK op l
abbrev zzS:Type:=Nat->List (List Int)->List (List Int)->Prop
abbrev zzK:Type:=List (List Int)->List (List Int)->Prop
end Go.ba
namespace Go.ba
abbrev Env:=Nat->Int
def cU (ρ:Env) (n:Nat) (z:Int):Env:=λi=>cond (aH i n) z (ρ i)
def bf (ρ:Env):Nat->List Int->Env
 |_,[]=>ρ
 |n,z::zs=>bf (cU ρ n z) (n+1) zs
def agree (n:Nat) (ρ ag:Env):Prop:=∀i,i<n->ag i=ρ i
theorem agree.refl (n:Nat) (ρ:Env):agree n ρ ρ:=λ_ _=>rfl
theorem agree.trans {n n':Nat} {ρ ag pM:Env} (h:agree n ρ ag) (h':agree n' ag pM) (hn:n<=n'):agree n ρ pM:=
 λi hi=>(h' i (by omega)).trans (h i hi)
theorem agree.mono {n n':Nat} {ρ ag:Env} (h:agree n' ρ ag) (hn:n<=n'):agree n ρ ag:=λi hi=>h i (by omega)
theorem jD (ρ:Env) (n:Nat) (z:Int):cU ρ n z n=z:=by simp[cU]
theorem QN (ρ:Env) {n i:Nat} (z:Int) (h:i≠n):cU ρ n z i=ρ i:=by
 unfold cU;cases hb:aH i n with
 |false=>rfl
 |true=>exact absurd (bx hb) h
theorem agree.cU (n:Nat) (ρ:Env) (z:Int):agree n ρ (cU ρ n z):=λi hi=>QN ρ z (by omega)
theorem agree.bf:∀(zs:List Int) (n:Nat) (ρ:Env),agree n ρ (bf ρ n zs)
 |[],n,ρ=>agree.refl n ρ
 |z::zs,n,ρ=>(agree.cU n ρ z).trans (agree.bf zs (n+1) _) (by omega)
structure aa where
 c:Int
 ts:List (Int×Nat)
def gu (ρ:Env):List (Int×Nat)->Int
 |[]=>0
 |(k,i)::r=>k*ρ i+gu ρ r
def aa.den (ρ:Env) (l:aa):Int:=gu ρ l.ts+l.c
def rp (k:Int) (i:Nat):List (Int×Nat)->List (Int×Nat)
 |[]=>[(k,i)]
 |(a6,j)::r=>cond (bY i j) ((k,i)::(a6,j)::r) (cond (aH i j) (cond (k+a6==0) r ((k+a6,i)::r)) ((a6,j)::rp k i r))
def zt:List (Int×Nat)->List (Int×Nat)->List (Int×Nat)
 |[],l=>l
 |(k,i)::r,l=>rp k i (zt r l)
def wq (m:Int):List (Int×Nat)->List (Int×Nat)
 |[]=>[]
 |(k,i)::r=>(m*k,i)::wq m r
theorem TM (ρ:Env) (k:Int) (i:Nat):∀l,gu ρ (rp k i l)=k*ρ i+gu ρ l
 |[]=>rfl
 |(a6,j)::r=>by
  unfold rp;cases h1:bY i j with
  |true=>rfl
  |false=>
   cases h2:aH i j with
   |true=>
    have e:i=j:=bx h2;subst e;cases h3:(k+a6==0)with
    |true=>
     have h3:k+a6=0:=by simpa using h3
     simp only[cond_true,cond_false,gu];rw[<-Int.add_assoc,<-Int.add_mul,h3];simp
    |false=>simp only[cond_true,cond_false,gu];rw[Int.add_mul];omega
   |false=>simp only[cond_false,gu,TM ρ k i r];omega
theorem TK (ρ:Env):∀l bQ,gu ρ (zt l bQ)=gu ρ l+gu ρ bQ
 |[],bQ=>by simp[zt,gu]
 |(k,i)::r,bQ=>by simp only[zt,TM,gu,TK ρ r bQ];omega
theorem TN (ρ:Env) (m:Int):∀l,gu ρ (wq m l)=m*gu ρ l
 |[]=>by simp[wq,gu]
 |(k,i)::r=>by simp only[wq,gu,TN ρ m r];rw[Int.mul_add,Int.mul_assoc]
def oV (n:Nat) (l:List (Int×Nat)):Prop:=∀t∈l,t.2<n
theorem oV.mono {n n':Nat} {l} (h:oV n l) (hn:n<=n'):oV n' l:=λt ht=>uX (h t ht) hn
theorem Y0 {n:Nat} {k:Int} {i:Nat} (hi:i<n):∀{l},oV n l->oV n (rp k i l)
 |[],_=>by intro t ht;simp[rp]at ht;subst ht;exact hi
 |(a6,j)::r,h=>by
  have hr:oV n r:=λt ht=>h t (cD _ ht);have hj:j<n:=h (a6,j) (by simp);have ih:=Y0 (k:=k) hi hr;unfold rp;intro t ht;cases h1:bY i j<;>cases h2:aH i j<;>cases h3:(k+a6==0)<;>simp only[h1,h2,h3,cond_true,cond_false,ks]at ht<;>
   first
   |(rcases ht with rfl|ht<;>first|exact hi|exact hj|(exact hr t ht)|(exact ih t ht)|(rcases ht with rfl|ht<;>first|exact hj|exact hr t ht))
   |exact hr t ht
theorem YZ {n:Nat}:∀{l bQ},oV n l->oV n bQ->oV n (zt l bQ)
 |[],_,_,h'=>h'
 |(k,i)::r,_,h,h'=>Y0 (k:=k) (i:=i) (h (k,i) (by simp)) (YZ (l:=r) (λt ht=>h t (cD _ ht)) h')
theorem Y1 {n:Nat} {m:Int}:∀{l},oV n l->oV n (wq m l)
 |[],_=>λt ht=>by simp[wq]at ht
 |(k,i)::r,h=>by
  intro t ht;simp only[wq,ks]at ht;rcases ht with rfl|ht
  ·exact h (k,i) (by simp)
  ·exact Y1 (λt ht=>h t (cD _ ht)) t ht
theorem TL {n:Nat} {ρ ag:Env} (h:agree n ρ ag):∀{l},oV n l->gu ag l=gu ρ l
 |[],_=>rfl
 |(k,i)::r,hs=>by
  simp only[gu,h i (hs (k,i) (by simp)),TL h (l:=r) (λt ht=>hs t (cD _ ht))]
namespace aa
def const (c:Int):aa:=⟨c,[]⟩
def var (n:Nat):aa:=⟨0,[(1,n)]⟩
def add (a b:aa):aa:=⟨a.c+b.c,zt a.ts b.ts⟩
def smul (m:Int) (a:aa):aa:=cond (m==0) ⟨0,[]⟩ ⟨m*a.c,wq m a.ts⟩
def sub (a b:aa):aa:=a.add (b.smul (-1))
def dt (a:aa):Option Int:=match a.ts with|[]=>some a.c|_=>none
def aY (n:Nat) (a:aa):Prop:=oV n a.ts
def zB:List (Int×Nat)->List (Int×Nat)->Bool
 |[],[]=>true
 |(k,i)::r,(a6,ye)::r'=>k==a6&&aH i ye&&zB r r'
 |_,_=>false
def beq (a b:aa):Bool:=a.c==b.c&&zB a.ts b.ts
theorem S7:∀{a b},zB a b=true->a=b
 |[],[],_=>rfl
 |(k,i)::r,(a6,ye)::r',h=>by
  simp only[zB,aO,beq_iff_eq]at h;obtain⟨⟨h1,h2⟩,h3⟩:=h;rw[h1,bx h2,S7 h3]
 |[],_::_,h=>by simp[zB]at h
 |_::_,[],h=>by simp[zB]at h
theorem beq_eq {a b:aa} (h:beq a b=true):a=b:=by
 simp only[beq,aO,beq_iff_eq]at h;cases a;cases b;simp only at h;rw[h.1,S7 h.2]
theorem aR (ρ:Env) (c:Int):(const c).den ρ=c:=by simp[const,den,gu]
theorem ck (ρ:Env) (n:Nat):(var n).den ρ=ρ n:=by simp[var,den,gu]
theorem den_add (ρ:Env) (a b:aa):(a.add b).den ρ=a.den ρ+b.den ρ:=by simp only[add,den,TK];omega
theorem j9 (ρ:Env) (m:Int) (a:aa):(a.smul m).den ρ=m*a.den ρ:=by
 unfold smul;cases h:(m==0)with
 |true=>have h:m=0:=by simpa using h
        subst h;simp[den,gu]
 |false=>simp only[cond_false,den,TN,Int.mul_add]
theorem lz (ρ:Env) (a b:aa):(a.sub b).den ρ=a.den ρ-b.den ρ:=by simp only[sub,den_add,j9];omega
theorem iK {ρ:Env} {a:aa} {c:Int} (h:a.dt=some c):a.den ρ=c:=by
 unfold dt at h;cases ha:a.ts with
 |nil=>simp[ha]at h;simp[den,ha,gu,h]
 |cons x r=>simp[ha]at h
theorem cC (n:Nat) (c:Int):(const c).aY n:=λt ht=>by simp[const]at ht
theorem eo {n i:Nat} (h:i<n):(var i).aY n:=λt ht=>by simp[var]at ht;subst ht;exact h
theorem rH {n:Nat} {a b:aa} (ha:a.aY n) (hb:b.aY n):(a.add b).aY n:=YZ ha hb
theorem sW {n:Nat} {m:Int} {a:aa} (ha:a.aY n):(a.smul m).aY n:=by
 unfold smul;cases(m==0)with
 |true=>exactλt ht=>by simp at ht
 |false=>exact Y1 ha
theorem wo {n:Nat} {a b:aa} (ha:a.aY n) (hb:b.aY n):(a.sub b).aY n:=rH ha (sW hb)
theorem aY.mono {n n':Nat} {a:aa} (h:a.aY n) (hn:n<=n'):a.aY n':=oV.mono h hn
theorem bG {n:Nat} {ρ ag:Env} (h:agree n ρ ag) {a:aa} (ha:a.aY n):a.den ag=a.den ρ:=by simp only[den,TL h ha]
end aa
structure bI where
 l:aa
 lo:Int
 hi:Int
def bI.ok (n:Nat) (ρ:Env) (x:bI):Prop:=x.l.aY n/\x.lo<=x.l.den ρ/\x.l.den ρ<=x.hi
theorem bI.ok.agree {n n':Nat} {ρ ag:Env} {x:bI} (h:x.ok n ρ) (ha:agree n ρ ag) (hn:n<=n'):x.ok n' ag:=
 ⟨h.1.mono hn,by rw[aa.bG ha h.1];exact h.2.1,by rw[aa.bG ha h.1];exact h.2.2⟩
def bI.const (c:Int):bI:=⟨.const c,c,c⟩
theorem bI.nc (n:Nat) (ρ:Env) (c:Int):(bI.const c).ok n ρ:=⟨aa.cC n c,by simp[bI.const,aa.aR],by simp[bI.const,aa.aR]⟩
inductive bg where
 |lit (b:Bool)
 |eq (a b:aa)
 |lt (a b:aa)
 |le (a b:aa)
 |not (a:bg)
 |and (a b:bg)
 |iff (a b:bg)
namespace bg
def den (ρ:Env):bg->Bool
 |lit b=>b
 |eq a b=>decide (a.den ρ=b.den ρ)
 |lt a b=>decide (a.den ρ<b.den ρ)
 |le a b=>decide (a.den ρ<=b.den ρ)
 |not a=> !a.den ρ
 |and a b=>a.den ρ&&b.den ρ
 |iff a b=>a.den ρ==b.den ρ
def aY (n:Nat):bg->Prop
 |lit _=>True
 |eq a b|lt a b|le a b=>a.aY n/\b.aY n
 |not a=>a.aY n
 |and a b=>a.aY n/\b.aY n
 |iff a b=>a.aY n/\b.aY n
theorem aY.mono {n n':Nat} (hn:n<=n'):∀{b:bg},b.aY n->b.aY n'
 |lit _,_=>trivial
 |eq _ _,h|lt _ _,h|le _ _,h=>⟨h.1.mono hn,h.2.mono hn⟩
 |not a,h=>aY.mono (b:=a) hn h
 |and a b,h=>⟨aY.mono (b:=a) hn h.1,aY.mono (b:=b) hn h.2⟩
 |iff a b,h=>⟨aY.mono (b:=a) hn h.1,aY.mono (b:=b) hn h.2⟩
theorem bG {n:Nat} {ρ ag:Env} (ha:agree n ρ ag):∀{b:bg},b.aY n->b.den ag=b.den ρ
 |lit _,_=>rfl
 |eq _ _,h|lt _ _,h|le _ _,h=>by simp only[den,aa.bG ha h.1,aa.bG ha h.2]
 |not a,h=>by simp only[den,bG (b:=a) ha h]
 |and a b,h=>by simp only[den,bG (b:=a) ha h.1,bG (b:=b) ha h.2]
 |iff a b,h=>by simp only[den,bG (b:=a) ha h.1,bG (b:=b) ha h.2]
def beq:bg->bg->Bool
 |lit a,lit b=>a==b
 |eq a b,eq c d|lt a b,lt c d|le a b,le c d=>aa.beq a c&&aa.beq b d
 |not a,not b=>beq a b
 |and a b,and c d|iff a b,iff c d=>beq a c&&beq b d
 |_,_=>false
theorem beq_eq:∀{a b:bg},beq a b=true->a=b
 |lit a,b,h=>by cases b<;>simp[beq]at h;rw[h]
 |eq a b,c,h=>by cases c<;>simp[beq]at h;rw[aa.beq_eq h.1,aa.beq_eq h.2]
 |lt a b,c,h=>by cases c<;>simp[beq]at h;rw[aa.beq_eq h.1,aa.beq_eq h.2]
 |le a b,c,h=>by cases c<;>simp[beq]at h;rw[aa.beq_eq h.1,aa.beq_eq h.2]
 |not a,c,h=>by cases c<;>simp[beq]at h;rw[beq_eq h]
 |and a b,c,h=>by cases c<;>simp[beq]at h;rw[beq_eq h.1,beq_eq h.2]
 |iff a b,c,h=>by cases c<;>simp[beq]at h;rw[beq_eq h.1,beq_eq h.2]
def mkNot:bg->bg
 |lit b=>lit (!b)
 |not a=>a
 |a=>not a
def mkAnd:bg->bg->bg
 |lit true,b=>b
 |lit false,_=>lit false
 |a,lit true=>a
 |a,lit false=>cond true (lit false) a
 |a,b=>and a b
def mkIff (a b:bg):bg:=
 match a with
 |lit true=>b
 |lit false=>mkNot b
 |_=>match b with
  |lit true=>a
  |lit false=>mkNot a
  |_=>cond (beq a b) (lit true) (iff a b)
theorem tM (ρ:Env) (a:bg):(mkNot a).den ρ= !a.den ρ:=by cases a<;>simp[mkNot,den]
theorem uG {n:Nat} {a:bg} (h:a.aY n):(mkNot a).aY n:=by cases a<;>exact h
theorem TO (ρ:Env) (a b:bg):(mkAnd a b).den ρ=(a.den ρ&&b.den ρ):=by
 unfold mkAnd;split<;>simp[den]
theorem Y2 {n:Nat} {a b:bg} (ha:a.aY n) (hb:b.aY n):(mkAnd a b).aY n:=by
 unfold mkAnd;split<;>first|exact hb|exact ha|trivial|exact⟨ha,hb⟩
theorem TP (ρ:Env) (a b:bg):(mkIff a b).den ρ=(a.den ρ==b.den ρ):=by
 unfold mkIff;split
 ·simp[den]
 ·rw[tM];simp[den]
 ·split
  ·simp[den]
  ·rw[tM];simp[den]
  ·cases h:beq a b with
   |true=>have:=beq_eq h;subst this;simp[den]
   |false=>rfl
theorem Y3 {n:Nat} {a b:bg} (ha:a.aY n) (hb:b.aY n):(mkIff a b).aY n:=by
 unfold mkIff;split
 ·exact hb
 ·exact uG hb
 ·split
  ·exact ha
  ·exact uG ha
  ·cases beq a b with
   |true=>trivial
   |false=>exact⟨ha,hb⟩
def zV (d:aa) (f:Int->Bool) (e:bg):bg:=match d.dt with|some c=>lit (f c)|none=>e
def mkLt (a b:bI):bg:=cond (decide (a.hi<b.lo)) (lit true) (cond (decide (b.hi<=a.lo)) (lit false) (zV (a.l.sub b.l) (λc=>decide (c<0)) (lt a.l b.l)))
def mkLe (a b:bI):bg:=cond (decide (a.hi<=b.lo)) (lit true) (cond (decide (b.hi<a.lo)) (lit false) (zV (a.l.sub b.l) (λc=>decide (c<=0)) (le a.l b.l)))
def mkEq (a b:bI):bg:=cond (decide (a.hi<b.lo)) (lit false) (cond (decide (b.hi<a.lo)) (lit false) (cond (a.lo==a.hi&&b.lo==b.hi&&a.lo==b.lo) (lit true) (cond (aa.beq a.l b.l) (lit true) (zV (a.l.sub b.l) (λc=>decide (c=0)) (eq a.l b.l)))))
theorem Mj {n:Nat} {ρ:Env} {d:aa} {f:Int->Bool} {e:bg} (h:e.den ρ=f (d.den ρ)) (hs:e.aY n):(zV d f e).den ρ=e.den ρ/\(zV d f e).aY n:=by
 unfold zV;split
 ·rename_i c hc;exact⟨by rw[h,aa.iK hc];rfl,trivial⟩
 ·exact⟨rfl,hs⟩
theorem Mk {n:Nat} {ρ:Env} {a b:bI} (ha:a.ok n ρ) (hb:b.ok n ρ):(mkLt a b).den ρ=decide (a.l.den ρ<b.l.den ρ)/\(mkLt a b).aY n:=by
 have h1:=ha.2;have h2:=hb.2
 unfold mkLt;by_cases c1:a.hi<b.lo
 ·simp only[decide_eq_true c1,cond_true,den,aY,and_true];symm;simp;omega
 ·by_cases c2:b.hi<=a.lo
  ·simp only[decide_eq_false c1,decide_eq_true c2,cond_true,cond_false,den,aY,and_true];symm;simp;omega
  ·simp only[decide_eq_false c1,decide_eq_false c2,cond_false];have:=Mj (n:=n) (ρ:=ρ) (d:=a.l.sub b.l) (f:=λc=>decide (c<0)) (e:=lt a.l b.l) (by simp only[den,aa.lz];congr 1;simp;omega) ⟨ha.1,hb.1⟩;exact⟨this.1,this.2⟩
theorem TQ {n:Nat} {ρ:Env} {a b:bI} (ha:a.ok n ρ) (hb:b.ok n ρ):(mkLe a b).den ρ=decide (a.l.den ρ<=b.l.den ρ)/\(mkLe a b).aY n:=by
 have h1:=ha.2;have h2:=hb.2
 unfold mkLe;by_cases c1:a.hi<=b.lo
 ·simp only[decide_eq_true c1,cond_true,den,aY,and_true];symm;simp;omega
 ·by_cases c2:b.hi<a.lo
  ·simp only[decide_eq_false c1,decide_eq_true c2,cond_true,cond_false,den,aY,and_true];symm;simp;omega
  ·simp only[decide_eq_false c1,decide_eq_false c2,cond_false];have:=Mj (n:=n) (ρ:=ρ) (d:=a.l.sub b.l) (f:=λc=>decide (c<=0)) (e:=le a.l b.l) (by simp only[den,aa.lz];congr 1;simp;omega) ⟨ha.1,hb.1⟩;exact⟨this.1,this.2⟩
theorem tL {n:Nat} {ρ:Env} {a b:bI} (ha:a.ok n ρ) (hb:b.ok n ρ):(mkEq a b).den ρ=decide (a.l.den ρ=b.l.den ρ)/\(mkEq a b).aY n:=by
 have h1:=ha.2;have h2:=hb.2
 unfold mkEq;by_cases c1:a.hi<b.lo
 ·simp only[decide_eq_true c1,cond_true,den,aY,and_true];symm;simp;omega
 ·by_cases c2:b.hi<a.lo
  ·simp only[decide_eq_false c1,decide_eq_true c2,cond_true,cond_false,den,aY,and_true];symm;simp;omega
  ·cases c3:(a.lo==a.hi&&b.lo==b.hi&&a.lo==b.lo)with
   |true=>
    simp only[aO,beq_iff_eq]at c3;simp only[decide_eq_false c1,decide_eq_false c2,cond_false,cond_true,den,aY,and_true];symm;simp;omega
   |false=>
    cases c4:aa.beq a.l b.l with
    |true=>simp only[decide_eq_false c1,decide_eq_false c2,cond_false,cond_true,den,aY,and_true,aa.beq_eq c4];simp
    |false=>
     simp only[decide_eq_false c1,decide_eq_false c2,cond_false];have:=Mj (n:=n) (ρ:=ρ) (d:=a.l.sub b.l) (f:=λc=>decide (c=0)) (e:=eq a.l b.l) (by simp only[den,aa.lz];congr 1;simp;omega) ⟨ha.1,hb.1⟩;exact⟨this.1,this.2⟩
end bg
end Go.ba
namespace Go.ba
inductive A where
 |int (k:dj) (x:bI)
 |bool (b:bg)
 |ptr (b off:Nat)
 |og (b off:Nat) (bh:bI)
 |gptr (g off:Nat)
 |z1 (g off:Nat) (bh:bI)
 |slc (b off len cap:Nat)
 |con (v:az)
 |str (l:aa)
 |rows (sh:List ay) (off code cap:aa) (kind:Nat)
 |sl (b aM:Nat) (o ro len cap:aa)
 |ep (b aM:Nat) (o i:aa) (j:Nat)
inductive W where
 |one (a:A)
 |agg (l:List A)
inductive V where
 |w (x:W)
 |eV (l:List W)
 |any
 |oS (b len lo:Nat)
 |mE (f:Nat) (gX:List A)
def cy (op:BinOp) (k:dj) (x y:Int):Int:=
 match op with
 | .and=>k.wrap (o4 k.bits x&&&o4 k.bits y).toNat
 | .or=>k.wrap (o4 k.bits x|||o4 k.bits y).toNat
 | .xor=>k.wrap (o4 k.bits x^^^o4 k.bits y).toNat
 | .andNot=>k.wrap (o4 k.bits x&&&~~~(o4 k.bits y)).toNat
 |_=>0
inductive T where
 |stuck
 |leaf (v:V)
 |div (n:Nat) (x:aa) (d lo hi:Int) (r:T)
 |mul (n:Nat) (x y:aa) (lo hi:Int) (r:T)
 |bit (n:Nat) (op:BinOp) (k:dj) (x y:aa) (r:T)
 |shr (n:Nat) (x y:aa) (lo hi:Int) (r:T)
 |JN (n:Nat) (cs:List aa) (bh:aa) (lo hi:Int) (r:T)
 |tG (b:bg) (t e:T)
 |call (id:Nat) (args:List aa) (n:Nat) (bds:List (Int×Int)) (r:T)
 |loop (iO:Nat) (init:List aa) (n:Nat) (bds:List (Int×Int)) (r:T)
 |again (iO:Nat) (vals:List aa)
 |both (a b:T)
 |fn (n:Nat) (op:Nat) (args:List aa) (lo hi:Int) (r:T)
 |oK (op:Nat) (args:List aa) (r:T)
 |s3 (n:Nat) (lo hi:Int) (r:T)
 |nat (n:Nat) (r:T)
 |vn (op:Nat) (args:List aa) (r:T)
 |ind (n:Nat) (b:bg) (r:T)
def oG:List (Int×Int)->(List Int->Prop)->Prop
 |[],P=>P []
 |(l,h)::b,P=>∀r:Int,l<=r->r<=h->oG b (λrs=>P (r::rs))
def bd:List (Int×Int)->List Int->Prop
 |[],[]=>True
 |(l,h)::b,r::rs=>l<=r/\r<=h/\bd b rs
 |_,_=>False
theorem kx:∀{b:List (Int×Int)} {P:List Int->Prop} {rs:List Int},oG b P->bd b rs->P rs
 |[],_,[],h,_=>h
 |(l,u)::b,P,r::rs,h,hi=>kx (b:=b) (P:=λrs=>P (r::rs)) (h r hi.1 hi.2.1) hi.2.2
 |[],_,_::_,_,hi=>hi.elim
 |(_,_)::_,_,[],_,hi=>hi.elim
abbrev dc:=Nat->List Int->Prop
def dc.set (A:dc) (iO:Nat) (p:List Int->Prop):dc:=λi=>cond (aH i iO) p (A i)
def T.holds (S:Nat->List Int->List Int->Prop) (L:V->Env->Prop):T->dc->Env->Prop
 |stuck,_,_=>False
 |leaf v,_,ρ=>L v ρ
 |div n x d lo hi r,A,ρ=>∀q:Int,lo<=q->q<=hi->0<=x.den ρ-d*q->x.den ρ-d*q<d->r.holds S L A (cU ρ n q)
 |mul n x y lo hi r,A,ρ=>∀p:Int,lo<=p->p<=hi->p=x.den ρ*y.den ρ->r.holds S L A (cU ρ n p)
 |bit n op k x y r,A,ρ=>∀z:Int,0<=z->z<=k.max->z=cy op k (x.den ρ) (y.den ρ)->r.holds S L A (cU ρ n z)
 |shr n x y lo hi r,A,ρ=>∀z:Int,lo<=z->z<=hi->z=x.den ρ/2^(y.den ρ).toNat->r.holds S L A (cU ρ n z)
 |JN n cs bh lo hi r,A,ρ=>∀z:Int,lo<=z->z<=hi->z=(cs.map (·.den ρ)).getD (bh.den ρ).toNat 0->r.holds S L A (cU ρ n z)
 |tG b t e,A,ρ=>(b.den ρ=true->t.holds S L A ρ)/\(b.den ρ=false->e.holds S L A ρ)
 |call id args n bds r,A,ρ=>oG bds λrs=>S id (args.map (·.den ρ)) rs->r.holds S L A (bf ρ n rs)
 |loop iO init n bds r,A,ρ=>∃(I:List Int->Prop) (j3:List Int->Nat),I (init.map (·.den ρ))/\
  oG bds λzs=>I zs->r.holds S L (A.set iO λvs=>I vs/\j3 vs<j3 zs) (bf ρ n zs)
 |again iO vals,A,ρ=>A iO (vals.map (·.den ρ))
 |both a b,A,ρ=>a.holds S L A ρ/\b.holds S L A ρ
 |fn n op args lo hi r,A,ρ=>∀z:Int,lo<=z->z<=hi->z=aw op (args.map (·.den ρ))->r.holds S L A (cU ρ n z)
 |oK op args r,A,ρ=>af op (args.map (·.den ρ))/\r.holds S L A ρ
 |s3 n lo hi r,A,ρ=>∀z:Int,lo<=z->z<=hi->r.holds S L A (cU ρ n z)
 |nat n r,A,ρ=>∀z:Int,0<=z->r.holds S L A (cU ρ n z)
 |vn op args r,A,ρ=>af op (args.map (·.den ρ))->r.holds S L A ρ
 |ind n b r,A,ρ=>∀z:Int,0<=z->z<=1->b.den ρ=decide (z=1)->r.holds S L A (cU ρ n z)
abbrev M (α:Type):=Nat->(α->Nat->T)->T
namespace M
variable {α β:Type}
def pure (a:α):M α:=λn k=>k a n
def bind (x:M α) (f:α->M β):M β:=λn k=>x n λa n'=>f a n' k
def fail:M α:=λ_ _=> .stuck
def ar (S:Nat->List Int->List Int->Prop) (L:V->Env->Prop) (x:M α) (n:Nat) (ρ:Env) (R:Env->Nat->α->Prop):Prop:=
 ∀A k,(x n k).holds S L A ρ->∃ag n' a,n<=n'/\agree n ρ ag/\R ag n' a/\(k a n').holds S L A ag
variable {S:Nat->List Int->List Int->Prop} {L:V->Env->Prop} {n:Nat} {ρ:Env}
theorem ar.pure {a:α} {R:Env->Nat->α->Prop} (h:R ρ n a):ar S L (M.pure a) n ρ R:=
 λ_ _ hk=>⟨ρ,n,a,aV _,agree.refl _ _,h,hk⟩
theorem ar.fail {R:Env->Nat->α->Prop}:ar S L (M.fail:M α) n ρ R:=λ_ _ hk=>hk.elim
theorem ar.bind {x:M α} {f:α->M β} {R:Env->Nat->α->Prop} {R':Env->Nat->β->Prop} (hx:ar S L x n ρ R)
 (hf:∀ag n' a,n<=n'->agree n ρ ag->R ag n' a->ar S L (f a) n' ag R'):ar S L (M.bind x f) n ρ R':=by
 intro A k hk;obtain⟨ag,n',a,hn,ha,hR,jt⟩:=hx A _ hk;obtain⟨pM,Bw,b,mb,fp,nT,ag4⟩:=hf ag n' a hn ha hR A k jt;exact⟨pM,Bw,b,gk hn mb,ha.trans fp hn,nT,ag4⟩
theorem ar.mono {x:M α} {R R':Env->Nat->α->Prop} (hx:ar S L x n ρ R) (h:∀ag n' a,n<=n'->agree n ρ ag->R ag n' a->R' ag n' a):ar S L x n ρ R':=by
 intro A k hk;obtain⟨ag,n',a,hn,ha,hR,jt⟩:=hx A k hk;exact⟨ag,n',a,hn,ha,h _ _ _ hn ha hR,jt⟩
end M
open M
section
variable {S:Nat->List Int->List Int->Prop} {L:V->Env->Prop} {n:Nat} {ρ:Env}
def w6:List aa->Option (List Int)
 |[]=>some []
 |l::r=>match l.dt,w6 r with|some c,some s=>some (c::s)|_,_=>none
theorem LC {ρ:Env}:∀{l:List aa} {cs:List Int},w6 l=some cs->l.map (·.den ρ)=cs
 |[],cs,h=>by simp[w6]at h;subst h;rfl
 |l::r,cs,h=>by
  simp only[w6]at h;cases h1:l.dt with
  |none=>simp[h1]at h
  |some c=>
   cases h2:w6 r with
   |none=>simp[h1,h2]at h
   |some s=>
    simp only[h1,h2,aL]at h;subst h;simp only[cp,aa.iK h1,LC h2]
def eA (op:Nat) (args:List aa) (lo hi:Int):M aa:=λn k=>match bu op 5,w6 args with
 |true,some cs=>k (.const (aw op cs)) n
 |_,_=> .fn n op args lo hi (k (.var n) (n+1))
def Hk:Nat->List Int->Bool
 |1,[s,i]=>decide (0<=i)&&decide (i<(U s).length)
 |2,[s,a,b]=>decide (0<=a)&&decide (a<=b)&&decide (b<=(U s).length)
 |3,[s,t]=>bu ((U s).length+(U t).length) 1000000
 |30,[i,n]=>decide (0<=i)&&decide (i<n)
 |32,[a,b,n]=>decide (0<=a)&&decide (a<=b)&&decide (b<=n)
 |39,[x,l,h]=>decide (l<=x)&&decide (x<=h)
 |_,_=>false
theorem acY {op:Nat} {cs:List Int} (h:Hk op cs=true):af op cs:=by
 unfold Hk at h;split at h
 ·simp only[aO,decide_eq_true_eq]at h;exact h
 ·simp only[aO,decide_eq_true_eq]at h;exact⟨h.1.1,h.1.2,h.2⟩
 ·have h:=eh h;show _<=eN;unfold eN;omega
 ·simp only[aO,decide_eq_true_eq]at h;exact h
 ·simp only[aO,decide_eq_true_eq]at h;exact⟨h.1.1,h.1.2,h.2⟩
 ·simp only[aO,decide_eq_true_eq]at h;exact h
 ·cases h
def fg (op:Nat) (args:List aa):M Unit:=λn k=>match w6 args with
 |some cs=>cond (Hk op cs) (k () n) (.oK op args (k () n))
 |none=> .oK op args (k () n)
theorem gf {op:Nat} {args:List aa} {lo hi:Int} (h1:lo<=aw op (args.map (·.den ρ))) (h2:aw op (args.map (·.den ρ))<=hi):
 ar S L (eA op args lo hi) n ρ λag n' l=>l.aY n'/\l.den ag=aw op (args.map (·.den ρ)):=by
 intro A k hk;unfold eA at hk;split at hk
 ·rename_i cs _ hcs;exact⟨_,n,_,aV _,agree.refl _ _,⟨aa.cC _ _,by rw[aa.aR,LC hcs]⟩,hk⟩
 ·exact⟨_,n+1,_,ku _,agree.cU _ _ _,⟨aa.eo (rU n),by simp[aa.ck,jD]⟩,hk _ h1 h2 rfl⟩
theorem gC {op:Nat} {args:List aa} {α:Type} {x:M α} {R:Env->Nat->α->Prop} (h:af op (args.map (·.den ρ))->ar S L x n ρ R):ar S L (bind (fg op args) λ_=>x) n ρ R:=by
 intro A k hk;unfold M.bind fg at hk;split at hk
 ·rename_i cs hcs;cases hb:Hk op cs with
  |true=>
   rw[hb]at hk;exact h (by rw[LC hcs];exact acY hb) A k hk
  |false=>
   rw[hb]at hk;exact h hk.1 A k hk.2
 ·exact h hk.1 A k hk.2
def r9 (x:bI) (d:Int):M bI:=λn k=>
 cond (d==1) (k x n) <| cond (x.lo/d==x.hi/d) (k (.const (x.lo/d)) n) (.div n x.l d (x.lo/d) (x.hi/d) (k ⟨.var n,x.lo/d,x.hi/d⟩ (n+1)))
theorem C3 {x:bI} {d:Int} (hd:0<d) (hx:x.ok n ρ):ar S L (r9 x d) n ρ λag n' q=>q.ok n' ag/\q.l.den ag=x.l.den ρ/d/\(q.lo=x.lo/d/\q.hi=x.hi/d):=by
 intro A k hk;have h1:=auy hd hx.2.1;have h2:=auy hd hx.2.2;unfold r9 at hk;cases MN:(d==1)with
 |true=>
  have e:d=1:=by simpa using MN
  subst e;simp only[MN,cond_true]at hk;exact⟨ρ,n,x,aV _,agree.refl _ _,⟨hx,by simp,by simp,by simp⟩,hk⟩
 |false=>
 simp only[MN,cond_false]at hk;cases hc:(x.lo/d==x.hi/d)with
 |true=>
  simp only[hc,cond_true]at hk;have hc:x.lo/d=x.hi/d:=by simpa using hc
  exact⟨ρ,n,_,aV _,agree.refl _ _,⟨bI.nc _ _ _,by simp only[bI.const,aa.aR];omega,rfl,hc⟩,hk⟩
 |false=>
  simp only[hc,cond_false,T.holds]at hk;have hm:=aax (x.l.den ρ) (show d≠0 by omega);have ug:=aay (x.l.den ρ) hd;have he:=aaz (x.l.den ρ) d;refine⟨_,n+1,_,ku _,agree.cU _ _ _,⟨⟨aa.eo (rU n),?_,?_⟩,?_,rfl,rfl⟩,hk (x.l.den ρ/d) h1 h2 (by omega) (by omega)⟩<;>
   simp only[aa.ck,jD]<;>omega
def Xz (x:bI) (d:Int):M bI:=
 bind (r9 x d) λq=>pure ⟨x.l.sub (q.l.smul d),cond (q.lo==q.hi) (x.lo-d*q.lo) 0,cond (q.lo==q.hi) (x.hi-d*q.lo) (d-1)⟩
theorem ali {x:bI} {d:Int} (hd:0<d) (hx:x.ok n ρ):ar S L (Xz x d) n ρ λag n' q=>q.ok n' ag/\q.l.den ag=x.l.den ρ% d:=by
 refine(C3 hd hx).bind λag n' q hn ha ⟨hq,he,pq,awz⟩=>ar.pure ?_;have jf:=hx.agree ha hn;have hm:=aax (x.l.den ρ) (show d≠0 by omega);have ug:=aay (x.l.den ρ) hd;have awx:=aaz (x.l.den ρ) d;have qX:(x.l.sub (q.l.smul d)).den ag=x.l.den ρ% d:=by
  rw[aa.lz,aa.j9,aa.bG ha hx.1,he];omega
 refine⟨⟨aa.wo jf.1 (aa.sW hq.1),?_,?_⟩,qX⟩
 ·cases hc:(q.lo==q.hi)with
  |true=>
   have hc:q.lo=q.hi:=by simpa using hc
   have:q.l.den ag=q.lo:=by have:=hq.2;omega
   simp only[cond_true,aa.lz,aa.j9,this];have:=jf.2.1;omega
  |false=>simp only[cond_false,qX];omega
 ·cases hc:(q.lo==q.hi)with
  |true=>
   have hc:q.lo=q.hi:=by simpa using hc
   have:q.l.den ag=q.lo:=by have:=hq.2;omega
   simp only[cond_true,aa.lz,aa.j9,this];have:=jf.2.2;omega
  |false=>simp only[cond_false,qX];omega
def two (k:dj):Int:=match k with| .i8| .u8=>256| .i16| .u16=>65536| .i32| .u32=>4294967296| .i64| .u64=>18446744073709551616
theorem uJ (k:dj):two k=(2:Int)^k.bits:=by cases k<;>rfl
def half (k:dj):Int:=cond k.signed (two k/2) 0
theorem J5 (k:dj) (x:Int):k.wrap x=(x+half k)% two k-half k:=by
 cases k<;>simp only[auz,Gg,aaA,half,two,cond_true,cond_false,wF,Bool.false_and]<;>
  simp<;>(try split)<;>omega
def uO (k:dj) (x:bI):M bI:=
 cond (decide (-half k<=x.lo)&&decide (x.hi<two k-half k)) (pure x)
  (bind (Xz ⟨x.l.add (.const (half k)),x.lo+half k,x.hi+half k⟩ (two k)) λr=>pure ⟨r.l.add (.const (-half k)),r.lo-half k,r.hi-half k⟩)
theorem yV {k:dj} {x:bI} (hx:x.ok n ρ):ar S L (uO k x) n ρ λag n' q=>q.ok n' ag/\q.l.den ag=k.wrap (x.l.den ρ):=by
 have ht:0<two k:=by cases k<;>decide
 unfold uO;cases hc:(decide (-half k<=x.lo)&&decide (x.hi<two k-half k))with
 |true=>
  simp only[aO,decide_eq_true_eq]at hc;refine ar.pure ⟨hx,?_⟩;have h1:=hx.2;rw[J5,wI (by omega) (by omega)];omega
 |false=>
  refine(ali (x:=⟨x.l.add (.const (half k)),x.lo+half k,x.hi+half k⟩) ht ⟨aa.rH hx.1 (aa.cC _ _),?_,?_⟩).bind λag n' r hn ha ⟨hr,he⟩=>ar.pure ?_
  ·rw[aa.den_add,aa.aR];have:=hx.2.1;simp only;omega
  ·rw[aa.den_add,aa.aR];have:=hx.2.2;simp only;omega
  ·have e:(r.l.add (.const (-half k))).den ag=k.wrap (x.l.den ρ):=by
    rw[aa.den_add,aa.aR,he,aa.den_add,aa.aR,J5];omega
   refine⟨⟨aa.rH hr.1 (aa.cC _ _),?_,?_⟩,e⟩<;>simp only[aa.den_add,aa.aR]<;>have:=hr.2<;>omega
def mulM (x y:bI):M bI:=λn k=>
 match x.l.dt,y.l.dt with
 |some c,_=>cond (decide (0<=c)) (k ⟨y.l.smul c,c*y.lo,c*y.hi⟩ n) .stuck
 |none,some c=>cond (decide (0<=c)) (k ⟨x.l.smul c,c*x.lo,c*x.hi⟩ n) .stuck
 |none,none=>cond (decide (0<=x.lo)&&decide (0<=y.lo)) (.mul n x.l y.l (x.lo*y.lo) (x.hi*y.hi) (k ⟨.var n,x.lo*y.lo,x.hi*y.hi⟩ (n+1))) .stuck
theorem XB {x y:bI} (hx:x.ok n ρ) (hy:y.ok n ρ):ar S L (mulM x y) n ρ λag n' q=>q.ok n' ag/\q.l.den ag=x.l.den ρ*y.l.den ρ:=by
 intro A k hk;unfold mulM at hk;cases h1:x.l.dt with
 |some c=>
  simp only[h1]at hk;by_cases hc:0<=c
  ·simp only[decide_eq_true hc,cond_true]at hk;refine⟨ρ,n,_,aV _,agree.refl _ _,⟨⟨aa.sW hy.1,?_,?_⟩,?_⟩,hk⟩
   ·simp only[aa.j9];exact za hy.2.1 hc
   ·simp only[aa.j9];exact za hy.2.2 hc
   ·simp only[aa.j9,aa.iK h1]
  ·simp only[decide_eq_false hc,cond_false,T.holds]at hk
 |none=>
  cases h2:y.l.dt with
  |some c=>
   simp only[h1,h2]at hk;by_cases hc:0<=c
   ·simp only[decide_eq_true hc,cond_true]at hk;refine⟨ρ,n,_,aV _,agree.refl _ _,⟨⟨aa.sW hx.1,?_,?_⟩,?_⟩,hk⟩
    ·simp only[aa.j9];exact za hx.2.1 hc
    ·simp only[aa.j9];exact za hx.2.2 hc
    ·simp only[aa.j9,aa.iK h2];exact wJ _ _
   ·simp only[decide_eq_false hc,cond_false,T.holds]at hk
  |none=>
   simp only[h1,h2]at hk;cases hc:(decide (0<=x.lo)&&decide (0<=y.lo))with
   |false=>simp only[hc,cond_false,T.holds]at hk
   |true=>
    simp only[hc,cond_true,T.holds]at hk;simp only[aO,decide_eq_true_eq]at hc;have a1:x.lo*y.lo<=x.l.den ρ*y.l.den ρ:=aaB hx.2.1 hy.2.1 hc.2 (by have:=hx.2.1;omega);have a2:x.l.den ρ*y.l.den ρ<=x.hi*y.hi:=aaB hx.2.2 hy.2.2 (by have:=hy.2.1;omega) (by have:=hx.2;omega);refine⟨_,n+1,_,ku _,agree.cU _ _ _,⟨⟨aa.eo (rU n),?_,?_⟩,?_⟩,hk _ a1 a2 rfl⟩<;>simp only[aa.ck,jD]<;>assumption
def zC (op:BinOp) (k:dj) (x y:bI):M bI:=λn c=>
 cond k.signed .stuck (.bit n op k x.l y.l (c ⟨.var n,0,k.max⟩ (n+1)))
theorem atZ {k:dj} (hk:k.signed=false) (x:Int):0<=k.wrap x/\k.wrap x<=k.max:=by
 cases k<;>simp[Gg]at hk<;>simp[auz,Gg,aaA,hO]<;>omega
theorem ack {k:dj} (hk:k.signed=false) (op:BinOp) (x y:Int):0<=cy op k x y/\cy op k x y<=k.max:=by
 unfold cy;split
 iterate 4 exact atZ hk _
 cases k<;>simp[Gg]at hk<;>simp[hO,Gg,aaA]
theorem G5 {op:BinOp} {k:dj} {x y:bI}:ar S L (zC op k x y) n ρ λag n' q=>q.ok n' ag/\q.l.den ag=cy op k (x.l.den ρ) (y.l.den ρ):=by
 intro A c hk;unfold zC at hk;cases hs:k.signed with
 |true=>simp only[hs,cond_true,T.holds]at hk
 |false=>
  simp only[hs,cond_false,T.holds]at hk;have hb:=ack hs op (x.l.den ρ) (y.l.den ρ);refine⟨_,n+1,_,ku _,agree.cU _ _ _,⟨⟨aa.eo (rU n),?_,?_⟩,?_⟩,hk _ hb.1 hb.2 rfl⟩<;>simp only[aa.ck,jD]<;>first|exact hb.1|exact hb.2
def IY (c:Int):Option (Int×Int):=
 match c with
 | .ofNat 0=>none
 | .ofNat c=>
  let b:=2^(lT c+1);let a:=b-c
  cond (aH (2^lT a) a) (some (a,b)) none
 |_=>none
theorem bv_and {w:Nat} (x y:Int):((o4 w x&&&o4 w y).toNat:Int)=(((x% 2^w).toNat&&&(y% 2^w).toNat:Nat):Int):=by
 rw[BitVec.toNat_and,Kn,Kn]
 congr
theorem acy {w:Nat} (x y:Int):((o4 w x|||o4 w y).toNat:Int)=(((x% 2^w).toNat|||(y% 2^w).toNat:Nat):Int):=by
 rw[BitVec.toNat_or,Kn,Kn]
 congr
theorem abW (x a b:Nat) (aws:a<=b):x&&&(2^b-2^a)=2^a*(x/2^a)-2^b*(x/2^b):=by
 have e1:2^b-2^a=2^a*(2^(b-a)-1):=by
  rw[Nat.mul_sub,<-Ko,Gf];congr 2;omega
 have e2:x&&&(2^b-2^a)=2^a*(x/2^a% 2^(b-a)):=by
  rw[e1];apply Nat.eq_of_testBit_eq;intro i;rw[Nat.testBit_and,y4 (2^a) (2^(b-a)-1),y4 (2^a),auA,auA,Nat.testBit_two_pow_sub_one,Nat.testBit_mod_two_pow,Nat.testBit_div_two_pow];by_cases h:a<=i
  ·simp only[h,decide_true,wF];rw[show i-a+a=i by omega,Bool.and_comm]
  ·simp[h]
 rw[e2];have e3:x/2^b=x/2^a/2^(b-a):=by
  rw[Kk,<-Ko];congr 2;omega
 have fo:2^b=2^a*2^(b-a):=by rw[<-Ko];congr 1;omega
 have oM:=auB (x/2^a) (2^(b-a));rw[e3,fo,Nat.mul_assoc,<-Nat.mul_sub]
 congr 1
 omega
theorem ak8 {c a b:Int} (h:IY c=some (a,b)):∃i j:Nat,i<=j/\a=2^i/\b=2^j/\c=b-a/\0<a/\0<b:=by
 unfold IY at h;split at h
 ·cases h
 ·rename_i c hc;have hc0:c≠0:=λe=>hc (by rw[e]);cases hb:aH (2^lT (2^(lT c+1)-c)) (2^(lT c+1)-c)with
  |false=>simp[hb]at h
  |true=>
   simp only[hb,cond_true,aL,ct]at h;obtain⟨rfl,rfl⟩:=h;have e:=bx hb;have hlt:c<2^(lT c+1):=auC;have hp:0<2^lT (2^(lT c+1)-c):=Co _;refine⟨lT (2^(lT c+1)-c),lT c+1,?_,?_,?_,?_,?_,?_⟩
   ·rcases mx (lT c+1) (lT (2^(lT c+1)-c))with ah|ah
    ·have:=Nat.pow_lt_pow_right (a:=2) (by omega) ah;omega
    ·exact ah
   ·rw[<-e];simp
   ·simp
   ·have:((2^(lT c+1)-c:Nat):Int)=((2^(lT c+1):Nat):Int)-(c:Int):=by omega
    simp only[Int.ofNat_eq_natCast];omega
   ·omega
   ·have:0<2^(lT c+1):=Co _;omega
 ·cases h
def andM (x:bI) (a b:Int):M bI:=
 bind (r9 x a) λp=>bind (r9 x b) λq=>
  pure ⟨(p.l.smul a).sub (q.l.smul b),cond (q.lo==q.hi) (a*p.lo-b*q.lo) 0,cond (q.lo==q.hi) (a*p.hi-b*q.lo) (b-a)⟩
theorem abV {x:bI} {i j:Nat} (ue:i<=j) (hx:x.ok n ρ) (h0:0<=x.lo):ar S L (andM x (2^i) (2^j)) n ρ λag n' q=>q.ok n' ag/\q.l.den ag=((x.l.den ρ).toNat&&&(2^j-2^i):Nat):=by
 have hi:(0:Int)<2^i:=by have:=Co i;exact_mod_cast this
 have hj:(0:Int)<2^j:=by have:=Co j;exact_mod_cast this
 refine(C3 hi hx).bind λaD n1 p fi dL ⟨hp,ep,_,_⟩=>?_;refine(C3 hj (hx.agree dL fi)).bind λbo n2 q dY c7 ⟨hq,eq,_,_⟩=>ar.pure ?_;rw[aa.bG dL hx.1]at eq;have xX:=hp.agree c7 dY;have adL:p.l.den bo=x.l.den ρ/2^i:=by rw[aa.bG c7 hp.1,ep]
 obtain⟨X,bJ⟩:=td (show 0<=x.l.den ρ by have:=hx.2.1;omega);have e:((p.l.smul (2^i)).sub (q.l.smul (2^j))).den bo=((x.l.den ρ).toNat&&&(2^j-2^i):Nat):=by
  rw[aa.lz,aa.j9,aa.j9,adL,eq,bJ,eW,abW X i j ue];have h1:2^j*(X/2^j)<=2^i*(X/2^i):=by
   have e3:X/2^j=X/2^i/2^(j-i):=by rw[Kk,<-Ko];congr 2;omega
   have fo:2^j=2^i*2^(j-i):=by rw[<-Ko];congr 1;omega
   rw[e3]
   conv=>lhs;rw[fo,Nat.mul_assoc]
   exact Nat.mul_le_mul_left _ (Nat.mul_div_le _ _)
  rw[aaC h1];simp
 refine⟨⟨aa.wo (aa.sW xX.1) (aa.sW hq.1),?_,?_⟩,e⟩
 ·cases hc:(q.lo==q.hi)with
  |true=>
   have hc:q.lo=q.hi:=by simpa using hc
   have h1:q.l.den bo=q.lo:=by have:=hq.2;omega
   simp only[cond_true,aa.lz,aa.j9,h1];have:=za xX.2.1 (uY hi);omega
  |false=>simp only[cond_false,e];omega
 ·cases hc:(q.lo==q.hi)with
  |true=>
   have hc:q.lo=q.hi:=by simpa using hc
   have h1:q.l.den bo=q.lo:=by have:=hq.2;omega
   simp only[cond_true,aa.lz,aa.j9,h1];have:=za xX.2.2 (uY hi);omega
  |false=>
   simp only[cond_false,e];have h2:(x.l.den ρ).toNat&&&(2^j-2^i)<=2^j-2^i:=Nat.and_le_right;have h3:2^i<=2^j:=Ri (by omega) ue;have h4:((2^j-2^i:Nat):Int)=2^j-2^i:=by rw[aaC h3];simp
   omega
end
end Go.ba
namespace Go.ba
open M
def lR (c:Int) (g:Nat):Option Addr:=
 if c=-1 then none else match ab (g:Int)with
  |[[b,o,s]]=>some ⟨b.toNat,o.toNat,if s<0 then none else some s.toNat⟩
  |_=>some ⟨0,0,none⟩
theorem aag (c:Int) (g:Nat):(lR c g).isNone=decide (c=-1):=by
 unfold lR;split
 ·rename_i h;simp[h]
 ·rename_i h;split<;>simp[h]
theorem Q8 (p:Option Addr):∃c g,(-2<=c/\c<0)/\lR c g=p:=by
 cases p with
 |none=>exact⟨-1,0,by decide,rfl⟩
 |some a=>
  obtain⟨b,o,s⟩:=a;have key:∀z:Int,∃c g,(-2<=c/\c<0)/\lR c g=some ⟨b,o,if z<0 then none else some z.toNat⟩:=λz=>by
   have h:=fa [[(b:Int),(o:Int),z]];refine⟨-2,(rc [[(b:Int),(o:Int),z]]).toNat,by decide,?_⟩;unfold lR;rw[if_neg (by decide),Int.toNat_of_nonneg h,du];simp
  cases s with
  |none=>exact key (-1)
  |some k=>have:=key k;rwa [if_neg (by omega),eW]at this
def A.den (ρ:Env) (m:Nat->Nat):A->az
 | .int k x=> .int k (x.l.den ρ)
 | .bool b=> .bool (b.den ρ)
 | .ptr b off=> .pointer (some ⟨m b,off,none⟩)
 | .og b off bh=> .pointer (some ⟨m b,off+(bh.l.den ρ).toNat,none⟩)
 | .gptr g off=> .pointer (some ⟨g,off,none⟩)
 | .z1 g off bh=> .pointer (some ⟨g,off+(bh.l.den ρ).toNat,none⟩)
 | .slc b off len cap=> .slice (some ⟨m b,off,none⟩) len cap
 | .con v=>v
 | .str l=> .string (aG (U (l.den ρ)))
 | .rows _ _ code _ _=> .int .u8 (code.den ρ)
 | .sl b aM o ro len cap=>if cap.den ρ<0 then .slice (lR (cap.den ρ) (m b)) 0 0 else .slice (some ⟨m b,(o.den ρ).toNat+(ro.den ρ).toNat*aM,none⟩) (len.den ρ).toNat (cap.den ρ).toNat
 | .ep b aM o i j=> .pointer (some ⟨m b,(o.den ρ).toNat+(i.den ρ).toNat*aM+j,none⟩)
def B1 (o ro len cap:Int):Prop:=(0<=o/\0<=ro/\0<=len/\len<=9223372036854775807)/\(-2<=cap/\ro+cap<=9223372036854775807)/\(cap<0->len=0)/\(0<=cap->len<=cap)
def A.ok (n nb:Nat) (ρ:Env):A->Prop
 | .int _ x=>x.ok n ρ
 | .bool b=>b.aY n
 | .ptr b _=>b<nb
 | .og b _ bh=>b<nb/\bh.ok n ρ/\0<=bh.lo
 | .gptr .. =>True
 | .z1 _ _ bh=>bh.ok n ρ/\0<=bh.lo
 | .slc b .. =>b<nb
 | .con v=>v.oneCell'=true
 | .str l=>l.aY n/\0<=l.den ρ/\l.den ρ<=bp
 | .rows _ off code cap _=>(off.aY n/\code.aY n/\cap.aY n)/\(0<=code.den ρ/\code.den ρ<=cc)/\-2<=cap.den ρ/\cap.den ρ<=9223372036854775807
 | .sl b _ o ro len cap=>b<nb/\(o.aY n/\ro.aY n/\len.aY n/\cap.aY n)/\B1 (o.den ρ) (ro.den ρ) (len.den ρ) (cap.den ρ)
 | .ep b _ o i _=>b<nb/\(o.aY n/\i.aY n)/\0<=o.den ρ/\0<=i.den ρ
theorem A.ok.ext {n n' nb jx:Nat} {ρ ag:Env} {a:A} (h:a.ok n nb ρ) (ha:agree n ρ ag) (hn:n<=n') (hb:nb<=jx):a.ok n' jx ag:=by
 cases a<;>simp only[A.ok]at h⊢
 ·exact h.agree ha hn
 ·exact bg.aY.mono hn h
 ·omega
 ·exact⟨by omega,h.2.1.agree ha hn,h.2.2⟩
 ·exact⟨h.1.agree ha hn,h.2⟩
 ·omega
 ·exact h
 ·exact⟨h.1.mono hn,by rw[aa.bG ha h.1];exact h.2⟩
 ·obtain⟨⟨h1,h2,h3⟩,h4⟩:=h;exact⟨⟨h1.mono hn,h2.mono hn,h3.mono hn⟩,by rw[aa.bG ha h2,aa.bG ha h3];exact h4⟩
 ·obtain⟨h1,⟨h2,h3,h4,h5⟩,h6⟩:=h;exact⟨by omega,⟨h2.mono hn,h3.mono hn,h4.mono hn,h5.mono hn⟩,by rw[aa.bG ha h2,aa.bG ha h3,aa.bG ha h4,aa.bG ha h5];exact h6⟩
 ·obtain⟨h1,⟨h2,h3⟩,h4⟩:=h;exact⟨by omega,⟨h2.mono hn,h3.mono hn⟩,by rw[aa.bG ha h2,aa.bG ha h3];exact h4⟩
theorem A.j8 {n nb:Nat} {ρ ag:Env} {m m':Nat->Nat} {a:A} (h:a.ok n nb ρ) (ha:agree n ρ ag) (hm:∀b,b<nb->m' b=m b):a.den ag m'=a.den ρ m:=by
 cases a<;>simp only[A.ok]at h<;>simp only[A.den]
 ·rw[aa.bG ha h.1]
 ·rw[bg.bG ha h]
 ·rw[hm _ h]
 ·rw[hm _ h.1,aa.bG ha h.2.1.1]
 ·rw[aa.bG ha h.1.1]
 ·rw[hm _ h]
 ·rw[aa.bG ha h.1]
 ·rw[aa.bG ha h.1.2.1]
 ·obtain⟨h1,⟨h2,h3,h4,h5⟩,h6⟩:=h;rw[hm _ h1,aa.bG ha h2,aa.bG ha h3,aa.bG ha h4,aa.bG ha h5]
 ·rw[hm _ h.1,aa.bG ha h.2.1.1,aa.bG ha h.2.1.2]
theorem A.Jc {n nb:Nat} {ρ:Env} {m:Nat->Nat} {a:A} (h:a.ok n nb ρ):(a.den ρ m).oneCell'=true:=by
 cases a<;>first|rfl|exact h|(simp only[A.den];split<;>rfl)
def W.den (ρ:Env) (m:Nat->Nat):W->az
 | .one a=>a.den ρ m
 | .agg l=> .agg (l.map (A.den ρ m)).toArray
def W.ok (n nb:Nat) (ρ:Env):W->Prop
 | .one a=>a.ok n nb ρ
 | .agg l=>∀a∈l,a.ok n nb ρ
theorem W.ok.ext {n n' nb jx:Nat} {ρ ag:Env} {x:W} (h:x.ok n nb ρ) (ha:agree n ρ ag) (hn:n<=n') (hb:nb<=jx):x.ok n' jx ag:=by
 cases x with
 |one a=>exact A.ok.ext h ha hn hb
 |agg l=>exactλa h'=>(h a h').ext ha hn hb
theorem qh {n nb:Nat} {ρ ag:Env} {m m':Nat->Nat} {l:List A} (h:∀a∈l,a.ok n nb ρ) (ha:agree n ρ ag) (hm:∀b,b<nb->m' b=m b):l.map (A.den ag m')=l.map (A.den ρ m):=
 gI λa h'=>A.j8 (h a h') ha hm
theorem W.j8 {n nb:Nat} {ρ ag:Env} {m m':Nat->Nat} {x:W} (h:x.ok n nb ρ) (ha:agree n ρ ag) (hm:∀b,b<nb->m' b=m b):x.den ag m'=x.den ρ m:=by
 cases x with
 |one a=>exact A.j8 h ha hm
 |agg l=>simp only[W.den,qh h ha hm]
def V.rel (ρ:Env) (m:Nat->Nat):V->az->Prop
 | .w x,v=>v=x.den ρ m
 | .eV l,v=>v= .tuple (l.map (W.den ρ m)).toArray
 | .any,_=>True
 | .oS b len lo,v=>∃c:Nat,lo<=c/\v= .slice (some ⟨m b,0,none⟩) len c
 | .mE f gX,v=>v= .func (.func f) #[] (gX.map (A.den ρ m)).toArray
def V.ok (n nb:Nat) (ρ:Env):V->Prop
 | .w x=>x.ok n nb ρ
 | .eV l=>∀x∈l,x.ok n nb ρ
 | .any=>True
 | .oS b _ _=>b<nb
 | .mE _ gX=>∀a∈gX,A.ok n nb ρ a
theorem V.ok.ext {n n' nb jx:Nat} {ρ ag:Env} {x:V} (h:x.ok n nb ρ) (ha:agree n ρ ag) (hn:n<=n') (hb:nb<=jx):x.ok n' jx ag:=by
 cases x with
 |w x=>exact W.ok.ext h ha hn hb
 |eV l=>exactλa h'=>(h a h').ext ha hn hb
 |any=>trivial
 |oS b len lo=>exact uX h hb
 |mE f gX=>exactλa h'=>(h a h').ext ha hn hb
theorem V.rel.ext {n nb:Nat} {ρ ag:Env} {m m':Nat->Nat} {x:V} {v:az} (hr:x.rel ρ m v) (h:x.ok n nb ρ) (ha:agree n ρ ag) (hm:∀b,b<nb->m' b=m b):x.rel ag m' v:=by
 cases x with
 |w x=>simp only[V.rel]at hr⊢;rw[W.j8 h ha hm];exact hr
 |eV l=>simp only[V.rel]at hr⊢;rw[hr];congr 2;exact(gI λa h'=>W.j8 (h a h') ha hm).symm
 |any=>trivial
 |oS b len lo=>obtain⟨c,h1,h2⟩:=hr;exact⟨c,h1,by rw[hm b h];exact h2⟩
 |mE f gX=>simp only[V.rel]at hr⊢;rw[hr];congr 2;exact(gI λa h'=>A.j8 (h a h') ha hm).symm
section
variable {S:Nat->List Int->List Int->Prop} {L:V->Env->Prop} {n:Nat} {ρ:Env}
def GR (s:Int):List (Int×Nat)->Bool
 |[]=>true
 |(k,_)::r=>k% s==0&&GR s r
theorem SU {s:Int} (ρ:Env):∀{l},GR s l=true->gu ρ l% s=0
 |[],_=>by simp[gu]
 |(k,i)::r,h=>by
  simp only[GR,aO,beq_iff_eq]at h;have h1:=SU ρ h.2;obtain⟨c,hc⟩:=Rq h.1;obtain⟨d,hd⟩:=Rq h1;simp only[gu,hc,hd,Int.mul_assoc];rw[<-Int.mul_add];exact auD _ _
def aa.tz (s:Int) (l:aa):Bool:=l.c% s==0&&GR s l.ts
theorem aa.LB {s:Int} (ρ:Env) {l:aa} (h:l.tz s=true):l.den ρ% s=0:=by
 simp only[tz,aO,beq_iff_eq]at h;have h1:=SU ρ h.2;obtain⟨c,hc⟩:=Rq h.1;obtain⟨d,hd⟩:=Rq h1;simp only[den,hc,hd];rw[<-Int.mul_add];exact auD _ _
def above (h:Int):Nat:=2^(lT h.toNat+1)
theorem SO {x h:Int} (hx:x<=h) (h0:0<=x):x<(above h:Int):=by
 have:h.toNat<2^(lT h.toNat+1):=auC;unfold above;omega
theorem eg {c:Bool} {α:Type} {x:M α} {R:Env->Nat->α->Prop} (h:c=true->ar S L x n ρ R):ar S L (cond c x fail) n ρ R:=by
 cases c with
 |true=>exact h rfl
 |false=>exact ar.fail
def ml (k:dj):Int:=two k-half k
theorem O6 (k:dj):ml k<=two k:=by cases k<;>decide
theorem akd (k:dj):∃i:Nat,ml k=2^i/\i<=k.bits:=by cases k<;>first|exact⟨7,by decide,by decide⟩|exact⟨8,by decide,by decide⟩|exact⟨15,by decide,by decide⟩|exact⟨16,by decide,by decide⟩|exact⟨31,by decide,by decide⟩|exact⟨32,by decide,by decide⟩|exact⟨63,by decide,by decide⟩|exact⟨64,by decide,by decide⟩
def GQ (x:aa):List Nat->Nat
 |[]=>1
 |i::r=>cond (x.tz (2^i)) (2^i) (GQ x r)
def orM (k:dj) (x y:bI):M bI:=
 cond (!(decide (0<=x.lo)&&decide (0<=y.lo)&&decide (x.hi<ml k)&&decide (y.hi<ml k))) (cond (decide (0<=x.lo)&&decide (x.hi<ml k)) (
  let s:=GQ x.l [24,18,16,12,8,6,4]
  cond (x.l.tz s&&decide (y.hi<ml k)&&decide (x.hi+s<ml k)) (bind (fg 30 [y.l,.const s]) λ_=>pure ⟨x.l.add y.l,x.lo,x.hi+s⟩) fail) fail) <|
 cond (x.l.tz (above y.hi)) (pure ⟨x.l.add y.l,x.lo+y.lo,cond (decide (x.hi+y.hi<two k)) (x.hi+y.hi) (two k-1)⟩) <|
 cond (y.l.tz (above x.hi)) (pure ⟨x.l.add y.l,x.lo+y.lo,cond (decide (x.hi+y.hi<two k)) (x.hi+y.hi) (two k-1)⟩) (zC .or k x y)
theorem E5 {X Y s:Nat} (hs:∃i,s=2^i) (hx:X% s=0) (hy:Y<s):X|||Y=X+Y:=by
 obtain⟨i,rfl⟩:=hs;have e:=auB X (2^i);rw[hx,lq]at e;rw[<-e,<-Nat.two_pow_add_eq_or_of_lt hy]
theorem ZR {k:dj} {z:Int} (h0:0<=z) (h1:z<ml k):k.wrap z=z:=by
 rw[J5];have ah:0<=half k:=by cases k<;>decide
 unfold ml at h1;rw[wI (by omega) (by omega)];omega
theorem G4 {k:dj} {x y:Int} (hx:0<=x) (hy:0<=y) (hx2:x<ml k) (Oz:y<ml k):cy .or k x y=((x.toNat|||y.toNat:Nat):Int):=by
 have hl:=O6 k;have hx3:x<2^k.bits:=by rw[<-uJ];omega
 have OA:y<2^k.bits:=by rw[<-uJ];omega
 obtain⟨i,hi,_⟩:=akd k;obtain⟨X,rfl⟩:=td hx;obtain⟨Y,rfl⟩:=td hy;have bJ:X<2^i:=by rw[hi]at hx2;exact_mod_cast hx2
 have hY:Y<2^i:=by rw[hi]at Oz;exact_mod_cast Oz
 have h1:X|||Y<2^i:=auE bJ hY;unfold cy;simp only;rw[acy,wI hx hx3,wI hy OA];simp only[eW];exact ZR (by omega) (by rw[hi];exact_mod_cast h1)
theorem LP {k:dj} {x y:Int} (hx:0<=x) (hy:0<=y) (hx2:x<ml k) (Oz:y<two k):cy .and k x y=((x.toNat&&&y.toNat:Nat):Int):=by
 have hl:=O6 k;have hx3:x<2^k.bits:=by rw[<-uJ];omega
 have OA:y<2^k.bits:=by rw[<-uJ];omega
 obtain⟨X,rfl⟩:=td hx;obtain⟨Y,rfl⟩:=td hy;have h1:X&&&Y<=X:=Nat.and_le_left;unfold cy;simp only;rw[bv_and,wI hx hx3,wI hy OA];simp only[eW];exact ZR (by omega) (by omega)
theorem toNat_mod {x:Int} {s:Nat} (hx:0<=x) (h:x% (s:Int)=0):x.toNat% s=0:=by
 obtain⟨X,rfl⟩:=td hx;simp only[eW]
 exact_mod_cast h
theorem am8 {k:dj} {x y:bI} (hx:x.ok n ρ) (hy:y.ok n ρ):ar S L (orM k x y) n ρ λag n' q=>q.ok n' ag/\q.l.den ag=cy .or k (x.l.den ρ) (y.l.den ρ):=by
 unfold orM;cases hc:(!(decide (0<=x.lo)&&decide (0<=y.lo)&&decide (x.hi<ml k)&&decide (y.hi<ml k)))with
 |true=>
  simp only[cond_true];refine eg λh1=>eg λh2=>gC λh3=>ar.pure ?_;simp only[aO,decide_eq_true_eq]at h1 h2;simp only[cp,er,af,aa.aR]at h3;obtain⟨⟨h4,h6⟩,h5⟩:=h2;have xb:=hx.2;have Hc:=hy.2
  generalize hs:GQ x.l [24,18,16,12,8,6,4]=s at*;have hm:=aa.LB ρ h4;have ahE:∃i,s=2^i:=by
   rw[<-hs];generalize [24,18,16,12,8,6,4]=l;induction l with
   |nil=>exact⟨0,rfl⟩
   |cons i r ih=>
    unfold GQ;cases x.l.tz (2^i)with
    |true=>exact⟨i,rfl⟩
    |false=>exact ih
  have e:x.l.den ρ+y.l.den ρ=cy .or k (x.l.den ρ) (y.l.den ρ):=by
   rw[G4 (by omega) h3.1 (by omega) (by omega),E5 ahE (toNat_mod (by omega) hm) (by omega)];omega
  exact⟨⟨aa.rH hx.1 hy.1,by simp only[aa.den_add];omega,by simp only[aa.den_add];omega⟩,by rw[aa.den_add];exact e⟩
 |false=>
  simp only[mw,aO,decide_eq_true_eq]at hc;obtain⟨⟨⟨h1,h2⟩,Ae⟩,awo⟩:=hc;have Eb:=O6 k;have h3:x.hi<two k:=by omega
  have h4:y.hi<two k:=by omega
  have xb:=hx.2;have Hc:=hy.2
  have hb:=G4 (k:=k) (x:=x.l.den ρ) (y:=y.l.den ρ) (by omega) (by omega) (by omega) (by omega);have hlt:cy .or k (x.l.den ρ) (y.l.den ρ)<two k:=by
   have e1:x.l.den ρ<2^k.bits:=by rw[<-uJ];omega
   have e2:y.l.den ρ<2^k.bits:=by rw[<-uJ];omega
   have h1:(x.l.den ρ).toNat|||(y.l.den ρ).toNat<2^k.bits:=auE (by
    have:(x.l.den ρ).toNat=x.l.den ρ:=by omega
    exact_mod_cast (show((x.l.den ρ).toNat:Int)<2^k.bits by omega)) (by exact_mod_cast (show((y.l.den ρ).toNat:Int)<2^k.bits by omega))
   rw[hb,uJ]
   exact_mod_cast h1
  have ok:∀q:Int,q=cy .or k (x.l.den ρ) (y.l.den ρ)->x.l.den ρ+y.l.den ρ=q->(bI.mk (x.l.add y.l) (x.lo+y.lo) (cond (decide (x.hi+y.hi<two k)) (x.hi+y.hi) (two k-1))).ok n ρ:=λq nZ n4=>⟨aa.rH hx.1 hy.1,by simp only[aa.den_add];omega,by
   simp only[aa.den_add];cases hd:decide (x.hi+y.hi<two k)with
   |true=>simp only[cond_true];omega
   |false=>simp only[cond_false];omega⟩
  simp only[cond_false];cases h5:x.l.tz (above y.hi)with
  |true=>
   have hm:=aa.LB ρ h5;have hl:=SO Hc.2 (by omega);have hs:x.l.den ρ+y.l.den ρ=cy .or k (x.l.den ρ) (y.l.den ρ):=by
    rw[hb,E5 (s:=above y.hi) ⟨_,rfl⟩ (toNat_mod (by omega) hm) (by omega)];omega
   exact ar.pure ⟨ok _ rfl hs,by rw[aa.den_add];exact hs⟩
  |false=>
   simp only[cond_false];cases h6:y.l.tz (above x.hi)with
   |true=>
    have hm:=aa.LB ρ h6;have hl:=SO xb.2 (by omega);have hs:x.l.den ρ+y.l.den ρ=cy .or k (x.l.den ρ) (y.l.den ρ):=by
     rw[hb,Nat.or_comm,E5 (s:=above x.hi) ⟨_,rfl⟩ (toNat_mod (by omega) hm) (by omega)];omega
    exact ar.pure ⟨ok _ rfl hs,by rw[aa.den_add];exact hs⟩
   |false=>exact G5
def GU (k:dj) (x:bI) (c:Int):M bI:=
 match IY c with
 |some (a,b)=>cond (!(decide (0<=x.lo)&&decide (x.hi<ml k)&&decide (c<two k)&&decide (0<=c))) fail (andM x a b)
 |none=>cond (c==0&&decide (0<=x.lo)&&decide (x.hi<ml k)) (pure (.const 0)) (zC .and k x (.const c))
theorem SY {k:dj} {x:bI} {c:Int} (hx:x.ok n ρ):ar S L (GU k x c) n ρ λag n' q=>q.ok n' ag/\q.l.den ag=cy .and k (x.l.den ρ) c:=by
 unfold GU;have xb:=hx.2;cases hm:IY c with
 |some p=>
  obtain⟨a,b⟩:=p;simp only;cases hc:(!(decide (0<=x.lo)&&decide (x.hi<ml k)&&decide (c<two k)&&decide (0<=c)))with
  |true=>exact ar.fail
  |false=>
   simp only[mw,aO,decide_eq_true_eq]at hc;obtain⟨⟨⟨h1,h2⟩,h3⟩,h4⟩:=hc;obtain⟨i,j,ue,rfl,rfl,Vh,_,_⟩:=ak8 hm;refine(abV ue hx h1).mono λag n' q _ _ ⟨ho,he⟩=>⟨ho,?_⟩;rw[he,LP (by omega) h4 (by omega) h3]
   congr 2
   have h3:2^i<=2^j:=Ri (by omega) ue;have h5:((2^j-2^i:Nat):Int)=2^j-2^i:=by rw[aaC h3];simp
   omega
 |none=>
  simp only;cases hc:(c==0&&decide (0<=x.lo)&&decide (x.hi<ml k))with
  |false=>exact G5.mono λag n' q _ _ ⟨h1,h2⟩=>⟨h1,by rw[h2];simp only[bI.const,aa.aR]⟩
  |true=>
   simp only[aO,beq_iff_eq,decide_eq_true_eq]at hc;obtain⟨⟨rfl,h1⟩,h2⟩:=hc;refine ar.pure ⟨bI.nc _ _ _,?_⟩;rw[LP (by omega) (bB _) (by omega) (by cases k<;>decide)];simp[bI.const,aa.aR]
theorem acj (k:dj) (x y:Int):cy .and k x y=cy .and k y x:=by simp only[cy,BitVec.and_comm]
def LI (k:dj) (x y:bI):M bI:=
 match y.l.dt,x.l.dt with
 |some c,_=>GU k x c
 |none,some c=>GU k y c
 |none,none=>zC .and k x y
theorem abU {k:dj} {x y:bI} (hx:x.ok n ρ) (hy:y.ok n ρ):ar S L (LI k x y) n ρ λag n' q=>q.ok n' ag/\q.l.den ag=cy .and k (x.l.den ρ) (y.l.den ρ):=by
 unfold LI;cases h1:y.l.dt with
 |some c=>simp only[aa.iK h1];exact SY hx
 |none=>
  cases h2:x.l.dt with
  |some c=>simp only[aa.iK h2];rw[acj];exact SY hy
  |none=>exact G5
def Qr (x y:bI):M bI:=λn k=> .shr n x.l y.l 0 x.hi (k ⟨.var n,0,x.hi⟩ (n+1))
theorem apZ {x y:bI} (hx:x.ok n ρ) (h0:0<=x.lo):ar S L (Qr x y) n ρ λag n' q=>q.ok n' ag/\q.l.den ag=x.l.den ρ/2^(y.l.den ρ).toNat:=by
 intro A k hk;simp only[Qr,T.holds]at hk;have hp:(0:Int)<2^(y.l.den ρ).toNat:=by have:=Co (y.l.den ρ).toNat;exact_mod_cast this
 have b0:0<=x.l.den ρ:=by have:=hx.2;omega
 have a1:0<=x.l.den ρ/2^(y.l.den ρ).toNat:=auF b0 (uY hp);have a2:x.l.den ρ/2^(y.l.den ρ).toNat<=x.hi:=pJ (Int.ediv_le_self _ b0) hx.2.2;exact⟨_,n+1,_,ku _,agree.cU _ _ _,⟨⟨aa.eo (rU n),by simp only[aa.ck,jD];exact a1,by simp only[aa.ck,jD];exact a2⟩,by simp only[aa.ck,jD]⟩,hk _ a1 a2 rfl⟩
def isInt (k:dj) (x:M bI):M A:=bind x λr=>pure (.int k r)
def BG (x:bI):M bI:=cond (decide (0<=x.lo)) (pure x) (bind (fg 77 [x.l]) λ_=>pure ⟨x.l,0,x.hi⟩)
def Pk (x y:bI):M bI:=match x.l.dt,y.l.dt with
 |none,none=>bind (BG x) λx=>bind (BG y) λy=>mulM x y
 |_,_=>mulM x y
def LO (op:BinOp) (k:dj) (x:bI) (a6:dj) (y:bI):M A:=
 match op with
 | .shl=>match y.l.dt with
  |some c=>cond (decide (0<=c)) (let s:Int:=2^min c.toNat k.bits;isInt k (uO k ⟨x.l.smul s,x.lo*s,x.hi*s⟩)) fail
  |none=>fail
 | .shr=>match y.l.dt with
  |some c=>cond (decide (0<=c)) (isInt k (r9 x (2^min c.toNat k.bits))) fail
  |none=>cond (decide (0<=x.lo)&&decide (0<=y.lo)&&decide (y.hi<=(k.bits:Int))) (isInt k (Qr x y)) fail
 | .add=>cond (decide (k=a6)) (isInt k (uO k ⟨x.l.add y.l,x.lo+y.lo,x.hi+y.hi⟩)) fail
 | .sub=>cond (decide (k=a6)) (isInt k (uO k ⟨x.l.sub y.l,x.lo-y.hi,x.hi-y.lo⟩)) fail
 | .mul=>cond (decide (k=a6)) (isInt k (bind (Pk x y) (uO k))) fail
 | .quo=>match y.l.dt with
  |some c=>cond (decide (k=a6)&&decide (0<c)) (bind (BG x) λx=>isInt k (bind (r9 x c) (uO k))) fail
  |none=>fail
 | .rem=>match y.l.dt with
  |some _=>fail
  |none=>cond (decide (k=a6)) (bind (BG x) λx=>bind (fg 36 [y.l]) λ_=>isInt k (bind (eA 38 [x.l,y.l] 0 (cond (decide (y.hi-1<=x.hi)) (y.hi-1) x.hi)) λl=>pure ⟨l,0,cond (decide (y.hi-1<=x.hi)) (y.hi-1) x.hi⟩)) fail
 | .and=>cond (decide (k=a6)) (isInt k (LI k x y)) fail
 | .or=>cond (decide (k=a6)) (isInt k (orM k x y)) fail
 | .xor=>cond (decide (k=a6)) (isInt k (zC .xor k x y)) fail
 | .andNot=>fail
 | .eql=>cond (decide (k=a6)) (pure (.bool (.mkEq x y))) fail
 | .neq=>cond (decide (k=a6)) (pure (.bool (.mkNot (.mkEq x y)))) fail
 | .lss=>cond (decide (k=a6)) (pure (.bool (.mkLt x y))) fail
 | .leq=>cond (decide (k=a6)) (pure (.bool (.mkLe x y))) fail
 | .gtr=>cond (decide (k=a6)) (pure (.bool (.mkLt y x))) fail
 | .geq=>cond (decide (k=a6)) (pure (.bool (.mkLe y x))) fail
theorem rq {k:dj} {x:M bI} {R:Env->Nat->A->Prop} {v:Int} (h:ar S L x n ρ λag n' q=>q.ok n' ag/\q.l.den ag=v)
 (hR:∀ag n' (q:bI),n<=n'->agree n ρ ag->q.ok n' ag->q.l.den ag=v->R ag n' (.int k q)):ar S L (isInt k x) n ρ R:=
 h.bind λag n' q hn ha ⟨ho,he⟩=>ar.pure (hR ag n' q hn ha ho he)
theorem Jq {x:bI} (hx:x.ok n ρ):ar S L (BG x) n ρ λag n' q=>q.ok n' ag/\q.l=x.l/\q.hi=x.hi/\0<=q.lo/\x.l.den ag=x.l.den ρ:=by
 unfold BG;cases h:decide (0<=x.lo)with
 |true=>exact ar.pure ⟨hx,rfl,rfl,of_decide_eq_true h,rfl⟩
 |false=>
  refine gC λhk=>ar.pure ⟨⟨hx.1,?_,hx.2.2⟩,rfl,rfl,bB _,rfl⟩;simpa [af,zK]using hk
theorem alm {x y:bI} (hx:x.ok n ρ) (hy:y.ok n ρ):ar S L (Pk x y) n ρ λag n' q=>q.ok n' ag/\q.l.den ag=x.l.den ρ*y.l.den ρ:=by
 unfold Pk;split
 ·refine(Jq hx).bind λaD n1 jY fi dL ⟨jf,ex,_,_,xj⟩=>(Jq (hy.agree dL fi)).bind λbo n2 jF dY c7 ⟨Oy,Dd,_,_,adR⟩=>(XB (jf.agree c7 dY) Oy).mono λeJ n3 q _ _ ⟨h1,h2⟩=>⟨h1,?_⟩;rw[h2,Dd,adR,aa.bG dL hy.1,aa.bG c7 jf.1,ex,xj]
 ·exact XB hx hy
theorem aci {nb:Nat} {m:Nat->Nat} (P:bj) {op:BinOp} {k a6:dj} {x y:bI} (t:aQ) (hx:x.ok n ρ) (hy:y.ok n ρ):
 ar S L (LO op k x a6 y) n ρ λag n' a=>a.ok n' nb ag/\∀w,(binOp op t (.int k (x.l.den ρ)) (.int a6 (y.l.den ρ))).run P w= .ok (a.den ag m) w:=by
 have br:∀s:Nat,(0:Int)<2^s:=λs=>by have:=Co s;exact_mod_cast this
 cases op<;>simp only[LO]
 case shl=>
  cases hc:y.l.dt with
  |none=>
   exact ar.fail
  |some c=>
   refine eg λh0=>?_;simp only[decide_eq_true_eq]at h0;have hp:=br (min c.toNat k.bits);refine rq (yV (x:=⟨x.l.smul (2^min c.toNat k.bits),x.lo*2^min c.toNat k.bits,x.hi*2^min c.toNat k.bits⟩) ⟨aa.sW hx.1,?_,?_⟩) λag n' q _ _ ho he=>⟨ho,λw=>?_⟩
   ·simp only[aa.j9];rw[wJ];exact za hx.2.1 (uY hp)
   ·simp only[aa.j9];rw[wJ x.hi];exact za hx.2.2 (uY hp)
   ·simp only[A.den,he,aa.j9,aa.iK hc,binOp,Op.shift];rw[if_neg (by omega)];simp[wJ]
 case shr=>
  cases hc:y.l.dt with
  |some c=>
   refine eg λh0=>?_;simp only[decide_eq_true_eq]at h0;have hp:=br (min c.toNat k.bits);refine rq ((C3 hp hx).mono λ_ _ q _ _ h=>⟨h.1,h.2.1⟩) λag n' q _ _ ho he=>⟨ho,λw=>?_⟩;simp only[A.den,he,aa.iK hc,binOp,Op.shift];rw[if_neg (by omega)];simp[auG _ (uY hp)]
  |none=>
   refine eg λh0=>?_;simp only[aO,decide_eq_true_eq]at h0;refine rq (apZ hx h0.1.1) λag n' q _ _ ho he=>⟨ho,λw=>?_⟩;have yb:=hy.2;simp only[A.den,he,binOp,Op.shift];rw[if_neg (by omega),show min (y.l.den ρ).toNat k.bits=(y.l.den ρ).toNat by omega];simp[auG _ (uY (br _))]
 case add=>
  refine eg λh0=>?_;simp only[decide_eq_true_eq]at h0;subst h0;have Ox:=hx.2;have yb:=hy.2
  refine rq (yV (x:=⟨x.l.add y.l,x.lo+y.lo,x.hi+y.hi⟩) ⟨aa.rH hx.1 hy.1,by simp only[aa.den_add];omega,by simp only[aa.den_add];omega⟩) λag n' q _ _ ho he=>⟨ho,λw=>?_⟩;simp[A.den,he,aa.den_add,binOp,Op.intArith]
 case sub=>
  refine eg λh0=>?_;simp only[decide_eq_true_eq]at h0;subst h0;have Ox:=hx.2;have yb:=hy.2
  refine rq (yV (x:=⟨x.l.sub y.l,x.lo-y.hi,x.hi-y.lo⟩) ⟨aa.wo hx.1 hy.1,by simp only[aa.lz];omega,by simp only[aa.lz];omega⟩) λag n' q _ _ ho he=>⟨ho,λw=>?_⟩;simp[A.den,he,aa.lz,binOp,Op.intArith]
 case mul=>
  refine eg λh0=>?_;simp only[decide_eq_true_eq]at h0;subst h0;refine rq (v:=k.wrap (x.l.den ρ*y.l.den ρ)) ((alm hx hy).bind λaD n1 p _ _ ⟨hp,ep⟩=>by rw[<-ep];exact yV hp) λag n' q _ _ ho he=>⟨ho,λw=>?_⟩;simp[A.den,he,binOp,Op.intArith]
 case quo=>
  cases hc:y.l.dt with
  |none=>
   exact ar.fail
  |some c=>
   refine eg λh0=>(Jq hx).bind λbV n0 jY nX ha0 ⟨jf,ex,adG,pq,xj⟩=>?_;simp only[aO,decide_eq_true_eq]at h0;obtain⟨h0,h1⟩:=h0;subst h0;have Ox:=jf.2;refine rq (v:=k.wrap (jY.l.den bV/c)) ((C3 h1 jf).bind λaD n1 p _ _ ⟨hp,ep,_⟩=>by rw[<-ep];exact yV hp) λag n' q _ _ ho he=>⟨ho,λw=>?_⟩;have hx0:0<=x.l.den ρ:=by rw[<-xj,<-ex];omega
   simp only[A.den,he,aa.iK hc,binOp,Op.intDiv];rw[ex,xj,if_neg (by simp),if_neg (by omega),Int.tdiv_eq_ediv_of_nonneg hx0];simp
 case rem=>
  cases hc:y.l.dt with
  |none=>
   refine eg λh0=>(Jq hx).bind λbV n0 jY nX ha0 ⟨jf,ex,adG,pq,xj⟩=>gC λhk=>?_;have h0:=of_decide_eq_true h0;subst h0;simp only[cp,er,af]at hk;have Wc:=aa.bG ha0 hy.1;have Ox:=jf.2;have yb:=(hy.agree ha0 nX).2
   have e1:=aax (jY.l.den bV) (show y.l.den bV≠0 by omega);have e2:=aay (jY.l.den bV) hk;have e3:jY.l.den bV% y.l.den bV<=jY.l.den bV:=by
    have h5:=aaz (jY.l.den bV) (y.l.den bV);have h6:=Int.mul_nonneg (uY hk) (auF (show 0<=jY.l.den bV by omega) (uY hk));omega
   have hf:aw 38 ([jY.l,y.l].map (·.den bV))=jY.l.den bV% y.l.den bV:=rfl;have fo:jY.l.den bV% y.l.den bV<=cond (decide (y.hi-1<=jY.hi)) (y.hi-1) jY.hi:=by
    cases decide (y.hi-1<=jY.hi)with
    |true=>simp only[cond_true];omega
    |false=>simp only[cond_false];omega
   refine rq (v:=jY.l.den bV% y.l.den bV) ((gf (by rw[hf];exact e1) (by rw[hf];exact fo)).bind λaD n1 l _ _ ⟨g1,g2⟩=>ar.pure ⟨⟨g1,by simp only;rw[g2,hf];exact e1,by simp only;rw[g2,hf];exact fo⟩,by simp only;rw[g2,hf]⟩) λag n' q _ _ ho he=>⟨ho,λw=>?_⟩;simp only[A.den,he,binOp,Op.intDiv];have awR:0<y.l.den ρ:=Wc▸hk;have hx0:0<=x.l.den ρ:=by rw[<-xj,<-ex];omega
   rw[Wc,ex,xj,if_neg (by simp),if_neg (by omega),Int.tmod_eq_emod_of_nonneg hx0];simp
  |some c=>
   exact ar.fail
 case and=>
  refine eg λh0=>?_;simp only[decide_eq_true_eq]at h0;subst h0;refine rq (abU hx hy) λag n' q _ _ ho he=>⟨ho,λw=>?_⟩;simp[A.den,he,binOp,Op.intBits,cy]
 case or=>
  refine eg λh0=>?_;simp only[decide_eq_true_eq]at h0;subst h0;refine rq (am8 hx hy) λag n' q _ _ ho he=>⟨ho,λw=>?_⟩;simp[A.den,he,binOp,Op.intBits,cy]
 case xor=>
  refine eg λh0=>?_;simp only[decide_eq_true_eq]at h0;subst h0;refine rq G5 λag n' q _ _ ho he=>⟨ho,λw=>?_⟩;simp[A.den,he,binOp,Op.intBits,cy]
 case andNot=>
  exact ar.fail
 all_goals
  refine eg λh0=>?_;simp only[decide_eq_true_eq]at h0;subst h0;have e1:=bg.tL hx hy;have e2:=bg.Mk hx hy;have e3:=bg.TQ hx hy;have fo:=bg.Mk hy hx;have oM:=bg.TQ hy hx;refine ar.pure ⟨?_,λw=>?_⟩
  ·first|exact e1.2|exact bg.uG e1.2|exact e2.2|exact e3.2|exact fo.2|exact oM.2
  ·simp[A.den,bg.tM,e1.1,e2.1,e3.1,fo.1,oM.1,binOp,Op.intCmp]
   try rfl
end
end Go.ba
namespace Go.ba
open M
abbrev ao:=List A×(aQ×Bool)
abbrev dz:=List (Nat×List (dj×Int))
structure cP where
 b:ai
 r:ai
 ex:Nat->Prop
 ro:Nat->Prop
 ds:List Deferred
def bO:List A->Bool
 |[.rows _ _ _ _ _]=>false
 |_=>true
noncomputable def aP (ρ:Env):List A->Nat
 |[.rows _ _ _ cap k]=>if cap.den ρ<0 then 0 else k
 |_=>2
def bK:List ay->List Int->Prop
 |[],[]=>True
 |c::sh,z::r=>(c.dQ.1<=z/\z<=c.dQ.2)/\bK sh r
 |_,_=>False
def dm:List ay->List Int->List az
 |c::sh,z::r=>c.val z::dm sh r
 |_,_=>[]
def bn (sh:List ay) (rows:List (List Int)):List az:=rows.flatMap (dm sh)
def pO (cells:Array az) (off:Nat) (sh:List ay) (rows:List (List Int)):Prop:=
 (∀row∈rows,bK sh row)/\∃pre post,cells.toList=pre++bn sh rows++post/\pre.length=off
theorem bK.len:∀{sh:List ay} {row:List Int},bK sh row->row.length=sh.length
 |[],[],_=>rfl
 |_::_,_::_,h=>by simp[bK.len h.2]
 |[],_::_,h=>h.elim
 |_::_,[],h=>h.elim
theorem bK.get:∀{sh:List ay} {row:List Int} {j:Nat} {c:ay},bK sh row->sh[j]?=some c->∃z,row[j]?=some z/\c.dQ.1<=z/\z<=c.dQ.2/\(dm sh row)[j]?=some (c.val z)
 |c'::sh,z::r,0,c,h,hc=>by
  simp only[m1,aL]at hc;subst hc;exact⟨z,rfl,h.1.1,h.1.2,rfl⟩
 |c'::sh,z::r,j+1,c,h,hc=>bK.get (sh:=sh) (row:=r) (j:=j) h.2 (by simpa using hc)
 |[],_,_,_,_,hc=>by simp at hc
 |_::_,[],_,_,h,_=>h.elim
theorem Fy:∀{sh:List ay} {row:List Int},bK sh row->(dm sh row).length=sh.length
 |[],[],_=>rfl
 |_::_,_::_,h=>by simp[dm,Fy h.2]
 |[],_::_,h=>h.elim
 |_::_,[],h=>h.elim
theorem l9 {sh:List ay}:∀{rows:List (List Int)},(∀row∈rows,bK sh row)->(bn sh rows).length=rows.length*sh.length
 |[],_=>by simp[bn]
 |r::rs,h=>by
  have ih:=l9 (rows:=rs) λrow hr=>h row (cD _ hr);have h1:=Fy (h r (by simp));simp only[bn,qA,dn,cW]at ih⊢;rw[ih,h1,rP];omega
theorem MF {sh:List ay}:∀{rows:List (List Int)} {i j:Nat} {row:List Int} {v:az},(∀row∈rows,bK sh row)->rows[i]?=some row->(dm sh row)[j]?=some v->(bn sh rows)[i*sh.length+j]?=some v
 |r::rs,0,j,row,v,h,hi,hj=>by
  simp only[m1,aL]at hi;subst hi;have hlt:=(List.getElem?_eq_some_iff.1 hj).1;simp only[bn,qA,Nat.zero_mul,zb];rw[rT hlt];exact hj
 |r::rs,i+1,j,row,v,h,hi,hj=>by
  have ih:=MF (rows:=rs) (i:=i) (λrow hr=>h row (cD _ hr)) (by simpa using hi) hj;have h1:=Fy (h r (by simp));simp only[bn,qA]at ih⊢;rw[uW (by rw[h1,rP];omega),h1,rP];rw[show i*sh.length+sh.length+j-sh.length=i*sh.length+j by omega];exact ih
 |[],i,_,_,_,_,hi,_=>by simp at hi
theorem pZ (sh:List ay) (a b:List (List Int)):bn sh (a++b)=bn sh a++bn sh b:=by simp[bn]
def qG (F:Nat->Prop) (w:ai) (sh:List ay) (rows:List (List Int)) (v:az):Prop:=
 ((∃p,v= .slice p 0 0)/\rows=[])∨∃(g o cap:Nat) (cells:Array az) (t:aQ) (fz:Nat×Nat),v= .slice (some ⟨g,o,none⟩) rows.length cap/\(rows.length<=cap/\(cap:Int)<=9223372036854775807/\rows.length<=140737488351232)/\F g/\w.heap[g]?=some (.cells cells t fz)/\pO cells o sh rows
def pU (F:Nat->Prop) (w:ai):ay->Int->az->Prop
 | .sub k,z,v=>qG F w (mo k) (ab z) v
 |c,z,v=>v=c.val z
def dV (F:Nat->Prop) (w:ai):List ay->List Int->List az->Prop
 |[],[],[]=>True
 |c::sh,z::r,v::vs=>pU F w c z v/\dV F w sh r vs
 |_,_,_=>False
def eD (F:Nat->Prop) (w:ai) (sh:List ay):List (List Int)->List az->Prop
 |[],vs=>vs=[]
 |row::rows,vs=>∃a b,vs=a++b/\dV F w sh row a/\eD F w sh rows b
def ie (F:Nat->Prop) (w:ai) (cells:Array az) (off:Nat) (sh:List ay) (rows:List (List Int)):Prop:=
 (∀row∈rows,bK sh row)/\∃pre vs post,cells.toList=pre++vs++post/\pre.length=off/\eD F w sh rows vs
def Fr (F:Nat->Prop) (w:ai) (F':Nat->Prop) (w':ai):Prop:=∀g,F g->∀o,w.heap[g]?=some o->F' g/\w'.heap[g]?=some o
theorem Fr.of {F F':Nat->Prop} (w:ai) (h:∀g,F g->F' g):Fr F w F' w:=λg hg o ho=>⟨h g hg,ho⟩
theorem Fr.trans {F F' Sk:Nat->Prop} {w w' lj:ai} (h:Fr F w F' w') (h':Fr F' w' Sk lj):Fr F w Sk lj:=λg hg o ho=>by
 obtain⟨h1,h2⟩:=h g hg o ho;exact h' g h1 o h2
theorem Fr.ext {F F':Nat->Prop} {w w':ai} (h:∀g,F g->F' g) (he:w.Extends w'):Fr F w F' w':=λg hg o ho=>⟨h g hg,by rw[he.block g (Array.getElem?_eq_some_iff.1 ho).1];exact ho⟩
theorem qG.mono {F F':Nat->Prop} {w w':ai} {sh:List ay} {rows:List (List Int)} {v:az} (h:qG F w sh rows v) (hf:Fr F w F' w'):qG F' w' sh rows v:=by
 rcases h with h|⟨g,o,cap,cells,t,fz,h1,h2,h3,h4,h5⟩
 ·exact .inl h
 ·obtain⟨k1,k2⟩:=hf g h3 _ h4;exact .inr ⟨g,o,cap,cells,t,fz,h1,h2,k1,k2,h5⟩
theorem pU.mono {F F':Nat->Prop} {w w':ai} {c:ay} {z:Int} {v:az} (h:pU F w c z v) (hf:Fr F w F' w'):pU F' w' c z v:=by
 cases c with
 |sub k=>exact qG.mono (F:=F) (w:=w) h hf
 |_=>exact h
theorem dV.mono {F F':Nat->Prop} {w w':ai} (hf:Fr F w F' w'):∀{sh:List ay} {row:List Int} {vs:List az},dV F w sh row vs->dV F' w' sh row vs
 |[],[],[],_=>trivial
 |c::sh,z::r,v::vs,h=>⟨h.1.mono hf,dV.mono hf h.2⟩
 |[],_::_,_,h=>h.elim
 |[],[],_::_,h=>h.elim
 |_::_,[],_,h=>h.elim
 |_::_,_::_,[],h=>h.elim
theorem eD.mono {F F':Nat->Prop} {w w':ai} (hf:Fr F w F' w') {sh:List ay}:∀{rows:List (List Int)} {vs:List az},eD F w sh rows vs->eD F' w' sh rows vs
 |[],_,h=>h
 |row::rows,vs,h=>by
  obtain⟨a,b,h1,h2,h3⟩:=h;exact⟨a,b,h1,h2.mono hf,eD.mono hf h3⟩
theorem ie.mono {F F':Nat->Prop} {w w':ai} {cells:Array az} {off:Nat} {sh:List ay} {rows:List (List Int)} (h:ie F w cells off sh rows) (hf:Fr F w F' w'):ie F' w' cells off sh rows:=by
 obtain⟨h1,pre,vs,post,h2,h3,h4⟩:=h;exact⟨h1,pre,vs,post,h2,h3,h4.mono hf⟩
theorem dV.len {F:Nat->Prop} {w:ai}:∀{sh:List ay} {row:List Int} {vs:List az},dV F w sh row vs->vs.length=sh.length
 |[],[],[],_=>rfl
 |c::sh,z::r,v::vs,h=>by simp[dV.len h.2]
 |[],_::_,_,h=>h.elim
 |[],[],_::_,h=>h.elim
 |_::_,[],_,h=>h.elim
 |_::_,_::_,[],h=>h.elim
theorem eD.len {F:Nat->Prop} {w:ai} {sh:List ay}:∀{rows:List (List Int)} {vs:List az},eD F w sh rows vs->vs.length=rows.length*sh.length
 |[],vs,h=>by
  have h:vs=[]:=h;simp[h]
 |row::rows,vs,h=>by
  obtain⟨a,b,rfl,h2,h3⟩:=h;have h4:=h2.len;have h5:=eD.len h3;rw[dn,h4,h5,cW,rP,Nat.add_comm]
theorem Fw {F:Nat->Prop} {w:ai}:∀{sh:List ay} {row:List Int} {vs:List az},iP sh=true->bK sh row->(dV F w sh row vs↔vs=dm sh row)
 |[],[],[],_,_=>⟨λ_=>rfl,λ_=>trivial⟩
 |[],[],_::_,_,_=>⟨λh=>h.elim,λh=>by cases h⟩
 |c::sh,z::r,[],_,_=>⟨λh=>h.elim,λh=>by cases h⟩
 |c::sh,z::r,v::vs,hp,hr=>by
  have hp:(c.plain&&sh.all ay.plain)=true:=hp;simp only[aO]at hp;have ih:=Fw (F:=F) (w:=w) (vs:=vs) hp.2 hr.2;have hc:pU F w c z v↔v=c.val z:=by
   cases c with
   |sub k=>cases hp.1
   |_=>exact Iff.rfl
  simp only[dV,dm,lp,hc,ih]
 |[],_::_,_,_,h=>h.elim
 |_::_,[],_,_,h=>h.elim
theorem Qb {F:Nat->Prop} {w:ai} {sh:List ay} (hp:iP sh=true):∀{rows:List (List Int)} {vs:List az},(∀row∈rows,bK sh row)->(eD F w sh rows vs↔vs=bn sh rows)
 |[],vs,_=>by simp[eD,bn]
 |row::rows,vs,h=>by
  have ih:=λb=>Qb (F:=F) (w:=w) hp (vs:=b) λr hr=>h r (cD _ hr);have h0:=h row (by simp);refine⟨λ⟨a,b,h1,h2,h3⟩=>?_,λh1=>⟨dm sh row,bn sh rows,by rw[h1];rfl,(Fw hp h0).2 rfl,(ih _).2 rfl⟩⟩;rw[h1,(Fw hp h0).1 h2,(ih b).1 h3];rfl
theorem mA {F:Nat->Prop} {w:ai} {cells:Array az} {off:Nat} {sh:List ay} {rows:List (List Int)} (hp:iP sh=true):ie F w cells off sh rows↔pO cells off sh rows:=
 ⟨λ⟨h1,pre,vs,post,h2,h3,h4⟩=>⟨h1,pre,post,by rw[h2,(Qb hp h1).1 h4],h3⟩,λ⟨h1,pre,post,h2,h3⟩=>⟨h1,pre,bn sh rows,post,h2,h3,(Qb hp h1).2 rfl⟩⟩
theorem dV.get {F:Nat->Prop} {w:ai}:∀{sh:List ay} {row:List Int} {vs:List az} {j:Nat} {c:ay},dV F w sh row vs->sh[j]?=some c->∃z v,row[j]?=some z/\vs[j]?=some v/\pU F w c z v
 |c'::sh,z::r,v::vs,0,c,h,hc=>by
  simp only[m1,aL]at hc;subst hc;exact⟨z,v,rfl,rfl,h.1⟩
 |c'::sh,z::r,v::vs,j+1,c,h,hc=>dV.get (sh:=sh) (row:=r) (vs:=vs) (j:=j) h.2 (by simpa using hc)
 |[],_,_,_,_,_,hc=>by simp at hc
 |_::_,[],_,_,_,h,_=>h.elim
 |_::_,_::_,[],_,_,h,_=>h.elim
theorem eD.get {F:Nat->Prop} {w:ai} {sh:List ay}:∀{rows:List (List Int)} {vs:List az} {i:Nat} {row:List Int},eD F w sh rows vs->rows[i]?=some row->dV F w sh row ((vs.drop (i*sh.length)).take sh.length)
 |r::rs,vs,0,row,h,hi=>by
  simp only[m1,aL]at hi;subst hi;obtain⟨a,b,rfl,h2,h3⟩:=h;rw[Nat.zero_mul,List.drop_zero,<-h2.len,List.take_left];exact h2
 |r::rs,vs,i+1,row,h,hi=>by
  obtain⟨a,b,rfl,h2,h3⟩:=h;have ih:=eD.get (i:=i) h3 (by simpa using hi);rw[rP,Nat.add_comm,<-List.drop_drop,<-h2.len,List.drop_left,h2.len];exact ih
 |[],_,_,_,_,hi=>by simp at hi
theorem Qa {F:Nat->Prop} {w:ai} {sh:List ay}:∀{r1 r2:List (List Int)} {v1 v2:List az},eD F w sh r1 v1->eD F w sh r2 v2->eD F w sh (r1++r2) (v1++v2)
 |[],r2,v1,v2,h1,h2=>by
  have h1:v1=[]:=h1;subst h1;exact h2
 |r::r1,r2,v1,v2,h1,h2=>by
  obtain⟨a,b,rfl,k1,k2⟩:=h1;exact⟨a,b++v2,by simp,k1,Qa k2 h2⟩
theorem eD.split {F:Nat->Prop} {w:ai} {sh:List ay}:∀{rows:List (List Int)} {vs:List az} (k:Nat),eD F w sh rows vs->eD F w sh (rows.take k) (vs.take (k*sh.length))/\eD F w sh (rows.drop k) (vs.drop (k*sh.length))
 |rows,vs,0,h=>by simpa [eD]using h
 |[],vs,k+1,h=>by
  have h:vs=[]:=h;subst h;simp[eD]
 |r::rs,vs,k+1,h=>by
  obtain⟨a,b,rfl,h2,h3⟩:=h;obtain⟨k1,k2⟩:=h3.split k;have e:=h2.len;have e2:(k+1)*sh.length=a.length+k*sh.length:=by rw[rP,e,Nat.add_comm]
  rw[e2,List.take_length_add_append,List.drop_length_add_append];exact⟨⟨a,_,rfl,h2,k1⟩,k2⟩
def tu (kind:Nat) (fz:Nat×Nat) (n:Nat):Prop:=(kind=2/\fz=(0,0))∨(kind≠2/\fz=(n,n+1))
theorem tu.two {fz:Nat×Nat} {n:Nat} (h:tu 2 fz n):fz=(0,0):=by
 rcases h with h|h
 ·exact h.2
 ·exact absurd rfl h.1
theorem tu.E1 {n:Nat}:tu 2 (0,0) n:= .inl ⟨rfl,rfl⟩
def gL (w0:cP) (ρ:Env) (F:Nat->Prop) (g:Nat) (sh:List ay) (off code cap:aa) (kind:Nat) (t:aQ) (w:ai):Prop:=
 kind≠0->(cap.den ρ<0->ab (code.den ρ)=[])/\(0<=cap.den ρ->(w0.ex g∨w0.ro g∨w0.r.heap.size<=g)/\∃cells t' fz,w.heap[g]?=some (.cells cells t' fz)/\(0<=off.den ρ/\ie F w cells (off.den ρ).toNat sh (ab (code.den ρ)))/\
  (2<=kind->t'=t/\off.den ρ=0/\tu kind fz cells.size/\cells.size=(cap.den ρ).toNat*sh.length/\w0.b.heap.size<=g/\(w0.ex g∨w0.r.heap.size<=g)))
def b7 (w0:cP) (ρ:Env) (m:Nat->Nat) (bl:List ao) (g:Nat):Prop:=
 (w0.ex g∨w0.ro g∨w0.r.heap.size<=g)/\∀(i:Nat) (p:ao),bl[i]?=some p->2<=aP ρ p.1->m i≠g
structure Mem (w0:cP) (ρ:Env) (m:Nat->Nat) (bl:List ao) (w:ai):Prop where
 ext:w0.b.Extends w
 jb:w.os=w0.r.os
 je:w.tape=w0.r.tape
 iw:w.output=w0.r.output
 eu:w0.r.heap.size<=w.heap.size
 gg:∀i:Nat,i<w0.r.heap.size->¬w0.ex i->w.heap[i]?=w0.r.heap[i]?
 blk:∀(i:Nat) (cs:List A) (t:aQ×Bool),bl[i]?=some (cs,t)->bO cs=true->w0.b.heap.size<=m i/\(w0.ex (m i)∨w0.r.heap.size<=m i)/\∃r:List az,(t.2=false->r=[])/\w.heap[m i]?=some (.cells (cs.map (A.den ρ m)++r).toArray t.1 (0,0))
 rws:∀(i:Nat) (sh:List ay) (off code cap:aa) (kind:Nat) (t:aQ×Bool),bl[i]?=some ([.rows sh off code cap kind],t)->gL w0 ρ (b7 w0 ρ m bl) (m i) sh off code cap kind t.1 w
 inj:∀(i j:Nat) (p q:ao),bl[i]?=some p->bl[j]?=some q->m i=m j->i=j∨(aP ρ p.1<=1/\aP ρ q.1<=1)∨aP ρ p.1=0∨aP ρ q.1=0
theorem Mem.lt {w0:cP} {ρ:Env} {m:Nat->Nat} {bl:List ao} {w:ai} (h:Mem w0 ρ m bl w) {i:Nat} {p:ao} (hi:bl[i]?=some p) (hk:aP ρ p.1≠0):m i<w.heap.size:=by
 obtain⟨cs,t⟩:=p;by_cases ho:bO cs=true
 ·obtain⟨_,_,r,_,h2⟩:=h.blk i cs t hi ho;exact(Array.getElem?_eq_some_iff.1 h2).1
 ·unfold bO at ho;split at ho
  ·rename_i sh off code cap k;simp only[aP]at hk;split at hk
   ·exact absurd rfl hk
   ·rename_i cK;obtain⟨_,cells,t',fz,h2,_⟩:=(h.rws i _ _ _ _ _ t hi hk).2 (by omega);exact(Array.getElem?_eq_some_iff.1 h2).1
  ·exact absurd rfl ho
theorem hh {ρ:Env} {cs:List A} (h:bO cs=true):aP ρ cs=2:=by
 unfold bO at h;unfold aP;split<;>simp_all
def b6 (n nb:Nat) (ρ:Env) (bl:List ao):Prop:=∀p∈bl,∀a∈p.1,A.ok n nb ρ a
def eL (gl:dz) (w0:cP):Prop:=∀g cs,(g,cs)∈gl->g<w0.b.heap.size/\∃t pd,w0.b.heap[g]?=some (.cells (cs.map λp=>Value.int p.1 p.2).toArray t pd)
theorem b6.ext {n n' nb jx:Nat} {ρ ag:Env} {bl:List ao} (h:b6 n nb ρ bl) (ha:agree n ρ ag) (hn:n<=n') (hb:nb<=jx):b6 n' jx ag bl:=
 λp hp a h'=>(h p hp a h').ext ha hn hb
theorem gL.dO {w0:cP} {n nb:Nat} {ρ ag:Env} {F:Nat->Prop} {g:Nat} {sh:List ay} {off code cap:aa} {kind:Nat} {t:aQ} {w:ai} (h:gL w0 ρ F g sh off code cap kind t w) (aX:(A.rows sh off code cap kind).ok n nb ρ) (ha:agree n ρ ag):gL w0 ag F g sh off code cap kind t w:=by
 unfold gL at*;rw[aa.bG ha aX.1.1,aa.bG ha aX.1.2.1,aa.bG ha aX.1.2.2];exact h
theorem gL.grow {w0:cP} {ρ:Env} {F F':Nat->Prop} {g:Nat} {sh:List ay} {off code cap:aa} {kind:Nat} {t:aQ} {w w':ai} (h:gL w0 ρ F g sh off code cap kind t w) (hf:Fr F w F' w') (he:kind≠0->0<=cap.den ρ->w'.heap[g]?=w.heap[g]?):gL w0 ρ F' g sh off code cap kind t w':=by
 intro hk;obtain⟨h1,h2⟩:=h hk;refine⟨h1,λhc=>?_⟩;rw[he hk hc];obtain⟨h3,cells,t',fz,h4,⟨h5,h6⟩,h7⟩:=h2 hc;exact⟨h3,cells,t',fz,h4,⟨h5,h6.mono hf⟩,h7⟩
theorem gL.mono {w0:cP} {ρ:Env} {F F':Nat->Prop} {g:Nat} {sh:List ay} {off code cap:aa} {kind:Nat} {t:aQ} {w:ai} (h:gL w0 ρ F g sh off code cap kind t w) (hf:∀g,F g->F' g):gL w0 ρ F' g sh off code cap kind t w:=
 h.grow (Fr.of w hf) λ_ _=>rfl
theorem b7.mono {w0:cP} {ρ ag:Env} {m m':Nat->Nat} {bl aJ:List ao} (h:∀(i:Nat) (p:ao),aJ[i]?=some p->2<=aP ag p.1->∃j q,bl[j]?=some q/\2<=aP ρ q.1/\m j=m' i):∀g,b7 w0 ρ m bl g->b7 w0 ag m' aJ g:=λg ⟨h1,h2⟩=>⟨h1,λi p hi hk=>by
 obtain⟨j,q,hj,hq,he⟩:=h i p hi hk;rw[<-he];exact h2 j q hj hq⟩
theorem mi {n nb:Nat} {ρ ag:Env} {cs:List A} (aX:∀a∈cs,A.ok n nb ρ a) (ha:agree n ρ ag):aP ag cs=aP ρ cs:=by
 unfold aP;split
 ·rename_i sh off code cap k;have h1:A.ok n nb ρ (.rows sh off code cap k):=aX _ (by simp);rw[aa.bG ha h1.1.2.2]
 ·rfl
theorem agree.sym {n:Nat} {ρ ag:Env} (h:agree n ρ ag):agree n ag ρ:=λi hi=>(h i hi).symm
theorem Mem.dO {w0:cP} {n:Nat} {ρ ag:Env} {m:Nat->Nat} {bl:List ao} {w:ai} (h:Mem w0 ρ m bl w) (hb:b6 n bl.length ρ bl) (ha:agree n ρ ag):Mem w0 ag m bl w:=
 ⟨h.ext,h.jb,h.je,h.iw,h.eu,h.gg,λi cs t hi ho=>by
  obtain⟨h1,h2,r,hr,h3⟩:=h.blk i cs t hi ho;exact⟨h1,h2,r,hr,by rw[qh (hb _ (c0 hi)) ha (λ_ _=>rfl)];exact h3⟩,
  λi sh off code cap kind t hi=>((h.rws i sh off code cap kind t hi).dO (hb _ (c0 hi) _ (by simp)) ha).mono (b7.mono λi p hi hk=>⟨i,p,hi,by rw[mi (hb _ (c0 hi)) ha]at hk;exact hk,rfl⟩),λi j p q hi hj he=>by
   rw[mi (hb _ (c0 hi)) ha,mi (hb _ (c0 hj)) ha];exact h.inj i j p q hi hj he⟩
theorem ix {ρ:Env} {sh:List ay} {off code cap:aa} {k:Nat} (hk:k≠0) (hc:0<=cap.den ρ):aP ρ [.rows sh off code cap k]=k:=by
 simp only[aP];rw[if_neg (by omega)]
theorem Mem.grow {w0:cP} {ρ:Env} {m:Nat->Nat} {bl:List ao} {w w':ai} (h:Mem w0 ρ m bl w) (he:w.Extends w'):Mem w0 ρ m bl w':=
 ⟨h.ext.trans he,he.os.trans h.jb,he.tape.trans h.je,he.output.trans h.iw,gk h.eu he.size,λi hi hx=>(he.block i (uX hi h.eu)).trans (h.gg i hi hx),λi cs t hi ho=>by
  obtain⟨h1,h2,r,hr,h3⟩:=h.blk i cs t hi ho;exact⟨h1,h2,r,hr,by rw[he.block _ (h.lt hi (by rw[hh ho];decide))];exact h3⟩,λi sh off code cap kind t hi=>(h.rws i sh off code cap kind t hi).grow (Fr.ext (λ_ h=>h) he) λhk hc=>he.block _ (h.lt hi (by simp only[ix hk hc];exact hk)),h.inj⟩
theorem Mem.ne {w0:cP} {ρ:Env} {m:Nat->Nat} {bl:List ao} {w:ai} (h:Mem w0 ρ m bl w) {i j:Nat} {p q:ao} (hi:bl[i]?=some p) (hj:bl[j]?=some q) (hp:2<=aP ρ p.1) (hq:aP ρ q.1≠0) (hne:i≠j):m i≠m j:=λe=>by
 rcases h.inj i j p q hi hj e with h|h|h|h
 ·exact hne h
 ·omega
 ·omega
 ·exact hq h
def dp (n nb:Nat) (ρ:Env) (m:Nat->Nat) (tm:List V) (tmps:Array az):Prop:=
 tm.length=tmps.size/\∀(i:Nat) (v:V),tm[i]?=some v->v.ok n nb ρ/\∃x,tmps[i]?=some x/\v.rel ρ m x
theorem dp.ext {n n' nb jx:Nat} {ρ ag:Env} {m m':Nat->Nat} {tm:List V} {tmps:Array az} (h:dp n nb ρ m tm tmps) (ha:agree n ρ ag) (hn:n<=n') (hb:nb<=jx) (hm:∀b,b<nb->m' b=m b):dp n' jx ag m' tm tmps:=
 ⟨h.1,λi v hv=>by obtain⟨h1,x,h2,h3⟩:=h.2 i v hv;exact⟨h1.ext ha hn hb,x,h2,h3.ext h1 ha hm⟩⟩
def oh:List V->Nat->V->List V
 |[],_,_=>[]
 |_::r,0,v=>v::r
 |x::r,i+1,v=>x::oh r i v
theorem Qp:∀(l:List V) (i:Nat) (v:V),oh l i v=l.set i v
 |[],_,_=>rfl
 |_::_,0,_=>rfl
 |_::r,i+1,v=>by simp[oh,Qp r i v]
def ew (tm:List V) (d:Option Tmp) (v:V):List V:=match d with|some d=>oh tm d v|none=>tm
theorem dp.put {n nb:Nat} {ρ:Env} {m:Nat->Nat} {tm:List V} {a:Act} {v:V} {x:az} (h:dp n nb ρ m tm a.tmps) (d:Option Tmp) (hv:v.ok n nb ρ) (hx:v.rel ρ m x):dp n nb ρ m (ew tm d v) (a.put d x).tmps:=by
 cases d with
 |none=>exact h
 |some d=>
  simp only[ew,Ct,Qp];refine⟨by simp[h.1],λi u hu=>?_⟩;rw[List.getElem?_set]at hu;by_cases hd:d=i
  ·subst hd;simp only[if_true]at hu;split at hu
   ·rename_i hlt;simp only[aL]at hu;subst hu;exact⟨hv,x,by simp[<-h.1,hlt],hx⟩
   ·cases hu
  ·rw[if_neg hd]at hu;obtain⟨h1,y,h2,h3⟩:=h.2 i u hu;exact⟨h1,y,by rw[auH (by omega)];exact h2,h3⟩
def zM:az->Option A
 | .int k n=>some (.int k (.const n))
 | .bool b=>some (.bool (.lit b))
 | .string s=>cond (bu s.size 1000000) (some (.str (.const (cZ s.data.toList)))) none
 |v=>cond v.oneCell' (some (.con v)) none
theorem TB {v:az} {a:A} (h:zM v=some a) (n nb:Nat) (ρ:Env) (m:Nat->Nat):a.ok n nb ρ/\a.den ρ m=v:=by
 unfold zM at h;split at h
 ·simp only[aL]at h;subst h;exact⟨bI.nc _ _ _,by simp[A.den,bI.const,aa.aR]⟩
 ·simp only[aL]at h;subst h;exact⟨trivial,rfl⟩
 ·rename_i s;cases hc:bu s.size 1000000 with
  |false=>simp[hc]at h
  |true=>
   simp only[hc,cond_true,aL]at h;subst h;have hl:s.data.toList.length<=eN:=by
    have:=eh hc;have h2:s.data.toList.length=s.size:=by simp
    unfold eN;omega
   refine⟨⟨aa.cC _ _,by rw[aa.aR];exact nR _,by rw[aa.aR];exact my hl⟩,?_⟩;simp[A.den,aa.aR,dZ,aG]
 ·cases hc:v.oneCell' with
  |false=>simp[hc]at h
  |true=>simp only[hc,cond_true,aL]at h;subst h;exact⟨hc,rfl⟩
def tJ:List az->Option (List A)
 |[]=>some []
 |v::r=>match zM v,tJ r with|some a,some l=>some (a::l)|_,_=>none
theorem xe:∀{vs:List az} {l:List A},tJ vs=some l->∀(n nb:Nat) (ρ:Env) (m:Nat->Nat),(∀a∈l,A.ok n nb ρ a)/\l.map (A.den ρ m)=vs
 |[],l,h,n,nb,ρ,m=>by simp[tJ]at h;subst h;simp
 |v::r,l,h,n,nb,ρ,m=>by
  simp only[tJ]at h;cases h1:zM v with
  |none=>simp[h1]at h
  |some a=>
   cases h2:tJ r with
   |none=>simp[h1,h2]at h
   |some bQ=>
    simp only[h1,h2,aL]at h;subst h;have e1:=TB h1 n nb ρ m;have e2:=xe h2 n nb ρ m;exact⟨λa ha=>by rcases List.mem_cons.1 ha with rfl|ha;exact e1.1;exact e2.1 a ha,by simp[e1.2,e2.2]⟩
def Hn:az->V
 | .agg cs=>match tJ cs.toList with|some l=> .w (.agg l)|none=> .any
 | .tuple _=> .any
 |v=>match zM v with|some a=> .w (.one a)|none=> .any
theorem ac6 (v:az) (n nb:Nat) (ρ:Env) (m:Nat->Nat):(Hn v).ok n nb ρ/\(Hn v).rel ρ m v:=by
 unfold Hn;split
 ·rename_i cs;cases h:tJ cs.toList with
  |none=>exact⟨trivial,trivial⟩
  |some l=>have e:=xe h n nb ρ m;exact⟨e.1,by simp[V.rel,W.den,e.2]⟩
 ·exact⟨trivial,trivial⟩
 ·cases h:zM v with
  |none=>exact⟨trivial,trivial⟩
  |some a=>have e:=TB h n nb ρ m;exact⟨e.1,by simp[V.rel,W.den,e.2]⟩
def bZ (tm:List V):lW->V
 | .tmp t=>(tm[t]?).getD .any
 | .const v=>Hn v
 | .global g=> .w (.one (.gptr g 0))
 | .func f=> .w (.one (.con (.func (.func f) #[] #[])))
theorem cq {n nb:Nat} {ρ:Env} {m:Nat->Nat} {tm:List V} {a:Act} (h:dp n nb ρ m tm a.tmps) (x:lW):(bZ tm x).ok n nb ρ/\(bZ tm x).rel ρ m (a.eval x):=by
 cases x with
 |tmp t=>
  simp only[bZ,Act.eval];cases ht:tm[t]? with
  |none=>exact⟨trivial,trivial⟩
  |some v=>
   obtain⟨h1,y,h2,h3⟩:=h.2 t v ht;exact⟨h1,by simp only[qx];rw[show a.tmps.getD t undef=y by simp[h2]];exact h3⟩
 |const v=>exact ac6 v n nb ρ m
 |global g=>exact⟨trivial,rfl⟩
 |func f=>exact⟨rfl,rfl⟩
def ob (P:bj) (t:aQ):Option Bool:=
 match P.underlying t with|some (.struct _)=>some true|some (.array _ _)=>some true|some _=>some false|none=>none
def eG (P:bj) (t:aQ):Option Nat:=match P.info? t with|some i=>some i.size|none=>none
theorem rF {P:bj} {t:aQ} {b:Bool} (h:ob P t=some b) (w:ai):(isAgg t).run P w= .ok b w:=by
 unfold ob at h;cases hu:P.underlying t with
 |none=>simp[hu]at h
 |some d=>cases d<;>simp[hu]at h<;>subst h<;>simp[isAgg,fe hu]
theorem iB {P:bj} {t:aQ} {k:Nat} (h:eG P t=some k) (w:ai):(sizeOf t).run P w= .ok k w:=by
 unfold eG at h;cases hi:P.info? t with
 |none=>simp[hi]at h
 |some i=>simp[hi]at h;subst h;simp[sizeOf,typeInfo,hi]
def zI (bl:List ao) (gl:dz):A->Option (List A)
 | .ptr b off=>match bl[b]? with|some (cs,_)=>cond (bO cs) (some (cs.drop off)) none|none=>none
 | .gptr g off=>match gl.find? (λp=>aH p.1 g)with|some (_,cs)=>some ((cs.drop off).map λp=> .int p.1 (.const p.2))|none=>none
 |_=>none
theorem jr (g o j:Nat):(⟨g,o,none⟩:Addr).add j=⟨g,o+j,none⟩:=by unfold Addr.add;split<;>simp_all
theorem L6 {w0:cP} {w:ai} {n:Nat} {ρ:Env} {m:Nat->Nat} {bl:List ao} {gl:dz} {p:A} {cs:List A} (hm:Mem w0 ρ m bl w) (hb:b6 n bl.length ρ bl) (hg:eL gl w0) (h:zI bl gl p=some cs):
 ∃g o,p.den ρ m= .pointer (some ⟨g,o,none⟩)/\(∀a∈cs,A.ok n bl.length ρ a)/\∀j a,cs[j]?=some a->w.cell? ⟨g,o+j,none⟩=some (a.den ρ m):=by
 unfold zI at h;split at h
 ·rename_i b off;cases hbl:bl[b]? with
  |none=>simp[hbl]at h
  |some q=>
   obtain⟨C,t⟩:=q;simp only[hbl]at h;cases jv:bO C with
   |false=>simp[jv]at h
   |true=>
   simp only[jv,cond_true,aL]at h;subst h;obtain⟨h1,_,r,_,h2⟩:=hm.blk b C t hbl jv;refine⟨m b,off,rfl,λa ha=>hb _ (c0 hbl) a (nL ha),λj a hj=>?_⟩;rw[wK]at hj;have hlt:off+j<C.length:=(List.getElem?_eq_some_iff.1 hj).1;simp only[jI,h2,rQ,pL,if_false,Kp];rw[rT (by simpa using hlt),ox,hj];rfl
 ·rename_i g off;cases hf:gl.find? (λp=>aH p.1 g)with
  |none=>simp[hf]at h
  |some q=>
   obtain⟨bb,C⟩:=q;simp only[hf,aL]at h;subst h;have ec:bb=g:=by have:=Gb hf;exact bx this
   subst ec;obtain⟨h1,t,pd,h2⟩:=hg bb C (y9 hf);refine⟨bb,off,rfl,λa ha=>?_,λj a hj=>?_⟩
   ·obtain⟨p,_,rfl⟩:=List.mem_map.1 ha;exact bI.nc _ _ _
   ·rw[ox,wK]at hj;cases hq:C[off+j]? with
    |none=>simp[hq]at hj
    |some q=>
     simp only[hq,tc,aL]at hj;subst hj;have:=hm.ext.cell ⟨bb,off+j,none⟩ h1;rw[this];simp[jI,h2,hq,A.den,bI.const,aa.aR]
 ·cases h
def O8 (P:bj) (bl:List ao) (gl:dz) (ty:aQ) (p:A):M V:=
 match zI bl gl p,ob P ty,eG P ty with
 |some cs,some true,some k=>cond (bu k cs.length) (pure (.w (.agg (cs.take k)))) fail
 |some (a::_),some false,_=>pure (.w (.one a))
 |_,_,_=>fail
section
variable {S:Nat->List Int->List Int->Prop} {L:V->Env->Prop} {n:Nat} {ρ:Env} {m:Nat->Nat} {bl:List ao} {gl:dz} {w0:cP} {P:bj}
def lv (w0:cP) (m:Nat->Nat) (bl:List ao) (n:Nat) (ρ:Env) (run:ai->Result az) (ag:Env) (n':Nat) (v:V):Prop:=
 v.ok n' bl.length ag/\∃val,v.rel ag m val/\∀w,Mem w0 ρ m bl w->run w= .ok val w
theorem akj (hb:b6 n bl.length ρ bl) (hg:eL gl w0) (hex:∃w,Mem w0 ρ m bl w) (ty:aQ) (p:A):ar S L (O8 P bl gl ty p) n ρ (lv w0 m bl n ρ λw=>(oA ty (p.den ρ m)).run P w):=by
 obtain⟨uP,hx⟩:=hex;unfold O8;cases hc:zI bl gl p with
 |none=>exact ar.fail
 |some cs=>
  obtain⟨g,o,hp,aX,_⟩:=L6 hx hb hg hc;have hcell:∀w,Mem w0 ρ m bl w->∀j a,cs[j]?=some a->w.cell? ⟨g,o+j,none⟩=some (a.den ρ m):=λw hw=>by
   obtain⟨bb,cj,nr,_,h'⟩:=L6 hw hb hg hc;rw[hp]at nr;simp only[azW,aL,Addr.mk.injEq,and_true]at nr;obtain⟨rfl,rfl⟩:=nr;exact h'
  cases ha:ob P ty with
  |none=>exact ar.fail
  |some b=>
   cases b with
   |true=>
    cases hs:eG P ty with
    |none=>exact ar.fail
    |some k=>
     refine eg λhk=>ar.pure ⟨λa h=>aX a (j1 h),_,rfl,λw hw=>?_⟩;have hk:k<=cs.length:=eh hk;have hl:=Gd (P:=P) w ⟨g,o,none⟩ ((cs.take k).map (A.den ρ m)) λj v hj=>by
      rw[jr];rw[ox]at hj;cases hq:(cs.take k)[j]? with
      |none=>simp[hq]at hj
      |some a=>
       simp only[hq,tc,aL]at hj;subst hj;refine hcell w hw j a ?_;rw[o0]at hq;split at hq
       ·exact hq
       ·cases hq
     simp only[j2,m5,wH hk]at hl;simp[oA,lV,hp,loadVar,rF ha,iB hs,hl,W.den]
   |false=>
    cases cs with
    |nil=>exact ar.fail
    |cons a r=>
     refine ar.pure ⟨aX a (by simp),_,rfl,λw hw=>?_⟩;have:=hcell w hw 0 a rfl;simp only[lq]at this;simp[oA,lV,hp,loadVar,rF ha,this,W.den]
def kindOf (P:bj) (ty:aQ):Option dj:=match P.underlying ty with|some (.int k)=>some k|_=>none
def sI:List Int->Int
 |[]=>0
 |[x]=>x
 |x::r=>cond (decide (x<=sI r)) x (sI r)
def sH:List Int->Int
 |[]=>0
 |[x]=>x
 |x::r=>cond (decide (sH r<=x)) x (sH r)
theorem Xv:∀(l:List Int),∀z∈l,sI l<=z/\z<=sH l
 |[],_,h=>by cases h
 |[x],z,h=>by simp at h;subst h;simp[sI,sH]
 |x::y::r,z,h=>by
  unfold sI sH;have ih:=Xv (y::r);rcases List.mem_cons.1 h with rfl|h
  ·refine⟨?_,?_⟩
   ·cases hc:decide (z<=sI (y::r))with
    |true=>simp
    |false=>simp at hc⊢;omega
   ·cases hc:decide (sH (y::r)<=z)with
    |true=>simp
    |false=>simp at hc⊢;omega
  ·have:=ih z h;refine⟨?_,?_⟩
   ·cases hc:decide (x<=sI (y::r))with
    |true=>simp at hc⊢;omega
    |false=>simp;exact this.1
   ·cases hc:decide (sH (y::r)<=x)with
    |true=>simp at hc⊢;omega
    |false=>simp;exact this.2
def Qn (P:bj) (gl:dz) (ty:aQ) (g off:Nat) (bh:bI):M V:=λn c=>
 match gl.find? (λp=>aH p.1 g),kindOf P ty with
 |some (_,cs),some k=>cond (((cs.drop off).take (bh.hi.toNat+1)).all (λp=>decide (p.1=k))&&aH ((cs.drop off).take (bh.hi.toNat+1)).length (bh.hi.toNat+1)&&decide (0<=bh.lo))
  (.JN n (((cs.drop off).take (bh.hi.toNat+1)).map λp=> .const p.2) bh.l (sI (((cs.drop off).take (bh.hi.toNat+1)).map (·.2))) (sH (((cs.drop off).take (bh.hi.toNat+1)).map (·.2)))
    (c (.w (.one (.int k ⟨.var n,sI (((cs.drop off).take (bh.hi.toNat+1)).map (·.2)),sH (((cs.drop off).take (bh.hi.toNat+1)).map (·.2))⟩))) (n+1))) .stuck
 |_,_=> .stuck
theorem apR (hg:eL gl w0) (ty:aQ) (g off:Nat) {bh:bI} (Ax:bh.ok n ρ):ar S L (Qn P gl ty g off bh) n ρ (lv w0 m bl n ρ λw=>(oA ty ((A.z1 g off bh).den ρ m)).run P w):=by
 intro avf c hk;unfold Qn at hk;cases hf:gl.find? (λp=>aH p.1 g)with
 |none=>simp[hf,T.holds]at hk
 |some q=>
  obtain⟨bb,cs⟩:=q;have ec:bb=g:=by have:=Gb hf;exact bx this
  subst ec;cases fq:kindOf P ty with
  |none=>simp[hf,fq,T.holds]at hk
  |some k=>
   simp only[hf,fq]at hk;generalize hC:(cs.drop off).take (bh.hi.toNat+1)=C at hk;cases hc:(C.all (λp=>decide (p.1=k))&&aH C.length (bh.hi.toNat+1)&&decide (0<=bh.lo))with
   |false=>simp[hc,T.holds]at hk
   |true=>
    simp only[hc,cond_true,T.holds]at hk;simp only[aO,decide_eq_true_eq]at hc;obtain⟨⟨c1,c2⟩,c3⟩:=hc;have c2:=bx c2;have xb:=Ax.2;have hlt:(bh.l.den ρ).toNat<C.length:=by omega
    have hz:((C.map λp=>aa.const p.2).map (·.den ρ)).getD (bh.l.den ρ).toNat 0=(C[(bh.l.den ρ).toNat]).2:=by
     simp[aC,hlt,aa.aR]
    have kY:=Xv (C.map (·.2)) _ (List.mem_map_of_mem (Gh hlt));refine⟨_,n+1,_,ku _,agree.cU _ _ _,(show lv w0 m bl n ρ _ (cU ρ n (((C.map λp=>aa.const p.2).map (·.den ρ)).getD (bh.l.den ρ).toNat 0)) (n+1) (.w (.one (.int k ⟨.var n,sI (C.map (·.2)),sH (C.map (·.2))⟩))) from⟨⟨aa.eo (rU n),?_,?_⟩,_,rfl,?_⟩),hk _ (by rw[hz];exact kY.1) (by rw[hz];exact kY.2) rfl⟩
    ·simp only[aa.ck,jD,hz];exact kY.1
    ·simp only[aa.ck,jD,hz];exact kY.2
    ·intro w hw;have hu:ob P ty=some false:=by
      unfold kindOf at fq;unfold ob;cases hq:P.underlying ty with
      |none=>simp[hq]at fq
      |some d=>cases d<;>simp[hq]at fq<;>rfl
     have ir:(C[(bh.l.den ρ).toNat]).1=k:=by simpa using List.all_eq_true.1 c1 _ (Gh hlt)
     have hcs:cs[off+(bh.l.den ρ).toNat]?=some (C[(bh.l.den ρ).toNat]):=by
      have h3:C[(bh.l.den ρ).toNat]?=some (C[(bh.l.den ρ).toNat]):=hP hlt;have h4:C[(bh.l.den ρ).toNat]?=cs[off+(bh.l.den ρ).toNat]?:=by rw[<-hC,o0,if_pos (by omega),wK]
      rw[<-h4,h3]
     obtain⟨vD,t,pd,agt⟩:=hg bb cs (y9 hf);have hcell:w.cell? ⟨bb,off+(bh.l.den ρ).toNat,none⟩=some (.int k (C[(bh.l.den ρ).toNat]).2):=by
      rw[hw.ext.cell _ vD];simp only[jI,agt,rQ,pL,if_false,Kp];rw[ox,hcs,tc,ir]
     simp only[W.den,A.den,aa.ck,jD,hz];simp[oA,lV,loadVar,rF hu,hcell]
end
end Go.ba
namespace Go.ba
open M
abbrev dW:=cz->Option (List ao->List V->M V)
def zq (P:bj) (o:Oper) (a:Act) (w:ai) (val:az):Prop:=
 (execOp a.eval o).run P w= .ok (.value val) w∨
 ∃f args,(execOp a.eval o).run P w= .ok (.enter f args) w/\Calls P f args w λe lj=>e= .returned val/\w.Extends lj
def zn (P:bj) (f:cz) (args:Array az) (w:ai) (val:az):Prop:=
 (callFunc f args).run P w= .ok (.value val) w∨
 ((callFunc f args).run P w= .ok (.enter f args) w/\Calls P f args w λe lj=>e= .returned val/\w.Extends lj)
def df (ρ:Env) (m:Nat->Nat):List V->List az->Prop
 |[],[]=>True
 |v::r,x::s=>v.rel ρ m x/\df ρ m r s
 |_,_=>False
def fl (S:Nat->List Int->List Int->Prop) (P:bj) (gl:dz) (w0:cP) (cal:dW):Prop:=
 ∀f g,cal f=some g->∀(L:V->Env->Prop) (n:Nat) (ρ:Env) (m:Nat->Nat) (bl:List ao) (vs:List V) (xs:List az),b6 n bl.length ρ bl->(∃w,Mem w0 ρ m bl w)->(∀v∈vs,v.ok n bl.length ρ)->df ρ m vs xs->
  ar S L (g bl vs) n ρ λag n' v=>v.ok n' bl.length ag/\∃val,v.rel ag m val/\∀w,Mem w0 ρ m bl w->zn P f xs.toArray w val
def Df (P:bj) (s:aQ) (f:Nat):Option Field:=match P.underlying s with|some (.struct dE)=>dE[f]?|_=>none
def tC (P:bj) (t:aQ):Option (Nat×aQ):=match P.underlying t with|some (.array n e)=>some (n,e)|_=>none
def hH (P:bj) (t:aQ):Option aQ:=match P.underlying t with|some (.slice e)=>some e|_=>none
def Jm (P:bj) (t:aQ) (l:List A) (off:Nat):M V:=
 match ob P t,eG P t with
 |some true,some k=>pure (.w (.agg ((l.drop off).take k)))
 |some false,_=>match l[off]? with|some a=>pure (.w (.one a))|none=>fail
 |_,_=>fail
def OD (P:bj) (t:aQ) (x:V) (bh:bI):M V:=
 match x with
 | .w (.one (.ptr b off))=>match tC P t with
  |some (len,e)=>match eG P e with
   |some s=>match bh.l.dt with
    |some i=>cond (decide (0<=i)&&decide (i<len)) (pure (.w (.one (.ptr b (off+i.toNat*s))))) fail
    |none=>cond (aH s 1&&decide (0<=bh.lo)&&decide (bh.hi<len)) (pure (.w (.one (.og b off bh)))) fail
   |none=>fail
  |none=>fail
 | .w (.one (.gptr g off))=>match tC P t with
  |some (len,e)=>match eG P e with
   |some s=>match bh.l.dt with
    |some _=>fail
    |none=>cond (aH s 1) (bind (fg 74 [bh.l,.const len]) λ_=>pure (.w (.one (.z1 g off ⟨bh.l,0,(len:Int)-1⟩)))) fail
   |none=>fail
  |none=>fail
 | .w (.one (.slc b off len _))=>match hH P t with
  |some e=>match eG P e with
   |some s=>match bh.l.dt with
    |some i=>cond (decide (0<=i)&&decide (i<len)) (pure (.w (.one (.ptr b (off+i.toNat*s))))) fail
    |none=>cond (aH s 1&&decide (0<=bh.lo)&&decide (bh.hi<len)) (pure (.w (.one (.og b off bh)))) fail
   |none=>fail
  |none=>fail
 |_=>fail
def uz:List V->Option (List A)
 |[]=>some []
 | .w (.one a)::r=>match uz r with|some l=>some (a::l)|none=>none
 |_::_=>none
def adO:List A->List A->Option bg
 |[],[]=>some (.lit true)
 | .int k x::r,.int a6 y::r'=>cond (decide (k=a6)) (match adO r r' with|some b=>some (.mkAnd (.mkEq x y) b)|none=>none) none
 |_,_=>none
def Dl (P:bj):Nat->List Field->Bool
 |_,[]=>true
 |i,f::r=>(f.name != "_")&&aH f.offset i&&Dl P (i+1) r
noncomputable def pb (P:bj):List Field->List A->List A->M bg
 |[],[],[]=>pure (.lit true)
 |f::dE,.int k a::xs,.int a6 b::ft=>match kindOf P f.type with
  |some k2=>cond (decide (k=a6)) (bind (pb P dE xs ft) λr=>pure (.mkAnd (.mkEq a b) r)) fail
  |none=>fail
 |f::dE,.str a::xs,.str b::ft=>match P.underlying f.type with
  |some .string=>bind (eA 4 [a,b] 0 1) λl=>bind (pb P dE xs ft) λr=>pure (.mkAnd (.mkEq ⟨l,0,1⟩ (.const 1)) r)
  |_=>fail
 |_,_,_=>fail
noncomputable def T5 (P:bj) (g:aQ->List A->List A->M bg):Nat->List Field->List A->List A->M bg
 |_,[],_,_=>pure (.lit true)
 |o,f::dE,x,y=>match eG P f.type with
  |some s=>cond ((f.name != "_")&&aH f.offset o) (bind (g f.type (x.take s) (y.take s)) λb=>bind (T5 P g (o+s) dE (x.drop s) (y.drop s)) λr=>pure (.mkAnd b r)) fail
  |none=>fail
noncomputable def adN (P:bj):Nat->aQ->List A->List A->M bg
 |0,_,_,_=>fail
 |d+1,t,x,y=>match P.underlying t with
  |some (.int k)=>match x,y with
   |[.int k1 a],[.int k2 b]=>cond (decide (k1=k2)) (pure (.mkEq a b)) fail
   |_,_=>fail
  |some .string=>match x,y with
   |[.str a],[.str b]=>bind (eA 4 [a,b] 0 1) λl=>pure (.mkEq ⟨l,0,1⟩ (.const 1))
   |_,_=>fail
  |some .bool=>match x,y with
   |[.bool a],[.bool b]=>pure (.mkIff a b)
   |_,_=>fail
  |some (.struct dE)=>cond (!P.stoodInHeld t) (T5 P (adN P d) 0 dE.toList x y) fail
  |_=>fail
noncomputable def Hv (P:bj) (t:aQ) (x y:List A):M bg:=
 match P.underlying t with
 |some (.struct dE)=>cond (Dl P 0 dE.toList&& !P.stoodInHeld t&& !P.eqGuardType P.depth t) (pb P dE.toList x y) fail
 |_=>fail
noncomputable def QD (op:BinOp) (a b:aa):M V:=
 match op with
 | .add=>bind (fg 3 [a,b]) λ_=>bind (eA 3 [a,b] 0 bp) λl=>pure (.w (.one (.str l)))
 | .eql=>bind (eA 4 [a,b] 0 1) λl=>pure (.w (.one (.bool (.mkEq ⟨l,0,1⟩ (.const 1)))))
 | .neq=>bind (eA 4 [a,b] 0 1) λl=>pure (.w (.one (.bool (.mkNot (.mkEq ⟨l,0,1⟩ (.const 1))))))
 | .lss=>bind (eA 5 [a,b] 0 1) λl=>pure (.w (.one (.bool (.mkEq ⟨l,0,1⟩ (.const 1)))))
 | .geq=>bind (eA 5 [a,b] 0 1) λl=>pure (.w (.one (.bool (.mkNot (.mkEq ⟨l,0,1⟩ (.const 1))))))
 |_=>fail
def Zn (s:aa):M V:=bind (eA 0 [s] 0 9223372036854775807) λl=>pure (.w (.one (.int .i64 ⟨l,0,9223372036854775807⟩)))
def Zm (s i:aa):M V:=bind (fg 1 [s,i]) λ_=>bind (eA 1 [s,i] 0 255) λl=>pure (.w (.one (.int .u8 ⟨l,0,255⟩)))
noncomputable def JU (s a b:aa):M V:=bind (fg 2 [s,a,b]) λ_=>bind (eA 2 [s,a,b] 0 bp) λl=>pure (.w (.one (.str l)))
def mP (v:V):Option aa:=match v with| .w (.one (.int _ a))=>some a.l|_=>none
noncomputable def QE (tm:List V) (s:aa) (lo hi:Option lW):M V:=
 match(match lo with|none=>some (aa.const 0)|some x=>mP (bZ tm x))with
 |none=>fail
 |some a=>match hi with
  |none=>bind (eA 0 [s] 0 9223372036854775807) λb=>JU s a b
  |some y=>match mP (bZ tm y)with
   |some b=>JU s a b
   |none=>fail
noncomputable def S9 (P:bj) (op:BinOp) (t:aQ) (x y:V):M V:=
 match x,y with
 | .w (.one (.int k a)),.w (.one (.int a6 b))=>bind (LO op k a a6 b) λr=>pure (.w (.one r))
 | .w (.agg a),.w (.agg b)=>match op with
  | .eql=>bind (Hv P t a b) λe=>pure (.w (.one (.bool e)))
  | .neq=>bind (Hv P t a b) λe=>pure (.w (.one (.bool (.mkNot e))))
  |_=>fail
 | .w (.one (.str a)),.w (.one (.str b))=>QD op a b
 | .w (.one (.bool a)),.w (.one (.bool b))=>match op,P.underlying t with
  | .eql,some .bool=>pure (.w (.one (.bool (.mkIff a b))))
  | .neq,some .bool=>pure (.w (.one (.bool (.mkNot (.mkIff a b)))))
  |_,_=>fail
 |_,_=>fail
def ZC (op:UnOp) (x:V):M V:=
 match op,x with
 | .not,.w (.one (.bool b))=>pure (.w (.one (.bool (.mkNot b))))
 | .xor,.w (.one (.int k a))=>cond (!k.signed&&decide (0<=a.lo)&&decide (a.hi<two k)) (pure (.w (.one (.int k ⟨(aa.const (two k-1)).sub a.l,two k-1-a.hi,two k-1-a.lo⟩)))) fail
 | .neg,.w (.one (.int k a))=>bind (uO k ⟨a.l.smul (-1),-a.hi,-a.lo⟩) λr=>pure (.w (.one (.int k r)))
 |_,_=>fail
def TC (P:bj) (src dst:aQ) (x:V):M V:=
 match P.underlying src,P.underlying dst,x with
 |some _,some .string,.w (.one (.int _ a))=>match a.l.dt with
  |some c=>cond (bu (Kq c).size 1000) (pure (.w (.one (.str (.const (cZ (Kq c).data.toList)))))) fail
  |none=>fail
 |_,_,_=>match P.underlying src,kindOf P dst,x with
 |some _,some k,.w (.one (.int _ a))=>bind (uO k a) λr=>pure (.w (.one (.int k r)))
 |_,_,_=>fail
def Hm (v:V):Option Int:=match v with| .w (.one (.int _ a))=>a.l.dt|_=>none
def Jf (tm:List V):Option lW->Option (Option Int)
 |none=>some none
 |some x=>match Hm (bZ tm x)with|some c=>some (some c)|none=>none
def Zc (P:bj) (t:aQ) (x:V) (lo hi:Option Int):M V:=
 match x,tC P t with
 | .w (.one (.ptr b off)),some (n,e)=>match eG P e with
  |some s=>cond (decide (0<=lo.getD 0)&&decide (lo.getD 0<=hi.getD n)&&decide (hi.getD n<=n)&&decide (lo.getD 0<n)) (pure (.w (.one (.slc b (off+(lo.getD 0).toNat*s) ((hi.getD n).toNat-(lo.getD 0).toNat) (n-(lo.getD 0).toNat))))) fail
  |none=>fail
 | .w (.one (.slc b off len cap)),none=>match hH P t with
  |some e=>match eG P e with
   |some s=>cond (decide (0<=lo.getD 0)&&decide (lo.getD 0<=hi.getD len)&&decide (hi.getD len<=cap)&&decide (lo.getD 0<cap)) (pure (.w (.one (.slc b (off+(lo.getD 0).toNat*s) ((hi.getD len).toNat-(lo.getD 0).toNat) (cap-(lo.getD 0).toNat))))) fail
   |none=>fail
  |none=>fail
 |_,_=>fail
def XJ (x:V):M V:=
 match x with
 | .w (.one (.ptr b o))=>pure (.w (.one (.ptr b o)))
 | .w (.one (.og b o i))=>pure (.w (.one (.og b o i)))
 | .w (.one (.gptr g o))=>pure (.w (.one (.gptr g o)))
 |_=>fail
def W.cells:W->List A
 | .one a=>[a]
 | .agg l=>l
def lS (P:bj) (t:aQ):Option (List A):=
 match P.info? t with
 |some i=>match i.zero with
  |some z=>tJ z.cells.toList
  |none=>none
 |none=>none
def sc (place:Nat->Option (Nat×Nat)):List A->List (Nat×V)->Option (List A)
 |cells,[]=>some cells
 |cells,(i,.w u)::r=>match place i with
  |some (off,size)=>cond (aH u.cells.length size&&bu (off+size) cells.length) (sc place (cells.take off++u.cells++cells.drop (off+size)) r) none
  |none=>none
 |_,_::_=>none
def LW (P:bj) (t:aQ) (parts:List (Nat×V)):Option (List A):=
 match lS P t,P.underlying t with
 |some z,some (.array _ e)=>match eG P e with
  |some s=>sc (λi=>some (i*s,s)) z parts
  |none=>none
 |some z,some (.struct fields)=>match fields.toList.mapM (λf=>(P.info? f.type).map λi=>(f.offset,i.size))with
  |some places=>sc (places.toArray[·]?) z parts
  |none=>none
 |_,_=>none
noncomputable def PL (P:bj) (cal:dW) (gl:dz) (bl:List ao) (tm:List V) (o:Oper):M V:=
 match o.op with
 | .move x| .assign x=>pure (bZ tm x)
 | .load t x=>match bZ tm x with
  | .w (.one (.z1 g off bh))=>Qn P gl t g off bh
  | .w (.one p)=>O8 P bl gl t p
  |_=>fail
 | .nilCheck x=>XJ (bZ tm x)
 | .pick c x y=>match bZ tm c with
  | .w (.one (.bool (.lit v)))=>pure (cond v (bZ tm x) (bZ tm y))
  |_=>fail
 | .binOp op t x y _=>S9 P op t (bZ tm x) (bZ tm y)
 | .unOp op _ x=>ZC op (bZ tm x)
 | .convert s d x=>TC P s d (bZ tm x)
 | .indexAddr t x bh=>match bZ tm bh with
  | .w (.one (.int _ i))=>OD P t (bZ tm x) i
  |_=>fail
 | .index t x bh=>match bZ tm x with
  | .w (.one (.str s))=>match P.underlying t,mP (bZ tm bh)with
   |some .string,some i=>Zm s i
   |_,_=>fail
  |_=>match bZ tm x,Hm (bZ tm bh),tC P t with
   | .w (.agg l),some i,some (len,e)=>match eG P e with
    |some s=>cond (decide (0<=i)&&decide (i<len)) (Jm P e l (i.toNat*s)) fail
    |none=>fail
   |_,_,_=>fail
 | .fieldAddr s x f=>match bZ tm x,Df P s f with
  | .w (.one (.ptr b off)),some fd=>match eG P fd.type with
   |some (_+1)=>pure (.w (.one (.ptr b (off+fd.offset))))
   |_=>fail
  |_,_=>fail
 | .field s x f=>match bZ tm x,Df P s f with
  | .w (.agg l),some fd=>Jm P fd.type l fd.offset
  |_,_=>fail
 | .extract x i=>match bZ tm x with
  | .eV l=>match l[i]? with|some u=>pure (.w u)|none=>fail
  |_=>fail
 | .slice t x lo hi none=>match bZ tm x,P.underlying t with
  | .w (.one (.str s)),some .string=>QE tm s lo hi
  |_,_=>match Jf tm lo,Jf tm hi with
   |some l,some h=>Zc P t (bZ tm x) l h
   |_,_=>fail
 | .call c=>match c.callee with
  | .value (.func f)=>match cal f with
   |some g=>g bl (c.args.toList.map (bZ tm))
   |none=>fail
  | .builtin .len=>match c.args.toList,c.argTypes.toList with
   |[x],[t]=>match bZ tm x,P.underlying t with
    | .w (.one (.str s)),some .string=>Zn s
    |_,_=>match bZ tm x,hH P t with
     | .w (.one (.slc _ _ len _)),some _=>pure (.w (.one (.int .i64 (.const len))))
     |_,_=>fail
   |_,_=>fail
  |_=>fail
 | .makeFunc (.func f) first gX=>match first.toList,uz (gX.toList.map (bZ tm))with
  |[],some l=>pure (.mE f l)
  |_,_=>fail
 | .build t parts=>match LW P t (parts.toList.map λp=>(p.1,bZ tm p.2))with
  |some l=>pure (.w (.agg l))
  |none=>fail
 |_=>fail
section
variable {S:Nat->List Int->List Int->Prop} {L:V->Env->Prop} {n:Nat} {ρ:Env} {m:Nat->Nat} {bl:List ao} {gl:dz} {w0:cP} {P:bj} {tm:List V} {a:Act}
def lu (w0:cP) (m:Nat->Nat) (bl:List ao) (n:Nat) (ρ:Env) (P:bj) (o:Oper) (a:Act) (ag:Env) (n':Nat) (v:V):Prop:=
 v.ok n' bl.length ag/\∃val,v.rel ag m val/\∀w,Mem w0 ρ m bl w->zq P o a w val
theorem lu.of_run {o:Oper} {s:Sem az} {ag:Env} {n':Nat} {v:V} (he:execOp a.eval o=(do pure (kO (<-s)))) (h:lv w0 m bl n ρ (λw=>s.run P w) ag n' v):lu w0 m bl n ρ P o a ag n' v:=by
 obtain⟨h1,val,h2,h3⟩:=h;exact⟨h1,val,h2,λw hw=> .inl (by rw[he];simp[h3 w hw])⟩
theorem W.Hi {n nb:Nat} {ρ:Env} {m:Nat->Nat} (u:W) (hu:u.ok n nb ρ):(u.den ρ m).cells=(u.cells.map (A.den ρ m)).toArray:=by
 cases u with
 |one a=>
  have:=A.Jc (m:=m) hu;simp only[W.den,W.cells,cp,er];generalize A.den ρ m a=v at*;cases v<;>first|rfl|simp[Value.oneCell']at this
 |agg l=>simp[W.den,W.cells,Value.cells]
theorem W.zJ {n nb:Nat} {ρ:Env} {u:W} (hu:u.ok n nb ρ):∀a∈u.cells,A.ok n nb ρ a:=by
 cases u with
 |one a=>intro x hx;simp[W.cells]at hx;subst hx;exact hu
 |agg l=>exact hu
def GJ (n nb:Nat) (ρ:Env) (m:Nat->Nat):List (Nat×V)->List (Nat×az)->Prop
 |[],[]=>True
 |p::r,q::s=>(p.1=q.1/\V.ok n nb ρ p.2/\V.rel ρ m p.2 q.2)/\GJ n nb ρ m r s
 |_,_=>False
theorem Uw (off:Nat):∀(src:List az) (dst:Array az) (k:Nat),off+k+src.length<=dst.size->
 ((src.zipIdx k).foldl (λcs (c,j)=>cs.setIfInBounds (off+j) c) dst)=(dst.toList.take (off+k)++src++dst.toList.drop (off+k+src.length)).toArray
 |[],dst,k,h=>by simp
 |c::src,dst,k,h=>by
  simp only[cW]at h;rw[List.zipIdx_cons,List.foldl_cons,Uw off src _ (k+1) (by simp;omega)]
  congr 1
  simp only[Array.toList_setIfInBounds,cW];have h1:off+k<dst.toList.length:=by simp;omega
  rw[List.take_set,show off+(k+1)=off+k+1 by omega,List.drop_set_of_lt (by omega),List.take_add_one,hP h1];rw[show off+k+1+src.length=off+k+(src.length+1) by omega];simp only[Option.toList_some];rw[List.set_append_right _ _ (by simp;omega)];have hm:min (off+k) dst.size=off+k:=wH (by omega);simp[hm]
theorem HB {n nb:Nat} {ρ:Env} {m:Nat->Nat} {place:Nat->Option (Nat×Nat)}:∀{parts:List (Nat×V)} {vals:List (Nat×az)} {cells l:List A},sc place cells parts=some l->(∀a∈cells,A.ok n nb ρ a)->
 GJ n nb ρ m parts vals->(∀a∈l,A.ok n nb ρ a)/\aaE place (cells.map (A.den ρ m)).toArray vals=some (l.map (A.den ρ m)).toArray
 |[],[],cells,l,h,hc,_=>by simp[sc]at h;subst h;exact⟨hc,rfl⟩
 |(i,.w u)::r,(ye,x)::s,cells,l,h,hc,⟨⟨e1,e2,e3⟩,hr⟩=>by
  simp only at e1;subst e1;simp only[V.rel]at e3;have e3:x=u.den ρ m:=e3;subst e3;simp only[sc]at h;cases hp:place i with
  |none=>simp[hp]at h
  |some q=>
   obtain⟨off,size⟩:=q;simp only[hp]at h;cases hq:(aH u.cells.length size&&bu (off+size) cells.length)with
   |false=>simp[hq]at h
   |true=>
    simp only[hq,cond_true]at h;simp only[aO]at hq;have q1:=bx hq.1;have q2:=eh hq.2;have jO:=W.Hi (m:=m) u e2;obtain⟨g1,g2⟩:=HB (m:=m) h (λa ha=>by
     rcases List.mem_append.1 ha with ha|ha
     ·rcases List.mem_append.1 ha with ha|ha
      ·exact hc a (j1 ha)
      ·exact W.zJ e2 a ha
     ·exact hc a (nL ha)) hr
    refine⟨g1,?_⟩;simp only[aaE,hp,jO,List.size_toArray,j2,q1];rw[if_neg (by simp;omega)];rw[<-g2]
    congr 1
    have:=Uw off (u.cells.map (A.den ρ m)) (cells.map (A.den ρ m)).toArray 0 (by simp;omega);simp only[lq]at this;rw[<-Array.foldl_toList];simp only[Array.toList_zipIdx];rw[this];simp[y6,y7,q1]
 |(_,.eV _)::_,_,_,_,h,_,_=>by simp[sc]at h
 |(_,.any)::_,_,_,_,h,_,_=>by simp[sc]at h
 |[],_::_,_,_,_,_,hr=>hr.elim
 |(_,.w _)::_,[],_,_,_,_,hr=>hr.elim
theorem acw {n nb:Nat} {ρ:Env} {m:Nat->Nat} {t:aQ} {parts:List (Nat×V)} {vals:List (Nat×az)} {l:List A} (h:LW P t parts=some l)
 (hr:GJ n nb ρ m parts vals):(∀a∈l,A.ok n nb ρ a)/\P.built t vals=some (l.map (A.den ρ m)).toArray:=by
 unfold LW at h;unfold Program.built;cases hz:lS P t with
 |none=>simp[hz]at h
 |some z=>
  unfold lS at hz;cases hi:P.info? t with
  |none=>simp[hi]at hz
  |some it=>
   simp only[hi]at hz;cases hz0:it.zero with
   |none=>simp[hz0]at hz
   |some z0=>
    simp only[hz0]at hz;have hzs:=xe hz n nb ρ m;have hz1:z0.cells=(z.map (A.den ρ m)).toArray:=by rw[hzs.2]
    cases hu:P.underlying t with
    |none=>simp[lS,hi,hz0,hz,hu]at h
    |some d=>
     cases d<;>try(simp[lS,hi,hz0,hz,hu]at h;done)
     case array len e=>
      simp only[lS,hi,hz0,hz,hu,eG]at h;cases NM:P.info? e with
      |none=>simp[NM]at h
      |some awV=>
       simp only[NM]at h;simp only[hz0,NM,hz1];exact HB h hzs.1 hr
     case struct fields=>
      simp only[lS,hi,hz0,hz,hu]at h;cases hp:fields.toList.mapM (λf=>(P.info? f.type).map λi=>(f.offset,i.size))with
      |none=>simp[hp]at h
      |some places=>
       simp only[hp]at h;simp only[hz0,hp,hz1];exact HB h hzs.1 hr
theorem X7 {t:aQ} {l:List A} {off:Nat} (hl:∀x∈l,A.ok n bl.length ρ x):ar S L (Jm P t l off) n ρ (lv w0 m bl n ρ λw=>(part t (l.map (A.den ρ m)).toArray off).run P w):=by
 unfold Jm;cases h1:ob P t with
 |none=>exact ar.fail
 |some b=>
  cases b with
  |true=>
   cases h2:eG P t with
   |none=>exact ar.fail
   |some k=>
    refine ar.pure ⟨λx hx=>hl x (nL (j1 hx)),_,rfl,λw _=>?_⟩;simp[part,rF h1,iB h2,W.den,y6,y7,List.take_drop]
    try congr 1
  |false=>
   cases h3:l[off]? with
   |none=>exact ar.fail
   |some x=>
    refine ar.pure ⟨hl x (c0 h3),_,rfl,λw _=>?_⟩;simp[part,rF h1,h3,W.den]
theorem zw {t:aQ} {len:Nat} {e:aQ} (h:tC P t=some (len,e)):P.underlying t=some (.array len e):=by
 unfold tC at h;cases hu:P.underlying t with
 |none=>simp[hu]at h
 |some d=>cases d<;>simp[hu]at h<;>simp[h]
theorem hL {t e:aQ} (h:hH P t=some e):P.underlying t=some (.slice e):=by
 unfold hH at h;cases hu:P.underlying t with
 |none=>simp[hu]at h
 |some d=>cases d<;>simp[hu]at h<;>simp[h]
theorem WV {t:aQ} {k:dj} (h:kindOf P t=some k):P.underlying t=some (.int k):=by
 unfold kindOf at h;cases hu:P.underlying t with
 |none=>simp[hu]at h
 |some d=>cases d<;>simp[hu]at h<;>simp[h]
theorem Mu {s:aQ} {f:Nat} {fd:Field} (h:Df P s f=some fd):∃dE,P.underlying s=some (.struct dE)/\dE[f]?=some fd:=by
 unfold Df at h;cases hu:P.underlying s with
 |none=>simp[hu]at h
 |some d=>cases d<;>simp[hu]at h<;>exact⟨_,rfl,h⟩
theorem aip {t:aQ} {x:V} {k:dj} {bh:bI} {X:az} (hx:x.ok n bl.length ρ) (bJ:x.rel ρ m X) (hi:bh.ok n ρ):
 ar S L (OD P t x bh) n ρ (lv w0 m bl n ρ λw=>(te t X (.int k (bh.l.den ρ))).run P w):=by
 unfold OD;split
 ·rename_i b off;simp only[V.rel,W.den,A.den]at bJ;subst bJ;cases h1:tC P t with
  |none=>exact ar.fail
  |some q=>
   obtain⟨len,e⟩:=q;cases h2:eG P e with
   |none=>simp only[h2];exact ar.fail
   |some s=>
    simp only[h2];cases h3:bh.l.dt with
    |some i=>
     refine eg λhc=>ar.pure ⟨hx,_,rfl,λw _=>?_⟩;simp only[aO,decide_eq_true_eq]at hc;simp[te,asIntOf,fe (zw h1),lV,aa.iK h3,hc,iB h2,jr,W.den,A.den]
    |none=>
     refine eg λhc=>ar.pure ⟨?_,_,rfl,λw _=>?_⟩
     ·simp only[aO,decide_eq_true_eq]at hc;exact⟨hx,hi,hc.1.2⟩
     ·simp only[aO,decide_eq_true_eq]at hc;have hs:=bx hc.1.1;subst hs;have b1:=hi.2;have c1:0<=bh.l.den ρ:=by omega
      have c2:bh.l.den ρ<len:=by omega
      simp[te,asIntOf,fe (zw h1),lV,c1,c2,iB h2,jr,W.den,A.den]
 ·rename_i g off;simp only[V.rel,W.den,A.den]at bJ;subst bJ;cases h1:tC P t with
  |none=>exact ar.fail
  |some q=>
   obtain⟨len,e⟩:=q;cases h2:eG P e with
   |none=>simp only[h2];exact ar.fail
   |some s=>
    simp only[h2];cases h3:bh.l.dt with
    |some i=>
     exact ar.fail
    |none=>
     refine eg λhc=>gC λhq=>ar.pure ⟨?_,_,rfl,λw _=>?_⟩
     ·simp only[cp,er,aa.aR,af,zK]at hq;exact⟨⟨hi.1,by show(0:Int)<=_;exact hq.1,by show _<=((len:Int)-1);have:=hq.2;simp only;omega⟩,bB _⟩
     ·simp only[cp,er,aa.aR,af,zK]at hq;have hs:=bx hc;subst hs;simp[te,asIntOf,fe (zw h1),lV,hq.1,hq.2,iB h2,jr,W.den,A.den]
 ·rename_i b off len cap;simp only[V.rel,W.den,A.den]at bJ;subst bJ;cases h1:hH P t with
  |none=>exact ar.fail
  |some e=>
   cases h2:eG P e with
   |none=>simp only[h2];exact ar.fail
   |some s=>
    simp only[h2];cases h3:bh.l.dt with
    |some i=>
     refine eg λhc=>ar.pure ⟨hx,_,rfl,λw _=>?_⟩;simp only[aO,decide_eq_true_eq]at hc;simp[te,asIntOf,fe (hL h1),lV,aa.iK h3,hc,iB h2,jr,W.den,A.den]
    |none=>
     refine eg λhc=>ar.pure ⟨?_,_,rfl,λw _=>?_⟩
     ·simp only[aO,decide_eq_true_eq]at hc;exact⟨hx,hi,hc.1.2⟩
     ·simp only[aO,decide_eq_true_eq]at hc;have hs:=bx hc.1.1;subst hs;have b1:=hi.2;have c1:0<=bh.l.den ρ:=by omega
      have c2:bh.l.den ρ<len:=by omega
      simp[te,asIntOf,fe (hL h1),lV,c1,c2,iB h2,jr,W.den,A.den]
 ·exact ar.fail
theorem am0 {vs:List V}:∀{l:List A} {xs:List az},uz vs=some l->(∀v∈vs,V.ok n bl.length ρ v)->df ρ m vs xs->(∀a∈l,A.ok n bl.length ρ a)/\xs=l.map (A.den ρ m):=by
 induction vs with
 |nil=>
  intro l xs h _ hr;simp[uz]at h;subst h;cases xs with
  |nil=>exact⟨λ_ h=>by simp at h,rfl⟩
  |cons _ _=>exact hr.elim
 |cons v r ih=>
  intro l xs h aX hr;cases xs with
  |nil=>cases v<;>exact hr.elim
  |cons x s=>
   cases v with
   |w y=>
    cases y with
    |agg q=>simp[uz]at h
    |one a=>
     cases h1:uz r with
     |none=>simp[uz,h1]at h
     |some bQ=>
      simp only[uz,h1,aL]at h;subst h;obtain⟨e1,e2⟩:=ih h1 (λv hv=>aX v (cD _ hv)) hr.2;have h0:x=a.den ρ m:=hr.1;exact⟨λb hb=>by rcases List.mem_cons.1 hb with rfl|hb;exact aX (.w (.one b)) (by simp);exact e1 b hb,by rw[h0,e2];rfl⟩
   |_=>simp[uz]at h
theorem w9 (l:List UInt8):(aG l).toList=l:=az8 l
theorem nQ (l:List UInt8):(aG l).size=l.length:=by simp[aG,az9]
theorem S8 (l bQ:List UInt8):(l==bQ)=decide ((if l=bQ then(1:Int)else 0)=1):=by
 by_cases h:l=bQ
 ·subst h;simp
 ·rw[if_neg h];simp[h]
theorem G3 (p:Prop) [Decidable p]:(0:Int)<=(if p then 1 else 0)/\(if p then(1:Int)else 0)<=1:=by split<;>decide
theorem Xc (b:Bool):b=decide ((if b=true then(1:Int)else 0)=1):=by cases b<;>rfl
theorem aqn {op:BinOp} {t:aQ} {x y:lW} {p q:aa} (hp:(A.str p).ok n bl.length ρ) (hq:(A.str q).ok n bl.length ρ):
 ar S L (QD op p q) n ρ (lv w0 m bl n ρ λw=>(do eqGuard op t x y (.string (aG (U (p.den ρ)))) (.string (aG (U (q.den ρ))));binOp op t (.string (aG (U (p.den ρ)))) (.string (aG (U (q.den ρ)))):Sem az).run P w):=by
 have b1:=G3 (U (p.den ρ)=U (q.den ρ));have b2:=G3 (dy (U (p.den ρ)) (U (q.den ρ))=true);unfold QD;split
 ·refine gC λhc=>?_;have hc:(U (p.den ρ)).length+(U (q.den ρ)).length<=eN:=hc;have hl:(U (p.den ρ)++U (q.den ρ)).length<=eN:=by simpa using hc
  refine(gf (op:=3) (args:=[p,q]) (nR _) (my hl)).bind λaD n1 l _ _ ⟨h1,h2⟩=>?_;have h2:l.den aD=cZ (U (p.den ρ)++U (q.den ρ)):=h2;refine ar.pure ⟨⟨h1,by rw[h2];exact nR _,by rw[h2];exact my hl⟩,_,rfl,λw _=>?_⟩;have hr:=run_string_add_sum (P:=P) w (aG (U (p.den ρ))) (aG (U (q.den ρ))) (by rw[nQ,nQ];unfold eN at hc;omega);simp only[eqGuard,binOp_string_add,W.den,A.den,h2,dZ];simp[hr];exact aAa _ _
 ·refine(gf (op:=4) (args:=[p,q]) b1.1 b1.2).bind λaD n1 l _ _ ⟨h1,h2⟩=>?_;have h2:l.den aD=if U (p.den ρ)=U (q.den ρ)then 1 else 0:=h2
  have e:=bg.tL (n:=n1) (ρ:=aD) (a:=⟨l,0,1⟩) (b:= .const 1) ⟨h1,by simp only[h2];exact b1.1,by simp only[h2];exact b1.2⟩ (bI.nc _ _ _);refine ar.pure ⟨e.2,_,rfl,λw _=>?_⟩;simp only[W.den,A.den,binOp_string_eql,w9];rw[e.1];simp only[h2,bI.const,aa.aR,S8];simp[eqGuard]
 ·refine(gf (op:=4) (args:=[p,q]) b1.1 b1.2).bind λaD n1 l _ _ ⟨h1,h2⟩=>?_;have h2:l.den aD=if U (p.den ρ)=U (q.den ρ)then 1 else 0:=h2
  have e:=bg.tL (n:=n1) (ρ:=aD) (a:=⟨l,0,1⟩) (b:= .const 1) ⟨h1,by simp only[h2];exact b1.1,by simp only[h2];exact b1.2⟩ (bI.nc _ _ _);refine ar.pure ⟨bg.uG e.2,_,rfl,λw _=>?_⟩;simp only[W.den,A.den,bg.tM,binOp_string_neq,w9];rw[e.1];simp only[h2,bI.const,aa.aR,S8];simp[eqGuard]
 ·refine(gf (op:=5) (args:=[p,q]) b2.1 b2.2).bind λaD n1 l _ _ ⟨h1,h2⟩=>?_;have h2:l.den aD=if dy (U (p.den ρ)) (U (q.den ρ))=true then 1 else 0:=h2
  have e:=bg.tL (n:=n1) (ρ:=aD) (a:=⟨l,0,1⟩) (b:= .const 1) ⟨h1,by simp only[h2];exact b2.1,by simp only[h2];exact b2.2⟩ (bI.nc _ _ _);refine ar.pure ⟨e.2,_,rfl,λw _=>?_⟩;simp only[W.den,A.den,binOp_string_lss,w9];rw[e.1];simp only[h2,bI.const,aa.aR];rw[<-Xc];simp[eqGuard]
 ·refine(gf (op:=5) (args:=[p,q]) b2.1 b2.2).bind λaD n1 l _ _ ⟨h1,h2⟩=>?_;have h2:l.den aD=if dy (U (p.den ρ)) (U (q.den ρ))=true then 1 else 0:=h2
  have e:=bg.tL (n:=n1) (ρ:=aD) (a:=⟨l,0,1⟩) (b:= .const 1) ⟨h1,by simp only[h2];exact b2.1,by simp only[h2];exact b2.2⟩ (bI.nc _ _ _);refine ar.pure ⟨bg.uG e.2,_,rfl,λw _=>?_⟩;simp only[W.den,A.den,bg.tM,binOp_string_geq,w9];rw[e.1];simp only[h2,bI.const,aa.aR];rw[<-Xc];simp[eqGuard]
 ·exact ar.fail
theorem aqp {t ty:aQ} {p:aa} (hu:P.underlying t=some .string) (hp:(A.str p).ok n bl.length ρ):
 ar S L (Zn p) n ρ (lv w0 m bl n ρ λw=>(Gi #[t] ty #[.string (aG (U (p.den ρ)))]).run P w):=by
 have hl:=rW hp.2.2;unfold eN at hl;refine(gf (op:=0) (args:=[p]) (rS _) (by show((U (p.den ρ)).length:Int)<=_;omega)).bind λaD n1 l _ _ ⟨h1,h2⟩=>?_;have h2:l.den aD=((U (p.den ρ)).length:Int):=h2;refine ar.pure ⟨⟨h1,by simp only[h2];omega,by simp only[h2];omega⟩,_,rfl,λw _=>?_⟩;simp[Gi,fe hu,goInt,W.den,A.den,h2,nQ]
theorem aqo {t:aQ} {k:dj} {p i:aa} (hu:P.underlying t=some .string) (hp:(A.str p).ok n bl.length ρ):
 ar S L (Zm p i) n ρ (lv w0 m bl n ρ λw=>(Rs t (.string (aG (U (p.den ρ)))) (.int k (i.den ρ))).run P w):=by
 refine gC λhc=>?_;have hc:0<=i.den ρ/\i.den ρ<((U (p.den ρ)).length:Int):=hc;have hlt:(i.den ρ).toNat<(U (p.den ρ)).length:=by omega
 have hb:=((U (p.den ρ)).getD (i.den ρ).toNat 0).toNat_lt;refine(gf (op:=1) (args:=[p,i]) (rS _) (by show(((U (p.den ρ)).getD (i.den ρ).toNat 0).toNat:Int)<=_;omega)).bind λaD n1 l _ _ ⟨h1,h2⟩=>?_;have h2:l.den aD=(((U (p.den ρ)).getD (i.den ρ).toNat 0).toNat:Int):=h2;refine ar.pure ⟨⟨h1,by simp only[h2];omega,by simp only[h2];omega⟩,_,rfl,λw _=>?_⟩;have e:(aG (U (p.den ρ)))[(i.den ρ).toNat]?=some ((U (p.den ρ)).getD (i.den ρ).toNat 0):=by
  rw[aAb _ _ (by rw[nQ];exact hlt)];simp[aG,aC,hlt];rfl
 simp[Rs,asIntOf,fe hu,hc.1,e,W.den,A.den,h2]
theorem aqr {p a b:aa} (hp:(A.str p).ok n bl.length ρ):ar S L (JU p a b) n ρ λag n' v=>v.ok n' bl.length ag/\v.rel ag m (.string ((aG (U (p.den ρ))).extract (a.den ρ).toNat (b.den ρ).toNat))/\0<=a.den ρ/\a.den ρ<=b.den ρ/\b.den ρ<=((U (p.den ρ)).length:Int):=by
 refine gC λhc=>?_;have hc:0<=a.den ρ/\a.den ρ<=b.den ρ/\b.den ρ<=((U (p.den ρ)).length:Int):=hc;have hl:=rW hp.2.2;have hl2:(((U (p.den ρ)).drop (a.den ρ).toNat).take ((b.den ρ).toNat-(a.den ρ).toNat)).length<=eN:=by simp;omega
 refine(gf (op:=2) (args:=[p,a,b]) (nR _) (my hl2)).bind λaD n1 l _ _ ⟨h1,h2⟩=>?_;have h2:l.den aD=cZ (((U (p.den ρ)).drop (a.den ρ).toNat).take ((b.den ρ).toNat-(a.den ρ).toNat)):=h2;refine ar.pure ⟨⟨h1,by rw[h2];exact nR _,by rw[h2];exact my hl2⟩,?_,hc⟩;show _=_;simp only[W.den,A.den,h2,dZ]
 congr 1
 exact aAc _ _ _
theorem uj {v:V} {l:aa} {x:az} (h:mP v=some l) (hr:v.rel ρ m x) (aX:v.ok n bl.length ρ):∃k,x= .int k (l.den ρ)/\l.aY n:=by
 unfold mP at h;split at h
 ·rename_i k a;simp only[aL]at h;subst h;exact⟨k,hr,aX.1⟩
 ·cases h
theorem mn {k:dj} {i:Int} {y:Nat} {l4:BoundsCode} (p1:0<=i) (br:i<=y) (w:ai):(Gj (.int k i) y l4).run P w= .ok i.toNat w:=by
 simp[Gj,asIntOf,p1,br]
theorem aqq {t:aQ} {p:aa} {lo hi:Option lW} (hu:P.underlying t=some .string) (hp:(A.str p).ok n bl.length ρ) (ht:dp n bl.length ρ m tm a.tmps):
 ar S L (QE tm p lo hi) n ρ (lv w0 m bl n ρ λw=>(nK t (.string (aG (U (p.den ρ)))) (lo.map a.eval) (hi.map a.eval) none).run P w):=by
 unfold QE;split
 ·exact ar.fail
 ·rename_i la xS;have pq:∃f:Option az,lo.map a.eval=f/\(f=none/\la.den ρ=0∨∃k,f=some (.int k (la.den ρ))):=by
   cases lo with
   |none=>simp only[aL]at xS;subst xS;exact⟨none,rfl,.inl ⟨rfl,aa.aR _ _⟩⟩
   |some x=>
    obtain⟨k,hk,_⟩:=uj (m:=m) (bl:=bl) xS (cq ht x).2 (cq ht x).1;exact⟨_,rfl,.inr ⟨k,by rw[<-hk];rfl⟩⟩
  obtain⟨Un,e1,hV⟩:=pq;have key:∀(lb:aa) (aD:Env) (n1:Nat),n<=n1->agree n ρ aD->(hi.map a.eval=none/\lb.den aD=((U (p.den ρ)).length:Int)∨∃k,hi.map a.eval=some (.int k (lb.den aD)))->la.aY n->
   ar S L (JU p la lb) n1 aD (lv w0 m bl n ρ λw=>(nK t (.string (aG (U (p.den ρ)))) (lo.map a.eval) (hi.map a.eval) none).run P w):=λlb aD n1 hn ha ah ahO=>by
   have pr:(A.str p).ok n1 bl.length aD:=hp.ext ha hn (aV _);have ep:p.den aD=p.den ρ:=aa.bG ha hp.1;have Mr:la.den aD=la.den ρ:=aa.bG ha ahO;refine(aqr (m:=m) (bl:=bl) (a:=la) (b:=lb) pr).mono λbo n2 v _ _ ⟨q1,q2,q3,db,iQ⟩=>⟨q1,_,q2,λw _=>?_⟩;rw[ep,Mr]at*;have p5:(jo false (aG (U (p.den ρ))).size (aG (U (p.den ρ))).size Un (hi.map a.eval) none).run P w= .ok ((la.den ρ).toNat,(lb.den aD).toNat,(aG (U (p.den ρ))).size) w:=by
    rw[nQ];rcases hV with⟨rfl,hz⟩|⟨k,rfl⟩<;>rcases ah with⟨h1,h2⟩|⟨k2,h1⟩
    ·rw[h1,hz,h2];simp[jo]
    ·rw[h1,hz];simp[jo,mn (P:=P) (by omega:0<=lb.den aD) iQ]
    ·rw[h1,h2];simp[jo,mn (P:=P) (y:=(U (p.den ρ)).length) q3 (by omega)]
    ·rw[h1];simp[jo,mn (P:=P) (by omega:0<=lb.den aD) iQ,mn (P:=P) (y:=(lb.den aD).toNat) q3 (by omega)]
   rw[e1];simp[nK,Kr,fe hu,p5]
  have Ay:la.aY n:=by
   cases lo with
   |none=>simp only[aL]at xS;subst xS;exact aa.cC _ _
   |some x=>exact(uj (m:=m) (bl:=bl) xS (cq ht x).2 (cq ht x).1).choose_spec.2
  cases hi with
  |none=>
   have hl:=rW hp.2.2;unfold eN at hl;exact(gf (op:=0) (args:=[p]) (rS _) (by show((U (p.den ρ)).length:Int)<=_;omega)).bind λaD n1 l hn ha ⟨h1,h2⟩=>key l aD n1 hn ha (.inl ⟨rfl,h2⟩) Ay
  |some y=>
   simp only;cases hy:mP (bZ tm y)with
   |none=>exact ar.fail
   |some b=>
    obtain⟨k,hk,_⟩:=uj (m:=m) (bl:=bl) hy (cq ht y).2 (cq ht y).1;exact key b ρ n (aV _) (agree.refl _ _) (.inr ⟨k,by rw[<-hk];rfl⟩) Ay
theorem GC {xs:List lW} (h:dp n bl.length ρ m tm a.tmps):df ρ m (xs.map (bZ tm)) (xs.map a.eval):=by
 induction xs with
 |nil=>trivial
 |cons x r ih=>exact⟨(cq h x).2,ih⟩
theorem Qd {c:Call} {f:cz} (hc:c.callee= .value (.func f)) (o:Oper) (ho:o.op= .call c):execOp a.eval o=callFunc f (c.args.map a.eval):=by
 simp only[execOp,ho,resolve,hc,Act.eval,aaF];simp[invoke,bind_pure_comp]
theorem Mt {nb:Nat} {m:Nat->Nat}:∀(dE:List Field) (x y:List A) (i n:Nat) (ρ:Env),Dl P i dE=true->(∀a∈x,A.ok n nb ρ a)->(∀a∈y,A.ok n nb ρ a)->
 ar S L (pb P dE x y) n ρ λag n' b=>b.aY n'/\∀(w:ai) (d:Nat) (xs ft:Array az),xs.toList.drop i=x.map (A.den ρ m)->ft.toList.drop i=y.map (A.den ρ m)->(Op.eqFields (d+1) xs ft dE).run P w= .ok (b.den ag) w
 |[],[],[],i,n,ρ,_,_,_=>ar.pure ⟨trivial,λw d xs ft _ _=>by simp[Op.eqFields,bg.den]⟩
 |f::dE,x::xs,y::ft,i,n,ρ,hf,hx,hy=>by
  cases x with
  |int k a=>
   cases y with
   |int a6 b=>
    unfold Dl at hf;simp only[aO,bne_iff_ne,ne_eq]at hf;obtain⟨⟨hn,ho⟩,hf⟩:=hf;have ho:=bx ho;unfold pb;split
    ·rename_i k2 hk2;have hu:=WV hk2;refine eg λhk=>?_;have hk:k=a6:=by simpa using hk
     subst hk;have alz:a.ok n ρ:=hx (.int k a) (by simp);have alA:b.ok n ρ:=hy (.int k b) (by simp);refine(Mt (nb:=nb) (m:=m) dE xs ft (i+1) n ρ hf (λz hz=>hx z (cD _ hz)) (λz hz=>hy z (cD _ hz))).bind λag n' r kF iY ⟨r1,r2⟩=>ar.pure ?_;have e1:=bg.tL (alz.agree iY kF) (alA.agree iY kF);refine⟨bg.Y2 e1.2 r1,λw d uM uN Ez EA=>?_⟩;have ML:uM[i]?=some (.int k (a.l.den ρ)):=by
      have:=congrArg List.head? Ez;simpa [A.den]using this
     have MM:uN[i]?=some (.int k (b.l.den ρ)):=by
      have:=congrArg List.head? EA;simpa [A.den]using this
     have Mn:uM.toList.drop (i+1)=xs.map (A.den ρ m):=by
      have:=congrArg List.tail Ez;simpa using this
     have aK:uN.toList.drop (i+1)=ft.map (A.den ρ m):=by
      have:=congrArg List.tail EA;simpa using this
     have PE:(part f.type uM f.offset).run P w= .ok (.int k (a.l.den ρ)) w:=by simp[part,isAgg,fe hu,ho,ML]
     have PF:(part f.type uN f.offset).run P w= .ok (.int k (b.l.den ρ)) w:=by simp[part,isAgg,fe hu,ho,MM]
     have Mr:a.l.den ag=a.l.den ρ:=by
      have:=A.j8 (m:=m) (m':=m) (hx (.int k a) (by simp)) iY (λ_ _=>rfl);simpa [A.den]using this
     have pX:b.l.den ag=b.l.den ρ:=by
      have:=A.j8 (m:=m) (m':=m) (hy (.int k b) (by simp)) iY (λ_ _=>rfl);simpa [A.den]using this
     simp only[Op.eqFields,ne_eq,hn,not_false_eq_true,if_true,gm,PE,PF,gy,run_equalIn_int w d f.type k k2 _ _ hu,bg.TO,e1.1,Mr,pX];by_cases hq:a.l.den ρ=b.l.den ρ
     ·simp[hq,r2 w d uM uN Mn aK]
     ·simp[hq]
    ·exact ar.fail
   |_=>unfold pb;exact ar.fail
  |str a=>
   cases y with
   |str b=>
    unfold Dl at hf;simp only[aO,bne_iff_ne,ne_eq]at hf;obtain⟨⟨hn,ho⟩,hf⟩:=hf;have ho:=bx ho;unfold pb;split
    ·rename_i hu;have b1:=G3 (U (a.den ρ)=U (b.den ρ));refine(gf (op:=4) (args:=[a,b]) b1.1 b1.2).bind λaD n1 l fi Ai ⟨h1,h2⟩=>?_;have h2:l.den aD=if U (a.den ρ)=U (b.den ρ)then 1 else 0:=h2
     have hx1:∀z∈xs,A.ok n1 nb aD z:=λz hz=>(hx z (cD _ hz)).ext Ai fi (aV _);have aie:∀z∈ft,A.ok n1 nb aD z:=λz hz=>(hy z (cD _ hz)).ext Ai fi (aV _);have ol:(⟨l,0,1⟩:bI).ok n1 aD:=⟨h1,by simp only[h2];exact b1.1,by simp only[h2];exact b1.2⟩;refine(Mt (nb:=nb) (m:=m) dE xs ft (i+1) n1 aD hf hx1 aie).bind λag n' r kF iY ⟨r1,r2⟩=>ar.pure ?_;have e1:=bg.tL (n:=n') (ρ:=ag) (a:=⟨l,0,1⟩) (b:= .const 1) (ol.agree iY kF) (bI.nc _ _ _);refine⟨bg.Y2 e1.2 r1,λw d uM uN Ez EA=>?_⟩;have ML:uM[i]?=some (.string (aG (U (a.den ρ)))):=by
      have:=congrArg List.head? Ez;simpa [A.den]using this
     have MM:uN[i]?=some (.string (aG (U (b.den ρ)))):=by
      have:=congrArg List.head? EA;simpa [A.den]using this
     have Mn:uM.toList.drop (i+1)=xs.map (A.den aD m):=by
      have:=congrArg List.tail Ez;rw[gI (g:=A.den ρ m) λz hz=>A.j8 (hx z (cD _ hz)) Ai (λ_ _=>rfl)];simpa using this
     have aK:uN.toList.drop (i+1)=ft.map (A.den aD m):=by
      have:=congrArg List.tail EA;rw[gI (g:=A.den ρ m) λz hz=>A.j8 (hy z (cD _ hz)) Ai (λ_ _=>rfl)];simpa using this
     have PE:(part f.type uM f.offset).run P w= .ok (.string (aG (U (a.den ρ)))) w:=by simp[part,isAgg,fe hu,ho,ML]
     have PF:(part f.type uN f.offset).run P w= .ok (.string (aG (U (b.den ρ)))) w:=by simp[part,isAgg,fe hu,ho,MM]
     have el:l.den ag=l.den aD:=aa.bG iY h1;have e2:(bg.mkEq ⟨l,0,1⟩ (.const 1)).den ag=decide (U (a.den ρ)=U (b.den ρ)):=by
      rw[e1.1];simp only[bI.const,aa.aR,el,h2];by_cases hq:U (a.den ρ)=U (b.den ρ)<;>simp[hq]
     simp only[Op.eqFields,ne_eq,hn,not_false_eq_true,if_true,gm,PE,PF,gy,run_equalIn_string w d f.type _ _ hu,bg.TO,e2,w9];by_cases hq:U (a.den ρ)=U (b.den ρ)
     ·simp[hq,r2 w d uM uN Mn aK]
     ·simp[hq]
    ·exact ar.fail
   |_=>unfold pb;exact ar.fail
  |_=>unfold pb;exact ar.fail
 |[],_::_,_,_,_,_,_,_,_=>by unfold pb;exact ar.fail
 |[],[],y::_,_,_,_,_,_,_=>by cases y<;>(unfold pb;exact ar.fail)
 |_::_,[],_,_,_,_,_,_,_=>by unfold pb;exact ar.fail
 |_::_,x::_,[],_,_,_,_,_,_=>by cases x<;>(unfold pb;exact ar.fail)
theorem T6 {nb:Nat} {m:Nat->Nat} {t:aQ} {x y:List A} (hx:∀a∈x,A.ok n nb ρ a) (hy:∀a∈y,A.ok n nb ρ a):
 ar S L (Hv P t x y) n ρ λag n' b=>b.aY n'/\P.eqGuardType P.depth t=false/\∀w,(Op.equalIn 10000 t (.agg (x.map (A.den ρ m)).toArray) (.agg (y.map (A.den ρ m)).toArray)).run P w= .ok (b.den ag) w:=by
 unfold Hv;split
 ·rename_i dE hu;refine eg λhg=>?_;simp only[aO,fX]at hg;refine(Mt (nb:=nb) (m:=m) dE.toList x y 0 n ρ hg.1.1 hx hy).mono λag n' b _ _ ⟨h1,h2⟩=>⟨h1,hg.2,λw=>?_⟩;have hf:P.fieldsOf t=dE:=by simp[Program.fieldsOf,hu]
  rw[run_equalIn_struct w 9999 t _ _ (by rw[hf];exact hu) hg.1.2,hf];exact h2 w 9998 _ _ (by simp) (by simp)
 ·exact ar.fail
theorem aoT {cal:dW} (cw:fl S P gl w0 cal) (hb:b6 n bl.length ρ bl) (hg:eL gl w0) (hex:∃w,Mem w0 ρ m bl w) (ht:dp n bl.length ρ m tm a.tmps) (o:Oper):
 ar S L (PL P cal gl bl tm o) n ρ (lu w0 m bl n ρ P o a):=by
 unfold PL;split
 case h_1 x h=>
  exact ar.pure ⟨(cq ht x).1,_,(cq ht x).2,λw _=> .inl (by simp[execOp,h])⟩
 case h_2 x h=>
  exact ar.pure ⟨(cq ht x).1,_,(cq ht x).2,λw _=> .inl (by simp[execOp,h])⟩
 case h_3 t x h=>
  have hx:=cq ht x;have he:execOp a.eval o=(do pure (kO (<-oA t (a.eval x)))):=by simp only[execOp,h]
  split
  ·rename_i g off bh hv;rw[hv]at hx;have dr:a.eval x=(A.z1 g off bh).den ρ m:=hx.2;rw[dr]at he;exact(apR hg t g off hx.1.1).mono λ_ _ _ _ _ hq=>lu.of_run he hq
  ·rename_i p _ hv;rw[hv]at hx;have dr:a.eval x=p.den ρ m:=hx.2;rw[dr]at he;exact(akj hb hg hex t p).mono λ_ _ _ _ _ hq=>lu.of_run he hq
  ·exact ar.fail
 case h_4 x h=>
  have hx:=cq ht x;unfold XJ;split<;>first
   |exact ar.fail
   |(rename_i hv
     rw[hv]at hx;refine ar.pure ⟨hx.1,_,rfl,λw _=> .inl ?_⟩;have dr:=hx.2;simp only[V.rel,W.den,A.den]at dr;simp[execOp,h,dr,W.den,A.den])
 case h_5 c x y h=>
  have hc:=cq ht c;split
  ·rename_i v hv;rw[hv]at hc;have e1:a.eval c= .bool v:=hc.2;cases v with
   |true=>exact ar.pure ⟨(cq ht x).1,_,(cq ht x).2,λw _=> .inl (by simp[execOp,h,e1,asBool])⟩
   |false=>exact ar.pure ⟨(cq ht y).1,_,(cq ht y).2,λw _=> .inl (by simp[execOp,h,e1,asBool])⟩
  ·exact ar.fail
 case h_6 op t x y t' h=>
  have hx:=cq ht x;have hy:=cq ht y;unfold S9;split
  ·rename_i k p a6 q pw lJ;rw[pw]at hx;rw[lJ]at hy;have e1:a.eval x= .int k (p.l.den ρ):=hx.2;have e2:a.eval y= .int a6 (q.l.den ρ):=hy.2;refine(aci (nb:=bl.length) (m:=m) P t hx.1 hy.1).bind λaD n1 r _ _ ⟨h1,h2⟩=>ar.pure ⟨h1,_,rfl,λw _=> .inl ?_⟩;have hgd:(eqGuard op t x y (.int k (p.l.den ρ)) (.int a6 (q.l.den ρ))).run P w= .ok () w:=by cases op<;>simp[eqGuard]
   simp only[execOp,h,e1,e2];simp[hgd,h2,W.den]
  ·rename_i p q pw lJ;rw[pw]at hx;rw[lJ]at hy;have e1:a.eval x= .agg (p.map (A.den ρ m)).toArray:=hx.2;have e2:a.eval y= .agg (q.map (A.den ρ m)).toArray:=hy.2;split
   ·refine(T6 (m:=m) (t:=t) hx.1 hy.1).bind λag n' r _ _ ⟨r1,g1,r2⟩=>ar.pure ⟨r1,_,rfl,λw _=> .inl ?_⟩;simp only[execOp,h,e1,e2];simp[run_eqGuard_agg w .eql t x y _ _ g1,run_eql_struct,r2,W.den,A.den]
   ·refine(T6 (m:=m) (t:=t) hx.1 hy.1).bind λag n' r _ _ ⟨r1,g1,r2⟩=>ar.pure ⟨bg.uG r1,_,rfl,λw _=> .inl ?_⟩;simp only[execOp,h,e1,e2];simp[run_eqGuard_agg w .neq t x y _ _ g1,run_neq_struct,r2,W.den,A.den,bg.tM]
   ·exact ar.fail
  ·rename_i p q pw lJ;rw[pw]at hx;rw[lJ]at hy;have e1:a.eval x= .string (aG (U (p.den ρ))):=hx.2;have e2:a.eval y= .string (aG (U (q.den ρ))):=hy.2;have he:execOp a.eval o=(do pure (kO (<-(do eqGuard op t x y (.string (aG (U (p.den ρ)))) (.string (aG (U (q.den ρ))));binOp op t (.string (aG (U (p.den ρ)))) (.string (aG (U (q.den ρ)))):Sem az)))):=by simp only[execOp,h,e1,e2]
   exact(aqn (op:=op) (t:=t) (x:=x) (y:=y) (w0:=w0) (m:=m) hx.1 hy.1).mono λ_ _ _ _ _ hq=>lu.of_run he hq
  ·rename_i p q pw lJ;rw[pw]at hx;rw[lJ]at hy;have e1:a.eval x= .bool (p.den ρ):=hx.2;have e2:a.eval y= .bool (q.den ρ):=hy.2;have hgd:(eqGuard op t x y (.bool (p.den ρ)) (.bool (q.den ρ))).run P=λw=> .ok () w:=by funext w;cases op<;>simp[eqGuard]
   split
   ·rename_i hu;refine ar.pure ⟨bg.Y3 hx.1 hy.1,_,rfl,λw _=> .inl ?_⟩;simp only[execOp,h,e1,e2];simp[hgd,run_eql_bool w t _ _ hu,W.den,A.den,bg.TP]
   ·rename_i hu;refine ar.pure ⟨bg.uG (bg.Y3 hx.1 hy.1),_,rfl,λw _=> .inl ?_⟩;simp only[execOp,h,e1,e2];simp[hgd,run_neq_bool w t _ _ hu,W.den,A.den,bg.TP,bg.tM]
   ·exact ar.fail
  ·exact ar.fail
 case h_7 op t x h=>
  have hx:=cq ht x;unfold ZC;split
  ·rename_i b hv;rw[hv]at hx;have e1:a.eval x= .bool (b.den ρ):=hx.2;refine ar.pure ⟨bg.uG hx.1,_,rfl,λw _=> .inl ?_⟩;simp[execOp,h,e1,Op.unary,W.den,A.den,bg.tM]
  ·rename_i k p hv;rw[hv]at hx;have e1:a.eval x= .int k (p.l.den ρ):=hx.2;refine eg λhc=>?_;simp only[aO,fX,decide_eq_true_eq]at hc;have hp:=hx.1;have Tg:=bI.ok.agree (n':=n) hp (agree.refl n ρ) (aV _);have b2:=Tg.2;have e2:((aa.const (two k-1)).sub p.l).den ρ=two k-1-p.l.den ρ:=by rw[aa.lz,aa.aR]
   refine ar.pure ⟨⟨aa.wo (aa.cC _ _) Tg.1,by simp only[e2];omega,by simp only[e2];omega⟩,_,rfl,λw _=> .inl ?_⟩;have key:k.wrap (o4 k.bits (if k.signed=true then-1 else k.max)^^^o4 k.bits (p.l.den ρ)).toNat=two k-1-p.l.den ρ:=by
    have hk:=hc.1.1;obtain⟨X,bJ⟩:=td (show 0<=p.l.den ρ by omega);have hlt:X<2^k.bits:=by
     have:(X:Int)<2^k.bits:=by rw[<-uJ,<-bJ];omega
     exact_mod_cast this
    have hall:(o4 k.bits (if k.signed=true then-1 else k.max))=BitVec.allOnes k.bits:=by
     cases k<;>simp[Gg]at hk<;>rfl
    rw[hall,BitVec.allOnes_xor,BitVec.toNat_not,bJ,Kn];have e3:((X:Int)% ((2^k.bits:Nat):Int)).toNat=X:=by
     rw[wI (by omega) (by exact_mod_cast hlt)];rfl
    rw[e3,J5];have ah:half k=0:=by simp[half,hk]
    have h2:two k=((2^k.bits:Nat):Int):=by rw[uJ];simp
    rw[ah,h2,Int.add_zero,Int.sub_zero,wI (by omega) (by omega)];omega
   simp only[execOp,h,e1,Op.unary,Op.intBits,W.den,A.den,e2];simp at key;simp[key]
  ·rename_i k p hv;rw[hv]at hx;have e1:a.eval x= .int k (p.l.den ρ):=hx.2;have b2:=bI.ok.agree (n':=n) hx.1 (agree.refl n ρ) (aV _);have b3:=b2.2;have e2:(p.l.smul (-1)).den ρ=-p.l.den ρ:=by rw[aa.j9];omega
   refine(yV (k:=k) (x:=⟨p.l.smul (-1),-p.hi,-p.lo⟩) ⟨aa.sW b2.1,by simp only[e2];omega,by simp only[e2];omega⟩).bind λaD n1 r _ _ ⟨h1,h2⟩=>ar.pure ⟨h1,_,rfl,λw _=> .inl ?_⟩;simp only[e2]at h2;simp[execOp,h,e1,Op.unary,Op.intArith,W.den,A.den,h2]
  ·exact ar.fail
 case h_8 s d x h=>
  have hx:=cq ht x;unfold TC;split
  ·rename_i a6 p hu hk hv;rw[hv]at hx;have e1:a.eval x= .int a6 (p.l.den ρ):=hx.2;split
   ·rename_i c hc;refine eg λhsz=>?_;have hl:(Kq c).data.toList.length<=eN:=by
     have:=eh hsz;have h2:(Kq c).data.toList.length=(Kq c).size:=by simp
     unfold eN;omega
    refine ar.pure ⟨⟨aa.cC _ _,by rw[aa.aR];exact nR _,by rw[aa.aR];exact my hl⟩,_,rfl,λw _=> .inl ?_⟩;simp[execOp,h,e1,convert,fe hu,fe hk,Conv.intToString,W.den,A.den,aa.aR,dZ,aG,aa.iK hc]
   ·exact ar.fail
  ·split
   rotate_left
   ·exact ar.fail
   rename_i k a6 p hu hk hv;rw[hv]at hx;have e1:a.eval x= .int a6 (p.l.den ρ):=hx.2;refine(yV (k:=k) hx.1).bind λaD n1 r _ _ ⟨h1,h2⟩=>ar.pure ⟨h1,_,rfl,λw _=> .inl ?_⟩;simp[execOp,h,e1,convert,fe hu,fe (WV hk),Conv.intToInt,W.den,A.den,h2]
 case h_9 t x bh h=>
  have hx:=cq ht x;have hi:=cq ht bh;split
  ·rename_i k i hv;rw[hv]at hi;have e1:a.eval bh= .int k (i.l.den ρ):=hi.2;have he:execOp a.eval o=(do pure (kO (<-te t (a.eval x) (.int k (i.l.den ρ))))):=by simp only[execOp,h,e1]
   exact(aip hx.1 hx.2 hi.1).mono λ_ _ _ _ _ hq=>lu.of_run he hq
  ·exact ar.fail
 case h_10 t x bh h=>
  have hx:=cq ht x;have hi:=cq ht bh;split
  ·rename_i s hv;rw[hv]at hx;have e1:a.eval x= .string (aG (U (s.den ρ))):=hx.2;split
   ·rename_i i hu Am;obtain⟨k,hk,_⟩:=uj (m:=m) (bl:=bl) Am hi.2 hi.1;have he:execOp a.eval o=(do pure (kO (<-Rs t (.string (aG (U (s.den ρ)))) (.int k (i.den ρ))))):=by simp only[execOp,h,e1,hk]
    exact(aqo (w0:=w0) (m:=m) hu hx.1).mono λ_ _ _ _ _ hq=>lu.of_run he hq
   ·exact ar.fail
  split
  ·rename_i l i len e hv Am HV;rw[hv]at hx;have e1:a.eval x= .agg (l.map (A.den ρ m)).toArray:=hx.2;have e2:∃k,a.eval bh= .int k i:=by
    unfold Hm at Am;split at Am
    ·rename_i k p lJ;rw[lJ]at hi;have:a.eval bh= .int k (p.l.den ρ):=hi.2;exact⟨k,by rw[this,aa.iK Am]⟩
    ·cases Am
   obtain⟨k,e2⟩:=e2;split
   ·rename_i s hs;refine eg λhc=>?_;simp only[aO,decide_eq_true_eq]at hc;refine(X7 (w0:=w0) (m:=m) (bl:=bl) hx.1).mono λaD n1 v _ _ ⟨q1,val,q2,q3⟩=>⟨q1,val,q2,λw hw=> .inl ?_⟩;have:=q3 w hw;simp[execOp,h,e1,e2,Rs,asIntOf,fe (zw HV),hc,iB hs,this]
   ·exact ar.fail
  ·exact ar.fail
 case h_11 s x f h=>
  have hx:=cq ht x;split
  ·rename_i b off fd hv hf;rw[hv]at hx;have e1:a.eval x= .pointer (some ⟨m b,off,none⟩):=hx.2;obtain⟨dE,hu,DY⟩:=Mu hf;split
   ·rename_i k hs;refine ar.pure ⟨hx.1,_,rfl,λw _=> .inl ?_⟩;simp[execOp,h,e1,Cp,fe hu,DY,lV,fieldPlace,iB hs,jr,W.den,A.den]
   ·exact ar.fail
  ·exact ar.fail
 case h_12 s x f h=>
  have hx:=cq ht x;split
  ·rename_i l fd hv hf;rw[hv]at hx;have e1:a.eval x= .agg (l.map (A.den ρ m)).toArray:=hx.2;obtain⟨dE,hu,DY⟩:=Mu hf;refine(X7 (w0:=w0) (m:=m) (bl:=bl) hx.1).mono λaD n1 v _ _ ⟨q1,val,q2,q3⟩=>⟨q1,val,q2,λw hw=> .inl ?_⟩;have:=q3 w hw;simp[execOp,h,e1,Instr.field,asAgg,fe hu,DY,this]
  ·exact ar.fail
 case h_13 x i h=>
  have hx:=cq ht x;split
  ·rename_i l hv;rw[hv]at hx;have e1:a.eval x= .tuple (l.map (W.den ρ m)).toArray:=hx.2;split
   ·rename_i u hu;refine ar.pure ⟨hx.1 u (c0 hu),_,rfl,λw _=> .inl ?_⟩;simp[execOp,h,e1,Rn,hu]
   ·exact ar.fail
  ·exact ar.fail
 case h_14 t x lo hi h=>
  have hx:=cq ht x;split
  ·rename_i s hv hu;rw[hv]at hx;have e1:a.eval x= .string (aG (U (s.den ρ))):=hx.2;have he:execOp a.eval o=(do pure (kO (<-nK t (.string (aG (U (s.den ρ)))) (lo.map a.eval) (hi.map a.eval) none))):=by simp only[execOp,h,e1];rfl
   exact(aqq (w0:=w0) (m:=m) hu hx.1 ht).mono λ_ _ _ _ _ hq=>lu.of_run he hq
  have key:∀(y:Option lW) (c:Option Int),Jf tm y=some c->∃f:Int->az,(∀c,∃k,f c= .int k c)/\y.map a.eval=c.map f:=by
   intro y c hy;unfold Jf at hy;cases y with
   |none=>simp at hy;subst hy;exact⟨λc=> .int .i64 c,λc=>⟨_,rfl⟩,rfl⟩
   |some y=>
    simp only at hy;have hi:=cq ht y;unfold Hm at hy;split at hy
    ·rename_i c' hq;split at hq
     ·rename_i k p lJ;simp only[aL]at hy;subst hy;rw[lJ]at hi;have:a.eval y= .int k (p.l.den ρ):=hi.2;exact⟨λc=> .int k c,λc=>⟨_,rfl⟩,by simp[this,aa.iK hq]⟩
     ·cases hq
    ·cases hy
  split
  ·rename_i l ah h1 h2;obtain⟨Un,Uo,Up⟩:=key lo l h1;obtain⟨awi,HA,Ud⟩:=key hi ah h2;unfold Zc;split
   ·rename_i b off yt e hv HV;rw[hv]at hx;have e1:a.eval x= .pointer (some ⟨m b,off,none⟩):=hx.2;split
    ·rename_i s hs;refine eg λhc=>?_;simp only[aO,decide_eq_true_eq]at hc;refine ar.pure ⟨hx.1,_,rfl,λw _=> .inl ?_⟩;have hb1:(jo false yt yt (lo.map a.eval) (hi.map a.eval) none).run P w= .ok ((l.getD 0).toNat,(ah.getD yt).toNat,yt) w:=by
      rw[Up,Ud];have c1:∀(k:dj) (i:Int) (y:Nat) (l4:BoundsCode),0<=i->i<=y->(Gj (.int k i) y l4).run P w= .ok i.toNat w:=λk i y l4 p1 br=>by
       simp[Gj,asIntOf,p1,br]
      cases l with
      |none=>
       cases ah with
       |none=>simp[jo]
       |some h'=>
        obtain⟨a6,jt⟩:=HA h';simp only[Rt,qx]at hc;simp[jo,jt,c1 a6 h' yt _ (by omega) (by omega)]
      |some bQ=>
       obtain⟨k1,ir⟩:=Uo bQ;cases ah with
       |none=>
        simp only[Rt,qx]at hc;simp[jo,ir,c1 k1 bQ yt _ (by omega) (by omega)]
       |some h'=>
        obtain⟨a6,jt⟩:=HA h';simp only[qx]at hc;simp[jo,jt,ir,c1 a6 h' yt _ (by omega) (by omega),c1 k1 bQ h'.toNat _ (by omega) (by omega)]
     simp only[execOp,h,e1,aaG,nK];simp[fe (zw HV),lV,hb1,iB hs,jr,W.den,A.den];intro hq;have h3:=hc.2;omega
    ·exact ar.fail
   ·rename_i b off len cap hv HV;rw[hv]at hx;have e1:a.eval x= .slice (some ⟨m b,off,none⟩) len cap:=hx.2;split
    ·rename_i e n5;split
     ·rename_i s hs;refine eg λhc=>?_;simp only[aO,decide_eq_true_eq]at hc;refine ar.pure ⟨hx.1,_,rfl,λw _=> .inl ?_⟩;have hb1:(jo true len cap (lo.map a.eval) (hi.map a.eval) none).run P w= .ok ((l.getD 0).toNat,(ah.getD len).toNat,cap) w:=by
       rw[Up,Ud];have c1:∀(k:dj) (i:Int) (y:Nat) (l4:BoundsCode),0<=i->i<=y->(Gj (.int k i) y l4).run P w= .ok i.toNat w:=λk i y l4 p1 br=>by
        simp[Gj,asIntOf,p1,br]
       cases l with
       |none=>
        cases ah with
        |none=>simp[jo]
        |some h'=>
         obtain⟨a6,jt⟩:=HA h';simp only[Rt,qx]at hc;simp[jo,jt,c1 a6 h' cap _ (by omega) (by omega)]
       |some bQ=>
        obtain⟨k1,ir⟩:=Uo bQ;cases ah with
        |none=>
         simp only[Rt,qx]at hc;simp[jo,ir,c1 k1 bQ len _ (by omega) (by omega)]
        |some h'=>
         obtain⟨a6,jt⟩:=HA h';simp only[qx]at hc;simp[jo,jt,ir,c1 a6 h' cap _ (by omega) (by omega),c1 k1 bQ h'.toNat _ (by omega) (by omega)]
      simp only[execOp,h,e1,aaG,nK];simp[fe (hL n5),Kr,hb1,iB hs,jr,W.den,A.den];intro hq;have h3:=hc.2;omega
     ·exact ar.fail
    ·exact ar.fail
   ·exact ar.fail
  ·exact ar.fail
 case h_15 c h=>
  split
  ·rename_i f hc;split
   ·rename_i g NK;have ni:∀v∈c.args.toList.map (bZ tm),V.ok n bl.length ρ v:=λv hv=>by
     obtain⟨x,_,rfl⟩:=List.mem_map.1 hv;exact(cq ht x).1
    refine(cw f g NK L n ρ m bl _ _ hb hex ni (GC (xs:=c.args.toList) ht)).mono λaD n1 v _ _ ⟨q1,val,q2,q3⟩=>⟨q1,val,q2,λw hw=>?_⟩;have he:=Qd (a:=a) hc o h;have ha:(c.args.toList.map a.eval).toArray=c.args.map a.eval:=by
     rw[<-u1]
    have db:=q3 w hw;rw[ha]at db;rcases db with db|⟨db,iQ⟩
    ·exact .inl (by rw[he];exact db)
    ·exact .inr ⟨f,_,by rw[he];exact db,iQ⟩
   ·exact ar.fail
  ·rename_i hc;split
   ·rename_i x t gE pt;have hx:=cq ht x;split
    ·rename_i s hv hu;rw[hv]at hx;have e1:a.eval x= .string (aG (U (s.den ρ))):=hx.2;have a1:c.args=#[x]:=by rw[<-lU (xs:=c.args),gE]
     have a2:c.argTypes=#[t]:=by rw[<-lU (xs:=c.argTypes),pt]
     have he:execOp a.eval o=(do pure (kO (<-Gi #[t] o.type #[.string (aG (U (s.den ρ)))]))):=by
      simp[execOp,h,resolve,hc,a1,a2,e1,invoke,builtin]
     exact(aqp (w0:=w0) (m:=m) hu hx.1).mono λ_ _ _ _ _ hq=>lu.of_run he hq
    split
    ·rename_i b off len cap e hv hs;rw[hv]at hx;have e1:a.eval x= .slice (some ⟨m b,off,none⟩) len cap:=hx.2;refine ar.pure ⟨bI.nc _ _ _,_,rfl,λw _=> .inl ?_⟩;have a1:c.args=#[x]:=by rw[<-lU (xs:=c.args),gE]
     have a2:c.argTypes=#[t]:=by rw[<-lU (xs:=c.argTypes),pt]
     simp[execOp,h,resolve,hc,a1,a2,e1,invoke,builtin,Gi,fe (hL hs),goInt,W.den,A.den,bI.const,aa.aR]
    ·exact ar.fail
   ·exact ar.fail
  ·exact ar.fail
 case h_16 f first gX h=>
  split
  ·rename_i l hf hl;obtain⟨g1,g2⟩:=am0 (m:=m) hl (λv hv=>by obtain⟨x,_,rfl⟩:=List.mem_map.1 hv;exact(cq ht x).1) (GC (xs:=gX.toList) ht);have Vv:first=#[]:=by rw[<-lU (xs:=first),hf]
   have vB:gX.map a.eval=(l.map (A.den ρ m)).toArray:=by rw[<-g2,<-u1]
   refine ar.pure ⟨g1,_,rfl,λw _=> .inl ?_⟩;simp only[execOp,h,vB,Vv];simp[Instr.makeFunc]
  ·exact ar.fail
 case h_17 t parts h=>
  split
  ·rename_i l hl;obtain⟨g1,g2⟩:=acw (n:=n) (nb:=bl.length) (ρ:=ρ) (m:=m) (vals:=(parts.map λ(i,x)=>(i,a.eval x)).toList) hl (by
    rw[u1];generalize parts.toList=ps;induction ps with
    |nil=>exact trivial
    |cons p r ih=>exact⟨⟨rfl,cq ht p.2⟩,ih⟩)
   refine ar.pure ⟨g1,_,rfl,λw _=> .inl ?_⟩;simp only[execOp,h];simp[run_build w t _ _ g2,W.den]
  ·exact ar.fail
 case h_18=>exact ar.fail
end
end Go.ba
namespace Go.ba
open M
noncomputable def CX (c:ay) (code i:aa) (j:Nat):M A:=
 match c with
 | .int k lo hi=>bind (eA 21 [code,i,.const j] lo hi) λl=>pure (.int k ⟨l,lo,hi⟩)
 | .str=>bind (eA 21 [code,i,.const j] 0 bp) λl=>pure (.str l)
 | .bool=>bind (eA 21 [code,i,.const j] 0 1) λl=>pure (.bool (.mkEq ⟨l,0,1⟩ (.const 1)))
 | .sub _=>fail
 | .nil=>pure (.con (.slice none 0 0))
noncomputable def L7 (code i:aa):Nat->List ay->M (List A)
 |_,[]=>pure []
 |j,c::r=>bind (CX c code i j) λa=>bind (L7 code i (j+1) r) λl=>pure (a::l)
noncomputable def P8 (c:ay) (code:aa):Nat->aa->M (List A)
 |0,_=>pure []
 |q+1,i=>bind (fg 21 [code,i]) λ_=>bind (CX c code i 0) λa=>bind (P8 c code q (i.add (.const 1))) λl=>pure (a::l)
noncomputable def Ms (P:bj) (bl:List ao) (t:aQ) (b aM:Nat) (o i:aa) (j:Nat):M V:=
 match bl[b]? with
 |some ([.rows sh off code cap kind],_)=>cond (bY 0 kind&&aH aM sh.length&&aa.beq o off) (bind (fg 21 [code,i]) λ_=>match ob P t,eG P t with
  |some true,some k=>cond (bu (j+k) sh.length) (bind (L7 code i j ((sh.drop j).take k)) λl=>pure (.w (.agg l))) (match sh,j with
   |[c],0=>bind (P8 c code k i) λl=>pure (.w (.agg l))
   |_,_=>fail)
  |some false,_=>match sh[j]? with
   |some c=>bind (CX c code i j) λa=>pure (.w (.one a))
   |none=>fail
  |_,_=>fail) fail
 |_=>fail
def Qt (P:bj) (t:aQ) (b aM:Nat) (o ro len:aa) (bh:aa):M V:=
 match hH P t with
 |some e=>match eG P e with
  |some s=>cond (aH s aM) (bind (fg 30 [bh,len]) λ_=>pure (.w (.one (.ep b aM o (ro.add bh) 0)))) fail
  |none=>fail
 |none=>fail
def zx (op:Nat) (ls:List aa):M Unit:=λn k=> .vn op ls (k () n)
def Qw (P:bj) (t:aQ) (b aM:Nat) (o ro len cap:aa) (x y:aa):M V:=
 match hH P t with
 |some e=>match eG P e with
  |some s=>cond (aH s aM) (bind (fg 32 [x,y,len]) λ_=>match x.dt with
   |some 0=>pure (.w (.one (.sl b aM o ro y cap)))
   |_=>bind (zx 68 [len,cap]) λ_=>bind (eA 33 [ro,x,cap] 0 9223372036854775809) λr=>pure (.w (.one (.sl b aM o r (y.sub x) (cap.sub x))))) fail
  |none=>fail
 |none=>fail
def tF (tm:List V) (d:aa):Option lW->Option aa
 |none=>some d
 |some x=>mP (bZ tm x)
def Tj:List ay->Bool
 |[.int .u8 lo hi]=>decide (lo=0)&&decide (hi=255)
 |_=>false
noncomputable def Qv (bl:List ao) (b aM:Nat) (o ro len:aa):M V:=
 match bl[b]? with
 |some ([.rows sh off code cap kind],_)=>cond (bY 0 kind&&aH aM 1&&aa.beq o off&&Tj sh) (bind (fg 35 [code,ro,ro.add len]) λ_=>bind (eA 34 [code,ro,ro.add len] 0 bp) λl=>pure (.w (.one (.str l)))) fail
 |_=>fail
def LU {α:Type} (b:bg) (x y:M α):M α:=λn k=>match b with
 | .lit v=>cond v (x n k) (y n k)
 |b=> .tG b (x n k) (y n k)
def Xu (k:dj) (x y:bI):M V:=LU (.mkLt y x) (pure (.w (.one (.int k y)))) (pure (.w (.one (.int k x))))
def lZ:List A->Option (List Bool)
 |[]=>some []
 | .bool (.lit b)::r=>match lZ r with|some l=>some (b::l)|none=>none
 |_::_=>none
def ui:Nat->List Bool->List UInt8
 |_,[]=>[]
 |i,b::r=>cond b (kq i::ui (i+1) r) (ui (i+1) r)
def Qm (bl:List ao) (b off:Nat) (bh:bI):M V:=
 match bl[b]? with
 |some (cs,_)=>match lZ ((cs.drop off).take (bh.hi.toNat+1))with
  |some l=>cond (aH l.length (bh.hi.toNat+1)&&bu bh.hi.toNat 255&&decide (0<=bh.lo)&&bO cs) (bind (eA 43 [.const (cZ (ui 0 l)),bh.l] 0 1) λr=>pure (.w (.one (.bool (.mkEq ⟨r,0,1⟩ (.const 1)))))) fail
  |none=>fail
 |none=>fail
noncomputable def P9 (P:bj) (bl:List ao) (tm:List V) (o:Oper):Option (M V):=
 match o.op with
 | .load t x=>match bZ tm x with
  | .w (.one (.ep b aM o i j))=>some (Ms P bl t b aM o i j)
  | .w (.one (.og b off bh))=>match P.underlying t with
   |some .bool=>some (Qm bl b off bh)
   |_=>none
  |_=>none
 | .nilCheck x=>match bZ tm x with
  | .w (.one (.ep b aM o i j))=>some (pure (.w (.one (.ep b aM o i j))))
  |_=>none
 | .indexAddr t x bh=>match bZ tm x,bZ tm bh with
  | .w (.one (.sl b aM o ro len cap)),.w (.one (.int _ i))=>some (Qt P t b aM o ro len i.l)
  |_,_=>none
 | .sliceToArrayPointer t x=>match bZ tm x,tC P t with
  | .w (.one (.sl b aM o ro len cap)),some (k,_)=>some (cond (bY 0 k) (bind (fg 30 [.const ((k:Int)-1),len]) λ_=>pure (.w (.one (.ep b aM o ro 0)))) fail)
  |_,_=>none
 | .fieldAddr s x f=>match bZ tm x,Df P s f with
  | .w (.one (.ep b aM o i j)),some fd=>match eG P fd.type with
   |some (_+1)=>some (pure (.w (.one (.ep b aM o i (j+fd.offset)))))
   |_=>none
  |_,_=>none
 | .slice t x lo hi none=>match bZ tm x with
  | .w (.one (.sl b aM o ro len cap))=>match tF tm (.const 0) lo,tF tm len hi with
   |some p,some q=>some (Qw P t b aM o ro len cap p q)
   |_,_=>none
  |_=>none
 | .convert s d x=>match bZ tm x,hH P s,P.underlying d with
  | .w (.one (.sl b aM o ro len cap)),some e,some .string=>match P.underlying e with
   |some (.int .u8)=>some (Qv bl b aM o ro len)
   |_=>none
  |_,_,_=>none
 | .call c=>match c.callee with
  | .builtin .len=>match c.args.toList,c.argTypes.toList with
   |[x],[t]=>match bZ tm x,hH P t with
    | .w (.one (.sl b aM o ro len cap)),some _=>some (pure (.w (.one (.int .i64 ⟨len,0,9223372036854775807⟩))))
    |_,_=>none
   |_,_=>none
  | .builtin .min=>match c.args.toList with
   |[x,y]=>match bZ tm x,bZ tm y with
    | .w (.one (.int k p)),.w (.one (.int a6 q))=>cond (decide (k=a6)) (some (Xu k p q)) none
    |_,_=>none
   |_=>none
  |_=>none
 | .binOp op t x y _=>match hH P t,bZ tm x,bZ tm y with
  |some _,.w (.one (.sl b aM o ro len cap)),.w (.one (.con (.slice none 0 0)))=>match op with
   | .eql=>some (bind (zx 53 [cap,len]) λ_=>pure (.w (.one (.bool (.eq cap (.const (-1)))))))
   | .neq=>some (bind (zx 53 [cap,len]) λ_=>pure (.w (.one (.bool (.mkNot (.eq cap (.const (-1))))))))
   |_=>none
  |_,_,_=>none
 |_=>none
def Qx (P:bj) (t:aQ) (b aM:Nat) (o ro len cap:aa) (x y z:aa):M V:=
 match hH P t with
 |some e=>match eG P e with
  |some s=>cond (aH s aM) (bind (cond (aa.beq z len) (fg 78 [x,y,z,cap]) (fg 64 [x,y,z,len])) λ_=>bind (eA 33 [ro,x,z] 0 9223372036854775808) λr=>pure (.w (.one (.sl b aM o r (y.sub x) (z.sub x))))) fail
  |none=>fail
 |none=>fail
def WJ (bl:List ao) (b:Nat):Bool:=match bl[b]? with
 |some ([.rows _ _ _ _ kind],_)=>aH kind 1
 |_=>false
def Qy (P:bj) (bl:List ao) (t:aQ) (b aM:Nat) (o ro len cap:aa) (x y z:aa):M V:=
 cond (WJ bl b&&aa.beq z len&&aa.beq y len&&aa.beq x (.const 0))
  (match hH P t with
    |some e=>match eG P e with
     |some s=>cond (aH s aM) (bind (eA 62 [cap,len] (-2) 9223372036854775807) λc=>pure (.w (.one (.sl b aM o ro len c)))) fail
     |none=>fail
    |none=>fail) (Qx P t b aM o ro len cap x y z)
noncomputable def JE (P:bj) (bl:List ao) (tm:List V) (o:Oper):Option (M V):=
 match o.op with
 | .slice t x lo (some hi) (some fy)=>match bZ tm x with
  | .w (.one (.sl b aM cj ro len cap))=>match tF tm (.const 0) lo,mP (bZ tm hi),mP (bZ tm fy)with
   |some p,some q,some r=>some (Qy P bl t b aM cj ro len cap p q r)
   |_,_,_=>none
  |_=>none
 | .call c=>match c.callee with
  | .builtin .len=>match c.args.toList,c.argTypes.toList with
   |[x],[t]=>match bZ tm x,hH P t with
    | .w (.one (.con (.slice none 0 0))),some _=>some (pure (.w (.one (.int .i64 (.const 0)))))
    |_,_=>none
   |_,_=>none
  |_=>none
 |_=>none
noncomputable def Hr (cal:dW) (bl:List ao) (tm:List V) (o:Oper):Option (M V):=
 match o.op with
 | .call c=>match c.callee with
  | .value (.tmp x)=>match bZ tm (.tmp x)with
   | .w (.one (.con (.func (.func f) Hy Hz)))=>cond (aH Hy.size 0&&aH Hz.size 0) ((cal f).map λg=>g bl (c.args.toList.map (bZ tm))) none
   |_=>none
  |_=>none
 |_=>none
noncomputable def sU (P:bj) (cal:dW) (gl:dz) (bl:List ao) (tm:List V) (o:Oper):M V:=
 match P9 P bl tm o with
 |some x=>x
 |none=>match JE P bl tm o with
  |some x=>x
  |none=>match Hr cal bl tm o with
   |some x=>x
   |none=>PL P cal gl bl tm o
theorem pO.get {cells:Array az} {off:Nat} {sh:List ay} {rows:List (List Int)} (h:pO cells off sh rows) {i j:Nat} {row:List Int} {v:az} (hi:rows[i]?=some row) (hj:(dm sh row)[j]?=some v):cells[off+i*sh.length+j]?=some v:=by
 obtain⟨h1,pre,post,h2,h3⟩:=h;have h4:=MF h1 hi hj;rw[<-Ga,h2,gJ,uW (by omega),rT]
 ·rw[show off+i*sh.length+j-pre.length=i*sh.length+j by omega];exact h4
 ·have:=(List.getElem?_eq_some_iff.1 h4).1;omega
theorem ie.cell {F:Nat->Prop} {w:ai} {cells:Array az} {off:Nat} {sh:List ay} {rows:List (List Int)} (h:ie F w cells off sh rows) {i j:Nat} {row:List Int} {c:ay} (hi:rows[i]?=some row) (hc:sh[j]?=some c):∃z v,row[j]?=some z/\cells[off+i*sh.length+j]?=some v/\pU F w c z v:=by
 obtain⟨h1,pre,vs,post,h2,h3,h4⟩:=h;obtain⟨z,v,k1,k2,k3⟩:=(h4.get hi).get hc;refine⟨z,v,k1,?_,k3⟩;rw[o0]at k2;split at k2
 ·rw[wK]at k2;have hlt:=(List.getElem?_eq_some_iff.1 k2).1;rw[<-Ga,h2,gJ,uW (by omega),rT (by omega)];rw[show off+i*sh.length+j-pre.length=i*sh.length+j by omega];exact k2
 ·cases k2
theorem Yy:∀{sh:List ay} {row:List Int} {j:Nat} {c:ay} {z:Int},bK sh row->sh[j]?=some c->row[j]?=some z->(dm sh row)[j]?=some (c.val z)
 |c'::sh,FP::r,0,c,z,h,hc,hz=>by
  simp only[m1,aL]at hc hz;subst hc;subst hz;rfl
 |c'::sh,FP::r,j+1,c,z,h,hc,hz=>by
  simp only[List.getElem?_cons_succ]at hc hz;exact Yy (sh:=sh) h.2 hc hz
 |[],_,_,_,_,_,hc,_=>by simp at hc
 |_::_,[],_,_,_,h,_,_=>h.elim
theorem ie.get {F:Nat->Prop} {w:ai} {cells:Array az} {off:Nat} {sh:List ay} {rows:List (List Int)} (h:ie F w cells off sh rows) {i j:Nat} {row:List Int} {v:az} {c:ay} (hi:rows[i]?=some row) (hc:sh[j]?=some c) (hp:c.plain=true) (hj:(dm sh row)[j]?=some v):cells[off+i*sh.length+j]?=some v:=by
 obtain⟨z,v',k1,k2,k3⟩:=h.cell hi hc;have e:=Yy (h.1 row (c0 hi)) hc k1;rw[hj]at e;have e2:v'=c.val z:=by
  cases c with
  |sub _=>cases hp
  |_=>exact k3
 rw[k2,e2,<-gH e]
section
variable {S:Nat->List Int->List Int->Prop} {L:V->Env->Prop} {n:Nat} {ρ:Env} {m:Nat->Nat} {bl:List ao} {gl:dz} {w0:cP} {P:bj} {tm:List V} {a:Act}
theorem acr {α:Type} {b:bg} {x y:M α} {R:Env->Nat->α->Prop} (h1:b.den ρ=true->ar S L x n ρ R) (h2:b.den ρ=false->ar S L y n ρ R):ar S L (LU b x y) n ρ R:=by
 intro A k hk;unfold LU at hk;cases hb:b.den ρ with
 |true=>
  cases b with
  |lit v=>simp only[bg.den]at hb;subst hb;exact h1 rfl A k hk
  |_=>exact h1 hb A k (hk.1 hb)
 |false=>
  cases b with
  |lit v=>simp only[bg.den]at hb;subst hb;exact h2 rfl A k hk
  |_=>exact h2 hb A k (hk.2 hb)
theorem L4 {nb:Nat} {c:ay} {code i:aa} {j:Nat} {z:Int} {row:List Int} (hrow:(ab (code.den ρ))[(i.den ρ).toNat]?=some row) (hz:row[j]?=some z) (h1:c.dQ.1<=z) (h2:z<=c.dQ.2):
 ar S L (CX c code i j) n ρ λag n' x=>x.ok n' nb ag/\x.den ag m=c.val z/\c.plain=true:=by
 have hf:aw 21 ([code,i,aa.const (j:Nat)].map (·.den ρ))=z:=by
  simp only[cp,er,aa.aR,aw,eW];simp[aC,hrow,hz]
 cases c with
 |int k lo hi=>
  refine(gf (by rw[hf];exact h1) (by rw[hf];exact h2)).bind λaD n1 l _ _ ⟨g1,g2⟩=>ar.pure ⟨⟨g1,?_,?_⟩,?_,rfl⟩
  ·rw[g2,hf];exact h1
  ·rw[g2,hf];exact h2
  ·simp only[A.den,ay.val];rw[g2,hf]
 |str=>
  refine(gf (by rw[hf];exact h1) (by rw[hf];exact h2)).bind λaD n1 l _ _ ⟨g1,g2⟩=>ar.pure ⟨⟨g1,?_,?_⟩,?_,rfl⟩
  ·rw[g2,hf];exact h1
  ·rw[g2,hf];exact h2
  ·simp only[A.den,ay.val];rw[g2,hf]
 |bool=>
  refine(gf (by rw[hf];exact h1) (by rw[hf];exact h2)).bind λaD n1 l _ _ ⟨g1,g2⟩=>ar.pure ?_;have aX:bI.ok n1 aD ⟨l,0,1⟩:=⟨g1,by simp only;rw[g2,hf];exact h1,by simp only;rw[g2,hf];exact h2⟩;have e:=bg.tL aX (bI.nc n1 aD 1);refine⟨e.2,?_,rfl⟩;simp only[A.den,ay.val];rw[e.1];simp only[bI.const,aa.aR];rw[g2,hf]
 |sub k=>exact ar.fail
 |nil=>exact ar.pure ⟨(rfl:(Value.slice none 0 0).oneCell'=true),rfl,rfl⟩
theorem Tu {nb:Nat} {sh:List ay} {row:List Int} (aX:bK sh row):∀{r:List ay} {n:Nat} {ρ:Env} {code i:aa} {j:Nat},code.aY n->i.aY n->(ab (code.den ρ))[(i.den ρ).toNat]?=some row->(∀(x:Nat) (c:ay),r[x]?=some c->sh[j+x]?=some c)->
 ar S L (L7 code i j r) n ρ λag n' l=>(∀a∈l,A.ok n' nb ag a)/\l.length=r.length/\∀(x:Nat) (a:A),l[x]?=some a->∃c,sh[j+x]?=some c/\c.plain=true/\(dm sh row)[j+x]?=some (a.den ag m)
 |[],n,ρ,code,i,j,_,_,_,_=>ar.pure ⟨λ_ h=>by simp at h,rfl,λx a h=>by simp at h⟩
 |c::r,n,ρ,code,i,j,x6,x7,hrow,hr=>by
  have h0:=hr 0 c rfl;obtain⟨z,h1,h2,h3,h4⟩:=aX.get h0;refine(L4 (nb:=nb) (m:=m) hrow h1 h2 h3).bind λaD n1 y hn ha ⟨g1,g2,g3⟩=>?_;refine(Tu (nb:=nb) (r:=r) (n:=n1) (ρ:=aD) (code:=code) (i:=i) (j:=j+1) aX (x6.mono hn) (x7.mono hn) (by rw[aa.bG ha x6,aa.bG ha x7];exact hrow) (λx c hx=>by
   have:=hr (x+1) c (by simpa using hx);rw[show j+1+x=j+(x+1) by omega];exact this)).bind λbo n2 l dY c7 ⟨k1,k2,k3⟩=>ar.pure ⟨λb hb=>?_,by simp[k2],λx b hb=>?_⟩
  ·rcases List.mem_cons.1 hb with rfl|hb
   ·exact g1.ext c7 dY (aV _)
   ·exact k1 b hb
  ·cases x with
   |zero=>
    simp only[m1,aL]at hb;subst hb;exact⟨c,h0,g3,by rw[A.j8 g1 c7 (λ_ _=>rfl),g2];exact h4⟩
   |succ x=>
    have:=k3 x b (by simpa using hb);rw[show j+(x+1)=j+1+x by omega];exact this
theorem YF {nb:Nat} {c:ay} {code:aa}:∀{q n:Nat} {ρ:Env} {i:aa},(∀row∈ab (code.den ρ),bK [c] row)->code.aY n->i.aY n->
 ar S L (P8 c code q i) n ρ λag n' l=>(∀a∈l,A.ok n' nb ag a)/\l.length=q/\∀(x:Nat) (a:A),l[x]?=some a->∃row,(ab (code.den ρ))[(i.den ρ).toNat+x]?=some row/\c.plain=true/\(dm [c] row)[0]?=some (a.den ag m)
 |0,n,ρ,i,_,_,_=>ar.pure ⟨λ_ h=>by simp at h,rfl,λx a h=>by simp at h⟩
 |q+1,n,ρ,i,jd,x6,x7=>by
  refine gC λhk=>?_;simp only[cp,er,af]at hk;have hlt:(i.den ρ).toNat<(ab (code.den ρ)).length:=by omega
  have hrow:(ab (code.den ρ))[(i.den ρ).toNat]?=some (ab (code.den ρ))[(i.den ρ).toNat]:=hP hlt;have aX:=jd _ (Gh hlt);generalize (ab (code.den ρ))[(i.den ρ).toNat]=row at hrow aX;obtain⟨z,h1,h2,h3,h4⟩:=aX.get (show([c]:List ay)[0]?=some c from rfl);refine(L4 (nb:=nb) (m:=m) hrow h1 h2 h3).bind λaD n1 y hn ha ⟨g1,g2,g4⟩=>?_;have gM:=aa.bG ha x6;have hid:=aa.bG ha x7;refine(YF (nb:=nb) (q:=q) (n:=n1) (ρ:=aD) (i:=i.add (.const 1)) (by rw[gM];exact jd) (x6.mono hn) (aa.rH (x7.mono hn) (aa.cC _ _))).bind λbo n2 l dY c7 ⟨k1,k2,k3⟩=>ar.pure ⟨λb hb=>?_,by simp[k2],λx b hb=>?_⟩
  ·rcases List.mem_cons.1 hb with rfl|hb
   ·exact g1.ext c7 dY (aV _)
   ·exact k1 b hb
  ·cases x with
   |zero=>
    simp only[m1,aL]at hb;subst hb;exact⟨row,by simpa using hrow,g4,by rw[A.j8 g1 c7 (λ_ _=>rfl),g2];exact h4⟩
   |succ x=>
    obtain⟨wh,r1,r3,r2⟩:=k3 x b (by simpa using hb);rw[gM,aa.den_add,aa.aR,hid]at r1;exact⟨wh,by rw[<-r1];congr 1;omega,r3,r2⟩
theorem adM (hb:b6 n bl.length ρ bl) (hex:∃w,Mem w0 ρ m bl w) (t:aQ) {b aM:Nat} {o i:aa} {j:Nat} (hx:(A.ep b aM o i j).ok n bl.length ρ):
 ar S L (Ms P bl t b aM o i j) n ρ (lv w0 m bl n ρ λw=>(oA t ((A.ep b aM o i j).den ρ m)).run P w):=by
 obtain⟨uP,rj⟩:=hex;unfold Ms;split
 ·rename_i sh off code cap kind t' hbl;refine eg λhc=>gC λhk=>?_;simp only[aO]at hc;obtain⟨⟨c1,c2⟩,c3⟩:=hc;have c1:0<kind:=eh c1;have c2:=bx c2;have c3:=aa.beq_eq c3;subst c3;have AF:(A.rows sh o code cap kind).ok n bl.length ρ:=hb _ (c0 hbl) _ (by simp);simp only[cp,er,af]at hk;have hlt:(i.den ρ).toNat<(ab (code.den ρ)).length:=by omega
  have hrow:(ab (code.den ρ))[(i.den ρ).toNat]?=some (ab (code.den ρ))[(i.den ρ).toNat]:=hP hlt;generalize (ab (code.den ρ))[(i.den ρ).toNat]=row at hrow;have cK:0<=cap.den ρ:=by
   rcases hQ (cap.den ρ) 0 with h|h
   ·have:=(rj.rws b sh o code cap kind t' hbl (by omega)).1 h;rw[this]at hlt;simp at hlt
   ·exact h
  have kE:∀w,Mem w0 ρ m bl w->bK sh row/\∀(x:Nat) (v:az) (c:ay),sh[x]?=some c->c.plain=true->(dm sh row)[x]?=some v->w.cell? ⟨m b,(o.den ρ).toNat+(i.den ρ).toNat*aM+x,none⟩=some v:=λw hw=>by
   obtain⟨_,cells,gS,fz,g1,⟨g2,g3⟩,_⟩:=(hw.rws b sh o code cap kind t' hbl (by omega)).2 cK;refine⟨g3.1 _ (c0 hrow),λx v c hc hp hv=>?_⟩;have:=g3.get hrow hc hp hv;simp only[jI,g1,rQ,pL,if_false];rw[c2];exact this
  have jd:=(kE uP rj).1;cases ph:ob P t with
  |none=>exact ar.fail
  |some qJ=>
   cases qJ with
   |true=>
    cases hs:eG P t with
    |none=>exact ar.fail
    |some k=>
     simp only;cases hk2:bu (j+k) sh.length with
     |false=>
      simp only[cond_false];split
      ·rename_i c _;have hall:∀row∈ab (code.den ρ),bK [c] row:=by
        obtain⟨_,cells,gS,fz,g1,⟨g2,g3⟩,_⟩:=(rj.rws b [c] o code cap kind t' hbl (by omega)).2 cK;exact g3.1
       refine(YF (nb:=bl.length) (m:=m) (q:=k) (i:=i) hall AF.1.2.1 hx.2.1.2).bind λaD n1 l hn ha ⟨g1,g2,g3⟩=>ar.pure ⟨g1,_,rfl,λw hw=>?_⟩;have hl:=Gd (P:=P) w ⟨m b,(o.den ρ).toNat+(i.den ρ).toNat*aM+0,none⟩ (l.map (A.den aD m)) λx v hj=>by
        rw[jr];rw[ox]at hj;cases hq:l[x]? with
        |none=>simp[hq]at hj
        |some y=>
         simp only[hq,tc,aL]at hj;subst hj;obtain⟨wh,r1,r3,r2⟩:=g3 x y hq;obtain⟨_,cells,gS,fz,e1,⟨e2,e3⟩,_⟩:=(hw.rws b [c] o code cap kind t' hbl (by omega)).2 cK;have:=e3.get (j:=0) (c:=c) r1 rfl r3 r2;simp only[jI,e1,rQ,pL,if_false];simp only[cW,eH]at c2 this;rw[c2];rw[<-this];congr 1;omega
       simp only[j2,g2,lq]at hl;simp[oA,lV,A.den,loadVar,rF ph,iB hs,hl,W.den]
      ·exact ar.fail
     |true=>
     simp only[cond_true];have hk2:=eh hk2;refine(Tu (nb:=bl.length) (m:=m) (r:=(sh.drop j).take k) jd AF.1.2.1 hx.2.1.2 hrow (λx c EE=>by
      rw[o0]at EE;split at EE
      ·rw[wK]at EE;exact EE
      ·cases EE)).bind λaD n1 l hn ha ⟨g1,g2,g3⟩=>ar.pure ⟨g1,_,rfl,λw hw=>?_⟩
     have hl:=Gd (P:=P) w ⟨m b,(o.den ρ).toNat+(i.den ρ).toNat*aM+j,none⟩ (l.map (A.den aD m)) λx v hj=>by
      rw[jr];rw[ox]at hj;cases hq:l[x]? with
      |none=>simp[hq]at hj
      |some y=>
       simp only[hq,tc,aL]at hj;subst hj;rw[Cw];obtain⟨c,q1,q2,q3⟩:=g3 x y hq;exact(kE w hw).2 (j+x) _ c q1 q2 q3
     simp only[j2,g2,m5,List.length_drop,wH (show k<=sh.length-j by omega)]at hl;simp[oA,lV,A.den,loadVar,rF ph,iB hs,hl,W.den]
   |false=>
    cases hc:sh[j]? with
    |none=>simp only;exact ar.fail
    |some c=>
     simp only;obtain⟨z,h1,h2,h3,h4⟩:=jd.get hc;refine(L4 (nb:=bl.length) (m:=m) hrow h1 h2 h3).bind λaD n1 y hn ha ⟨g1,g2,g3⟩=>ar.pure ⟨g1,_,rfl,λw hw=>?_⟩;have:=(kE w hw).2 j _ c hc g3 h4;have N9:(A.ep b aM o i j).den ρ m= .pointer (some ⟨m b,(o.den ρ).toNat+(i.den ρ).toNat*aM+j,none⟩):=rfl;simp[oA,lV,N9,loadVar,rF ph,this,W.den,g2]
 ·exact ar.fail
theorem oi {b aM:Nat} {o ro len cap:aa} (hx:(A.sl b aM o ro len cap).ok n bl.length ρ):∃p,(A.sl b aM o ro len cap).den ρ m= .slice p (len.den ρ).toNat (if cap.den ρ<0 then 0 else(cap.den ρ).toNat)/\(cap.den ρ<0->p=lR (cap.den ρ) (m b))/\(0<=cap.den ρ->p=some ⟨m b,(o.den ρ).toNat+(ro.den ρ).toNat*aM,none⟩):=by
 obtain⟨_,_,_,_,h3,_⟩:=hx;simp only[A.den];by_cases hc:cap.den ρ<0
 ·rw[if_pos hc,if_pos hc,h3 hc];exact⟨_,rfl,λ_=>rfl,λh=>by omega⟩
 ·rw[if_neg hc,if_neg hc];exact⟨_,rfl,λh=>absurd h hc,λ_=>rfl⟩
theorem ap3 {t:aQ} {b aM:Nat} {o ro len cap bh:aa} {k:dj} (hx:(A.sl b aM o ro len cap).ok n bl.length ρ) (hi:bh.aY n):
 ar S L (Qt P t b aM o ro len bh) n ρ (lv w0 m bl n ρ λw=>(te t ((A.sl b aM o ro len cap).den ρ m) (.int k (bh.den ρ))).run P w):=by
 unfold Qt;cases h1:hH P t with
 |none=>exact ar.fail
 |some e=>
  cases h2:eG P e with
  |none=>simp only[h2];exact ar.fail
  |some s=>
   simp only[h2];refine eg λhs=>gC λhk=>ar.pure ?_;have hs:=bx hs;subst hs;simp only[cp,er,af]at hk;obtain⟨x1,⟨x2,x3,eP,iE⟩,⟨iS,ot,lk,nH⟩,oo,fB,gT⟩:=hx;have cK:¬(cap.den ρ<0):=λh=>by have:=fB h;omega
   refine⟨⟨x1,⟨x2,aa.rH x3 hi⟩,iS,by rw[aa.den_add];omega⟩,_,rfl,λw _=>?_⟩;have c2:bh.den ρ<((len.den ρ).toNat:Int):=by omega
   have e1:(ro.den ρ+bh.den ρ).toNat=(ro.den ρ).toNat+(bh.den ρ).toNat:=by omega
   simp only[A.den,if_neg cK,W.den,aa.den_add,e1];simp[-auU,te,asIntOf,fe (hL h1),hk.1,c2,iB h2,jr,u5,Cw]
theorem G6 {d:aa} {y:Option lW} {l:aa} (h:tF tm d y=some l) (ht:dp n bl.length ρ m tm a.tmps):(y=none/\l=d)∨∃k,y.map a.eval=some (.int k (l.den ρ))/\l.aY n:=by
 cases y with
 |none=>exact .inl ⟨rfl,by simpa [tF]using h.symm⟩
 |some x=>
  obtain⟨k,hk,h2⟩:=uj (m:=m) (bl:=bl) h (cq ht x).2 (cq ht x).1;exact .inr ⟨k,by rw[<-hk];rfl,h2⟩
theorem GY {op:Nat} {ls:List aa} (h:af op (ls.map (·.den ρ))):ar S L (zx op ls) n ρ λag n' _=>ag=ρ/\n'=n:=λA k hk=>⟨ρ,n,(),aV _,agree.refl _ _,⟨rfl,rfl⟩,hk h⟩
theorem ap7 {t:aQ} {b aM:Nat} {o ro len cap p q:aa} {lo hi:Option lW} (hx:(A.sl b aM o ro len cap).ok n bl.length ρ) (ht:dp n bl.length ρ m tm a.tmps) (hp:tF tm (.const 0) lo=some p) (hq:tF tm len hi=some q):
 ar S L (Qw P t b aM o ro len cap p q) n ρ (lv w0 m bl n ρ λw=>(nK t ((A.sl b aM o ro len cap).den ρ m) (lo.map a.eval) (hi.map a.eval) none).run P w):=by
 unfold Qw;cases h1:hH P t with
 |none=>exact ar.fail
 |some e=>
  cases h2:eG P e with
  |none=>simp only[h2];exact ar.fail
  |some s=>
   simp only[h2];refine eg λhs=>gC λhk=>?_;have hs:=bx hs;subst hs;simp only[cp,er,af]at hk;obtain⟨k1,k2,k3⟩:=hk;have jf:=hx;obtain⟨x1,⟨x2,x3,eP,iE⟩,⟨iS,ot,lk,nH⟩,⟨oo,oq⟩,fB,gT⟩:=hx;have hsp:=G6 hp ht;have Io:=G6 hq ht;have yO:p.aY n:=by rcases hsp with⟨_,rfl⟩|⟨_,_,h⟩;exact aa.cC _ _;exact h
   have yP:q.aY n:=by rcases Io with⟨_,rfl⟩|⟨_,_,h⟩;exact eP;exact h
   obtain⟨ptr,e1,e2,e3⟩:=oi (m:=m) jf;have p5:∀w,(jo true (len.den ρ).toNat (if cap.den ρ<0 then 0 else(cap.den ρ).toNat) (lo.map a.eval) (hi.map a.eval) none).run P w= .ok ((p.den ρ).toNat,(q.den ρ).toNat,(if cap.den ρ<0 then 0 else(cap.den ρ).toNat)) w:=λw=>by
    have hle:(len.den ρ)<=((if cap.den ρ<0 then 0 else(cap.den ρ).toNat:Nat):Int):=by
     split
     ·rename_i h;rw[fB h];simp
     ·rename_i h;have:=gT (by omega);omega
    generalize (if cap.den ρ<0 then 0 else(cap.den ρ).toNat)=C at hle;rcases hsp with⟨rfl,rfl⟩|⟨EP,nr,_⟩<;>rcases Io with⟨rfl,rfl⟩|⟨WX,hq',_⟩
    ·simp[jo,aa.aR]
    ·rw[hq'];simp[jo,aa.aR,mn (P:=P) (by omega:0<=q.den ρ) (by omega:q.den ρ<=(C:Int))]
    ·rw[nr];simp[jo,mn (P:=P) (y:=(q.den ρ).toNat) k1 (by omega)]
    ·rw[nr,hq'];simp[jo,mn (P:=P) (by omega:0<=q.den ρ) (by omega:q.den ρ<=(C:Int)),mn (P:=P) (y:=(q.den ρ).toNat) k1 (by omega)]
   have hrun:∀(w:ai) (r:Int),r=(if p.den ρ=cap.den ρ then ro.den ρ else ro.den ρ+p.den ρ)->
    (nK t ((A.sl b s o ro len cap).den ρ m) (lo.map a.eval) (hi.map a.eval) none).run P w= .ok (if cap.den ρ-p.den ρ<0 then .slice (lR (cap.den ρ-p.den ρ) (m b)) 0 0 else .slice (some ⟨m b,(o.den ρ).toNat+r.toNat*s,none⟩) (q.den ρ-p.den ρ).toNat (cap.den ρ-p.den ρ).toNat) w:=λw r hr=>by
    rw[e1];have fo:(q.den ρ).toNat-(p.den ρ).toNat=(q.den ρ-p.den ρ).toNat:=by omega
    simp only[nK,gm,fe (hL h1),gy,Kr,p5 w,iB h2,hS,fo];by_cases hc:cap.den ρ<0
    ·have hl:=fB hc;have qa:p.den ρ=0:=by omega
     rw[if_pos hc,e2 hc,if_pos (by omega)];have:q.den ρ=0:=by omega
     simp[qa,this,hc]
    ·rw[if_neg hc,e3 (by omega)];have dJ:=gT (by omega);have Ao:¬(cap.den ρ-p.den ρ<0):=by omega
     rw[if_neg Ao];have oM:(cap.den ρ).toNat-(p.den ρ).toNat=(cap.den ρ-p.den ρ).toNat:=by omega
     rw[oM];by_cases Ej:p.den ρ=cap.den ρ
     ·rw[if_pos Ej]at hr;have h7:(cap.den ρ).toNat=(p.den ρ).toNat:=by omega
      rw[if_pos h7,hr]
     ·rw[if_neg Ej]at hr;have h7:¬(cap.den ρ).toNat=(p.den ρ).toNat:=by omega
      rw[if_neg h7,hr];have lA:(ro.den ρ+p.den ρ).toNat=(ro.den ρ).toNat+(p.den ρ).toNat:=by omega
      rw[lA,u5,<-Cw];simp[jr]
   split
   ·rename_i h0;have qa:=aa.iK h0 (ρ:=ρ);refine ar.pure ⟨⟨x1,⟨x2,x3,yP,iE⟩,⟨iS,ot,by omega,by omega⟩,⟨oo,oq⟩,λh=>?_,λh=>?_⟩,_,rfl,λw _=>?_⟩
    ·have:=fB h;omega
    ·have:=gT h;omega
    ·have hr:=hrun w (ro.den ρ) (by rw[qa];split<;>omega);rw[qa]at hr;simp only[Int.sub_zero]at hr;simp only[W.den,A.den]at hr⊢;exact hr
   ·have hb1:(0:Int)<=aw 33 ([ro,p,cap].map (·.den ρ)):=by
     simp only[cp,er,aw];split<;>omega
    have hb2:aw 33 ([ro,p,cap].map (·.den ρ))<=9223372036854775809:=by
     simp only[cp,er,aw];by_cases hc:cap.den ρ<0
     ·have:=fB hc;split<;>omega
     ·have:=gT (by omega);split<;>omega
    refine(GY (op:=68) (ls:=[len,cap]) (show len.den ρ<=cap.den ρ∨len.den ρ=0 from by
     by_cases hc:cap.den ρ<0
     ·exact .inr (fB hc)
     ·exact .inl (gT (by omega)))).bind λbV n0 _ _ _ ⟨yd,nX⟩=>?_
    have yd:=yd.symm;have nX:=nX.symm
    subst yd;subst nX;refine(gf hb1 hb2).bind λaD n1 r hn ha ⟨g1,g2⟩=>ar.pure ?_;simp only[cp,er,aw]at g2;have a1:=aa.bG ha x2;have a2:=aa.bG ha yP;have a3:=aa.bG ha yO;have a4:=aa.bG ha iE
    refine⟨⟨x1,⟨x2.mono hn,g1,aa.wo (yP.mono hn) (yO.mono hn),aa.wo (iE.mono hn) (yO.mono hn)⟩,?_⟩,_,rfl,λw _=>?_⟩
    ·rw[aa.lz,aa.lz,a1,a2,a3,a4,g2];refine⟨⟨iS,?_,by omega,by omega⟩,⟨?_,?_⟩,λh=>?_,λh=>?_⟩
     ·split<;>omega
     ·by_cases hc:cap.den ρ<0
      ·have:=fB hc;omega
      ·have:=gT (by omega);omega
     ·split<;>omega
     ·by_cases hc:cap.den ρ<0
      ·have:=fB hc;omega
      ·have:=gT (by omega);omega
     ·by_cases hc:cap.den ρ<0
      ·have:=fB hc;omega
      ·have:=gT (by omega);omega
    ·refine(hrun w (r.den aD) g2).trans ?_;simp only[W.den,A.den,aa.lz,a1,a2,a3,a4]
theorem apC (w:ai) (src e:aQ) (hs:P.underlying src=some (.slice e)) (he:P.underlying e=some (.int .u8)) (p:Option Addr) (c:Nat):
 ∀dst,P.underlying dst=some .string->(convert src dst (.slice p 0 c)).run P w= .ok (.string aAu) w:=by
 intro dst hd;cases p with
 |none=>exact run_convert_bytes_nil w src e hs he _ _ dst hd
 |some a=>
  have hl:(loadCells a 0).run P w= .ok ([]:List az).toArray w:=by
   have:=Gd (P:=P) w a ([]:List az) (λj v hj=>by simp at hj);simpa using this
  rw[run_convert_bytes_string w src dst e _ 0 c hs he hd,run_bytesToString w _ 0 c [] hl];simp
theorem ap4 (hb:b6 n bl.length ρ bl) (hex:∃w,Mem w0 ρ m bl w) {src dst e:aQ} (hs:P.underlying src=some (.slice e)) (he:P.underlying e=some (.int .u8)) (hd:P.underlying dst=some .string) {b aM:Nat} {o ro len cap:aa} (hx:(A.sl b aM o ro len cap).ok n bl.length ρ):
 ar S L (Qv bl b aM o ro len) n ρ (lv w0 m bl n ρ λw=>(convert src dst ((A.sl b aM o ro len cap).den ρ m)).run P w):=by
 obtain⟨uP,rj⟩:=hex;unfold Qv;split
 ·rename_i sh off code dR kind t' hbl;refine eg λhc=>gC λhk=>?_;simp only[aO]at hc;obtain⟨⟨⟨c1,c2⟩,c3⟩,c4⟩:=hc;have c1:0<kind:=eh c1;have c2:=bx c2;have c3:=aa.beq_eq c3;subst c3;subst c2;simp only[cp,er,af,aa.den_add]at hk;obtain⟨ptr,e1,e2,e3⟩:=oi (m:=m) hx;obtain⟨x1,⟨x2,x3,eP,iE⟩,⟨iS,ot,lk,nH⟩,⟨oo,oq⟩,fB,gT⟩:=hx;generalize hR:ab (code.den ρ)=rows at hk;have p9:dR.den ρ<0->rows=[]:=λh=>by rw[<-hR];exact(rj.rws b sh o code dR kind t' hbl (by omega)).1 h
  have gE:(((rows.drop (ro.den ρ).toNat).take (len.den ρ).toNat).map λrow=>row.getD 0 0).length=(len.den ρ).toNat:=by
   simp;omega
  have hf:aw 34 ([code,ro,ro.add len].map (·.den ρ))=cZ ((((rows.drop (ro.den ρ).toNat).take (len.den ρ).toNat).map λrow=>row.getD 0 0).map λz=>kq z.toNat):=by
   simp only[cp,er,aw,aa.den_add,hR];have:(ro.den ρ+len.den ρ).toNat-(ro.den ρ).toNat=(len.den ρ).toNat:=by omega
   rw[this,kN];rfl
  generalize bJ:(((rows.drop (ro.den ρ).toNat).take (len.den ρ).toNat).map λrow=>row.getD 0 0)=xs at gE hf;have hl:(xs.map λz=>kq z.toNat).length<=eN:=by
   have:(xs.map λz=>kq z.toNat).length=(len.den ρ).toNat:=by simp[gE]
   unfold eN;omega
  refine(gf (by rw[hf];exact nR _) (by rw[hf];exact my hl)).bind λaD n1 l _ _ ⟨g1,g2⟩=>ar.pure ⟨⟨g1,by rw[g2,hf];exact nR _,by rw[g2,hf];exact my hl⟩,_,rfl,λw hw=>?_⟩;have n7:(W.one (A.str l)).den aD m= .string (strOfNums xs):=by
   simp only[W.den,A.den,g2,hf,dZ];rfl
  rw[n7];show(convert src dst ((A.sl b 1 o ro len cap).den ρ m)).run P w=_;rw[e1];by_cases cK:cap.den ρ<0
  ·have hl0:=fB cK;rw[e2 cK,if_pos cK];have Wb:xs=[]:=tl (by rw[gE,hl0];rfl);rw[Wb,show(len.den ρ).toNat=0 by omega,apC w src e hs he _ _ dst hd];rfl
  ·rw[e3 (by omega),if_neg cK];by_cases Nv:dR.den ρ<0
   ·have jc:=p9 Nv;have hl0:len.den ρ=0:=by rw[jc]at hk;simp at hk;omega
    have Wb:xs=[]:=tl (by rw[gE,hl0];rfl);exact run_convert_bytes_arg w src e hs he (m b) _ _ _ xs gE (λi hi=>by rw[hl0]at hi;simp at hi) dst hd
   ·obtain⟨_,cells,gS,fz,k1,⟨k2,k3⟩,_⟩:=(hw.rws b sh o code dR kind t' hbl (by omega)).2 (by omega);refine run_convert_bytes_arg w src e hs he (m b) _ _ _ xs gE (λi hi=>?_) dst hd;have hlt:(ro.den ρ).toNat+i<rows.length:=by omega
    have hrow:(ab (code.den ρ))[(ro.den ρ).toNat+i]?=some rows[(ro.den ρ).toNat+i]:=by rw[hR];exact hP hlt
    have kf:∃lo hi,sh=[.int .u8 lo hi]:=by
     unfold Tj at c4;split at c4
     ·exact⟨_,_,rfl⟩
     ·cases c4
    obtain⟨lo,cN,rfl⟩:=kf;have AF:=k3.1 _ (c0 hrow);obtain⟨z,q1,_,_,db⟩:=AF.get (j:=0) (c:= .int .u8 lo cN) rfl;have:=k3.get (j:=0) (c:= .int .u8 lo cN) hrow rfl rfl db;have hz:xs.getD i 0=z:=by
     rw[<-bJ];have:i<(len.den ρ).toNat:=hi;simp[aC,o0,this,hlt,q1]
    simp only[jI,k1,rQ,pL,if_false,hz];simp only[cW,eH,lq,zb,Gf]at this;rw[show(o.den ρ).toNat+(ro.den ρ).toNat*1+i=(o.den ρ).toNat+((ro.den ρ).toNat+i) by omega];exact this
 ·exact ar.fail
theorem alb {k:dj} {x y:bI} {t:aQ} {ts:Array aQ} (hx:x.ok n ρ) (hy:y.ok n ρ):ar S L (Xu k x y) n ρ (lv w0 m bl n ρ λw=>(Rx ts t #[.int k (x.l.den ρ),.int k (y.l.den ρ)]).run P w):=by
 have e:=bg.Mk hy hx;have hr:∀w,(Rx ts t #[.int k (x.l.den ρ),.int k (y.l.den ρ)]).run P w= .ok (.int k (if y.l.den ρ<x.l.den ρ then y.l.den ρ else x.l.den ρ)) w:=λw=>by
  simp[Rx,Builtin.min2]
 refine acr (λhb=>ar.pure ⟨hy,_,rfl,λw _=>?_⟩) λhb=>ar.pure ⟨hx,_,rfl,λw _=>?_⟩
 ·rw[e.1]at hb;simp only[hr,if_pos (of_decide_eq_true hb)];rfl
 ·rw[e.1]at hb;simp only[hr,if_neg (of_decide_eq_false hb)];rfl
theorem Tf:∀{cs:List A} {l:List Bool},lZ cs=some l->cs=l.map λb=>A.bool (.lit b)
 |[],l,h=>by simp[lZ]at h;subst h;rfl
 | .bool (.lit b)::r,l,h=>by
  simp only[lZ]at h;cases hr:lZ r with
  |none=>simp[hr]at h
  |some bQ=>
   simp only[hr,aL]at h;subst h;simp[Tf hr]
 | .bool (.eq ..)::_,_,h| .bool (.lt ..)::_,_,h| .bool (.le ..)::_,_,h| .bool (.not ..)::_,_,h| .bool (.and ..)::_,_,h| .bool (.iff ..)::_,_,h=>by simp[lZ]at h
 | .int .. ::_,_,h=>by simp[lZ]at h
 | .ptr .. ::_,_,h=>by simp[lZ]at h
 | .og .. ::_,_,h=>by simp[lZ]at h
 | .gptr .. ::_,_,h=>by simp[lZ]at h
 | .slc .. ::_,_,h=>by simp[lZ]at h
 | .con _::_,_,h=>by simp[lZ]at h
 | .str _::_,_,h=>by simp[lZ]at h
 | .rows .. ::_,_,h=>by simp[lZ]at h
 | .sl .. ::_,_,h=>by simp[lZ]at h
 | .ep .. ::_,_,h=>by simp[lZ]at h
theorem Wp:∀(l:List Bool) (s:Nat),s+l.length<=256->∀i:Nat,i<256->(kq i∈ui s l↔s<=i/\l[i-s]?=some true)
 |[],s,_,i,_=>by simp[ui]
 |b::r,s,h,i,hi=>by
  simp only[cW]at h;have ih:=Wp r (s+1) (by omega) i hi;have hne:s≠i->kq i≠kq s:=λhne he=>by
   have:=congrArg UInt8.toNat he;simp at this;omega
  have key:(s+1<=i/\r[i-(s+1)]?=some true)↔(s<i/\(b::r)[i-s]?=some true):=by
   constructor
   ·rintro⟨h1,h2⟩
    refine⟨h1,?_⟩;rw[show i-s=(i-(s+1))+1 by omega];simpa using h2
   ·rintro⟨h1,h2⟩
    refine⟨h1,?_⟩;rw[show i-s=(i-(s+1))+1 by omega]at h2;simpa using h2
  unfold ui;cases b with
  |true=>
   simp only[cond_true,ks,ih,key];by_cases he:s=i
   ·subst he;simp
   ·constructor
    ·rintro(h1|h1)
     ·exact absurd h1 (hne he)
     ·exact⟨by omega,h1.2⟩
    ·rintro⟨h1,h2⟩;exact .inr ⟨by omega,h2⟩
  |false=>
   simp only[cond_false,ih,key];by_cases he:s=i
   ·subst he;simp
   ·constructor
    ·rintro⟨h1,h2⟩;exact⟨by omega,h2⟩
    ·rintro⟨h1,h2⟩;exact⟨by omega,h2⟩
theorem apQ (hb:b6 n bl.length ρ bl) {ty:aQ} (hu:P.underlying ty=some .bool) (b off:Nat) {bh:bI} (Ax:bh.ok n ρ):ar S L (Qm bl b off bh) n ρ (lv w0 m bl n ρ λw=>(oA ty ((A.og b off bh).den ρ m)).run P w):=by
 unfold Qm;cases hbl:bl[b]? with
 |none=>exact ar.fail
 |some q=>
  obtain⟨cs,t⟩:=q;simp only;cases hi:lZ ((cs.drop off).take (bh.hi.toNat+1))with
  |none=>exact ar.fail
  |some l=>
   refine eg λhc=>?_;simp only[aO,decide_eq_true_eq]at hc;obtain⟨⟨⟨hc1,hc2⟩,Vf⟩,hq⟩:=hc;have hlen:=bx hc1;have Dv:=eh hc2;have e:=Tf hi;have xb:=Ax.2;have hlt:(bh.l.den ρ).toNat<l.length:=by omega
   have gY:cZ (ui 0 l)=(aa.const (cZ (ui 0 l))).den ρ:=(aa.aR _ _).symm;have hf:aw 43 ([aa.const (cZ (ui 0 l)),bh.l].map (·.den ρ))=if l[(bh.l.den ρ).toNat]=true then 1 else 0:=by
    simp only[cp,er,aw,aa.aR,dZ];have:=Wp l 0 (by omega) (bh.l.den ρ).toNat (by omega);simp only[Nat.sub_zero,iF,true_and,hP hlt,aL]at this;simp only[this]
   have b1:=G3 (l[(bh.l.den ρ).toNat]=true);refine(gf (by rw[hf];exact b1.1) (by rw[hf];exact b1.2)).bind λaD n1 r hn ha ⟨g1,g2⟩=>?_;rw[hf]at g2;have e2:=bg.tL (n:=n1) (ρ:=aD) (a:=⟨r,0,1⟩) (b:= .const 1) ⟨g1,by simp only[g2];exact b1.1,by simp only[g2];exact b1.2⟩ (bI.nc _ _ _);refine ar.pure ⟨e2.2,_,rfl,λw hw=>?_⟩;obtain⟨_,_,yN,_,h2⟩:=hw.blk b cs t hbl hq;have hcs:cs[off+(bh.l.den ρ).toNat]?=some (.bool (.lit l[(bh.l.den ρ).toNat])):=by
    have h1:((cs.drop off).take (bh.hi.toNat+1))[(bh.l.den ρ).toNat]?=some (.bool (.lit l[(bh.l.den ρ).toNat])):=by rw[e];simp[hlt]
    rw[o0]at h1;split at h1
    ·rw[wK]at h1;exact h1
    ·cases h1
   have agx:=(List.getElem?_eq_some_iff.1 hcs).1;have hcell:w.cell? ⟨m b,off+(bh.l.den ρ).toNat,none⟩=some (.bool l[(bh.l.den ρ).toNat]):=by
    simp only[jI,h2,rQ,pL,if_false,Kp];rw[rT (by simpa using agx),ox,hcs];rfl
   have ph:ob P ty=some false:=by unfold ob;rw[hu]
   have N9:(A.og b off bh).den ρ m= .pointer (some ⟨m b,off+(bh.l.den ρ).toNat,none⟩):=rfl;simp only[W.den,A.den];rw[e2.1];simp only[g2,bI.const,aa.aR];have agm:decide ((if l[(bh.l.den ρ).toNat]=true then(1:Int)else 0)=1)=l[(bh.l.den ρ).toNat]:=by
    cases l[(bh.l.den ρ).toNat]<;>rfl
   rw[agm];have ahB:=N9;simp only[A.den]at ahB;simp[oA,lV,loadVar,rF ph,hcell]
theorem apD (w:ai) {t e:aQ} (hu:P.underlying t=some (.slice e)) (p:Option Addr) (l c:Nat):(binOp .eql t (.slice p l c) (.slice none 0 0)).run P w= .ok (.bool p.isNone) w:=by
 have h:binOp .eql t (.slice p l c) (.slice none 0 0)=(do pure (.bool (<-Op.equal t (.slice p l c) (.slice none 0 0)))):=rfl;rw[h];simp only[gm,run_equal_slice_nil w t e p l c hu,gy,hS]
theorem apG (w:ai) {t e:aQ} (hu:P.underlying t=some (.slice e)) (p:Option Addr) (l c:Nat):(binOp .neq t (.slice p l c) (.slice none 0 0)).run P w= .ok (.bool !p.isNone) w:=by
 have h:binOp .neq t (.slice p l c) (.slice none 0 0)=(do pure (.bool (!(<-Op.equal t (.slice p l c) (.slice none 0 0))))):=rfl;rw[h];simp only[gm,run_equal_slice_nil w t e p l c hu,gy,hS]
theorem acX {α:Type} {p q r len cap:aa} {f:Unit->M α} {R:Env->Nat->α->Prop} (dF:cap.den ρ<0->len.den ρ=0) (dJ:0<=cap.den ρ->len.den ρ<=cap.den ρ) (h:(0<=p.den ρ/\p.den ρ<=q.den ρ/\q.den ρ<=r.den ρ/\r.den ρ<=cap.den ρ)->ar S L (f ()) n ρ R):
 ar S L (bind (cond (aa.beq r len) (fg 78 [p,q,r,cap]) (fg 64 [p,q,r,len])) f) n ρ R:=by
 cases aa.beq r len with
 |true=>exact gC λhk=>h hk
 |false=>
  refine gC λhk=>h ?_;have hk:0<=p.den ρ/\p.den ρ<=q.den ρ/\q.den ρ<=r.den ρ/\r.den ρ<=len.den ρ/\0<len.den ρ:=hk;have hc:0<=cap.den ρ:=by
   rcases hQ (cap.den ρ) 0 with h|h
   ·have:=dF h;omega
   ·exact h
  have:=dJ hc;omega
theorem ap6 {t:aQ} {b aM:Nat} {o ro len cap p q r:aa} {lo:Option lW} {hi fy:lW} (hx:(A.sl b aM o ro len cap).ok n bl.length ρ) (ht:dp n bl.length ρ m tm a.tmps) (hp:tF tm (.const 0) lo=some p) (hq:mP (bZ tm hi)=some q) (hr:mP (bZ tm fy)=some r):
 ar S L (Qx P t b aM o ro len cap p q r) n ρ (lv w0 m bl n ρ λw=>(nK t ((A.sl b aM o ro len cap).den ρ m) (lo.map a.eval) (some (a.eval hi)) (some (a.eval fy))).run P w):=by
 unfold Qx;cases h1:hH P t with
 |none=>exact ar.fail
 |some e=>
  cases h2:eG P e with
  |none=>simp only[h2];exact ar.fail
  |some s=>
   simp only[h2];refine eg λhs=>acX (λh=>hx.2.2.2.2.1 h) (λh=>hx.2.2.2.2.2 h) λhk=>?_;have hs:=bx hs;subst hs;obtain⟨k1,k2,k3,k4⟩:=hk;have jf:=hx;obtain⟨x1,⟨x2,x3,eP,iE⟩,⟨iS,ot,lk,nH⟩,⟨oo,oq⟩,fB,gT⟩:=hx;have hsp:=G6 hp ht;have yO:p.aY n:=by rcases hsp with⟨_,rfl⟩|⟨_,_,h⟩;exact aa.cC _ _;exact h
   obtain⟨WX,hq',yP⟩:=uj (m:=m) (bl:=bl) hq (cq ht hi).2 (cq ht hi).1;obtain⟨ajh,gQ,Qk⟩:=uj (m:=m) (bl:=bl) hr (cq ht fy).2 (cq ht fy).1;obtain⟨ptr,e1,e2,e3⟩:=oi (m:=m) jf;have hc:¬(cap.den ρ<0):=by omega
   have dJ:=gT (by omega);have Hs:=e1;rw[if_neg hc,e3 (by omega)]at Hs;have hf:aw 33 ([ro,p,r].map (·.den ρ))=(if p.den ρ=r.den ρ then ro.den ρ else ro.den ρ+p.den ρ):=rfl;refine(gf (by rw[hf];split<;>omega) (by rw[hf];split<;>omega)).bind λaD n1 yN hn ha ⟨g1,g2⟩=>ar.pure ?_;rw[hf]at g2;have a1:=aa.bG ha x2;have a2:=aa.bG ha yP;have a3:=aa.bG ha yO;have a4:=aa.bG ha Qk
   refine⟨⟨x1,⟨x2.mono hn,g1,aa.wo (yP.mono hn) (yO.mono hn),aa.wo (Qk.mono hn) (yO.mono hn)⟩,?_⟩,_,rfl,λw _=>?_⟩
   ·rw[aa.lz,aa.lz,a1,a2,a3,a4,g2];refine⟨⟨iS,?_,by omega,by omega⟩,⟨by omega,?_⟩,λh=>by omega,λh=>by omega⟩
    ·split<;>omega
    ·split<;>omega
   ·rw[Hs];have p5:(jo true (len.den ρ).toNat (cap.den ρ).toNat (lo.map a.eval) (some (a.eval hi)) (some (a.eval fy))).run P w= .ok ((p.den ρ).toNat,(q.den ρ).toNat,(r.den ρ).toNat) w:=by
     rw[hq',gQ];rcases hsp with⟨rfl,rfl⟩|⟨EP,nr,_⟩
     ·simp[jo,aa.aR,mn (P:=P) (y:=(cap.den ρ).toNat) (by omega:0<=r.den ρ) (by omega),mn (P:=P) (y:=(r.den ρ).toNat) (by omega:0<=q.den ρ) (by omega)]
     ·rw[nr];simp[jo,mn (P:=P) (y:=(cap.den ρ).toNat) (by omega:0<=r.den ρ) (by omega),mn (P:=P) (y:=(r.den ρ).toNat) (by omega:0<=q.den ρ) (by omega),mn (P:=P) (y:=(q.den ρ).toNat) k1 (by omega)]
    have fo:(q.den ρ).toNat-(p.den ρ).toNat=(q.den ρ-p.den ρ).toNat:=by omega
    have oM:(r.den ρ).toNat-(p.den ρ).toNat=(r.den ρ-p.den ρ).toNat:=by omega
    simp only[nK,gm,fe (hL h1),gy,Kr,p5,iB h2,hS,fo,oM,W.den,A.den,aa.lz,a1,a2,a3,a4,g2];rw[if_neg (show ¬(r.den ρ-p.den ρ<0) by omega)];by_cases Ej:p.den ρ=r.den ρ
    ·rw[if_pos Ej,if_pos (by omega)]
    ·rw[if_neg Ej,if_neg (by omega)];have lA:(ro.den ρ+p.den ρ).toNat=(ro.den ρ).toNat+(p.den ρ).toNat:=by omega
     rw[lA,u5,<-Cw];simp[jr]
theorem ap5 {t:aQ} {b aM:Nat} {o ro len cap p q r:aa} {lo:Option lW} {hi fy:lW} (hx:(A.sl b aM o ro len cap).ok n bl.length ρ) (ht:dp n bl.length ρ m tm a.tmps) (hp:tF tm (.const 0) lo=some p) (hq:mP (bZ tm hi)=some q) (hr:mP (bZ tm fy)=some r):
 ar S L (Qy P bl t b aM o ro len cap p q r) n ρ (lv w0 m bl n ρ λw=>(nK t ((A.sl b aM o ro len cap).den ρ m) (lo.map a.eval) (some (a.eval hi)) (some (a.eval fy))).run P w):=by
 unfold Qy;cases hc:(WJ bl b&&aa.beq r len&&aa.beq q len&&aa.beq p (.const 0))with
 |false=>exact ap6 hx ht hp hq hr
 |true=>
  simp only[aO]at hc;obtain⟨⟨⟨_,c1⟩,c2⟩,c3⟩:=hc;simp only[cond_true];cases h1:hH P t with
  |none=>exact ar.fail
  |some e=>
   cases h2:eG P e with
   |none=>simp only[h2];exact ar.fail
   |some s=>
    simp only[h2];refine eg λhs=>?_;have hs:=bx hs;have jf:=hx;obtain⟨x1,⟨x2,x3,eP,iE⟩,⟨iS,ot,lk,nH⟩,⟨oo,oq⟩,fB,gT⟩:=hx;have hsp:=G6 hp ht;obtain⟨WX,hq',yP⟩:=uj (m:=m) (bl:=bl) hq (cq ht hi).2 (cq ht hi).1;obtain⟨ajh,gQ,Qk⟩:=uj (m:=m) (bl:=bl) hr (cq ht fy).2 (cq ht fy).1;have e1:=aa.beq_eq c1;have e2:=aa.beq_eq c2;have e3:=aa.beq_eq c3;subst e1;subst e2;subst e3;have hf:aw 62 ([cap,q].map (·.den ρ))=min (cap.den ρ) (q.den ρ):=rfl;have pq:∀w:ai,(jo true (q.den ρ).toNat (if cap.den ρ<0 then 0 else(cap.den ρ).toNat) (lo.map a.eval) (some (a.eval hi)) (some (a.eval fy))).run P w= .ok (0,(q.den ρ).toNat,(q.den ρ).toNat) w:=λw=>by
     have gY:(q.den ρ).toNat<=(if cap.den ρ<0 then 0 else(cap.den ρ).toNat):=by
      split
      ·rename_i h;have:=fB h;omega
      ·rename_i h;have:=gT (by omega);omega
     rw[hq',gQ];rcases hsp with⟨rfl,_⟩|⟨EP,nr,_⟩
     ·simp[jo,mn (P:=P) (y:=(if cap.den ρ<0 then 0 else(cap.den ρ).toNat)) lk (by omega),mn (P:=P) (y:=(q.den ρ).toNat) lk (by omega)]
     ·rw[nr,aa.aR];simp[jo,mn (P:=P) (y:=(if cap.den ρ<0 then 0 else(cap.den ρ).toNat)) lk (by omega),mn (P:=P) (y:=(q.den ρ).toNat) lk (by omega),mn (P:=P) (y:=(q.den ρ).toNat) (bB 0) (by omega)]
    obtain⟨ptr,d1,d2,d3⟩:=oi (m:=m) jf;refine(gf (by rw[hf];omega) (by rw[hf];omega)).bind λaD n1 c hn ha ⟨g1,g2⟩=>ar.pure ?_;rw[hf]at g2;have a1:=aa.bG ha x2;have a2:=aa.bG ha x3;have a4:=aa.bG ha eP
    refine⟨⟨x1,⟨x2.mono hn,x3.mono hn,eP.mono hn,g1⟩,?_⟩,_,rfl,λw _=>?_⟩
    ·rw[a1,a2,a4,g2];refine⟨⟨iS,ot,lk,nH⟩,⟨by omega,by omega⟩,λh=>?_,λh=>?_⟩
     ·rcases hQ (cap.den ρ) 0 with h0|h0
      ·exact fB h0
      ·have:=gT h0;omega
     ·rcases hQ (cap.den ρ) 0 with h0|h0
      ·omega
      ·have:=gT h0;omega
    ·rw[d1];simp only[nK,gm,fe (hL h1),gy,Kr,pq w,iB h2,hS,Nat.sub_zero,W.den,A.den,a1,a2,a4,g2];by_cases hc:cap.den ρ<0
     ·have hl:=fB hc;rw[if_pos (show min (cap.den ρ) (q.den ρ)<0 by omega),d2 hc,hl,show min (cap.den ρ) 0=cap.den ρ by omega];rfl
     ·have:=gT (by omega);rw[if_neg (show ¬min (cap.den ρ) (q.den ρ)<0 by omega),d3 (by omega),show min (cap.den ρ) (q.den ρ)=q.den ρ by omega];by_cases h0:(q.den ρ).toNat=0
      ·rw[h0];rfl
      ·rw[if_neg (by omega)];simp[jr]
theorem apv (hb:b6 n bl.length ρ bl) (hex:∃w,Mem w0 ρ m bl w) (ht:dp n bl.length ρ m tm a.tmps) (o:Oper) {q:M V} (hq:JE P bl tm o=some q):ar S L q n ρ (lu w0 m bl n ρ P o a):=by
 obtain⟨uP,rj⟩:=hex;unfold JE at hq;split at hq
 ·rename_i t x lo hi fy h;have hx:=cq ht x;split at hq
  ·rename_i b aM off ro len cap hv;rw[hv]at hx;have dr:a.eval x=(A.sl b aM off ro len cap).den ρ m:=hx.2;have he:execOp a.eval o=(do pure (kO (<-nK t ((A.sl b aM off ro len cap).den ρ m) (lo.map a.eval) (some (a.eval hi)) (some (a.eval fy))))):=by simp only[execOp,h,dr];rfl
   split at hq
   ·rename_i p q' r hp hq' hr;cases hq;exact(ap5 hx.1 ht hp hq' hr).mono λ_ _ _ _ _ hq=>lu.of_run he hq
   ·cases hq
  ·cases hq
 ·rename_i c h;split at hq
  ·rename_i hc;split at hq
   ·rename_i x t gE pt;have hx:=cq ht x;split at hq
    ·rename_i e hv hs;cases hq;rw[hv]at hx;have dr:a.eval x= .slice none 0 0:=hx.2;have a1:c.args=#[x]:=by rw[<-lU (xs:=c.args),gE]
     have a2:c.argTypes=#[t]:=by rw[<-lU (xs:=c.argTypes),pt]
     refine ar.pure ⟨bI.nc _ _ _,_,rfl,λw _=> .inl ?_⟩;simp[execOp,h,resolve,hc,a1,a2,dr,invoke,builtin,Gi,fe (hL hs),goInt,W.den,A.den,bI.const,aa.aR]
    ·cases hq
   ·cases hq
  ·cases hq
 ·cases hq
theorem Fh {cal:dW} (cw:fl S P gl w0 cal) (hb:b6 n bl.length ρ bl) (hg:eL gl w0) (hex:∃w,Mem w0 ρ m bl w) (ht:dp n bl.length ρ m tm a.tmps) (o:Oper):
 ar S L (sU P cal gl bl tm o) n ρ (lu w0 m bl n ρ P o a):=by
 unfold sU;cases hq:P9 P bl tm o with
 |none=>
  simp only;cases n4:JE P bl tm o with
  |some q=>exact apv hb hex ht o n4
  |none=>
  simp only;cases hd:Hr cal bl tm o with
  |none=>exact aoT cw hb hg hex ht o
  |some q=>
   simp only;unfold Hr at hd;split at hd
   ·rename_i c ho;split at hd
    ·rename_i x hc;split at hd
     ·rename_i f Hy Hz hv;cases hz:(aH Hy.size 0&&aH Hz.size 0)with
      |false=>rw[hz]at hd;cases hd
      |true=>
       rw[hz]at hd;simp only[cond_true,Option.map_eq_some_iff]at hd;obtain⟨g,NK,rfl⟩:=hd;simp only[aO,Nat.beq_eq]at hz;have e0:Hy=#[]:=u3 hz.1;have e1:Hz=#[]:=u3 hz.2;subst e0 e1;have hx:=cq ht (.tmp x);rw[hv]at hx;have dr:a.eval (.tmp x)= .func (.func f) #[] #[]:=hx.2;have ni:∀v∈c.args.toList.map (bZ tm),V.ok n bl.length ρ v:=λv hv=>by
        obtain⟨x,_,rfl⟩:=List.mem_map.1 hv;exact(cq ht x).1
       have he:execOp a.eval o=callFunc f (c.args.map a.eval):=by
        simp only[execOp,ho,resolve,hc,dr,aaF];simp[invoke,bind_pure_comp]
       refine(cw f g NK L n ρ m bl _ _ hb hex ni (GC (xs:=c.args.toList) ht)).mono λaD n1 v _ _ ⟨q1,val,q2,q3⟩=>⟨q1,val,q2,λw hw=>?_⟩;have ha:(c.args.toList.map a.eval).toArray=c.args.map a.eval:=by
        rw[<-u1]
       have db:=q3 w hw;rw[ha]at db;rcases db with db|⟨db,iQ⟩
       ·exact .inl (by rw[he];exact db)
       ·exact .inr ⟨f,_,by rw[he];exact db,iQ⟩
     ·cases hd
    ·cases hd
   ·cases hd
 |some q=>
  simp only;unfold P9 at hq;split at hq
  case h_1 t x h=>
   have hx:=cq ht x;split at hq
   ·rename_i b aM off i j hv;cases hq;rw[hv]at hx;have dr:a.eval x=(A.ep b aM off i j).den ρ m:=hx.2;have he:execOp a.eval o=(do pure (kO (<-oA t ((A.ep b aM off i j).den ρ m)))):=by simp only[execOp,h,dr]
    exact(adM hb hex t hx.1).mono λ_ _ _ _ _ hq=>lu.of_run he hq
   ·rename_i b off bh hv;split at hq
    ·rename_i hu;cases hq;rw[hv]at hx;have dr:a.eval x=(A.og b off bh).den ρ m:=hx.2;have he:execOp a.eval o=(do pure (kO (<-oA t ((A.og b off bh).den ρ m)))):=by simp only[execOp,h,dr]
     exact(apQ hb hu b off hx.1.2.1).mono λ_ _ _ _ _ hq=>lu.of_run he hq
    ·cases hq
   ·cases hq
  case h_2 x h=>
   have hx:=cq ht x;split at hq
   ·rename_i b aM off i j hv;cases hq;rw[hv]at hx;refine ar.pure ⟨hx.1,_,rfl,λw _=> .inl ?_⟩;have dr:=hx.2;simp only[V.rel,W.den,A.den]at dr;simp[execOp,h,dr,W.den,A.den]
   ·cases hq
  case h_3 t x bh h=>
   have hx:=cq ht x;have hi:=cq ht bh;split at hq
   ·rename_i b aM off ro len cap k i hv uh;cases hq;rw[hv]at hx;rw[uh]at hi;have dr:a.eval x=(A.sl b aM off ro len cap).den ρ m:=hx.2;have ag0:a.eval bh= .int k (i.l.den ρ):=hi.2;have he:execOp a.eval o=(do pure (kO (<-te t ((A.sl b aM off ro len cap).den ρ m) (.int k (i.l.den ρ))))):=by simp only[execOp,h,dr,ag0]
    have ag1:bI.ok n ρ i:=hi.1;exact(ap3 hx.1 ag1.1).mono λ_ _ _ _ _ hq=>lu.of_run he hq
   ·cases hq
  case h_4 t x h=>
   have hx:=cq ht x;split at hq
   ·rename_i b aM off ro len cap k e hv ha;cases hq;rw[hv]at hx;refine eg λhc=>gC λhk=>?_;have hc:0<k:=eh hc;simp only[cp,er,aa.aR,af]at hk;have aX:A.ok n bl.length ρ (.sl b aM off ro len cap):=hx.1;obtain⟨h1,⟨h2,h3,h4,h5⟩,h6⟩:=aX;have cK:¬cap.den ρ<0:=λIg=>by have:=h6.2.2.1 Ig;omega
    refine ar.pure ⟨⟨h1,⟨h2,h3⟩,h6.1.1,h6.1.2.1⟩,_,rfl,λw _=> .inl ?_⟩;have dr:a.eval x=(A.sl b aM off ro len cap).den ρ m:=hx.2;have hle:¬(len.den ρ).toNat<k:=by omega
    simp only[execOp,h];rw[dr];simp only[A.den,if_neg cK];simp[Instr.arrayAt,fe (zw ha),hle,W.den,A.den]
   ·cases hq
  case h_5 s x f h=>
   have hx:=cq ht x;split at hq
   ·rename_i b aM off i j fd hv hf;rw[hv]at hx;obtain⟨dE,hu,DY⟩:=Mu hf;split at hq
    ·rename_i k hs;cases hq;refine ar.pure ⟨hx.1,_,rfl,λw _=> .inl ?_⟩;have dr:=hx.2;simp only[V.rel,W.den,A.den]at dr;simp[execOp,h,dr,Cp,fe hu,DY,lV,fieldPlace,iB hs,jr,W.den,A.den,Cw]
    ·cases hq
   ·cases hq
  case h_6 t x lo hi h=>
   have hx:=cq ht x;split at hq
   ·rename_i b aM off ro len cap hv;rw[hv]at hx;have dr:a.eval x=(A.sl b aM off ro len cap).den ρ m:=hx.2;have he:execOp a.eval o=(do pure (kO (<-nK t ((A.sl b aM off ro len cap).den ρ m) (lo.map a.eval) (hi.map a.eval) none))):=by simp only[execOp,h,dr];rfl
    split at hq
    ·rename_i p q' hp hq';cases hq;exact(ap7 hx.1 ht hp hq').mono λ_ _ _ _ _ hq=>lu.of_run he hq
    ·cases hq
   ·cases hq
  case h_7 s d x h=>
   have hx:=cq ht x;split at hq
   ·rename_i b aM off ro len cap e hv hs hd;split at hq
    ·rename_i agG;cases hq;rw[hv]at hx;have dr:a.eval x=(A.sl b aM off ro len cap).den ρ m:=hx.2;have he:execOp a.eval o=(do pure (kO (<-convert s d ((A.sl b aM off ro len cap).den ρ m)))):=by simp only[execOp,h,dr]
     exact(ap4 hb hex (hL hs) agG hd hx.1).mono λ_ _ _ _ _ hq=>lu.of_run he hq
    ·cases hq
   ·cases hq
  case h_8 c h=>
   split at hq
   ·rename_i hc;split at hq
    ·rename_i x t gE pt;have hx:=cq ht x;split at hq
     ·rename_i b aM off ro len cap e hv hs;cases hq;rw[hv]at hx;have dr:a.eval x=(A.sl b aM off ro len cap).den ρ m:=hx.2;have py:(A.sl b aM off ro len cap).ok n bl.length ρ:=hx.1;obtain⟨ptr,e1,_,_⟩:=oi (m:=m) py;rw[e1]at dr;obtain⟨x1,⟨x2,x3,eP,iE⟩,⟨iS,ot,lk,nH⟩,_⟩:=py;have a1:c.args=#[x]:=by rw[<-lU (xs:=c.args),gE]
      have a2:c.argTypes=#[t]:=by rw[<-lU (xs:=c.argTypes),pt]
      refine ar.pure ⟨⟨eP,lk,nH⟩,_,rfl,λw _=> .inl ?_⟩;have fo:((len.den ρ).toNat:Int)=len.den ρ:=by omega
      simp[-auU,execOp,h,resolve,hc,a1,a2,dr,invoke,builtin,Gi,fe (hL hs),goInt,W.den,A.den,fo]
     ·cases hq
    ·cases hq
   ·rename_i hc;split at hq
    ·rename_i x y gE;have hx:=cq ht x;have hy:=cq ht y;split at hq
     ·rename_i k p a6 q' pw lJ;by_cases ja:k=a6
      ·subst ja;simp only[decide_true,cond_true]at hq;cases hq;rw[pw]at hx;rw[lJ]at hy;have e1:a.eval x= .int k (p.l.den ρ):=hx.2;have e2:a.eval y= .int k (q'.l.den ρ):=hy.2;have a1:c.args=#[x,y]:=by rw[<-lU (xs:=c.args),gE]
       have he:execOp a.eval o=(do pure (kO (<-Rx c.argTypes o.type #[.int k (p.l.den ρ),.int k (q'.l.den ρ)]))):=by
        simp[execOp,h,resolve,hc,a1,e1,e2,invoke,builtin]
       exact(alb hx.1 hy.1).mono λ_ _ _ _ _ hq=>lu.of_run he hq
      ·simp[ja]at hq
     ·cases hq
    ·cases hq
   ·cases hq
  case h_9 op t x y q0 h=>
   have hx:=cq ht x;have hy:=cq ht y;split at hq
   ·rename_i e b aM cj ro len cap hs pw lJ;rw[pw]at hx;rw[lJ]at hy;have dr:a.eval x=(A.sl b aM cj ro len cap).den ρ m:=hx.2;have rl:a.eval y= .slice none 0 0:=hy.2;have py:(A.sl b aM cj ro len cap).ok n bl.length ρ:=hx.1;obtain⟨ptr,e1,e2,e3⟩:=oi (m:=m) py;rw[e1]at dr;obtain⟨x1,⟨x2,x3,eP,iE⟩,_,_,fB,_⟩:=py;have has:af 53 ([cap,len].map (·.den ρ)):=fB;have hp:ptr.isNone=decide (cap.den ρ=-1):=by
     rcases hQ (cap.den ρ) 0 with h0|h0
     ·rw[e2 h0,aag]
     ·rw[e3 h0,decide_eq_false (by omega)];rfl
    split at hq
    ·cases hq;refine(GY has).bind λaD n1 _ _ _ ⟨mO,hn⟩=>?_;have mO:=mO.symm;have hn:=hn.symm;subst mO hn;refine ar.pure ⟨⟨iE,aa.cC _ _⟩,_,rfl,λw _=> .inl ?_⟩;have hg0:eqGuard .eql t x y (.slice ptr (len.den ρ).toNat (if cap.den ρ<0 then 0 else(cap.den ρ).toNat)) (.slice none 0 0)=Cq ():=rfl;have he:execOp a.eval o=(do pure (kO (<-binOp .eql t (.slice ptr (len.den ρ).toNat (if cap.den ρ<0 then 0 else(cap.den ρ).toNat)) (.slice none 0 0)))):=by
      simp only[execOp,h,dr,rl,hg0,pure_bind]
     simp only[he,gm,apD w (hL hs),gy,hS,hp];simp[W.den,A.den,bg.den,aa.aR]
    ·cases hq;refine(GY has).bind λaD n1 _ _ _ ⟨mO,hn⟩=>?_;have mO:=mO.symm;have hn:=hn.symm;subst mO hn;refine ar.pure ⟨bg.uG ⟨iE,aa.cC _ _⟩,_,rfl,λw _=> .inl ?_⟩;have hg0:eqGuard .neq t x y (.slice ptr (len.den ρ).toNat (if cap.den ρ<0 then 0 else(cap.den ρ).toNat)) (.slice none 0 0)=Cq ():=rfl;have he:execOp a.eval o=(do pure (kO (<-binOp .neq t (.slice ptr (len.den ρ).toNat (if cap.den ρ<0 then 0 else(cap.den ρ).toNat)) (.slice none 0 0)))):=by
      simp only[execOp,h,dr,rl,hg0,pure_bind]
     simp only[he,gm,apG w (hL hs),gy,hS,hp];simp[W.den,A.den,bg.den,bg.tM,aa.aR]
    ·cases hq
   ·cases hq
  case h_10=>cases hq
end
end Go.ba
namespace Go.ba
def TR (ops:Array Oper) (n:Nat):Bool:=
 (c8 n).all λi=>match ops[i]? with
   |none=>false
   |some dU=>(dU.after.all λe=> !qy .any e||bY e.on i)&&(match dU.op with| .select .. =>false|_=>true)&&
    (c8 n).all λj=>aH i j||match ops[j]? with
      |none=>false
      |some cF=>match cF.dst with
       |none=>true
       |some d=>(!(dU.looksAt ops).contains d||u2 .any ops i j||u2 .any ops j i)&& !(match dU.dst with|some d'=>aH d' d|none=>false)
def NC (size n:Nat):Array Bool:=((c8 size).map λi=>bY i n).toArray
def zU (o:Oper):Bool:=match o.op with| .move _| .assign _| .extract _ _=>true|_=>false
def qQ (ops:Array Oper) (i:Nat):Bool:=match ops[i]? with|some o=>zU o|none=>false
def eY (o:Oper):Bool:=match o.op,o.guard,o.dst with| .alloc _,none,some _=>true|_,_,_=>false
def o9 (ops:Array Oper) (i:Nat):Bool:=match ops[i]? with|some o=>eY o|none=>false
def XI (ops:Array Oper) (n:Nat):Bool:=
 (c8 n).all λi=> !o9 ops i||match ops[i]? with
   |some dU=>match dU.dst with
    |some d=>(c8 n).all λj=>match ops[j]? with|some cF=> !(cF.looksAt ops).contains d|none=>true
    |none=>false
   |none=>false
def Zb (ops:Array Oper) (n:Nat):Bool:=
 (c8 n).all λi=>qQ ops i||(c8 (n+1)).any λj=>bY i j&&u2 .any ops j i&&(aH j n|| !qQ ops j)
def ad7 (ops:Array Oper) (n:Nat):Bool:=
 (c8 n).all λi=> !qQ ops i||(c8 ops.size).all λj=>bY j n||u2 .any ops j i||(match ops[i]?,ops[j]? with|some dU,some cF=>dU.apart ops cF|_,_=>false)
def B6 (ops:Array Oper) (n:Nat):Bool:=
 y8 ops&&ad7 ops n&&XI ops n&&TR ops n&&bu n ops.size&&(aH n ops.size||(Zb ops n&&auK .any ops n))&&auL .any ops (ops.size-n) n (NC ops.size n)
def calm (Q:Exit->Act->ai->Prop):Exit->Act->ai->Prop
 | .panic _,_,_=>False
 |e,a,w=>Q e a w
theorem tE {a b:Nat} (h:bY a b=true):a<b:=eh h
theorem ak0 {a b:Nat} (h:a<b):bY a b=true:=Nat.ble_eq_true_of_le h
section
variable {P:bj} {ops:Array Oper} {C:ai->Prop}
def r4 (P:bj) (ops:Array Oper) (C:ai->Prop) (o:Oper) (v:az) (a:Act):Prop:=
 (tk o (yielded ops a.tmps)=true/\∀w,C w->zq P o a w v)∨(tk o (yielded ops a.tmps)=false/\v=undef)
def wR (P:bj) (ops:Array Oper) (C:ai->Prop) (F:Act->Prop):List Oper->Act->Prop
 |[],a=>F a
 |o::r,a=>cond (eY o) (wR P ops C F r a) (∃v,r4 P ops C o v a/\wR P ops C F r (a.put o.dst v))
theorem PM {Q:Act->Prop}:∀(l:List Oper) (a:Act),wR P ops C Q l a->∃(as:Nat->Act) (vs:Nat->az),as 0=a/\(∀i o,l[i]?=some o->(eY o=false->r4 P ops C o (vs i) (as i)/\as (i+1)=(as i).put o.dst (vs i))/\(eY o=true->as (i+1)=as i))/\Q (as l.length)
 |[],a,h=>⟨λ_=>a,λ_=>undef,rfl,λi o hi=>by simp at hi,h⟩
 |o::r,a,h=>by
  unfold wR at h;cases cG:eY o with
  |true=>
   simp only[cG,cond_true]at h;obtain⟨as,vs,e0,hs,kW⟩:=PM r _ h;refine⟨λi=>match i with|0=>a|i+1=>as i,λi=>match i with|0=>undef|i+1=>vs i,rfl,λi cj hi=>?_,kW⟩;cases i with
   |zero=>
    simp at hi;subst hi;exact⟨λh1=>by(rw[cG]at h1;cases h1),λ_=>e0⟩
   |succ i=>
    simp at hi;exact hs i cj hi
  |false=>
   simp only[cG,cond_false]at h;obtain⟨v,hy,h2⟩:=h;obtain⟨as,vs,e0,hs,kW⟩:=PM r _ h2;refine⟨λi=>match i with|0=>a|i+1=>as i,λi=>match i with|0=>v|i+1=>vs i,rfl,λi cj hi=>?_,kW⟩;cases i with
   |zero=>
    simp at hi;subst hi;exact⟨λ_=>⟨hy,e0⟩,λh1=>by(rw[cG]at h1;cases h1)⟩
   |succ i=>
    simp at hi;exact hs i cj hi
theorem ZP {Q:Exit->Act->ai->Prop} {md:aaH}:∀(f:Nat) (listed:Array Bool) (a:Act) (w:ai),wpAny P md ops Q f listed a w->wpAny P md ops Q (f+1) listed a w
 |0,_,_,_,h=>⟨λ_=>h.2,λi hi=>by rw[h.1]at hi;cases hi⟩
 |f+1,_,_,_,h=>⟨h.1,λi hi=>wpOp_mono (λa' w' h'=>ZP f _ a' w' h') (h.2 i hi)⟩
theorem ZO {Q:Exit->Act->ai->Prop} {md:aaH} {listed:Array Bool} {a:Act} {w:ai} {f ng:Nat} (h:wpAny P md ops Q f listed a w) (hle:f<=ng):wpAny P md ops Q ng listed a w:=by
 induction hle with
 |refl=>exact h
 |step _ ih=>exact ZP _ _ _ _ ih
theorem TD {α:Type} {p q:α->Bool}:∀{l:List α},(∀x∈l,q x=true->p x=true)->(∃x∈l,p x=true/\q x=false)->l.countP q<l.countP p
 |[],_,⟨x,hx,_⟩=>by simp at hx
 |y::r,h1,⟨x,hx,h2,h3⟩=>by
  have hle:r.countP q<=r.countP p:=List.countP_mono_left λz hz=>h1 z (cD _ hz);rw[auM,auM];rcases List.mem_cons.1 hx with rfl|hx
  ·simp[h2,h3];omega
  ·have ih:=TD (l:=r) (λz hz=>h1 z (cD _ hz)) ⟨x,hx,h2,h3⟩;have:=h1 y (by simp);cases hq:q y<;>cases hp:p y<;>simp[hq,hp]at this⊢<;>omega
theorem r8 {n i:Nat} {dU:Oper} (h:TR ops n=true) (hi:i<n) (ho:ops[i]?=some dU):
 (∀e∈dU.after,qy .any e=true->e.on<i)/\(∀cs b,dU.op≠ .select cs b)/\
 ∀j cF d,j<n->j≠i->ops[j]?=some cF->cF.dst=some d->dU.dst≠some d/\(d∈dU.looksAt ops->u2 .any ops i j=true∨u2 .any ops j i=true):=by
 have h1:=List.all_eq_true.1 h i (List.mem_range.2 hi);simp only[ho,aO]at h1;obtain⟨⟨h1,h2⟩,h3⟩:=h1;refine⟨λe he hb=>?_,λcs b hc=>by simp[hc]at h2,λj cF d hj hne kG hd=>?_⟩
 ·have:=Array.all_eq_true_iff_forall_mem.1 h1 e he;simp only[hb,F8,ta]at this;exact tE this
 ·have h4:=List.all_eq_true.1 h3 j (List.mem_range.2 hj);have h5:aH i j=false:=by cases hb:aH i j with|false=>rfl|true=>exact absurd (bx hb).symm hne
  simp only[h5,ta,kG,hd,aO]at h4;refine⟨λagE=>?_,λkE=>?_⟩
  ·have:=h4.2;simp[agE]at this
  ·have:=h4.1;have hc:(dU.looksAt ops).contains d=true:=by simpa using kE
   simp only[hc,F8,ta,ow]at this;exact this
theorem abM {a b:Act} (h1:a.defers=b.defers) (h2:∀t:Nat,a.tmps[t]?=b.tmps[t]?):a=b:=by
 cases a;cases b;simp only at h1 h2;rw[h1,auN h2]
theorem sR {a:Act} {o:Option Tmp} {v:az} {t:Nat} (h:o≠some t):(a.put o v).tmps[t]?=a.tmps[t]?:=by
 cases o with
 |none=>rfl
 |some d=>simp only[Ct];rw[auH (λe=>h (by rw[e]))]
theorem put_defers (a:Act) (o:Option Tmp) (v:az):(a.put o v).defers=a.defers:=by cases o<;>rfl
theorem yF (a:Act) (o:Option Tmp) (v:az):(a.put o v).tmps.size=a.tmps.size:=by cases o<;>simp[Ct]
theorem ad5 {o:Oper} {a:Act} {v:az} {w:ai} (hf:zU o=true) (hC:C w) (h:r4 P ops C o v a):Yields P ops o v a:=by
 rcases h with⟨h1,h2⟩|h
 ·refine .inl ⟨h1,λw'=>?_⟩;have h3:=h2 w hC;unfold zq at h3;unfold zU at hf;split at hf
  ·rename_i x ho;simp only[execOp,ho,hS]at h3⊢;rcases h3 with h3|⟨f,args,h3,_⟩
   ·simp only[aau,auO,and_true]at h3;rw[h3]
   ·simp at h3
  ·rename_i x ho;simp only[execOp,ho,hS]at h3⊢;rcases h3 with h3|⟨f,args,h3,_⟩
   ·simp only[aau,auO,and_true]at h3;rw[h3]
   ·simp at h3
  ·rename_i x i ho;simp only[execOp,ho,gm]at h3⊢;unfold Rn at h3⊢;cases hx:a.eval x<;>simp only[hx]at h3⊢<;>try(simp[auP]at h3;done)
   rename_i vs;cases hv:vs[i]? with
   |none=>simp[hv,auP]at h3
   |some u=>simp[hv]at h3;simp[h3]
  ·cases hf
 ·exact .inr h
theorem ap1 {n:Nat} {listed:Array Bool} (hs:Zb ops n=true) (hc:auK .any ops n=true) (hn:n<ops.size) (inv:HeadInv .any ops n listed):
 ∀(d i:Nat),n-i=d->i<n->qQ ops i=false->listed.getD i false=false->∀t,n<=t->t∉kP .any ops listed:=by
 intro d;induction d using Nat.strongRecOn with
 |_ d ih=>
  intro i hd hi hV lI t ht hr;obtain⟨_,XV,N7,hall⟩:=mem_ready.1 hr;have ahZ:t<ops.size:=(Array.getElem?_eq_some_iff.1 N7).1;by_cases ah0:t=n
  ·subst ah0;have h1:=List.all_eq_true.1 hs i (List.mem_range.2 hi);simp only[hV,ta]at h1;obtain⟨j,hj,nW⟩:=List.any_eq_true.1 h1;simp only[aO,ow]at nW;obtain⟨⟨VB,xM⟩,NR⟩:=nW;have VB:=tE VB;obtain⟨cF,kG,e,he,hb,AB⟩:=zc xM;have awD:j<=t:=by have:=List.mem_range.1 hj;omega
   by_cases VD:j=t
   ·subst VD;have:cF=XV:=gH (kG.symm.trans N7);subst this;have h2:=hall e he hb;rw[AB,lI]at h2;cases h2
   ·cases hl:listed.getD j false with
    |true=>
     have h2:=inv.closed j cF kG hl e he hb;rw[AB,lI]at h2;cases h2
    |false=>
     have agO:qQ ops j=false:=by
      rcases NR with h3|h3
      ·exact absurd (bx h3) VD
      ·simpa using h3
     exact ih (t-j) (by omega) j rfl (by omega) agO hl t (aV _) hr
  ·have h1:=List.all_eq_true.1 hc t (List.mem_range.2 ahZ);simp only[ow,decide_eq_true_eq]at h1;rcases h1 with h1|h1
   ·omega
   ·obtain⟨cj,gh,e,he,hb,AB⟩:=zc h1;have:cj=XV:=gH (gh.symm.trans N7);subst this;have h2:=hall e he hb;rw[AB,ze (inv.tail (t-1) (by omega) (by omega))]at h2;cases h2
theorem ad4 {o:Oper} (h:zU o=true):eY o=false:=by
 unfold zU at h;unfold eY;cases ho:o.op<;>simp only[ho]at h⊢<;>cases h
theorem alu {n i j:Nat} {dU cF:Oper} {d:Tmp} (h:XI ops n=true) (hi:i<n) (ho:ops[i]?=some dU) (cG:eY dU=true) (hd:dU.dst=some d) (hj:j<n) (kG:ops[j]?=some cF):d∉cF.looksAt ops:=by
 have h1:=List.all_eq_true.1 h i (List.mem_range.2 hi);have ha:o9 ops i=true:=by simp[o9,ho,cG]
 simp only[ha,F8,ta,ho,hd]at h1;have h2:=List.all_eq_true.1 h1 j (List.mem_range.2 hj);simp only[kG,fX]at h2;intro hm;have:(cF.looksAt ops).contains d=true:=by simpa using hm
 rw[this]at h2;cases h2
theorem atX {Q:Exit->Act->ai->Prop} {o:Oper} {i:Nat} {v:az} {a:Act} {w:ai} {K:Act->ai->Prop} (hi:ops[i]?=some o) (hC:C w) (hy:r4 P ops C o v a) (h:∀w',w.Extends w'->K (a.put o.dst v) w'):wpOp P ops Q i K a w:=by
 unfold wpOp;simp only[hi];rcases hy with⟨h1,h2⟩|⟨h1,h2⟩
 ·rw[if_pos h1];refine .inl ?_;unfold m6;rcases h2 w hC with h3|⟨f,args,h3,h4⟩
  ·rw[h3];exact h w (m4 w)
  ·rw[h3];refine h4.mono λe lj ⟨he,hx⟩=>?_;subst he;exact h lj hx
 ·rw[if_neg (by simp[h1]),<-h2];exact h w (m4 w)
theorem r4.of_same {o:Oper} {v:az} {a a':Act} (hy:r4 P ops C o v a) (he:execOp a'.eval o=execOp a.eval o) (hw:tk o (yielded ops a'.tmps)=tk o (yielded ops a.tmps)):r4 P ops C o v a':=by
 unfold r4 zq at*;rw[he,hw];exact hy
structure SH (ops:Array Oper) (n:Nat) (S:Nat->Prop) (a an b:Act) (eI:Nat->Nat):Prop where
 d:b.defers=a.defers
 aM:b.tmps.size=a.tmps.size
 q:∀t:Nat,(∃j o,j<n/\S j/\ops[j]?=some o/\eY o=false/\o.dst=some t)->b.tmps[t]?=an.tmps[t]?
 al:∀(t:Nat) j o,j<n->S j->ops[j]?=some o->eY o=true->o.dst=some t->t<b.tmps.size->b.tmps[t]?=some (.pointer (some ⟨eI j,0,none⟩))
 no:∀t:Nat,(∀j o,j<n->S j->ops[j]?=some o->o.dst≠some t)->b.tmps[t]?=a.tmps[t]?
structure Fin (ops:Array Oper) (n:Nat) (an b:Act) (eI:Nat->Nat):Prop where
 d:b.defers=an.defers
 aM:b.tmps.size=an.tmps.size
 al:∀(t:Nat) j o,j<n->ops[j]?=some o->eY o=true->o.dst=some t->t<b.tmps.size->b.tmps[t]?=some (.pointer (some ⟨eI j,0,none⟩))
 no:∀t:Nat,(∀j o,j<n->ops[j]?=some o->eY o=true->o.dst≠some t)->b.tmps[t]?=an.tmps[t]?
def vd (ops:Array Oper) (n:Nat) (S:Nat->Prop) (Z:Nat->Obj) (eI:Nat->Nat) (aM:Nat) (w:ai):Prop:=
 (∀j,j<n->S j->o9 ops j=true->aM<=eI j/\w.heap[eI j]?=some (Z j))/\∀i j,i<n->j<n->S i->S j->o9 ops i=true->o9 ops j=true->eI i=eI j->i=j
theorem vd.grow {n:Nat} {S:Nat->Prop} {Z:Nat->Obj} {eI:Nat->Nat} {aM:Nat} {w w':ai} (h:vd ops n S Z eI aM w) (he:w.Extends w'):vd ops n S Z eI aM w':=
 ⟨λj h1 h2 h3=>by
  obtain⟨h4,h5⟩:=h.1 j h1 h2 h3;exact⟨h4,by rw[he.block _ (Array.getElem?_eq_some_iff.1 h5).1];exact h5⟩,h.2⟩
theorem atY {Q:Exit->Act->ai->Prop} {a:Act} {w:ai} {l:List Oper} (n:Nat) (Z:Nat->Obj) (hm:P.follows .mixedOrders=true) (hB:B6 l.toArray n=true) (hC:∀w',w.drew.Extends w'->C w')
 (HT:∀j o,j<n->l.toArray[j]?=some o->eY o=true->∀(b:Act) w',(execOp b.eval o).run P w'= .ok (.value (.pointer (some ⟨w'.heap.size,0,none⟩))) (w'.alloc (Z j)))
 (h:wR P l.toArray C (λan=>∀eI b w',Fin l.toArray n an b eI->w.drew.Extends w'->vd l.toArray n (λ_=>True) Z eI w.drew.heap.size w'->wpList P l.toArray (calm Q) (l.drop n) b w') (l.take n) a):wpAny P .any l.toArray (calm Q) l.toArray.size (rN l.toArray.size false) a {w with drawn:=w.drawn+1}:=by
 simp only[B6,aO]at hB;obtain⟨⟨⟨⟨⟨⟨ahr,xH⟩,iv⟩,sn⟩,hle⟩,V0⟩,ahS⟩:=hB;have hle:n<=l.length:=by simpa using eh hle
 obtain⟨as,vs,e0,hs,bH⟩:=PM _ _ h;have hlen:(l.take n).length=n:=by simp;omega
 rw[hlen]at bH;have hop:∀i,i<n->∃o,l.toArray[i]?=some o/\(eY o=false->r4 P l.toArray C o (vs i) (as i)/\as (i+1)=(as i).put o.dst (vs i))/\(eY o=true->as (i+1)=as i):=λi hi=>by
  have hlt:i<l.length:=by omega
  have h1:(l.take n)[i]?=some l[i]:=by rw[o0,if_pos hi,hP hlt]
  have h2:=hs i _ h1;exact⟨l[i],by simp[hlt],h2⟩
 have DV:∀i,i<=n->(as i).defers=a.defers/\(as i).tmps.size=a.tmps.size:=by
  intro i;induction i with
  |zero=>intro _;rw[e0];exact⟨rfl,rfl⟩
  |succ i ih=>
   intro hi;obtain⟨o,ho,h1,h2⟩:=hop i (by omega);cases cG:eY o with
   |true=>rw[h2 cG];exact ih (by omega)
   |false=>rw[(h1 cG).2,put_defers,yF];exact ih (by omega)
 have UY:∀i,i<=n->∀t:Nat,(∀j o,j<i->l.toArray[j]?=some o->eY o=false->o.dst≠some t)->(as i).tmps[t]?=a.tmps[t]?:=by
  intro i;induction i with
  |zero=>intro _ t _;rw[e0]
  |succ i ih=>
   intro hi t hno;obtain⟨o,ho,h1,h2⟩:=hop i (by omega);have Wu:=ih (by omega) t λj o hj=>hno j o (by omega);cases cG:eY o with
   |true=>rw[h2 cG];exact Wu
   |false=>rw[(h1 cG).2,sR (hno i o (by omega) ho cG)];exact Wu
 have UX:∀(d i:Nat),i+d=n->∀t:Nat,(∃j o,j<i/\l.toArray[j]?=some o/\o.dst=some t)->(as n).tmps[t]?=(as i).tmps[t]?:=by
  intro d;induction d with
  |zero=>intro i hi t _;rw[show i=n by omega]
  |succ d ih=>
   intro i hi t hj;obtain⟨o,ho,h1,h2⟩:=hop i (by omega);rw[ih (i+1) (by omega) t (by obtain⟨j,o,h1,h2⟩:=hj;exact⟨j,o,by omega,h2⟩)];cases cG:eY o with
   |true=>rw[h2 cG]
   |false=>
    rw[(h1 cG).2];obtain⟨j,cF,xM,nW,NR⟩:=hj;exact sR ((r8 sn (show i<n by omega) ho).2.2 j cF t (by omega) (by omega) nW NR).1
 have hsz:l.toArray.size=l.length:=by simp
 have main:∀(f:Nat) (listed:Array Bool) (b:Act) (w1:ai) (eI:Nat->Nat),HeadInv .any l.toArray n listed->w.drew.Extends w1->
  SH l.toArray n (λj=>listed.getD j false=true) a (as n) b eI->vd l.toArray n (λj=>listed.getD j false=true) Z eI w.drew.heap.size w1->
  (c8 n).countP (λi=> !listed.getD i false)+(l.length-n)<=f->wpAny P .any l.toArray (calm Q) f listed b w1:=by
  intro f;have done:∀(listed:Array Bool) (b:Act) (w1:ai) (eI:Nat->Nat),HeadInv .any l.toArray n listed->w.drew.Extends w1->
   SH l.toArray n (λj=>listed.getD j false=true) a (as n) b eI->vd l.toArray n (λj=>listed.getD j false=true) Z eI w.drew.heap.size w1->(∀i,i<n->listed.getD i false=true)->
   wpAny P .any l.toArray (calm Q) (l.drop n).length listed b w1:=by
   intro listed b w1 eI inv pe ka qU hall;have hl:listed=NC l.toArray.size n:=by
    apply auN;intro i;unfold NC;simp only[Kp,ox];rcases mx i l.length with hi|hi
    ·rw[List.getElem?_range (by simpa using hi)];have cN:i<listed.size:=by rw[inv.size];simpa using hi
     rcases mx i n with cE|cE
     ·have:=hall i cE;simp[cN]at this;simp[cN,this,ak0 cE]
     ·have:=inv.tail i cE (by simpa using hi);simp[cN]at this;have hb:bY i n=false:=by cases hq:bY i n with|false=>rfl|true=>have:=tE hq;omega
      simp[cN,this,hb]
    ·have h1:listed.size<=i:=by rw[inv.size];simpa using hi
     have h2:(c8 l.toArray.size)[i]?=none:=by simp;omega
     rw[h2,uV h1];rfl
   have Io:auL .any l.toArray (l.drop n).length n listed=true:=by rw[hl];simpa using ahS
   refine wpAny_of_seq (P:=P) (md:= .any) (Q':=calm Q) (l.drop n) n listed b w1 (λj=>by simp[wK]) Io (bH eI b w1 ?_ pe ?_)
   ·refine⟨ka.d.trans (DV n (aV _)).1.symm,ka.aM.trans (DV n (aV _)).2.symm,λt j o h1 h3 h4 h5=>ka.al t j o h1 (hall j h1) h3 h4 h5,λt hno=>?_⟩;by_cases hq:∃j o,j<n/\l.toArray[j]?=some o/\eY o=false/\o.dst=some t
    ·obtain⟨j,o,h1,h2,h3,h4⟩:=hq;exact ka.q t ⟨j,o,h1,hall j h1,h2,h3,h4⟩
    ·have hq':∀j o,j<n->l.toArray[j]?=some o->eY o=false->o.dst≠some t:=λj o h1 h2 h3 h4=>hq ⟨j,o,h1,h2,h3,h4⟩;rw[ka.no t λj o h1 _ h3=>(by
      cases cG:eY o with
      |true=>exact hno j o h1 h3 cG
      |false=>exact hq' j o h1 h3 cG),UY n (aV _) t hq']
   ·exact⟨λj h1 _ h3=>qU.1 j h1 (hall j h1) h3,λi j h1 h2 _ _ h5 h6=>qU.2 i j h1 h2 (hall i h1) (hall j h2) h5 h6⟩
  have SW:∀(listed:Array Bool),(c8 n).countP (λi=> !listed.getD i false)=0->∀i,i<n->listed.getD i false=true:=λlisted hc i hi=>by
   cases hq:listed.getD i false with
   |true=>rfl
   |false=>
    have:0<(c8 n).countP (λi=> !listed.getD i false):=List.countP_pos_iff.2 ⟨i,List.mem_range.2 hi,by simp[hq]⟩;omega
  induction f with
  |zero=>
   intro listed b w1 eI inv pe ka qU hf;have:=done listed b w1 eI inv pe ka qU (SW listed (by omega));exact ZO this (by simp;omega)
  |succ f ih=>
   intro listed b w1 eI inv pe ka qU hf;by_cases agy:(c8 n).countP (λi=> !listed.getD i false)=0
   ·exact ZO (done listed b w1 eI inv pe ka qU (SW listed agy)) (by simp;omega)
   ·
    have gP:∃i,i<n/\listed.getD i false=false:=by
     have h1:0<(c8 n).countP (λi=> !listed.getD i false):=by omega
     obtain⟨i,hi,hq⟩:=List.countP_pos_iff.1 h1;exact⟨i,List.mem_range.1 hi,by simpa using hq⟩
    have hne:kP .any l.toArray listed≠[]:=by
     have key:∀k,∀i,i<=k->i<n->listed.getD i false=false->kP .any l.toArray listed≠[]:=by
      intro k;induction k with
      |zero=>
       intro i NP cE hq p9;obtain⟨o,ho,_,_⟩:=hop i cE;have hlt:i<listed.size:=by rw[inv.size];exact(Array.getElem?_eq_some_iff.1 ho).1
       have:i∈kP .any l.toArray listed:=mem_ready.2 ⟨getD_in hlt hq,o,ho,λe he hb=>by have:=(r8 sn cE ho).1 e he hb;omega⟩;rw[p9]at this;cases this
      |succ k OE=>
       intro i NP cE hq p9;obtain⟨o,ho,_,_⟩:=hop i cE;have hlt:i<listed.size:=by rw[inv.size];exact(Array.getElem?_eq_some_iff.1 ho).1
       have:i∈kP .any l.toArray listed:=mem_ready.2 ⟨getD_in hlt hq,o,ho,λe he hb=>by
        have h1:=(r8 sn cE ho).1 e he hb;cases n4:listed.getD e.on false with
        |true=>rfl
        |false=>exact absurd p9 (OE e.on (by omega) (by omega) n4)⟩
       rw[p9]at this;cases this
     obtain⟨i,hi,hq⟩:=gP;exact key i i (aV _) hi hq
    have c9:∀i,i∈kP .any l.toArray listed->∀j,(listed.setIfInBounds i true).getD j false=true↔(j=i∨listed.getD j false=true):=λi hi j=>by
     obtain⟨lI,dU,xW,hall⟩:=mem_ready.1 hi;have hlt:i<listed.size:=by rw[inv.size];exact(Array.getElem?_eq_some_iff.1 xW).1
     by_cases hj:i=j
     ·subst hj;simp[hlt]
     ·rw[getD_set_ne false hj];exact⟨.inr,λh=>h.resolve_left (λe=>hj e.symm)⟩
    have VI:∀i,i∈kP .any l.toArray listed->i<n->(c8 n).countP (λj=> !(listed.setIfInBounds i true).getD j false)+(l.length-n)<=f:=λi hi cE=>by
     obtain⟨lI,_⟩:=mem_ready.1 hi;have:(c8 n).countP (λj=> !(listed.setIfInBounds i true).getD j false)<(c8 n).countP (λj=> !listed.getD j false):=by
      refine TD (λj _ hj=>?_) ⟨i,List.mem_range.2 cE,?_,?_⟩
      ·cases hq:listed.getD j false with
       |false=>rfl
       |true=>rw[(c9 i hi j).2 (.inr hq)]at hj;cases hj
      ·simp only[ze lI];rfl
      ·simp only[(c9 i hi i).2 (.inl rfl)];rfl
     omega
    have step:∀i,i∈kP .any l.toArray listed->i<n->∀o,l.toArray[i]?=some o->eY o=false->r4 P l.toArray C o (vs i) b/\∀w',w1.Extends w'->wpAny P .any l.toArray (calm Q) f (listed.setIfInBounds i true) (b.put o.dst (vs i)) w':=by
     intro i hi cE o ho cG;obtain⟨lI,dU,xW,hall⟩:=mem_ready.1 hi;have:o=dU:=gH (ho.symm.trans xW);subst this;obtain⟨cj,gh,Oy,_⟩:=hop i cE;have:cj=o:=gH (gh.symm.trans ho);subst this;obtain⟨hy,he⟩:=Oy cG;have vC:=r8 sn cE ho;have V2:∀t:Nat,t∈cj.looksAt l.toArray->b.tmps[t]?=(as i).tmps[t]?:=λt ht=>by
      by_cases hw:∃j cF,j<i/\l.toArray[j]?=some cF/\eY cF=false/\cF.dst=some t
      ·obtain⟨j,cF,h1,h2,xr,h3⟩:=hw;rw[<-UX (n-i) i (by omega) t ⟨j,cF,h1,h2,h3⟩];refine ka.q t ⟨j,cF,by omega,?_,h2,xr,h3⟩;rcases(vC.2.2 j cF t (by omega) (by omega) h2 h3).2 ht with h4|h4
       ·obtain⟨Pr,N3,e,qY,qZ,uc⟩:=zc h4;have:Pr=cj:=gH (N3.symm.trans ho);subst this;have:=hall e qY qZ
        rwa [uc]at this
       ·obtain⟨BA,Ei,e,qY,qZ,uc⟩:=zc h4;have:BA=cF:=gH (Ei.symm.trans h2);subst this;have:=(r8 sn (show j<n by omega) h2).1 e qY qZ;omega
      ·rw[UY i (by omega) t λj cF h1 h2 xr h3=>hw ⟨j,cF,h1,h2,xr,h3⟩];refine ka.no t λj cF h1 hl h2 h3=>?_;cases U6:eY cF with
       |true=>exact alu iv h1 h2 U6 h3 cE ho ht
       |false=>
        by_cases e5:j=i
        ·subst e5;rw[ze lI]at hl;cases hl
        ·rcases(vC.2.2 j cF t h1 e5 h2 h3).2 ht with h4|h4
         ·obtain⟨Pr,N3,e,qY,qZ,uc⟩:=zc h4;have:Pr=cj:=gH (N3.symm.trans ho);subst this;have:=vC.1 e qY qZ;exact hw ⟨j,cF,by omega,h2,U6,h3⟩
         ·obtain⟨BA,Ei,e,qY,qZ,uc⟩:=zc h4;have:BA=cF:=gH (Ei.symm.trans h2);subst this;have:=inv.closed j BA h2 hl e qY qZ;rw[uc,ze lI]at this;cases this
     have agJ:∀x∈cj.op.operands,b.eval x=(as i).eval x:=λx hx=>by
      cases x with
      |tmp t=>
       have:=V2 t (List.mem_append_left _ (List.mem_filterMap.2 ⟨.tmp t,by simpa using hx,rfl⟩));simp only[Act.eval];simp[this]
      |_=>rfl
     have hex:execOp b.eval cj=execOp (as i).eval cj:=execOp_congr cj vC.2.1 agJ;have AI:tk cj (yielded l.toArray b.tmps)=tk cj (yielded l.toArray (as i).tmps):=by
      unfold tk;cases hg:cj.guard with
      |none=>rfl
      |some MK=>
       obtain⟨g,want⟩:=MK;have:yielded l.toArray b.tmps g=yielded l.toArray (as i).tmps g:=by
        unfold yielded;cases ht:(l.toArray[g]?).bind (·.dst)with
        |none=>rfl
        |some t=>
         have:=V2 t (List.mem_append_right _ (by simp only[hg,ht];simp));simp[this]
       simp only[this]
     refine⟨hy.of_same hex AI,λw' ns=>?_⟩;refine ih _ _ _ eI (inv.set hi cE) (pe.trans ns) ⟨(put_defers _ _ _).trans ka.d,(yF _ _ _).trans ka.aM,?_,?_,?_⟩ (vd.grow (w:=w1) ⟨λj h1 h2 h3=>?_,λi1 da h1 h2 h3 h4 h5 h6=>?_⟩ ns) (VI i hi cE)
     ·rintro t ⟨j,cF,h1,h2,h3,Ae,h4⟩
      by_cases ht:cj.dst=some t
      ·have e1:(as n).tmps[t]?=(as (i+1)).tmps[t]?:=UX (n-(i+1)) (i+1) (by omega) t ⟨i,cj,by omega,ho,ht⟩;rw[e1,he,ht];simp only[Ct];have VW:b.tmps.size=(as i).tmps.size:=ka.aM.trans (DV i (by omega)).2.symm;rcases mx t b.tmps.size with h5|h5
       ·simp[h5,VW▸h5]
       ·rw[uV (by simpa using h5),uV (by rw[Array.size_setIfInBounds,<-VW];exact h5)]
      ·rw[sR ht];rcases(c9 i hi j).1 h2 with rfl|h5
       ·have:cF=cj:=gH (h3.symm.trans ho);subst this;exact absurd h4 ht
       ·exact ka.q t ⟨j,cF,h1,h5,h3,Ae,h4⟩
     ·intro t j cF h1 h2 h3 h4 h5 h6;rcases(c9 i hi j).1 h2 with rfl|h7
      ·have:cF=cj:=gH (h3.symm.trans ho);subst this;rw[cG]at h4;cases h4
      ·have e5:j≠i:=λe=>by subst e;rw[ze lI]at h7;cases h7
       have ht:cj.dst≠some t:=(vC.2.2 j cF t h1 e5 h3 h5).1;rw[sR ht];rw[yF]at h6;exact ka.al t j cF h1 h7 h3 h4 h5 h6
     ·intro t hno;have ht:cj.dst≠some t:=hno i cj cE ((c9 i hi i).2 (.inl rfl)) ho;rw[sR ht];exact ka.no t λj cF h1 h2 h3=>hno j cF h1 ((c9 i hi j).2 (.inr h2)) h3
     ·rcases(c9 i hi j).1 h2 with rfl|h7
      ·simp[o9,ho,cG]at h3
      ·exact qU.1 j h1 h7 h3
     ·have k1:listed.getD i1 false=true:=by
       rcases(c9 i hi i1).1 h3 with rfl|h7
       ·simp[o9,ho,cG]at h5
       ·exact h7
      have k2:listed.getD da false=true:=by
       rcases(c9 i hi da).1 h4 with rfl|h7
       ·simp[o9,ho,cG]at h6
       ·exact h7
      exact qU.2 i1 da h1 h2 k1 k2 h5 h6
    by_cases hV:∃i,i∈kP .any l.toArray listed/\i<n/\qQ l.toArray i=true
    ·obtain⟨i,hi,cE,pn⟩:=hV;obtain⟨o,ho,_,_⟩:=hop i cE;obtain⟨lI,dU,xW,hall⟩:=mem_ready.1 hi;have Vw:zU o=true:=by unfold qQ at pn;simpa [ho]using pn
     have cG:eY o=false:=ad4 Vw;obtain⟨yb,N1⟩:=step i hi cE o ho cG;refine wpAny_first ho (Region.noSelect_spec ahr) (λc a' w' hq=>hq.elim) f listed b w1 (λj cF kG e5 xO ag3=>?_) hi (ad5 Vw (hC w1 pe) yb) (N1 w1 (m4 w1));have Eg:u2 .any l.toArray j i=false:=by
      cases hq:u2 .any l.toArray j i with
      |false=>rfl
      |true=>
       obtain⟨BA,Ei,e,qY,qZ,uc⟩:=zc hq;have:BA=cF:=gH (Ei.symm.trans kG);subst this;exact absurd uc (ag3 e qY qZ)
     have VP:j<n->u2 .any l.toArray i j=false:=λvE=>by
      cases hq:u2 .any l.toArray i j with
      |false=>rfl
      |true=>
       obtain⟨cj,gh,e,qY,qZ,uc⟩:=zc hq;have:cj=dU:=gH (gh.symm.trans xW);subst this;have:=hall e qY qZ;rw[uc,ze xO]at this;cases this
     by_cases vE:j<n
     ·have d1:=(r8 sn cE ho).2.2 j cF;have d2:=(r8 sn vE kG).2.2 i o;simp only[Oper.apart,aO];constructor
      ·cases hd:o.dst with
       |none=>rfl
       |some d=>
        have:=d2 d cE (λe=>e5 e.symm) ho hd;simp only[aO,fX,bne_iff_ne,ne_eq];refine⟨?_,this.1⟩;cases hc:(cF.looksAt l.toArray).contains d with
        |false=>rfl
        |true=>
         rcases this.2 (by simpa using hc)with h1|h1
         ·rw[Eg]at h1;cases h1
         ·rw[VP vE]at h1;cases h1
      ·cases hd:cF.dst with
       |none=>rfl
       |some d=>
        have:=d1 d vE e5 kG hd;simp only[fX];cases hc:(o.looksAt l.toArray).contains d with
        |false=>rfl
        |true=>
         rcases this.2 (by simpa using hc)with h1|h1
         ·rw[VP vE]at h1;cases h1
         ·rw[Eg]at h1;cases h1
     ·have h1:=List.all_eq_true.1 xH i (List.mem_range.2 cE);simp only[pn,F8,ta]at h1;have h2:=List.all_eq_true.1 h1 j (List.mem_range.2 (Array.getElem?_eq_some_iff.1 kG).1);have hb:bY j n=false:=by cases hq:bY j n with|false=>rfl|true=>exact absurd (tE hq) vE
      simp only[hb,Eg,ta,ho,kG]at h2;exact h2
    ·
     have nY:∃i,i<n/\qQ l.toArray i=false/\listed.getD i false=false:=by
      have key:∀k,∀i,i<=k->i<n->listed.getD i false=false->∃i,i<n/\qQ l.toArray i=false/\listed.getD i false=false:=by
       intro k;induction k with
       |zero=>
        intro i NP cE hq;cases kc:qQ l.toArray i with
        |false=>exact⟨i,cE,kc,hq⟩
        |true=>
         obtain⟨o,ho,_,_⟩:=hop i cE;have hlt:i<listed.size:=by rw[inv.size];exact(Array.getElem?_eq_some_iff.1 ho).1
         exact absurd ⟨i,mem_ready.2 ⟨getD_in hlt hq,o,ho,λe he hb=>by have:=(r8 sn cE ho).1 e he hb;omega⟩,cE,kc⟩ hV
       |succ k OE=>
        intro i NP cE hq;cases kc:qQ l.toArray i with
        |false=>exact⟨i,cE,kc,hq⟩
        |true=>
         obtain⟨o,ho,_,_⟩:=hop i cE;have hlt:i<listed.size:=by rw[inv.size];exact(Array.getElem?_eq_some_iff.1 ho).1
         by_cases Vk:∀e∈o.after,qy .any e=true->listed.getD e.on false=true
         ·exact absurd ⟨i,mem_ready.2 ⟨getD_in hlt hq,o,ho,Vk⟩,cE,kc⟩ hV
         ·have hex:∃e,e∈o.after/\qy .any e=true/\¬listed.getD e.on false=true:=by
           apply aaI;intro hno;exact Vk λe he hb=>aaI λn4=>hno ⟨e,he,hb,n4⟩
          obtain⟨e,he,hb,n4⟩:=hex;have h1:=(r8 sn cE ho).1 e he hb;exact OE e.on (by omega) (by omega) (by simpa using n4)
      obtain⟨i,hi,hq⟩:=gP;exact key i i (aV _) hi hq
     refine⟨λh0=>absurd h0 hne,λi hi=>?_⟩;have cE:i<n:=by
      rcases mx i n with h1|h1
      ·exact h1
      ·exfalso;obtain⟨_,dU,xW,_⟩:=mem_ready.1 hi;have awB:i<l.toArray.size:=(Array.getElem?_eq_some_iff.1 xW).1;simp only[ow,aO]at V0;rcases V0 with h2|⟨h2,h3⟩
       ·have:=bx h2;omega
       ·obtain⟨i0,im,agK,re⟩:=nY;exact ap1 h2 h3 (by omega) inv (n-i0) i0 rfl im agK re i h1 hi
     obtain⟨o,ho,_,_⟩:=hop i cE;cases cG:eY o with
     |false=>
      obtain⟨yb,N1⟩:=step i hi cE o ho cG;exact atX ho (hC w1 pe) yb N1
     |true=>
      obtain⟨lI,_⟩:=mem_ready.1 hi;have hgd:o.guard=none/\∃d,o.dst=some d:=by
       unfold eY at cG;split at cG
       ·rename_i h1 h2 h3;exact⟨h2,_,h3⟩
       ·cases cG
      obtain⟨hgd,d,hd⟩:=hgd;have vC:=r8 sn cE ho;unfold wpOp;simp only[ho];rw[if_pos (by simp[tk,hgd])];refine .inl ?_;unfold m6;rw[HT i o cE ho cG b w1];show wpAny P .any l.toArray (calm Q) f (listed.setIfInBounds i true) (b.put o.dst _) _;have OC:∀j,j<n->listed.getD j false=true->o9 l.toArray j=true->eI j<w1.heap.size:=λj h1 h2 h3=>(Array.getElem?_eq_some_iff.1 (qU.1 j h1 h2 h3).2).1;refine ih _ _ _ (λj=>if j=i then w1.heap.size else eI j) (inv.set hi cE) (pe.alloc _) ⟨(put_defers _ _ _).trans ka.d,(yF _ _ _).trans ka.aM,?_,?_,?_⟩ ⟨λj h1 h2 h3=>?_,λi1 da h1 h2 h3 h4 h5 h6 h7=>?_⟩ (VI i hi cE)
      ·rintro t ⟨j,cF,h1,h2,h3,Ae,h4⟩
       rcases(c9 i hi j).1 h2 with rfl|h5
       ·have:cF=o:=gH (h3.symm.trans ho);subst this;rw[cG]at Ae;cases Ae
       ·have e5:j≠i:=λe=>by subst e;rw[ze lI]at h5;cases h5
        rw[sR (vC.2.2 j cF t h1 e5 h3 h4).1];exact ka.q t ⟨j,cF,h1,h5,h3,Ae,h4⟩
      ·intro t j cF h1 h2 h3 h4 h5 h6;rcases(c9 i hi j).1 h2 with rfl|h7
       ·have:cF=o:=gH (h3.symm.trans ho);subst this;rw[h5];simp only[if_true];rw[yF]at h6;simp[Ct,h6]
       ·have e5:j≠i:=λe=>by subst e;rw[ze lI]at h7;cases h7
        rw[sR (vC.2.2 j cF t h1 e5 h3 h5).1];rw[yF]at h6;rw[if_neg e5];exact ka.al t j cF h1 h7 h3 h4 h5 h6
      ·intro t hno;rw[sR (hno i o cE ((c9 i hi i).2 (.inl rfl)) ho)];exact ka.no t λj cF h1 h2 h3=>hno j cF h1 ((c9 i hi j).2 (.inr h2)) h3
      ·show w.drew.heap.size<=(if j=i then w1.heap.size else eI j)/\(w1.alloc (Z i)).heap[(if j=i then w1.heap.size else eI j)]?=some (Z j);by_cases e5:j=i
       ·subst e5;rw[if_pos rfl];exact⟨pe.size,heap_alloc_new w1 (Z j)⟩
       ·rw[if_neg e5];have h7:=((c9 i hi j).1 h2).resolve_left e5;obtain⟨h8,a8⟩:=qU.1 j h1 h7 h3;exact⟨h8,by rw[heap_alloc_old w1 _ (OC j h1 h7 h3)];exact a8⟩
      ·change (if i1=i then w1.heap.size else eI i1)=(if da=i then w1.heap.size else eI da)at h7;by_cases h8:i1=i<;>by_cases a8:da=i
       ·rw[h8,a8]
       ·rw[if_pos h8,if_neg a8]at h7;have:=OC da h2 (((c9 i hi da).1 h4).resolve_left a8) h6;omega
       ·rw[if_neg h8,if_pos a8]at h7;have:=OC i1 h1 (((c9 i hi i1).1 h3).resolve_left h8) h5;omega
       ·rw[if_neg h8,if_neg a8]at h7;exact qU.2 i1 da h1 h2 (((c9 i hi i1).1 h3).resolve_left h8) (((c9 i hi da).1 h4).resolve_left a8) h5 h6 h7
 have aiK:HeadInv .any l.toArray n (rN l.toArray.size false):=
  ⟨by simp,λj cF _ hl=>(by rw[getD_replicate_false]at hl;cases hl),λt _ ht=>getD_in (by simpa using ht) (getD_replicate_false _ _)⟩
 have I5:∀j,¬(rN l.toArray.size false).getD j false=true:=λj h=>by rw[getD_replicate_false]at h;cases h
 refine main l.toArray.size _ a _ (λ_=>0) aiK (m4 w.drew) ⟨rfl,rfl,λt ⟨j,o,_,h2,_⟩=>absurd h2 (I5 j),λt j o _ h2=>absurd h2 (I5 j),λ_ _=>rfl⟩ ⟨λj _ h2=>absurd h2 (I5 j),λi j _ _ h3=>absurd h3 (I5 i)⟩ ?_;have:(c8 n).countP (λi=> !(rN l.toArray.size false).getD i false)<=n:=by
  have:=List.countP_le_length (p:=λi=> !(rN l.toArray.size false).getD i false) (l:=c8 n);simpa using this
 omega
end
end Go.ba
namespace Go.ba
open M
inductive X where
 |normal
 |exit (id:Nat)
 |ret
def X.to:X->Exit
 |normal=> .normal
 |exit id=> .exit id
 |ret=> .ret
abbrev fu:=Nat->List V->List ao->T
abbrev m8:=X->fu
abbrev RK:=Nat->V->List ao->T
abbrev hU:=cz->Nat->List V->List ao->RK->T
structure cX where
 ev:List Nat
 ints:List (Nat×Int×Int)
 cells:List (Nat×Nat×Int×Int)
 oJ:List Nat:=[]
 nO:List (Nat×List ay×aQ):=[]
 YJ:List (Nat×List ay×Nat):=[]
 iA:List (Nat×List ay):=[]
def cO:List ao->Nat->ao->List ao
 |[],_,_=>[]
 |_::r,0,b=>b::r
 |x::r,i+1,b=>x::cO r i b
theorem iC:∀(l:List ao) (i:Nat) (b:ao),cO l i b=l.set i b
 |[],_,_=>rfl
 |_::_,0,_=>rfl
 |_::r,i+1,b=>by simp[cO,iC r i b]
def aoU (cal:dW) (dyn:Bool) (o:Oper):Bool:=
 match o.op with
 | .alloc _| .box _ _| .store _ _ _| .buildSlice _ _ _| .makeSlice _ _ _=>false
 | .call c=>match c.callee with
  | .value (.func f)=>(cal f).isSome
  | .value (.tmp _)=>dyn
  | .builtin .append=>false
  | .builtin .clear=>false
  | .builtin .copy=>false
  |_=>true
 |_=>true
def Fl (z:List A) (len:Nat):List A:=(c8 (len*z.length)).map λi=>(z[i% z.length]?).getD (.con undef)
def LV (P:bj) (t:aQ) (len:Nat) (parts:List (Nat×V)):Option (List A×aQ):=
 match hH P t with
 |some e=>match eG P e,lS P e with
  |some s,some z=>cond (aH z.length s&&bY 0 s&&bu (len*s) 16777216) (match sc (λi=>some (i*s,s)) (Fl z len) parts with|some cs=>some (cs,e)|none=>none) none
  |_,_=>none
 |none=>none
def oQ (bl:List ao) (b off k:Nat):Option (List A):=
 match bl[b]? with
 |some (cs,_)=>cond (bu (off+k) cs.length&&bO cs) (some ((cs.drop off).take k)) none
 |none=>none
def UH (i:TypeInfo) (e:aQ) (z:List A) (d:Option Tmp) (kJ uF len:Nat) (olds news:List A) (n:Nat) (tm:List V) (bl:List ao) (k:fu):T:=
 cond (bu (kJ+len) 1000000&&bu (Builtin.nextslicecap (kJ+len) uF*i.bytes) 281474976710656&&bY uF (kJ+len)&&bY 0 len&&aH z.length i.size&&bY 0 i.size&&bO (olds++news)&&bO (olds++news++z))
  (.both (k n (ew tm d (.w (.one (.slc bl.length 0 (kJ+len) (kJ+len))))) (bl++[(olds++news,(e,false))]))
    (k n (ew tm d (.oS bl.length (kJ+len) (kJ+len+1))) (bl++[(olds++news++z,(e,true))]))) .stuck
def aiN:V->Bool
 | .w (.one (.con (.slice none 0 0)))=>true
 |_=>false
def avV (P:bj) (d:Option Tmp) (t t':aQ) (s x:V) (n:Nat) (tm:List V) (bl:List ao) (k:fu):T:=
 match x,hH P t with
 | .w (.one (.slc b' dT vR _)),some e=>match P.info? e,lS P e with
  |some i,some z=>match oQ bl b' dT (vR*i.size)with
   |some news=>cond (!(aH t t')) .stuck <| cond (aiN s) (UH i e z d 0 0 vR [] news n tm bl k) <| match s with
    | .w (.one (.slc b off len cap))=>match oQ bl b off (len*i.size)with
     |some olds=>UH i e z d len cap vR olds news n tm bl k
     |none=> .stuck
    | .oS b len lo=>match bl[b]? with
     |some (cs,ty)=>cond (bu (len+vR) lo&&bu ((len+vR)*i.size) cs.length&&bY 0 (vR*i.size)&&bO cs&&bO (cs.take (len*i.size)++news++cs.drop (len*i.size+news.length))) (k n (ew tm d (.oS b (len+vR) lo)) (cO bl b (cs.take (len*i.size)++news++cs.drop (len*i.size+news.length),ty))) .stuck
     |none=> .stuck
    |_=> .stuck
   |none=> .stuck
  |_,_=> .stuck
 |_,_=> .stuck
def lg (sh:List ay):Bool:=bu sh.length 100&&bY 0 sh.length&&sh.all λc=>match c with
 | .int _ lo hi=>decide (-18446744073709551616<=lo)&&decide (hi<=18446744073709551616)
 |_=>true
def yh (e:bg):M aa:=λn k=> .ind n e (k (.var n) (n+1))
def Hh (c:ay) (a:A):M aa:=
 match c,a with
 | .int k lo hi,.int a6 x=>cond (decide (k=a6)&&decide (lo<=x.lo)&&decide (x.hi<=hi)) (pure x.l) fail
 | .str,.str l=>pure l
 | .bool,.bool e=>match e with
  | .lit v=>pure (.const (cond v 1 0))
  |e=>yh e
 | .nil,.con (.slice none 0 0)=>pure (.const 0)
 |_,_=>fail
def Fu:List ay->List A->M (List aa)
 |[],[]=>pure []
 |c::sh,a::r=>bind (Hh c a) λl=>bind (Fu sh r) λls=>pure (l::ls)
 |_,_=>fail
noncomputable def zv (sh:List ay):List (List A)->aa->M aa
 |[],c=>pure c
 |row::rs,c=>bind (Fu sh row) λls=>bind (eA 23 (c::ls) 0 cc) λc'=>zv sh rs c'
def EW (bl:List ao):A->List ao
 | .sl b _ _ _ _ _=>match bl[b]? with
  |some ([.rows sh off code cap 2],t)=>cO bl b ([.rows sh off code cap 1],t)
  |_=>bl
 |_=>bl
def vU (bl:List ao):List A->List ao
 |[]=>bl
 |a::r=>vU (EW bl a) r
def zH (cap cM:aa):M Unit:=cond (aa.beq cap cM) (pure ()) (fg 40 [cap,cM])
noncomputable def L3 (bl:List ao) (c:ay) (a:A):M aa:=
 match c with
 | .sub k=>match a with
  | .sl b aM o ro len cap=>match bl[b]? with
   |some ([.rows sh off code cM kind],_)=>cond (aH kind 1&&h9 sh (mo k)&&aa.beq o off&&aH aM sh.length) (bind (fg 22 [code,ro,ro.add len]) λ_=>bind (fg 79 [len,.const 140737488351232]) λ_=>bind (zH cap cM) λ_=>eA 22 [code,ro,ro.add len] 0 rY) fail
   |_=>fail
  | .con (.slice none 0 0)=>pure (.const 0)
  | .slc _ _ 0 0=>pure (.const 0)
  |_=>fail
 |c=>Hh c a
noncomputable def Fv (bl:List ao):List ay->List A->M (List aa)
 |[],[]=>pure []
 |c::sh,a::r=>bind (L3 bl c a) λl=>bind (Fv bl sh r) λls=>pure (l::ls)
 |_,_=>fail
noncomputable def GV (bl:List ao) (sh:List ay):List (List A)->aa->M aa
 |[],c=>pure c
 |row::rs,c=>bind (Fv bl sh row) λls=>bind (eA 23 (c::ls) 0 cc) λc'=>GV bl sh rs c'
def l5 (w:Nat):Nat->List A->List (List A)
 |0,_=>[]
 |k+1,l=>l.take w::l5 w k (l.drop w)
noncomputable def JR (P:bj) (mU:aQ) (sh:List ay) (bl:List ao) (x:V) (base:aa):M (aa×aa):=
 match x with
 | .w (.one (.slc b off len _))=>match oQ bl b off (len*sh.length),hH P mU with
  |some cs,some _=>bind (fg 23 [base,.const len]) λ_=>bind (GV bl sh (l5 sh.length len cs) base) λc=>pure (c,.const len)
  |_,_=>fail
 | .w (.one (.sl b aM o ro len _))=>match bl[b]?,hH P mU with
  |some ([.rows cH off code cM kind],_),some _=>cond (bY 0 kind&&h9 sh cH&&aa.beq o off&&aH aM sh.length) (bind (fg 22 [code,ro,ro.add len]) λ_=>bind (fg 23 [base,len]) λ_=>bind (eA 22 [code,ro,ro.add len] 0 cc) λs=>bind (eA 24 [base,s] 0 cc) λc=>pure (c,len)) fail
  |_,_=>fail
 |_=>fail
def apW (bl:List ao):V->Option (List ay)
 | .w (.one (.sl b _ _ _ _ _))=>match bl[b]? with
  |some ([.rows sh _ _ _ _],_)=>some sh
  |_=>none
 |_=>none
def apX (bl:List ao) (s x:V) (z:List A):Option (List ay):=apW bl x
def Q9:V->Bool
 | .w (.one (.sl _ _ _ _ len cap))=>match len.dt,cap.dt with|some l,some c=>decide (l=0)&&decide (c=0)|_,_=>false
 | .w (.one (.slc _ _ len cap))=>aH len 0&&aH cap 0
 | .w (.one (.con (.slice none 0 0)))=>true
 |_=>false
noncomputable def Ds (kd:Nat) (e:aQ) (d:Option Tmp) (sh:List ay) (code len:aa) (n:Nat) (tm:List V) (bl:List ao) (k:fu):T:=
 .s3 n (-2) 9223372036854775807 (k (n+1) (ew tm d (.w (.one (.sl bl.length sh.length (.const 0) (.const 0) len (.var n))))) (bl++[([.rows sh (.const 0) code (.var n) kd],(e,false))]))
noncomputable def Aa (e:aQ) (d:Option Tmp) (sh:List ay) (code len:aa) (n:Nat) (tm:List V) (bl:List ao) (k:fu):T:=
 .s3 n (-2) 9223372036854775807 (k (n+1) (ew tm d (.w (.one (.sl bl.length sh.length (.const 0) (.const 0) len (.var n))))) (bl++[([.rows sh (.const 0) code (.var n) 2],(e,false))]))
noncomputable def Ux (P:bj) (mU e:aQ) (d:Option Tmp) (sh:List ay) (s x:V) (n:Nat) (tm:List V) (bl:List ao) (k:fu):T:=
 JR P mU sh bl x (.const 0) n λp n'=>match p.2.dt with
  |some 0=>k n' (ew tm d s) bl
  |some _=>Aa e d sh p.1 p.2 n' tm bl k
  |none=> .tG (.le p.2 (.const 0)) (k n' (ew tm d s) bl) (Aa e d sh p.1 p.2 n' tm bl k)
def zZ (sh:List ay) (i:TypeInfo) (z:List A):Bool:=lg sh&&aH i.size sh.length&&aH z.length sh.length&&bu i.bytes 131072
noncomputable def LJ (P:bj) (d:Option Tmp) (t t':aQ) (s x:V) (n:Nat) (tm:List V) (bl:List ao) (k:fu):Option T:=
 match hH P t with
 |none=>none
 |some e=>match P.info? e,lS P e with
  |some i,some z=>match Q9 s with
   |true=>match apX bl s x z with
    |some sh=>cond (zZ sh i z) (some (Ux P t' e d sh s x n tm bl k)) none
    |none=>none
   |false=>match s with
    | .w (.one (.sl b _ o ro len cap))=>match bl[b]? with
     |some ([.rows sh off code cM kind],bS)=>cond (zZ sh i z&&aH kind 2&&aa.beq o (.const 0)&&aa.beq off (.const 0)&&aa.beq ro (.const 0)&&aa.beq cap cM&&aH bS.1 e)
      (some (.oK 31 [code,len] (JR P t' sh bl x code n λp n'=>Aa e d sh p.1 (len.add p.2) n' tm (cO bl b ([.rows sh off code cM 0],bS)) k))) none
     |_=>none
    |_=>none
  |_,_=>none
def IV (bl:List ao):V->List ao
 | .w (.one (.slc b _ _ _))=>match bl[b]? with
  |some (cs,_)=>vU bl cs
  |none=>bl
 |_=>bl
noncomputable def QB (P:bj) (o:Oper) (n:Nat) (tm:List V) (bl:List ao) (k:fu):Option T:=
 match o.op with
 | .call c=>match c.callee with
  | .builtin .append=>match c.args.toList,c.argTypes.toList with
   |[s,x],[t,t']=>LJ P o.dst t t' (bZ tm s) (bZ tm x) n tm (IV bl (bZ tm x)) k
   |_,_=>none
  |_=>none
 |_=>none
def js:List ay:=[.int .u8 0 255]
def IC (fn:Func):Bool:=fn.name== "internal/bytealg.MakeNoZero" &&fn.body.isNone&&fn.origin== ""
noncomputable def L8 (code i:aa):Nat->List ay->Nat->List ao->(Nat->List A->List ao->T)->T
 |_,[],n,bl,k=>k n [] bl
 |j,c::r,n,bl,k=>match c with
  | .sub q=>eA 21 [code,i,.const j] 0 rY n λz n=> .nat n (.s3 (n+1) (-2) 9223372036854775807 (eA 20 [z] 0 140737488351232 (n+2) λlen n'=>
   L8 code i (j+1) r n' (bl++[([.rows (mo q) (.var n) z (.var (n+1)) 1],(0,false))]) λn2 l gB=>k n2 (.sl bl.length (mo q).length (.var n) (.const 0) len (.var (n+1))::l) gB))
  |c=>CX c code i j n λa n=>L8 code i (j+1) r n bl λn2 l gB=>k n2 (a::l) gB
noncomputable def ayG (P:bj) (o:Oper) (n:Nat) (tm:List V) (bl:List ao) (k:fu):Option T:=
 match o.op with
 | .load t p=>match bZ tm p with
  | .w (.one (.ep b aM cj i j))=>match bl[b]?,ob P t,eG P t with
   |some ([.rows sh off code cap kind],_),some qJ,some s=>cond (bY 0 kind&&aH aM sh.length&&aa.beq cj off&&bu (j+s) sh.length&& !(iP ((sh.drop j).take s))&&(qJ||aH s 1))
    (some (fg 21 [code,i] n λ_ n=>L8 code i j ((sh.drop j).take s) n bl λn l bl=>match qJ,l with
      |true,l=>k n (ew tm o.dst (.w (.agg l))) bl
      |false,[a]=>k n (ew tm o.dst (.w (.one a))) bl
      |_,_=> .stuck)) none
   |_,_,_=>none
  |_=>none
 |_=>none
noncomputable def uH (P:bj) (o:Oper) (n:Nat) (tm:List V) (bl:List ao) (k:fu):Option T:=
 match o.op with
 | .store t p x=>match bZ tm p,bZ tm x with
  | .w (.one (.ep b aM cj i j)),.w u=>match(vU bl u.cells)[b]?,eG P t with
   |some ([.rows sh off code cap kind],bS),some s=>cond (bu 2 kind&&aH aM sh.length&&aa.beq cj off&&aH u.cells.length s&&bY 0 s&&bu (j+s) sh.length&&lg sh)
    (some (fg 21 [code,i] n λ_ n=>zx 67 [code,i,.const sh.length] n λ_ n=>Fv (vU bl u.cells) ((sh.drop j).take s) u.cells n λls n=>eA 42 (code::i:: .const j::ls) 0 cc n λcode' n=>k n (ew tm o.dst (.eV [])) (cO (vU bl u.cells) b ([.rows sh off code' cap kind],bS)))) none
   |_,_=>none
  |_,_=>none
 | .convert s d x=>match bZ tm x with
  | .w (.one (.str l))=>match P.underlying s,hH P d with
   |some .string,some e=>match P.underlying e with
    |some (.int .u8)=>some (eA 27 [l] 0 cc n λcode n=>eA 0 [l] 0 9223372036854775807 n λlen n=>Ds 3 e o.dst js code len n tm bl k)
    |_=>none
   |_,_=>none
  |_=>none
 | .makeSlice t x y=>match hH P t,mP (bZ tm x),mP (bZ tm y)with
  |some e,some lM,some k9=>match P.info? e with
   |some i=>match i.zero with
    |some (.int .u8 z)=>cond (aH i.size 1&&bu i.bytes 1024&&decide (z=0)) (some (.oK 49 [lM,k9] (eA 26 [lM,.const 0] 0 cc n λcode n=>Ds 2 e o.dst js code lM n tm bl k))) none
    |_=>none
   |none=>none
  |_,_,_=>none
 | .call c=>match c.callee with
  | .value (.func f)=>match P.funcs[f]?,c.args.toList with
   |some fn,[x]=>match bZ tm x,fn.resultTypes.toList with
    | .w (.one (.int .i64 y)),[t]=>match hH P t with
     |some e=>match P.underlying e with
      |some (.int .u8)=>cond (IC fn) (some (.oK 26 [y.l] (.s3 n 0 cc (.vn 31 [.var n,y.l] (.s3 (n+1) 0 9223372036854775807 (.vn 79 [y.l,.var (n+1)]
       (k (n+2) (ew tm o.dst (.w (.one (.sl bl.length 1 (.const 0) (.const 0) y.l (.var (n+1)))))) (bl++[([.rows js (.const 0) (.var n) (.var (n+1)) 2],(e,false))]))))))))
       none
      |_=>none
     |none=>none
    |_,_=>none
   |_,_=>none
  |_=>none
 |_=>none
noncomputable def QC (P:bj) (o:Oper) (n:Nat) (tm:List V) (bl:List ao) (k:fu):Option T:=
 match o.op with
 | .call c=>match c.callee with
  | .builtin .copy=>match c.args.toList,c.argTypes.toList with
   |[x,y],[t,t']=>match bZ tm x,bZ tm y,hH P t with
    | .w (.one (.sl b aM cj ro len cap)),.w (.one (.sl b2 QH o2 fj iN CV)),some e=>match bl[b]?,bl[b2]?,eG P e with
     |some ([.rows sh off code cM kind],bS),some ([.rows JP I9 fh tI sF],_),some s=>cond (bu 2 kind&&bY 0 sF&&aa.beq cj off&&aa.beq o2 I9&&h9 sh JP&&aH aM sh.length&&aH QH sh.length&&aH s sh.length&&lg sh&&iP sh)
      (some (fg 80 [code,ro,len] n λ_ n=>fg 22 [fh,fj,fj.add iN] n λ_ n=>eA 62 [iN,len] 0 9223372036854775807 n λq n=>eA 22 [fh,fj,fj.add q] 0 cc n λsrc n=>eA 63 [code,ro,src] 0 cc n λcode' n=>k n (ew tm o.dst (.w (.one (.int .i64 ⟨q,0,9223372036854775807⟩)))) (cO bl b ([.rows sh off code' cM kind],bS)))) none
     |_,_,_=>none
    | .w (.one (.sl ..)),.w (.one (.con (.slice none 0 0))),some e=>match eG P e with
     |some _=>some (k n (ew tm o.dst (.w (.one (.int .i64 ⟨.const 0,0,0⟩)))) bl)
     |none=>none
    |_,_,_=>none
   |_,_=>none
  |_=>none
 |_=>none
def Mb:V->Option (Nat×List A)
 | .mE f gX=>some (f,gX)
 | .w (.one (.con (.func (.func f) a b)))=>cond (aH a.size 0&&aH b.size 0) (some (f,[])) none
 |_=>none
noncomputable def Qz (P:bj) (gl:dz) (cal:dW) (inl:hU) (o:Oper) (n:Nat) (tm:List V) (bl:List ao) (k:fu):T:=
 match o.op with
 | .alloc t=>match lS P t with
  |some cs=>cond (bO cs) (k n (ew tm o.dst (.w (.one (.ptr bl.length 0)))) (bl++[(cs,(t,false))])) .stuck
  |none=> .stuck
 | .box t x=>match bZ tm x with
  | .w u=>cond (bO u.cells) (k n (ew tm o.dst (.w (.one (.ptr bl.length 0)))) (bl++[(u.cells,(t,false))])) .stuck
  |_=> .stuck
 | .buildSlice t len parts=>match LV P t len (parts.toList.map λp=>(p.1,bZ tm p.2))with
  |some (cs,e)=>cond (bO cs) (k n (ew tm o.dst (.w (.one (.slc bl.length 0 len len)))) (bl++[(cs,(e,false))])) .stuck
  |none=> .stuck
 | .store t p x=>match bZ tm p,bZ tm x with
  | .w (.one (.ptr b off)),.w u=>match bl[b]?,eG P t with
   |some (cs,bS),some s=>cond (aH u.cells.length s&&bu (off+s) cs.length&&bY 0 s&&bO cs&&bO (cs.take off++u.cells++cs.drop (off+s))) (k n (ew tm o.dst (.eV [])) (cO bl b (cs.take off++u.cells++cs.drop (off+s),bS))) .stuck
   |_,_=> .stuck
  |_,_=> .stuck
 | .call c=>match c.callee with
  | .value (.func f)=>match cal f with
   |some _=>sU P cal gl bl tm o n λv n'=>k n' (ew tm o.dst v) bl
   |none=>inl f n (c.args.toList.map (bZ tm)) bl λn' v aJ=>k n' (ew tm o.dst v) aJ
  | .value (.tmp x)=>match Hr cal bl tm o with
   |some _=>sU P cal gl bl tm o n λv n'=>k n' (ew tm o.dst v) bl
   |none=>match Mb (bZ tm (.tmp x))with
   |some (f,gX)=>inl f n (c.args.toList.map (bZ tm)++gX.map λy=>V.w (.one y)) bl λn' v aJ=>k n' (ew tm o.dst v) aJ
   |none=> .stuck
  |_=>sU P cal gl bl tm o n λv n'=>k n' (ew tm o.dst v) bl
 |_=>sU P cal gl bl tm o n λv n'=>k n' (ew tm o.dst v) bl
noncomputable def FD (P:bj) (gl:dz) (cal:dW) (inl:hU) (o:Oper) (n:Nat) (tm:List V) (bl:List ao) (k:fu):T:=
 match QB P o n tm bl k with
 |some t=>t
 |none=>match uH P o n tm bl k with
  |some t=>t
  |none=>match QC P o n tm bl k with
   |some t=>t
   |none=>Qz P gl cal inl o n tm bl k
def pS:bg->Bool->Option (aa×Option Int×Option Int)
 | .le p q,true=>match p.dt,q.dt with|some c,none=>some (q,some c,none)|none,some c=>some (p,none,some c)|_,_=>none
 | .le p q,false=>match p.dt,q.dt with|some c,none=>some (q,none,some (c-1))|none,some c=>some (p,some (c+1),none)|_,_=>none
 | .lt p q,true=>match p.dt,q.dt with|some c,none=>some (q,some (c+1),none)|none,some c=>some (p,none,some (c-1))|_,_=>none
 | .lt p q,false=>match p.dt,q.dt with|some c,none=>some (q,none,some c)|none,some c=>some (p,some c,none)|_,_=>none
 | .not b,v=>pS b (!v)
 |_,_=>none
def Bs (a:Int):Option Int->Int
 |some b=>cond (decide (a<=b)) b a
 |none=>a
def E0 (a:Int):Option Int->Int
 |some b=>cond (decide (b<=a)) b a
 |none=>a
def Ho (b:bg) (v:Bool) (r:Option (aa×Option Int×Option Int)):V->V
 | .w (.one (.bool e))=> .w (.one (.bool (cond (bg.beq e b) (.lit v) e)))
 | .w (.one (.int k x))=>match r with
  |some (l,lo,hi)=> .w (.one (.int k (cond (aa.beq x.l l) (cond (decide (Bs x.lo lo=E0 x.hi hi)) (.const (Bs x.lo lo)) ⟨x.l,Bs x.lo lo,E0 x.hi hi⟩) x)))
  |none=> .w (.one (.int k x))
 |u=>u
def pE (b:bg) (v:Bool) (l:List V):List V:=l.map (Ho b v (pS b v))
def tS (ops:Array Oper) (tm:List V) (o:Oper) (yes no:List V->T):T:=
 match o.guard with
 |none=>yes tm
 |some (g,want)=>match(ops[g]?).bind (·.dst)with
  |none=> .stuck
  |some d=>match tm[d]? with
   |some (.w (.one (.bool b)))=>match b with
    | .lit v=>cond (v==want) (yes tm) (no tm)
    |b=> .tG b (cond want (yes (pE b true tm)) (no (pE b true tm))) (cond want (no (pE b false tm)) (yes (pE b false tm)))
   |some (.eV [])=>no tm
   |_=> .stuck
noncomputable def BC (P:bj) (gl:dz) (cal:dW) (inl:hU) (ops:Array Oper):List Oper->Nat->List V->List ao->fu->T
 |[],n,tm,bl,k=>k n tm bl
 |o::r,n,tm,bl,k=>tS ops tm o (λtm=>FD P gl cal inl o n tm bl λn' bw aJ=>BC P gl cal inl ops r n' bw aJ k) (λtm=>BC P gl cal inl ops r n (ew tm o.dst (.eV [])) bl k)
def GS (g:Nat->T):List Nat->T
 |[]=> .stuck
 |[i]=>g i
 |i::r=> .both (g i) (GS g r)
noncomputable def Aq (P:bj) (gl:dz) (cal:dW) (ops:Array Oper):List Oper->Nat->List V->List ao->(Nat->List V->T)->T
 |[],n,tm,bl,k=>k n tm
 |o::r,n,tm,bl,k=>cond (eY o) (Aq P gl cal ops r n tm bl k) (tS ops tm o (λtm=>sU P cal gl bl tm o n λv n'=>Aq P gl cal ops r n' (ew tm o.dst v) bl k) (λtm=>Aq P gl cal ops r n (ew tm o.dst (.eV [])) bl k))
def CG (P:bj):List Oper->Nat->List V->List ao->fu->T
 |[],n,tm,bl,k=>k n tm bl
 |o::r,n,tm,bl,k=>cond (eY o) (match o.op with
  | .alloc t=>match lS P t with
   |some cs=>cond (bO cs) (CG P r n (ew tm o.dst (.w (.one (.ptr bl.length 0)))) (bl++[(cs,(t,false))]) k) .stuck
   |none=> .stuck
  |_=> .stuck) (CG P r n tm bl k)
def Kd (P:bj) (l:List Oper):Bool:=l.all λo=> !eY o||(match o.op with| .alloc t=>(lS P t).isSome|_=>false)
def Ar (cal:dW) (dyn:Bool) (ops:Array Oper):List Tmp->List Oper->Nat
 |_,[]=>0
 |ds,o::r=>cond ((o.looksAt ops).any ds.contains) 0 <| cond (eY o) (Ar cal dyn ops (match o.dst with|some d=>d::ds|none=>ds) r+1) <| cond (aoU cal dyn o) (Ar cal dyn ops ds r+1) 0
def As (P:bj) (cal:dW) (ops:Array Oper):Nat:=
 cond (B6 ops (Ar cal false ops [] ops.toList)&&Kd P (ops.toList.take (Ar cal false ops [] ops.toList))) (Ar cal false ops [] ops.toList) (Ar cal true ops [] ops.toList)
def zT:Code->Option Nat
 | .region id _ _=>some id
 | .seq a b=>match zT a with|some i=>some i|none=>zT b
 | .block _ c| .loop c| .scope c=>zT c
 | .cond _ a b=>match zT a with|some i=>some i|none=>zT b
 |_=>none
def Me:az->az->Bool
 | .pointer none,.pointer none=>true
 | .slice none 0 0,.slice none 0 0=>true
 | .func (.func f) a b,.func (.func ng) a' b'=>aH f ng&&aH a.size 0&&aH b.size 0&&aH a'.size 0&&aH b'.size 0
 |_,_=>false
def A.beq:A->A->Bool
 | .int k x,.int a6 y=>decide (k=a6)&&aa.beq x.l y.l&&x.lo==y.lo&&x.hi==y.hi
 | .bool a,.bool b=>bg.beq a b
 | .con a,.con b=>Me a b
 | .ptr b o,.ptr b' cj=>aH b b'&&aH o cj
 | .gptr b o,.gptr b' cj=>aH b b'&&aH o cj
 | .slc b o l c,.slc b' cj bQ c'=>aH b b'&&aH o cj&&aH l bQ&&aH c c'
 | .str a,.str b=>aa.beq a b
 | .rows sh o c q k,.rows cH cj c' q' a6=>h9 sh cH&&aa.beq o cj&&aa.beq c c'&&aa.beq q q'&&aH k a6
 | .sl b z o r l c,.sl b' FP cj r' bQ c'=>aH b b'&&aH z FP&&aa.beq o cj&&aa.beq r r'&&aa.beq l bQ&&aa.beq c c'
 | .ep b z o i j,.ep b' FP cj ye OL=>aH b b'&&aH z FP&&aa.beq o cj&&aa.beq i ye&&aH j OL
 |_,_=>false
def na:List A->List A->Bool
 |[],[]=>true
 |a::r,b::s=>A.beq a b&&na r s
 |_,_=>false
def V.beq:V->V->Bool
 | .w (.one a),.w (.one b)=>A.beq a b
 | .w (.agg l),.w (.agg bQ)=>na l bQ
 | .eV [],.eV []=>true
 | .mE f l,.mE ng bQ=>aH f ng&&na l bQ
 |_,_=>false
def vv (i:Nat):List (Nat×Int×Int)->Option (Int×Int)
 |[]=>none
 |(j,lo,hi)::r=>cond (aH i j) (some (lo,hi)) (vv i r)
noncomputable def hs (ev:List Nat) (ints:List (Nat×Int×Int)):Nat->Nat->List V->Option (List V×List aa×List (Int×Int))
 |_,_,[]=>some ([],[],[])
 |i,s,v::r=>cond (ev.any (aH i)) (match hs ev ints (i+1) s r with|some (t,l,b)=>some (v::t,l,b)|none=>none)
  (match vv i ints with
  |some (lo,hi)=>match v with
   | .w (.one (.int k x))=>cond (decide (lo<=x.lo)&&decide (x.hi<=hi)) (match hs ev ints (i+1) (s+1) r with|some (t,l,b)=>some (.w (.one (.int k ⟨.var s,lo,hi⟩))::t,x.l::l,(lo,hi)::b)|none=>none) none
   | .w (.one (.str x))=>(match hs ev ints (i+1) (s+1) r with|some (t,l,b)=>some (.w (.one (.str (.var s)))::t,x::l,(0,bp)::b)|none=>none)
   |_=>none
  |none=>match hs ev ints (i+1) s r with|some (t,l,b)=>some (.any::t,l,b)|none=>none)
noncomputable def iV (lo hi:Int) (s:Nat):A->Option (A×aa×(Int×Int))
 | .int k x=>cond (decide (lo<=x.lo)&&decide (x.hi<=hi)) (some (.int k ⟨.var s,lo,hi⟩,x.l,(lo,hi))) none
 | .str x=>some (.str (.var s),x,(0,bp))
 | .rows sh off code cap k=>some (.rows sh off (.var s) cap k,code,(0,cc))
 |_=>none
noncomputable def ha (ints:List (Nat×Int×Int)):Nat->Nat->List A->Option (List A×List aa×List (Int×Int))
 |_,_,[]=>some ([],[],[])
 |i,s,v::r=>match vv i ints with
  |some (lo,hi)=>match iV lo hi s v with
   |some (a,x,dQ)=>match ha ints (i+1) (s+1) r with|some (t,l,b)=>some (a::t,x::l,dQ::b)|none=>none
   |none=>none
  |none=>match ha ints (i+1) s r with|some (t,l,b)=>some (v::t,l,b)|none=>none
def cellsOf (b:Nat):List (Nat×Nat×Int×Int)->List (Nat×Int×Int)
 |[]=>[]
 |(b',c,q)::r=>cond (aH b b') ((c,q)::cellsOf b r) (cellsOf b r)
noncomputable def hb (cells:List (Nat×Nat×Int×Int)):Nat->Nat->List ao->Option (List ao×List aa×List (Int×Int))
 |_,_,[]=>some ([],[],[])
 |i,s,(cs,ty)::r=>match ha (cellsOf i cells) 0 s cs with
  |some (c,l,b)=>match hb cells (i+1) (s+l.length) r with
   |some (t,bQ,b')=>some ((c,ty)::t,l++bQ,b++b')
   |none=>none
  |none=>none
def kT:List V->List V->Bool
 |[],[]=>true
 | .any::r,_::s=>kT r s
 |v::r,u::s=>V.beq v u&&kT r s
 |_,_=>false
def kS:List ao->List ao->Bool
 |[],[]=>true
 |(c,t)::r,(c',t')::s=>na c c'&&aH t.1 t'.1&&(t.2==t'.2)&&kS r s
 |_,_=>false
def dI:ao:=([.rows [] (.const 0) (.const 0) (.const 0) 0],(0,false))
def qe:List A->Bool
 |[.rows _ _ _ _ k]=>aH k 1
 |_=>false
def cQ (N:Nat):Nat->List ao->List ao
 |_,[]=>[]
 |i,p::r=>cond (bY i N&&(bO p.1||qe p.1)) p dI::cQ N (i+1) r
def xF (N:Nat) (tm:List V) (bl:List ao) (o:Oper):Bool:=match o.op with
 | .move _| .assign _| .extract _ _| .fieldAddr .. =>true
 | .load _ p=>match bZ tm p with
  | .w (.one (.ptr b _))=>bY b N&&(match bl[b]? with|some p=>bO p.1|none=>false)
  |_=>false
 | .slice _ x _ _ _=>match bZ tm x with| .w (.one (.sl ..))=>true|_=>false
 |_=>false
def aoC:List A->Nat->Bool
 |[.rows sh _ _ _ _],j=>match sh[j]? with|some c=>c.plain|none=>false
 |_,_=>false
def DX (N:Nat) (tm:List V) (bl:List ao) (o:Oper):Bool:=match o.op with
 | .binOp _ _ x y _=>match bZ tm x,bZ tm y with
  | .w (.one (.int ..)),.w (.one (.int ..))=>true
  | .w (.one (.str _)),.w (.one (.str _))=>true
  |_,_=>false
 | .indexAddr _ x _=>match bZ tm x with| .w (.one (.sl ..))=>true| .w (.one (.ptr ..))=>true|_=>false
 | .slice _ x _ _ _=>match bZ tm x with| .w (.one (.str _))=>true|_=>false
 | .load _ p=>match bZ tm p with
  | .w (.one (.ep b _ _ _ j))=>bY b N&&(match bl[b]? with|some p=>qe p.1&&aoC p.1 j|none=>false)
  |_=>false
 |_=>false
def nu (o:Oper):Bool:=match o.op with| .store .. =>true|_=>false
def Pc (o:Oper):Bool:=match o.op with| .move _| .assign _| .extract _ _| .fieldAddr .. | .load .. | .slice .. =>true|_=>false
def WH (o:Oper):Bool:=match o.op with| .call c=>(match c.callee with| .value _=>true|_=>false)|_=>false
def Qu (P:bj) (l:List Oper):Bool:=l.any λo=>match o.op with| .load t _=>(hH P t).isSome|_=>false
def Pf (P:bj) (ops:Array Oper):Bool:=(ops.toList.any (λo=>nu o||WH o)&&bu 7 (ops.toList.filter λo=> !Pc o).length)||Qu P ops.toList
def Vq (P:bj) (N:Nat) (tm:List V) (bl:List ao) (ops:Array Oper) (listed:Array Bool):Option Nat:=
 cond (y8 ops) ((kP .any ops listed).find? λi=>(match ops[i]? with|some o=>xF N tm bl o||(Pf P ops&&DX N tm bl o)|none=>false)&&Ro .any ops listed i) none
def alD (ops:Array Oper) (tm:List V) (o:Oper):Bool:=match o.guard with
 |some (g,want)=>match(ops[g]?).bind (·.dst)with
  |some d=>match tm[d]? with
   |some (.w (.one (.bool (.lit v))))=> !(v==want)
   |some (.eV [])=>true
   |_=>false
  |none=>false
 |none=>false
def XL (tm:List V) (ops:Array Oper) (listed:Array Bool):Option Nat:=
 cond (y8 ops) ((kP .any ops listed).find? λi=>(match ops[i]? with|some o=>alD ops tm o|none=>false)&&Ro .any ops listed i) none
def preB:List ao->List ao->Bool
 |(c,t)::r,(c',t')::s=>na c c'&&aH t.1 t'.1&&(t.2==t'.2)&&preB r s
 |[],_=>true
 |_,_=>false
noncomputable def tB (P:bj) (gl:dz) (cal:dW) (inl:hU) (ops:Array Oper) (N:Nat) (pR:List ao):Nat->Array Bool->Nat->List V->List ao->fu->T
 |0,listed,n,tm,bl,k=>match kP .any ops listed with
  |[]=>k n tm bl
  |_=> .stuck
 |f+1,listed,n,tm,bl,k=>match kP .any ops listed with
  |[]=>k n tm bl
  |l=>match Vq P N tm bl ops listed with
   |some i=>match ops[i]? with
    |none=> .stuck
    |some o=>tS ops tm o (λtm=>sU P cal gl (cQ N 0 bl) tm o n λv n'=>tB P gl cal inl ops N pR f (listed.setIfInBounds i true) n' (ew tm o.dst v) bl k) (λtm=>tB P gl cal inl ops N pR f (listed.setIfInBounds i true) n (ew tm o.dst (.eV [])) bl k)
   |none=>match XL tm ops listed with
    |some i=>match ops[i]? with
     |none=> .stuck
     |some o=>tS ops tm o (λ_=> .stuck) (λtm=>tB P gl cal inl ops N pR f (listed.setIfInBounds i true) n (ew tm o.dst (.eV [])) bl k)
    |none=>GS (λi=>match ops[i]? with
    |none=> .stuck
    |some o=>tS ops tm o (λtm=>FD P gl cal inl o n tm bl λn' bw aJ=>cond (preB pR (cQ N 0 aJ)) (tB P gl cal inl ops N pR f (listed.setIfInBounds i true) n' bw aJ k) .stuck) (λtm=>tB P gl cal inl ops N pR f (listed.setIfInBounds i true) n (ew tm o.dst (.eV [])) bl k)) l
def JS (ops:Array Oper) (k:Nat):Bool:=match ops[k]? with|some o=>nu o|none=>false
def kk (ops:Array Oper) (L:Array Bool):Bool:=(c8 ops.size).all λk=> !(JS ops k&&L.getD k true)
def QS (ops:Array Oper) (i:Nat):Bool:=ops.toList.all λo=> !(nu o)||o.after.toList.any λe=>qy .any e&&aH e.on i
def W6 (ops:Array Oper):Bool:=ops.toList.any WH&&ops.toList.any nu&&(c8 ops.size).all λk=>match ops[k]? with
 |some o=>match o.op with
  | .load .. =>QS ops k
  |_=>true
 |none=>true
def BH (P:bj) (o:Oper):Bool:=match o.op with
 | .move _| .assign _| .extract _ _=>true
 | .fieldAddr s _ i=>match P.underlying s with
  |some (.struct dE)=>match dE[i]? with
   |some f=>match eG P f.type with
    |some k=>bY 0 k
    |none=>false
   |none=>false
  |_=>false
 |_=>false
def Vr (P:bj) (N:Nat) (tm:List V) (bl:List ao) (ops:Array Oper) (listed:Array Bool):Option Nat:=
 cond (y8 ops) ((kP .any ops listed).find? λi=>(match ops[i]? with|some o=>BH P o||(kk ops listed&&(xF N tm bl o||DX N tm bl o)&& !(nu o)&&QS ops i)|none=>false)&&Ro .any ops listed i) none
noncomputable def vk (P:bj) (gl:dz) (cal:dW) (inl:hU) (ops:Array Oper) (N:Nat) (pR:List ao):Nat->Array Bool->Nat->List V->List ao->fu->T
 |0,listed,n,tm,bl,k=>match kP .any ops listed with
  |[]=>k n tm bl
  |_=> .stuck
 |f+1,listed,n,tm,bl,k=>match kP .any ops listed with
  |[]=>k n tm bl
  |l=>match Vr P N tm bl ops listed with
   |some i=>match ops[i]? with
    |none=> .stuck
    |some o=>tS ops tm o (λtm=>sU P cal gl (cQ N 0 bl) tm o n λv n'=>vk P gl cal inl ops N pR f (listed.setIfInBounds i true) n' (ew tm o.dst v) bl k) (λtm=>vk P gl cal inl ops N pR f (listed.setIfInBounds i true) n (ew tm o.dst (.eV [])) bl k)
   |none=>GS (λi=>match ops[i]? with
    |none=> .stuck
    |some o=>tS ops tm o (λtm=>FD P gl cal inl o n tm bl λn' bw aJ=>cond (!(kk ops (listed.setIfInBounds i true))||preB pR (cQ N 0 aJ)) (vk P gl cal inl ops N pR f (listed.setIfInBounds i true) n' bw aJ k) .stuck) (λtm=>vk P gl cal inl ops N pR f (listed.setIfInBounds i true) n (ew tm o.dst (.eV [])) bl k)) l
def abP (ops:List Oper) (tm:List V) (p:lW):Nat:=match p with
 | .tmp d=>match ops.find? λo=>o.dst==some d with
  |some o=>match o.op with
   | .fieldAddr _ x _=>match bZ tm x with| .w (.one (.ptr b _))=>b|_=>0
   |_=>0
  |none=>match bZ tm p with| .w (.one (.ptr b _))=>b|_=>0
 |_=>0
def SS (ops:List Oper) (tm:List V):List Oper->Nat->Nat
 |[],N=>N
 |o::r,N=>SS ops tm r (match o.op with| .store _ p _=>min N (abP ops tm p)|_=>N)
def DW (P:bj) (ops:Array Oper) (tm:List V) (bl:List ao):Nat:=cond (Pf P ops) (min bl.length (SS ops.toList tm ops.toList bl.length)) (cond (ops.toList.any nu) 0 bl.length)
def PZ (body:Nat->List V->List ao->m8->T):Nat->Nat->List V->List ao->m8->T
 |0,_,_,_,_=> .stuck
 |r+1,n,tm,bl,k=>body n tm bl λx n' bw aJ=>match x with
  | .normal=>PZ body r n' bw aJ k
  |x=>k x n' bw aJ
def r5 (lo:Nat):List (Nat×List ay×aQ)->List V->List ao->List Nat->Option (List aa×List Nat)
 |[],_,_,used=>some ([],used)
 |(s,sh,e)::r,tm,bl,used=>match tm[s]? with
  |some (.w (.one (.con (.slice none 0 0))))=>match r5 lo r tm bl used with
   |some (l,u)=>some (.const 0:: .const 0:: .const (-1)::l,u)
   |none=>none
  |some (.w (.one (.sl b aM o ro len cap)))=>match bl[b]? with
   |some ([.rows cH off code cM kind],t)=>cond (h9 sh cH&&aH kind 2&&aa.beq o (.const 0)&&aa.beq off (.const 0)&&aa.beq ro (.const 0)&&aa.beq cap cM&&aH t.1 e&&aH aM sh.length&&bu lo b&& !(used.any (aH b)))
    (match r5 lo r tm bl (b::used)with
    |some (l,u)=>some (code::len::cap::l,u)
    |none=>none) none
   |_=>none
  |_=>none
def k7:List Nat->List ao->List ao
 |[],bl=>bl
 |b::r,bl=>match bl[b]? with
  |some ([.rows sh off code cap _],t)=>k7 r (cO bl b ([.rows sh off code cap 0],t))
  |_=>k7 r bl
def xl:List (Nat×Int×Int)->List V->M (List V)
 |[],tm=>pure tm
 |(s,lo,hi)::r,tm=>match tm[s]? with
  |some (.w (.one (.int k x)))=>cond (decide (lo<=x.lo)&&decide (x.hi<=hi)) (xl r tm) (bind (fg 39 [x.l,.const lo,.const hi]) λ_=>xl r (oh tm s (.w (.one (.int k ⟨x.l,lo,hi⟩)))))
  |_=>xl r tm
def CR (tm:List V):List Nat->M (List aa)
 |[]=>pure []
 |s::r=>match tm[s]? with
  |some (.w (.one (.bool e)))=>bind (match e with| .lit v=>pure (.const (cond v 1 0))|e=>yh e) λl=>bind (CR tm r) λls=>pure (l::ls)
  |_=>fail
def q4:List Nat->Nat->List V->List V
 |[],_,tm=>tm
 |s::r,v,tm=>q4 r (v+1) (oh tm s (.w (.one (.bool (.eq (.var v) (.const 1))))))
def pk:List (Nat×List ay×aQ)->Nat->List V->List ao->List V×List ao
 |[],_,tm,bl=>(tm,bl)
 |(s,sh,e)::r,v,tm,bl=>pk r (v+3) (oh tm s (.w (.one (.sl bl.length sh.length (.const 0) (.const 0) (.var (v+1)) (.var (v+2)))))) (bl++[([.rows sh (.const 0) (.var v) (.var (v+2)) 2],(e,false))])
def Ha (l:List Nat):List (Int×Int):=l.map λ_=>(0,1)
noncomputable def wZ (l:List (Nat×List ay×aQ)):List (Int×Int):=l.flatMap λ_=>[(0,cc),(0,9223372036854775807),(-2,9223372036854775807)]
def yp:List (Nat×List ay)->List V->List ao->List ao
 |[],_,bl=>bl
 |(s,_)::r,tm,bl=>match tm[s]? with
  |some (.w (.one a))=>yp r tm (EW bl a)
  |_=>yp r tm bl
def wc:List (Nat×List ay)->List V->List ao->Option (List aa)
 |[],_,_=>some []
 |(s,sh)::r,tm,bl=>match tm[s]? with
  |some (.w (.one (.con (.slice none 0 0))))=>match wc r tm bl with
   |some l=>some (.const 0:: .const 0:: .const (-1)::l)
   |none=>none
  |some (.w (.one (.slc _ _ 0 0)))=>match wc r tm bl with
   |some l=>some (.const 0:: .const 0:: .const (-2)::l)
   |none=>none
  |some (.w (.one (.sl b aM o ro len cap)))=>match bl[b]? with
   |some ([.rows cH off code cM kind],t)=>cond (h9 sh cH&&aH kind 1&&aa.beq o off&&aa.beq ro (.const 0)&&aa.beq cap cM&&aH aM sh.length)
    (match wc r tm bl with
    |some l=>some (code::len::cap::l)
    |none=>none) none
   |_=>none
  |_=>none
def I4:Nat->M Unit
 |0=>pure ()
 |k+1=>λn zj=> .nat n (I4 k (n+1) zj)
def headD:List (Nat×List ay)->Nat->Nat->List V->List ao->List V×List ao
 |[],_,_,tm,bl=>(tm,bl)
 |(s,sh)::r,v,u,tm,bl=>headD r (v+3) (u+1) (oh tm s (.w (.one (.sl bl.length sh.length (.var u) (.const 0) (.var (v+1)) (.var (v+2)))))) (bl++[([.rows sh (.var u) (.var v) (.var (v+2)) 1],(0,false))])
noncomputable def wa (l:List (Nat×List ay)):List (Int×Int):=l.flatMap λ_=>[(0,cc),(0,9223372036854775807),(-2,9223372036854775807)]
noncomputable def we:List (Nat×List ay)->Nat->List V->List ao->(Nat->List V->List ao->T)->T
 |[],n,tm,bl,k=>k n tm bl
 |(s,sh)::r,n,tm,bl,k=>match tm[s]? with
  |some (.w (.one (.sl b aM o ro len cap)))=>match bl[b]? with
   |some ([.rows cH off code cM kind],_)=>cond (h9 sh cH&&aH kind 1&&aa.beq o off&&aH aM sh.length&& !(aa.beq ro (.const 0)&&aa.beq cap cM))
    (.oK 22 [code,ro,ro.add len] (.oK 40 [cap,cM] (.fn n 22 [code,ro,ro.add len] 0 cc
      (we r (n+1) (oh tm s (.w (.one (.sl bl.length aM (o.add (ro.smul aM)) (.const 0) len cap)))) (bl++[([.rows sh (o.add (ro.smul aM)) (.var n) cap 1],(0,false))]) k))))
    (we r n tm bl k)
   |_=>we r n tm bl k
  |_=>we r n tm bl k
noncomputable def Pb (li:cX) (body:Nat->List V->List ao->m8->T) (n:Nat) (tm:List V) (bl:List ao) (k:m8):T:=
 xl li.ints tm n λtm n=>CR tm li.oJ n λlb n=>match hs li.ev li.ints 0 (n+1) tm,r5 0 li.nO tm bl [],wc li.iA tm bl with
 |some (kn,l1,b1),some (la,us),some iy=>match hb li.cells 0 (n+1+l1.length) (k7 us bl)with
  |none=> .stuck
  |some (dq,l2,b2)=>cond (!(kT kn kn&&kS dq dq)) .stuck <| .loop n (l1++l2++(lb++la++iy)) (n+1) (b1++b2++(Ha li.oJ++wZ li.nO++wa li.iA))
   (I4 li.iA.length (n+1+l1.length+l2.length+(lb++la++iy).length) λ_ N=>
   let d:=headD li.iA (n+1+l1.length+l2.length+(lb++la).length) (n+1+l1.length+l2.length+(lb++la++iy).length) (q4 li.oJ (n+1+l1.length+l2.length) kn) dq;let e:=pk li.nO (n+1+l1.length+l2.length+lb.length) d.1 d.2
   body N e.1 e.2 λx n' bw aJ=>match x with
   | .normal=>we li.iA n' bw (yp li.iA bw aJ) λn' bw aJ=>xl li.ints bw n' λbw n'=>CR bw li.oJ n' λW7 n'=>match hs li.ev li.ints 0 (n+1) bw,r5 bl.length li.nO bw aJ [],wc li.iA bw aJ with
    |some (uI,v1,_),some (OX,_),some Xm=>match hb li.cells 0 (n+1+v1.length) (aJ.take bl.length)with
     |none=> .stuck
     |some (mC,v2,_)=>cond (kT kn uI&&kS dq mC) (.again n (v1++v2++(W7++OX++Xm))) .stuck
    |_,_,_=> .stuck
   |x=>k x n' bw aJ)
 |_,_,_=> .stuck
noncomputable def Pa (li:cX) (body:Nat->List V->List ao->m8->T) (n:Nat) (tm:List V) (bl:List ao) (k:m8):T:=
 we li.iA n tm (yp li.iA tm bl) λn tm bl=>Pb li body n tm bl k
noncomputable def kR (P:bj) (gl:dz) (cal:dW) (inl:hU) (li:Nat->Option cX) (rounds:Nat):Code->Nat->List V->List ao->m8->T
 | .skip,n,tm,bl,k=>k .normal n tm bl
 | .region _ ops draw,n,tm,bl,k=>cond draw
  (let h:=As P cal ops
   cond (B6 ops h&&Kd P (ops.toList.take h)&& !Qu P (ops.toList.take h)) (Aq P gl cal ops (ops.toList.take h) n tm bl λn' bw=>CG P (ops.toList.take h) n' bw bl λn' bw aJ=>BC P gl cal inl ops (ops.toList.drop h) n' bw aJ (k .normal)) (cond (W6 ops) (vk P gl cal inl ops bl.length (cQ bl.length 0 bl) ops.size (rN ops.size false) n tm bl (k .normal)) (cond (bu (ops.toList.filter λo=> !Pc o).length 24) (tB P gl cal inl ops (DW P ops tm bl) (cQ (DW P ops tm bl) 0 bl) ops.size (rN ops.size false) n tm bl (k .normal)) .stuck)))
  (BC P gl cal inl ops ops.toList n tm bl (k .normal))
 | .seq a b,n,tm,bl,k=>kR P gl cal inl li rounds a n tm bl λx n' bw aJ=>match x with
  | .normal=>kR P gl cal inl li rounds b n' bw aJ k
  |x=>k x n' bw aJ
 | .cond c a b,n,tm,bl,k=>match bZ tm c with
  | .w (.one (.bool e))=>match e with
   | .lit v=>cond v (kR P gl cal inl li rounds a n tm bl k) (kR P gl cal inl li rounds b n tm bl k)
   |e=> .tG e (kR P gl cal inl li rounds a n (pE e true tm) bl k) (kR P gl cal inl li rounds b n (pE e false tm) bl k)
  |_=> .stuck
 | .block id c,n,tm,bl,k=>kR P gl cal inl li rounds c n tm bl λx n' bw aJ=>match x with
  | .exit vH=>cond (aH vH id) (k .normal n' bw aJ) (k (.exit vH) n' bw aJ)
  |x=>k x n' bw aJ
 | .loop c,n,tm,bl,k=>match(zT c).bind li with
  |some l=>Pa l (λn tm bl k=>kR P gl cal inl li rounds c n tm bl k) n tm bl k
  |none=>PZ (λn tm bl k=>kR P gl cal inl li rounds c n tm bl k) rounds n tm bl k
 | .exit id,n,tm,bl,k=>k (.exit id) n tm bl
 | .ret,n,tm,bl,k=>k .ret n tm bl
 |_,_,_,_,_=> .stuck
def Fq (P:bj) (gl:dz) (bl:List ao) (tm:List V):ResultVar->Option W
 | .tmp t=>match tm[t]? with|some (.w u)=>some u|_=>none
 | .cell a t=>match tm[a]? with
  |some (.w (.one p))=>match zI bl gl p,ob P t,eG P t with
   |some cs,some true,some k=>cond (bu k cs.length) (some (.agg (cs.take k))) none
   |some (x::_),some false,_=>some (.one x)
   |_,_,_=>none
  |_=>none
def yM (P:bj) (gl:dz) (bl:List ao) (tm:List V):List ResultVar->Option (List W)
 |[]=>some []
 |r::s=>match Fq P gl bl tm r,yM P gl bl tm s with|some u,some l=>some (u::l)|_,_=>none
def Pt (tm:List V):List ResultVar->Option V
 |[.tmp t]=>match tm[t]? with
  |some (.mE f c)=>some (.mE f c)
  |some (.oS b l lo)=>some (.oS b l lo)
  |_=>none
 |_=>none
def Fo (P:bj) (gl:dz) (fn:Func) (n:Nat) (tm:List V) (bl:List ao) (k:RK):T:=
 match yM P gl bl tm fn.results.toList with
 |some [u]=>k n (.w u) bl
 |some l=>k n (.eV l) bl
 |none=>match Pt tm fn.results.toList with
  |some v=>k n v bl
  |none=> .stuck
def BO:Nat->List V
 |0=>[]
 |n+1=> .eV []::BO n
noncomputable def G8 (P:bj) (gl:dz) (cal:dW) (inl:hU) (li:cz->Nat->Option cX) (rounds:Nat):hU:=
 λf n vs bl k=>match P.funcs[f]? with
  |none=> .stuck
  |some fn=>match fn.body with
   |none=> .stuck
   |some c=>cond (!(fn.name== "runtime.NumGoroutine")&&bu vs.length fn.ntmps) (kR P gl cal inl (li f) rounds c n (vs++BO (fn.ntmps-vs.length)) bl λx n' bw aJ=>match x with
    | .exit _=> .stuck
    |_=>Fo P gl fn n' bw aJ k) .stuck
noncomputable def Hg (P:bj) (gl:dz) (cal:dW) (li:cz->Nat->Option cX) (rounds:Nat):Nat->hU
 |0=>λ_ _ _ _ _=> .stuck
 |d+1=>G8 P gl cal (Hg P gl cal li rounds d) li rounds
abbrev hT:=cz->Option (Nat->List V->List ao->RK->T)
noncomputable def Pu (bc:hT) (inl:hU):hU:=λf n vs bl k=>match bc f with
 |some g=>g n vs bl k
 |none=>inl f n vs bl k
noncomputable def xd (bc:hT) (P:bj) (gl:dz) (cal:dW) (li:cz->Nat->Option cX) (rounds:Nat):Nat->hU
 |0=>λ_ _ _ _ _=> .stuck
 |d+1=>G8 P gl cal (Pu bc (xd bc P gl cal li rounds d)) li rounds
end Go.ba
