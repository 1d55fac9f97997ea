/- Texts as numbers. -/
import GoSem.ClaimData
import GoSem.Op.String
import Derived.WalkKit
import Derived.Laws.StructEq
import Derived.ChangeKeysEq
import Derived.Laws.Tables
import Derived.Laws.Strings2
import Derived.Laws.Concat
import Derived.Laws.Cover1
import Derived.Laws.Cover3
import Derived.Laws.BytesArg
import Derived.StillTail
import Derived.OrdersHeld
import Derived.Laws.CopyRow
import Derived.Deep.LoopGhost
open Array renaming toArray_toList->l6,replicate->rI,getElem?_eq_none->uO,toList_map->uT,eq_empty_of_size_eq_zero->uV,getElem?_toList->FX,getElem?_setIfInBounds_ne->auR,ext_getElem?->auX
open BitVec renaming ofInt->pa,toNat_ofInt->Kc
open Bool renaming and_eq_true->aO,not_eq_true'->fZ,not_eq_false'->mB,or_eq_true->oA,false_eq_true->pU,false_or->sZ,true_and->wD,not_true->FV
open ByteArray renaming size->aAq,empty->aAL
open Classical renaming choose_spec->Rn,choose->aao,byContradiction->aaM
open Function renaming comp->J4
open Go renaming World->ai,Value->aA,TypeId->aS,Program->bk,FuncId->cB,IntKind->di,run_underlying->fh,Operand->l8,getD_both->y9,run_loadCells_list->F1
open Go.Act renaming put->Cr
open Go.Builtin renaming len_->F5,min_->Rz
open Go.ByteArray renaming toList_mk->aAp,mk_append_mk->aAr,getElem?_lt'->aAs,extract_mk->aAt
open Go.Deferred renaming ofValue->aaI
open Go.Instr renaming sliceBounds->jv,sureAddr->l7,sliceAt->nP,loadAt->oD,indexAt->s5,fieldAt->Cn,sliceBound->F6,slice->Kg,extract->Rq,index->Rv,fill->aaH
open Go.IntKind renaming max->hT,signed->F4,bits->aaD,wrap->auJ
open Go.Next renaming value->kU
open Go.Next.value renaming injEq->auY
open Go.Op renaming bytesLess->dz
open Go.Oper renaming wp->nh
open Go.Region renaming ready->kV,binds->qz,wanted->tc,waitsFor->uU,noSelect->y4,waitsFor_spec->y8,free->Rr,Mode->aaL,chainB->auU,seqB->auV
open Go.Result renaming andThen_ok->gz,andThen->auZ
open Go.Result.ok renaming injEq->aax
open Go.Sem renaming run_bind->gm,run_pure->hV
open Go.Utf8 renaming encode->Kf
open Go.Value.pointer renaming injEq->aAd
open Go.World renaming cell?->jL
open Go.World.Extends renaming refl->nf
open Int renaming le_refl->bD,toNat_natCast->eZ,lt_or_le->hU,le_trans->pR,natCast_nonneg->rN,eq_ofNat_of_zero_le->s4,le_of_lt->uR,emod_eq_of_lt->wG,mul_comm->wH,mul_le_mul_of_nonneg_left->y6,dvd_of_emod_eq_zero->Rt,emod_nonneg->aaA,emod_lt_of_pos->aaB,mul_ediv_add_emod->aaC,mul_le_mul->aaE,ofNat_sub->aaF,ediv_le_ediv->auI,mul_emod_right->auN,ediv_nonneg->auP,fdiv_eq_ediv_of_nonneg->auQ,ofNat_toNat->au4
open List renaming getD->aB,map_cons->ct,mem_cons_of_mem->cF,length_cons->cS,mem_of_getElem?->cZ,range->da,length_append->dm,map_nil->et,length_nil->eF,replicate->e4,getElem?_eq_getElem->gy,map_congr_left->gI,append_assoc->gJ,mem_of_mem_take->j7,length_map->j8,mem_cons->kS,map_map->kT,getElem?_cons_zero->nd,length_take->ng,mem_of_mem_drop->nQ,getElem?_map->oB,getElem?_take->o8,flatMap_cons->qB,getElem?_append_left->rO,eq_nil_of_length_eq_zero->td,getElem?_append_right->uP,getElem?_drop->wI,map_take->y2,map_drop->y3,mem_of_find?_eq_some->y5,getElem_mem->Cs,map_id->FR,find?_some->FY,getElem?_toArray->Ke,countP_cons->auW
open List.cons renaming injEq->kz
open Nat renaming beq->aG,le_refl->aW,eq_of_beq_eq_true->bA,ble->bC,blt->b6,le_of_ble_eq_true->eE,le_trans->gk,zero_le->iI,le_succ->kB,add_zero->lu,log2->l5,lt_or_ge->mC,lt_succ_self->rP,succ_mul->rK,lt_of_lt_of_le->uQ,add_mul->uW,min_eq_left->wF,pow_succ->yZ,mul_comm->y0,zero_add->y7,two_pow_pos->Cm,add_assoc->Cv,mul_one->F3,div_div_eq_div_mul->J8,pow_add->Kd,pow_le_pow_right->Rm,mul_div_cancel_left->aap,one_le_two_pow->aaq,testBit_mul_two_pow->auK,div_add_mod->auL,lt_log2_self->auM,or_lt_two_pow->auO
open Option renaming getD_some->pS,isSome_none->rL,map_some->s3,getD_none->Rw,map_none->aaJ
open Option.some renaming injEq->aK,inj->gH
open Prod.mk renaming injEq->cv
open Pure renaming pure->Co
open UInt8 renaming ofNat->kx
set_option linter.unusedVariables false
set_option linter.unusedSimpArgs false
namespace Go.bg
def lB:List UInt8->Nat
 |[]=>0
 |b::r=>(b.toNat+1)+257*lB r
def wi:Nat->Nat->List UInt8
 |0,_=>[]
 |f+1,n=>match n with
  |0=>[]
  |k+1=>kx (k% 257)::wi f ((k+1)/257)
theorem LR (b:UInt8) (r:List UInt8):lB (b::r)=(b.toNat+1)+257*lB r:=rfl
theorem acL (b:UInt8) (r:List UInt8):lB (b::r)=(b.toNat+257*lB r)+1:=by rw[LR];omega
theorem YZ:∀(l:List UInt8) (f:Nat),l.length<=f->wi f (lB l)=l
 |[],0,_=>rfl
 |[],f+1,_=>rfl
 |b::r,0,h=>by simp at h
 |b::r,f+1,h=>by
  have hb:=b.toNat_lt;rw[acL];show kx ((b.toNat+257*lB r)% 257)::wi f ((b.toNat+257*lB r+1)/257)=b::r;have e1:(b.toNat+257*lB r)% 257=b.toNat:=by omega
  have e2:(b.toNat+257*lB r+1)/257=lB r:=by omega
  rw[e1,e2,YZ r f (by simpa using h)];simp
theorem Y0:∀(f n k:Nat),n<257^k->(wi f n).length<=k
 |0,_,_,_=>by simp[wi]
 |f+1,0,k,_=>by simp[wi]
 |f+1,n+1,0,h=>by simp at h
 |f+1,n+1,k+1,h=>by
  have:(n+1)/257<257^k:=by rw[Nat.div_lt_iff_lt_mul (by decide)];rw[yZ]at h;exact h
  have ih:=Y0 f ((n+1)/257) k this;simp only[wi,cS];omega
theorem Tr:∀(l:List UInt8),lB l<257^l.length
 |[]=>by simp[lB]
 |b::r=>by
  have ih:=Tr r;have hb:=b.toNat_lt;unfold lB;rw[cS,yZ];omega
theorem Tq:∀(l:List UInt8),l.length<=lB l
 |[]=>by simp
 |b::r=>by
  have ih:=Tq r;unfold lB;rw[cS];omega
theorem Ts:∀(l:List UInt8),0<l.length->2^(l.length-1)<=lB l
 |[b],_=>by rw[LR];show 1<=_;omega
 |b::c::r,_=>by
  have ih:=Ts (c::r) (by simp);rw[LR b];simp only[cS,Nat.add_sub_cancel]at ih⊢;rw[yZ];omega
def U (z:Int):List UInt8:=wi (l5 z.toNat+1) z.toNat
def dC (l:List UInt8):Int:=lB l
theorem ea (l:List UInt8):U (dC l)=l:=by
 unfold U dC;rw[eZ];apply YZ;by_cases h:l.length=0
 ·omega
 ·have h1:=Ts l (by omega);have h2:lB l≠0:=by have:=Tq l;omega
  have h3:=(Nat.le_log2 h2).2 h1;omega
theorem ph (l:List UInt8):0<=dC l:=rN _
theorem abd (k:Nat):∃H:Int,(∀l:List UInt8,l.length<=k->dC l<=H)/\∀z:Int,z<=H->(U z).length<=k:=by
 refine⟨(257^k:Nat)-1,λl h=>?_,λz h=>?_⟩
 ·have h1:=Tr l;have h2:257^l.length<=257^k:=Rm (by decide) h;unfold dC;omega
 ·unfold U;apply Y0;have:=Nat.pow_pos (n:=k) (show 0<257 by decide);omega
def eK:Nat:=140737488351232
theorem Ld:∃H:Int,(∀l:List UInt8,l.length<=eK->dC l<=H)/\∀z:Int,z<=H->(U z).length<=eK:=abd eK
noncomputable def bx:Int:=aao Ld
theorem nR {l:List UInt8} (h:l.length<=eK):dC l<=bx:=(Rn Ld).1 l h
theorem rR {z:Int} (h:z<=bx):(U z).length<=eK:=(Rn Ld).2 z h
theorem gb:0<=bx:=by have:=nR (l:=[]) (by simp);exact this
def qn (l:List UInt8):List UInt8:=cond (bC l.length 1000000) l []
theorem ai9 (l:List UInt8):0<=dC (qn l)/\dC (qn l)<=bx:=by
 refine⟨ph _,nR ?_⟩;unfold qn;cases h:bC l.length 1000000 with
 |true=>have:=eE h;simp only[cond_true];unfold eK;omega
 |false=>simp
def aL (l:List UInt8):ByteArray:=⟨l.toArray⟩
def tg (z:Int):Nat:=if 0<=z then 2*z.toNat else 2*(-z).toNat-1
def wv (n:Nat):Int:=if n% 2=0 then((n/2:Nat):Int)else-(((n+1)/2:Nat):Int)
theorem atL (z:Int):wv (tg z)=z:=by
 unfold tg wv;split
 ·rw[if_pos (by omega)];omega
 ·rw[if_neg (by omega)];omega
def lc:List Nat->Nat
 |[]=>0
 |x::r=>2^x*(2*lc r+1)
def nL:Nat->Nat->Nat
 |0,_=>0
 |f+1,n=>if n% 2=0 then nL f (n/2)+1 else 0
theorem ZC (k:Nat):∀(x f:Nat),x<f->nL f (2^x*(2*k+1))=x
 |0,f+1,_=>by
  unfold nL;rw[if_neg (by rw[Nat.pow_zero,Nat.one_mul];omega)]
 |x+1,f+1,h=>by
  unfold nL;have e:2^(x+1)*(2*k+1)=2*(2^x*(2*k+1)):=by rw[yZ,y0 (2^x) 2,Nat.mul_assoc]
  rw[e,if_pos (by omega),aap _ (by decide),ZC k x f (by omega)]
def ui:Nat->Nat->List Nat
 |0,_=>[]
 |f+1,n=>if n=0 then []else nL n n::ui f (n/2^nL n n/2)
theorem ak7 (x:Nat):x<2^x:=Nat.lt_two_pow_self
theorem O4:∀l:List Nat,l.length<=lc l
 |[]=>aW _
 |x::r=>by
  have ih:=O4 r;unfold lc;have h1:1<=2^x:=aaq;have h2:2*lc r+1<=2^x*(2*lc r+1):=Nat.le_mul_of_pos_left _ h1;rw[cS];omega
theorem O6:∀(l:List Nat) (f:Nat),l.length<=f->ui f (lc l)=l
 |[],0,_=>rfl
 |[],f+1,_=>by simp[ui,lc]
 |x::r,0,h=>by simp at h
 |x::r,f+1,h=>by
  have h1:1<=2^x:=aaq;have h2:2^x<=2^x*(2*lc r+1):=Nat.le_mul_of_pos_right _ (by omega);have h3:=ak7 x;have hz:lc (x::r)≠0:=by
   have hl:lc (x::r)=2^x*(2*lc r+1):=rfl;omega
  have ht:nL (lc (x::r)) (lc (x::r))=x:=by
   show nL (2^x*(2*lc r+1)) (2^x*(2*lc r+1))=x;exact ZC _ _ _ (by omega)
  unfold ui;rw[if_neg hz,ht];have e:lc (x::r)/2^x/2=lc r:=by
   have hl:lc (x::r)=2^x*(2*lc r+1):=rfl;rw[hl,aap _ (by omega)];omega
  rw[e,O6 r f (by simpa using h)]
theorem O3 (X:Nat):∀k:Nat,∃B,∀l:List Nat,l.length<=k->(∀x∈l,x<=X)->lc l<=B
 |0=>⟨0,λl h _=>by
  have:l=[]:=List.length_eq_zero_iff.1 (by omega);subst this;exact aW _⟩
 |k+1=>by
  obtain⟨B,hB⟩:=O3 X k;refine⟨2^X*(2*B+1),λl h hx=>?_⟩;cases l with
  |nil=>exact iI _
  |cons x r=>
   unfold lc;have h1:=hB r (by simpa using h) λy hy=>hx y (cF _ hy);exact Nat.mul_le_mul (Rm (by decide) (hx x (by simp))) (by omega)
def rc (l:List (List Int)):Int:=(lc (l.map λrow=>lc (row.map tg)):Nat)
def ab (z:Int):List (List Int):=(ui z.toNat z.toNat).map λn=>(ui n n).map wv
theorem ald (l:List Int):(l.map tg).map wv=l:=by
 rw[kT]
 conv=>rhs;rw[<-FR l]
 exact gI λz _=>atL z
theorem dv (l:List (List Int)):ab (rc l)=l:=by
 unfold ab rc;rw[eZ,O6 _ _ (O4 _),kT]
 conv=>rhs;rw[<-FR l]
 refine gI λrow _=>?_;simp only[J4,id];rw[O6 _ _ (O4 _),ald]
theorem fe (l:List (List Int)):0<=rc l:=rN _
theorem SG (X:Int) (bL:0<=X):∃H:Int,∀l:List (List Int),l.length<=maxLen->(∀row∈l,row.length<=100/\∀z∈row,-X<=z/\z<=X)->rc l<=H:=by
 obtain⟨B,hB⟩:=O3 (2*X.toNat) 100;obtain⟨C,hC⟩:=O3 B maxLen;refine⟨(C:Nat),λl h hr=>?_⟩;unfold rc;have:=hC (l.map λrow=>lc (row.map tg)) (by simpa using h) λx hx=>by
  obtain⟨row,hrow,rfl⟩:=List.mem_map.1 hx;refine hB _ (by simpa using(hr row hrow).1) λy hy=>?_;obtain⟨z,hz,rfl⟩:=List.mem_map.1 hy;have h1:=(hr row hrow).2 z hz;unfold tg;split<;>omega
 omega
def P7 (row:List Int):Prop:=row.length<=100/\∀z∈row,-(18446744073709551616+bx)<=z/\z<=18446744073709551616+bx
theorem SD:∃H:Int,∀l:List (List Int),l.length<=maxLen->(∀row∈l,P7 row)->rc l<=H:=SG _ (by have:=gb;omega)
noncomputable def rT:Int:=aao SD
theorem SC {l:List (List Int)} (h:l.length<=maxLen) (hr:∀row∈l,P7 row):rc l<=rT:=Rn SD l h hr
theorem CD:0<=rT:=pR (fe []) (SC (l:=[]) (by simp) (by simp))
def P6 (row:List Int):Prop:=row.length<=100/\∀z∈row,-(18446744073709551616+bx+rT)<=z/\z<=18446744073709551616+bx+rT
theorem SF:∃H:Int,∀l:List (List Int),l.length<=maxLen->(∀row∈l,P6 row)->rc l<=H:=SG _ (by have:=gb;have:=CD;omega)
noncomputable def ch:Int:=max (aao SF) rT
theorem oI {l:List (List Int)} (h:l.length<=maxLen) (hr:∀row∈l,P6 row):rc l<=ch:=pR (Rn SF l h hr) (Int.le_max_left _ _)
inductive ay where
 |int (k:di) (lo hi:Int)
 |str
 |bool
 |sub (k:Nat)
 |nil
def mx:Nat->List ay
 |0=>[.int .u8 0 255]
 |2=>[.int .i64 4 4,.int .i64 0 0,.str,.nil,.nil]
 |_=>[.str]
def ay.plain:ay->Bool
 | .sub _=>false
 |_=>true
def iS (sh:List ay):Bool:=sh.all ay.plain
def ay.beq:ay->ay->Bool
 |int k lo hi,int a6 Xo nv=>decide (k=a6)&&decide (lo=Xo)&&decide (hi=nv)
 |str,str=>true
 |bool,bool=>true
 |sub k,sub a6=>aG k a6
 |nil,nil=>true
 |_,_=>false
theorem ay.beq_eq:∀{a b:ay},ay.beq a b=true->a=b
 |int k lo hi,int a6 Xo nv,h=>by
  simp only[ay.beq,aO,decide_eq_true_eq]at h;rw[h.1.1,h.1.2,h.2]
 |str,str,_=>rfl
 |bool,bool,_=>rfl
 |int ..,str,h=>by cases h
 |int ..,bool,h=>by cases h
 |str,int ..,h=>by cases h
 |str,bool,h=>by cases h
 |bool,int ..,h=>by cases h
 |bool,str,h=>by cases h
 |sub _,sub _,h=>by rw[bA h]
 |int ..,sub _,h=>by cases h
 |str,sub _,h=>by cases h
 |bool,sub _,h=>by cases h
 |sub _,int ..,h=>by cases h
 |sub _,str,h=>by cases h
 |sub _,bool,h=>by cases h
 |nil,nil,_=>rfl
 |nil,int ..,h=>by cases h
 |nil,str,h=>by cases h
 |nil,bool,h=>by cases h
 |nil,sub _,h=>by cases h
 |int ..,nil,h=>by cases h
 |str,nil,h=>by cases h
 |bool,nil,h=>by cases h
 |sub _,nil,h=>by cases h
def iU:List ay->List ay->Bool
 |[],[]=>true
 |a::r,b::s=>ay.beq a b&&iU r s
 |_,_=>false
theorem o4:∀{a b:List ay},iU a b=true->a=b
 |[],[],_=>rfl
 |a::r,b::s,h=>by
  simp only[iU,aO]at h;rw[ay.beq_eq h.1,o4 h.2]
 |[],_::_,h=>by cases h
 |_::_,[],h=>by cases h
noncomputable def ay.dS:ay->Int×Int
 |int _ lo hi=>(lo,hi)
 |str=>(0,bx)
 |bool=>(0,1)
 |sub _=>(0,rT)
 |nil=>(0,0)
def ay.val:ay->Int->aA
 |int k _ _,z=> .int k z
 |str,z=> .string (aL (U z))
 |bool,z=> .bool (decide (z=1))
 |sub _,_=> .slice none 0 0
 |nil,_=> .slice none 0 0
def aw:Nat->List Int->Int
 |0,[s]=>(U s).length
 |1,[s,i]=>((U s).getD i.toNat 0).toNat
 |2,[s,a,b]=>dC (((U s).drop a.toNat).take (b.toNat-a.toNat))
 |3,[s,t]=>dC (U s++U t)
 |4,[s,t]=>if U s=U t then 1 else 0
 |5,[s,t]=>if dz (U s) (U t)=true then 1 else 0
 |20,[c]=>(ab c).length
 |21,[c,i,j]=>((ab c).getD i.toNat []).getD j.toNat 0
 |22,[c,a,b]=>rc (((ab c).drop a.toNat).take (b.toNat-a.toNat))
 |23,c::row=>rc (ab c++[row])
 |24,[c,e]=>rc (ab c++ab e)
 |25,c::i::row=>rc ((ab c).set i.toNat row)
 |26,n::row=>rc (e4 n.toNat row)
 |27,[s]=>rc ((U s).map λb=>[(b.toNat:Int)])
 |34,[c,a,b]=>dC ((((ab c).drop a.toNat).take (b.toNat-a.toNat)).map λrow=>kx (row.getD 0 0).toNat)
 |37,[x,y]=>x*2^y.toNat
 |38,[x,y]=>x% y
 |76,[x,y]=>x/y
 |33,[r,a,c]=>if a=c then r else r+a
 |29,[c,i,j,v]=>rc ((ab c).set i.toNat (((ab c).getD i.toNat []).set j.toNat v))
 |42,c::i::j::vs=>rc ((ab c).set i.toNat (((ab c).getD i.toNat []).take j.toNat++vs++((ab c).getD i.toNat []).drop (j.toNat+vs.length)))
 |43,[s,i]=>if kx i.toNat∈U s then 1 else 0
 |61,c::a::k::row=>rc ((ab c).take a.toNat++e4 k.toNat row++(ab c).drop (a.toNat+k.toNat))
 |62,[a,b]=>min a b
 |63,[c,a,s]=>rc ((ab c).take a.toNat++ab s++(ab c).drop (a.toNat+(ab s).length))
 |28,[c]=>dC ((ab c).map λrow=>kx (row.getD 0 0).toNat)
 |_,_=>0
def kD (z:Int):Prop:=∀b∈U z,b<128
def me (a b:Int):Prop:=(ab a).length=(ab b).length/\(ab a).length<=1000000/\(∀row∈ab a,kD (row.getD 0 0))/\(∀row∈ab b,kD (row.getD 2 0))/\∀i j:Nat,i<j->j<(ab a).length->dz (U (((ab a).getD i []).getD 0 0)) (U (((ab a).getD j []).getD 0 0))=true
noncomputable def zH:Nat->List Int->Prop
 |70,[l,c]=>c∣l
 |71,z::_=>(ab z).length<=1000000000
 |72,z::_=>64∣(ab z).length/\(ab z).length<=1000001000
 |73,z::_=>128∣(ab z).length/\(ab z).length<=1000001000
 |74,[i,l]=>0<=i/\i<l
 |78,[x,y,z,c]=>0<=x/\x<=y/\y<=z/\z<=c
 |79,[l,c]=>l<=c
 |75,l=>∀z∈l,(ab z).length<=100000000
 |77,[x]=>0<=x
 |80,[c,a,k]=>0<=a/\0<=k/\a+k<=(ab c).length
 |84,[_,_,d]=>(ab d).length<=100000000
 |85,z::_=>(ab z).length<=1000000/\∀row∈ab z,(ab (row.getD 2 0)).length<=1000000
 |86,z::_=>∀row∈ab z,row.getD 0 0<128
 |87,[a,b,s,_,_,t,_,_]=>me a b/\kD s/\kD t
 |88,a::b::_=>me a b
 |89,[_,_,t,_,_]=>kD t
 |90,l=>∀z∈l,(U z).length<=10000000
 |91,l=>∀z∈l,(U z).length<=2000
 |_,_=>False
def af:Nat->List Int->Prop
 |1,[s,i]=>0<=i/\i<(U s).length
 |2,[s,a,b]=>0<=a/\a<=b/\b<=(U s).length
 |3,[s,t]=>(U s).length+(U t).length<=eK
 |21,[c,i]=>0<=i/\i<(ab c).length
 |30,[i,n]=>0<=i/\i<n
 |31,[c,n]=>n=(ab c).length
 |32,[a,b,n]=>0<=a/\a<=b/\b<=n
 |22,[c,a,b]=>0<=a/\a<=b/\b<=(ab c).length
 |35,[c,a,b]=>(0<=a/\a<=b/\b<=(ab c).length)/\b-a<=140737488351232
 |36,[y]=>0<y
 |39,[x,l,h]=>l<=x/\x<=h
 |40,[a,b]=>0<=a->0<=b
 |41,[s]=>(U s).length<=4294967280
 |44,[w,s]=>U w=[]∨(U s).length<=4294967280
 |23,[c,k]=>(ab c).length+k<=1073741824
 |26,[n]=>0<=n/\n<=1073741824
 |48,r::_=>(ab r).length<=1099511627776
 |50,s::_=>(U s).length<=1073741824
 |49,[l,c]=>0<=l/\l<=c/\c<=1073741824
 |64,[p,q,r,l]=>0<=p/\p<=q/\q<=r/\r<=l/\0<l
 |65,[c,a,k]=>0<=a/\0<k/\a+k<=(ab c).length
 |66,r::_=>(ab r).length<=1000000
 |68,[l,c]=>l<=c∨l=0
 |67,[c,i,k]=>((ab c).getD i.toNat []).length=k.toNat
 |53,[c,l]=>c<0->l=0
 |52,[c,a,b]=>0<=a/\a<b/\b<=(ab c).length/\(ab c).length<=1073741824
 |51,[c,i,r]=>(0<=i/\i<=(ab c).length)/\(ab r).length=1/\(ab c).length+1<=1073741824
 |op,l=>zH op l
abbrev zzS:Type:=Nat->List (List Int)->List (List Int)->Prop
abbrev zzK:Type:=List (List Int)->List (List Int)->Prop
end Go.bg
namespace Go.bg
abbrev Env:=Nat->Int
def cV (ρ:Env) (n:Nat) (z:Int):Env:=λi=>cond (aG i n) z (ρ i)
def bf (ρ:Env):Nat->List Int->Env
 |_,[]=>ρ
 |n,z::zs=>bf (cV ρ n z) (n+1) zs
def agree (n:Nat) (ρ ag:Env):Prop:=∀i,i<n->ag i=ρ i
theorem agree.refl (n:Nat) (ρ:Env):agree n ρ ρ:=λ_ _=>rfl
theorem agree.trans {n n':Nat} {ρ ag pV:Env} (h:agree n ρ ag) (h':agree n' ag pV) (hn:n<=n'):agree n ρ pV:=
 λi hi=>(h' i (by omega)).trans (h i hi)
theorem agree.mono {n n':Nat} {ρ ag:Env} (h:agree n' ρ ag) (hn:n<=n'):agree n ρ ag:=λi hi=>h i (by omega)
theorem jG (ρ:Env) (n:Nat) (z:Int):cV ρ n z n=z:=by simp[cV]
theorem QS (ρ:Env) {n i:Nat} (z:Int) (h:i≠n):cV ρ n z i=ρ i:=by
 unfold cV;cases hb:aG i n with
 |false=>rfl
 |true=>exact absurd (bA hb) h
theorem agree.cV (n:Nat) (ρ:Env) (z:Int):agree n ρ (cV ρ n z):=λi hi=>QS ρ z (by omega)
theorem agree.bf:∀(zs:List Int) (n:Nat) (ρ:Env),agree n ρ (bf ρ n zs)
 |[],n,ρ=>agree.refl n ρ
 |z::zs,n,ρ=>(agree.cV n ρ z).trans (agree.bf zs (n+1) _) (by omega)
structure aa where
 c:Int
 ts:List (Int×Nat)
def gu (ρ:Env):List (Int×Nat)->Int
 |[]=>0
 |(k,i)::r=>k*ρ i+gu ρ r
def aa.den (ρ:Env) (l:aa):Int:=gu ρ l.ts+l.c
def rn (k:Int) (i:Nat):List (Int×Nat)->List (Int×Nat)
 |[]=>[(k,i)]
 |(a6,j)::r=>cond (b6 i j) ((k,i)::(a6,j)::r) (cond (aG i j) (cond (k+a6==0) r ((k+a6,i)::r)) ((a6,j)::rn k i r))
def zo:List (Int×Nat)->List (Int×Nat)->List (Int×Nat)
 |[],l=>l
 |(k,i)::r,l=>rn k i (zo r l)
def wk (m:Int):List (Int×Nat)->List (Int×Nat)
 |[]=>[]
 |(k,i)::r=>(m*k,i)::wk m r
theorem TO (ρ:Env) (k:Int) (i:Nat):∀l,gu ρ (rn k i l)=k*ρ i+gu ρ l
 |[]=>rfl
 |(a6,j)::r=>by
  unfold rn;cases h1:b6 i j with
  |true=>rfl
  |false=>
   cases h2:aG i j with
   |true=>
    have e:i=j:=bA h2;subst e;cases h3:(k+a6==0)with
    |true=>
     have h3:k+a6=0:=by simpa using h3
     simp only[cond_true,cond_false,gu];rw[<-Int.add_assoc,<-Int.add_mul,h3];simp
    |false=>simp only[cond_true,cond_false,gu];rw[Int.add_mul];omega
   |false=>simp only[cond_false,gu,TO ρ k i r];omega
theorem TM (ρ:Env):∀l bV,gu ρ (zo l bV)=gu ρ l+gu ρ bV
 |[],bV=>by simp[zo,gu]
 |(k,i)::r,bV=>by simp only[zo,TO,gu,TM ρ r bV];omega
theorem TP (ρ:Env) (m:Int):∀l,gu ρ (wk m l)=m*gu ρ l
 |[]=>by simp[wk,gu]
 |(k,i)::r=>by simp only[wk,gu,TP ρ m r];rw[Int.mul_add,Int.mul_assoc]
def o3 (n:Nat) (l:List (Int×Nat)):Prop:=∀t∈l,t.2<n
theorem o3.mono {n n':Nat} {l} (h:o3 n l) (hn:n<=n'):o3 n' l:=λt ht=>uQ (h t ht) hn
theorem Y2 {n:Nat} {k:Int} {i:Nat} (hi:i<n):∀{l},o3 n l->o3 n (rn k i l)
 |[],_=>by intro t ht;simp[rn]at ht;subst ht;exact hi
 |(a6,j)::r,h=>by
  have hr:o3 n r:=λt ht=>h t (cF _ ht);have hj:j<n:=h (a6,j) (by simp);have ih:=Y2 (k:=k) hi hr;unfold rn;intro t ht;cases h1:b6 i j<;>cases h2:aG i j<;>cases h3:(k+a6==0)<;>simp only[h1,h2,h3,cond_true,cond_false,kS]at ht<;>
   first
   |(rcases ht with rfl|ht<;>first|exact hi|exact hj|(exact hr t ht)|(exact ih t ht)|(rcases ht with rfl|ht<;>first|exact hj|exact hr t ht))
   |exact hr t ht
theorem Y1 {n:Nat}:∀{l bV},o3 n l->o3 n bV->o3 n (zo l bV)
 |[],_,_,h'=>h'
 |(k,i)::r,_,h,h'=>Y2 (k:=k) (i:=i) (h (k,i) (by simp)) (Y1 (l:=r) (λt ht=>h t (cF _ ht)) h')
theorem Y3 {n:Nat} {m:Int}:∀{l},o3 n l->o3 n (wk m l)
 |[],_=>λt ht=>by simp[wk]at ht
 |(k,i)::r,h=>by
  intro t ht;simp only[wk,kS]at ht;rcases ht with rfl|ht
  ·exact h (k,i) (by simp)
  ·exact Y3 (λt ht=>h t (cF _ ht)) t ht
theorem TN {n:Nat} {ρ ag:Env} (h:agree n ρ ag):∀{l},o3 n l->gu ag l=gu ρ l
 |[],_=>rfl
 |(k,i)::r,hs=>by
  simp only[gu,h i (hs (k,i) (by simp)),TN h (l:=r) (λt ht=>hs t (cF _ ht))]
namespace aa
def const (c:Int):aa:=⟨c,[]⟩
def var (n:Nat):aa:=⟨0,[(1,n)]⟩
def add (a b:aa):aa:=⟨a.c+b.c,zo a.ts b.ts⟩
def smul (m:Int) (a:aa):aa:=cond (m==0) ⟨0,[]⟩ ⟨m*a.c,wk m a.ts⟩
def sub (a b:aa):aa:=a.add (b.smul (-1))
def du (a:aa):Option Int:=match a.ts with|[]=>some a.c|_=>none
def aZ (n:Nat) (a:aa):Prop:=o3 n a.ts
def zy:List (Int×Nat)->List (Int×Nat)->Bool
 |[],[]=>true
 |(k,i)::r,(a6,ya)::r'=>k==a6&&aG i ya&&zy r r'
 |_,_=>false
def beq (a b:aa):Bool:=a.c==b.c&&zy a.ts b.ts
theorem S9:∀{a b},zy a b=true->a=b
 |[],[],_=>rfl
 |(k,i)::r,(a6,ya)::r',h=>by
  simp only[zy,aO,beq_iff_eq]at h;obtain⟨⟨h1,h2⟩,h3⟩:=h;rw[h1,bA h2,S9 h3]
 |[],_::_,h=>by simp[zy]at h
 |_::_,[],h=>by simp[zy]at h
theorem beq_eq {a b:aa} (h:beq a b=true):a=b:=by
 simp only[beq,aO,beq_iff_eq]at h;cases a;cases b;simp only at h;rw[h.1,S9 h.2]
theorem aT (ρ:Env) (c:Int):(const c).den ρ=c:=by simp[const,den,gu]
theorem cp (ρ:Env) (n:Nat):(var n).den ρ=ρ n:=by simp[var,den,gu]
theorem den_add (ρ:Env) (a b:aa):(a.add b).den ρ=a.den ρ+b.den ρ:=by simp only[add,den,TM];omega
theorem kg (ρ:Env) (m:Int) (a:aa):(a.smul m).den ρ=m*a.den ρ:=by
 unfold smul;cases h:(m==0)with
 |true=>have h:m=0:=by simpa using h
        subst h;simp[den,gu]
 |false=>simp only[cond_false,den,TP,Int.mul_add]
theorem lC (ρ:Env) (a b:aa):(a.sub b).den ρ=a.den ρ-b.den ρ:=by simp only[sub,den_add,kg];omega
theorem iO {ρ:Env} {a:aa} {c:Int} (h:a.du=some c):a.den ρ=c:=by
 unfold du at h;cases ha:a.ts with
 |nil=>simp[ha]at h;simp[den,ha,gu,h]
 |cons x r=>simp[ha]at h
theorem cH (n:Nat) (c:Int):(const c).aZ n:=λt ht=>by simp[const]at ht
theorem er {n i:Nat} (h:i<n):(var i).aZ n:=λt ht=>by simp[var]at ht;subst ht;exact h
theorem rE {n:Nat} {a b:aa} (ha:a.aZ n) (hb:b.aZ n):(a.add b).aZ n:=Y1 ha hb
theorem sP {n:Nat} {m:Int} {a:aa} (ha:a.aZ n):(a.smul m).aZ n:=by
 unfold smul;cases(m==0)with
 |true=>exactλt ht=>by simp at ht
 |false=>exact Y3 ha
theorem wj {n:Nat} {a b:aa} (ha:a.aZ n) (hb:b.aZ n):(a.sub b).aZ n:=rE ha (sP hb)
theorem aZ.mono {n n':Nat} {a:aa} (h:a.aZ n) (hn:n<=n'):a.aZ n':=o3.mono h hn
theorem bG {n:Nat} {ρ ag:Env} (h:agree n ρ ag) {a:aa} (ha:a.aZ n):a.den ag=a.den ρ:=by simp only[den,TN h ha]
end aa
structure bK where
 l:aa
 lo:Int
 hi:Int
def bK.ok (n:Nat) (ρ:Env) (x:bK):Prop:=x.l.aZ n/\x.lo<=x.l.den ρ/\x.l.den ρ<=x.hi
theorem bK.ok.agree {n n':Nat} {ρ ag:Env} {x:bK} (h:x.ok n ρ) (ha:agree n ρ ag) (hn:n<=n'):x.ok n' ag:=
 ⟨h.1.mono hn,by rw[aa.bG ha h.1];exact h.2.1,by rw[aa.bG ha h.1];exact h.2.2⟩
def bK.const (c:Int):bK:=⟨.const c,c,c⟩
theorem bK.np (n:Nat) (ρ:Env) (c:Int):(bK.const c).ok n ρ:=⟨aa.cH n c,by simp[bK.const,aa.aT],by simp[bK.const,aa.aT]⟩
inductive bh where
 |lit (b:Bool)
 |eq (a b:aa)
 |lt (a b:aa)
 |le (a b:aa)
 |not (a:bh)
 |and (a b:bh)
 |iff (a b:bh)
namespace bh
def den (ρ:Env):bh->Bool
 |lit b=>b
 |eq a b=>decide (a.den ρ=b.den ρ)
 |lt a b=>decide (a.den ρ<b.den ρ)
 |le a b=>decide (a.den ρ<=b.den ρ)
 |not a=> !a.den ρ
 |and a b=>a.den ρ&&b.den ρ
 |iff a b=>a.den ρ==b.den ρ
def aZ (n:Nat):bh->Prop
 |lit _=>True
 |eq a b|lt a b|le a b=>a.aZ n/\b.aZ n
 |not a=>a.aZ n
 |and a b=>a.aZ n/\b.aZ n
 |iff a b=>a.aZ n/\b.aZ n
theorem aZ.mono {n n':Nat} (hn:n<=n'):∀{b:bh},b.aZ n->b.aZ n'
 |lit _,_=>trivial
 |eq _ _,h|lt _ _,h|le _ _,h=>⟨h.1.mono hn,h.2.mono hn⟩
 |not a,h=>aZ.mono (b:=a) hn h
 |and a b,h=>⟨aZ.mono (b:=a) hn h.1,aZ.mono (b:=b) hn h.2⟩
 |iff a b,h=>⟨aZ.mono (b:=a) hn h.1,aZ.mono (b:=b) hn h.2⟩
theorem bG {n:Nat} {ρ ag:Env} (ha:agree n ρ ag):∀{b:bh},b.aZ n->b.den ag=b.den ρ
 |lit _,_=>rfl
 |eq _ _,h|lt _ _,h|le _ _,h=>by simp only[den,aa.bG ha h.1,aa.bG ha h.2]
 |not a,h=>by simp only[den,bG (b:=a) ha h]
 |and a b,h=>by simp only[den,bG (b:=a) ha h.1,bG (b:=b) ha h.2]
 |iff a b,h=>by simp only[den,bG (b:=a) ha h.1,bG (b:=b) ha h.2]
def beq:bh->bh->Bool
 |lit a,lit b=>a==b
 |eq a b,eq c d|lt a b,lt c d|le a b,le c d=>aa.beq a c&&aa.beq b d
 |not a,not b=>beq a b
 |and a b,and c d|iff a b,iff c d=>beq a c&&beq b d
 |_,_=>false
theorem beq_eq:∀{a b:bh},beq a b=true->a=b
 |lit a,b,h=>by cases b<;>simp[beq]at h;rw[h]
 |eq a b,c,h=>by cases c<;>simp[beq]at h;rw[aa.beq_eq h.1,aa.beq_eq h.2]
 |lt a b,c,h=>by cases c<;>simp[beq]at h;rw[aa.beq_eq h.1,aa.beq_eq h.2]
 |le a b,c,h=>by cases c<;>simp[beq]at h;rw[aa.beq_eq h.1,aa.beq_eq h.2]
 |not a,c,h=>by cases c<;>simp[beq]at h;rw[beq_eq h]
 |and a b,c,h=>by cases c<;>simp[beq]at h;rw[beq_eq h.1,beq_eq h.2]
 |iff a b,c,h=>by cases c<;>simp[beq]at h;rw[beq_eq h.1,beq_eq h.2]
def mkNot:bh->bh
 |lit b=>lit (!b)
 |not a=>a
 |a=>not a
def mkAnd:bh->bh->bh
 |lit true,b=>b
 |lit false,_=>lit false
 |a,lit true=>a
 |a,lit false=>cond true (lit false) a
 |a,b=>and a b
def mkIff (a b:bh):bh:=
 match a with
 |lit true=>b
 |lit false=>mkNot b
 |_=>match b with
  |lit true=>a
  |lit false=>mkNot a
  |_=>cond (beq a b) (lit true) (iff a b)
theorem tC (ρ:Env) (a:bh):(mkNot a).den ρ= !a.den ρ:=by cases a<;>simp[mkNot,den]
theorem uA {n:Nat} {a:bh} (h:a.aZ n):(mkNot a).aZ n:=by cases a<;>exact h
theorem TQ (ρ:Env) (a b:bh):(mkAnd a b).den ρ=(a.den ρ&&b.den ρ):=by
 unfold mkAnd;split<;>simp[den]
theorem Y4 {n:Nat} {a b:bh} (ha:a.aZ n) (hb:b.aZ n):(mkAnd a b).aZ n:=by
 unfold mkAnd;split<;>first|exact hb|exact ha|trivial|exact⟨ha,hb⟩
theorem TR (ρ:Env) (a b:bh):(mkIff a b).den ρ=(a.den ρ==b.den ρ):=by
 unfold mkIff;split
 ·simp[den]
 ·rw[tC];simp[den]
 ·split
  ·simp[den]
  ·rw[tC];simp[den]
  ·cases h:beq a b with
   |true=>have:=beq_eq h;subst this;simp[den]
   |false=>rfl
theorem Y5 {n:Nat} {a b:bh} (ha:a.aZ n) (hb:b.aZ n):(mkIff a b).aZ n:=by
 unfold mkIff;split
 ·exact hb
 ·exact uA hb
 ·split
  ·exact ha
  ·exact uA ha
  ·cases beq a b with
   |true=>trivial
   |false=>exact⟨ha,hb⟩
def zS (d:aa) (f:Int->Bool) (e:bh):bh:=match d.du with|some c=>lit (f c)|none=>e
def mkLt (a b:bK):bh:=cond (decide (a.hi<b.lo)) (lit true) (cond (decide (b.hi<=a.lo)) (lit false) (zS (a.l.sub b.l) (λc=>decide (c<0)) (lt a.l b.l)))
def mkLe (a b:bK):bh:=cond (decide (a.hi<=b.lo)) (lit true) (cond (decide (b.hi<a.lo)) (lit false) (zS (a.l.sub b.l) (λc=>decide (c<=0)) (le a.l b.l)))
def mkEq (a b:bK):bh:=cond (decide (a.hi<b.lo)) (lit false) (cond (decide (b.hi<a.lo)) (lit false) (cond (a.lo==a.hi&&b.lo==b.hi&&a.lo==b.lo) (lit true) (cond (aa.beq a.l b.l) (lit true) (zS (a.l.sub b.l) (λc=>decide (c=0)) (eq a.l b.l)))))
theorem Mc {n:Nat} {ρ:Env} {d:aa} {f:Int->Bool} {e:bh} (h:e.den ρ=f (d.den ρ)) (hs:e.aZ n):(zS d f e).den ρ=e.den ρ/\(zS d f e).aZ n:=by
 unfold zS;split
 ·rename_i c hc;exact⟨by rw[h,aa.iO hc];rfl,trivial⟩
 ·exact⟨rfl,hs⟩
theorem Md {n:Nat} {ρ:Env} {a b:bK} (ha:a.ok n ρ) (hb:b.ok n ρ):(mkLt a b).den ρ=decide (a.l.den ρ<b.l.den ρ)/\(mkLt a b).aZ n:=by
 have h1:=ha.2;have h2:=hb.2
 unfold mkLt;by_cases c1:a.hi<b.lo
 ·simp only[decide_eq_true c1,cond_true,den,aZ,and_true];symm;simp;omega
 ·by_cases c2:b.hi<=a.lo
  ·simp only[decide_eq_false c1,decide_eq_true c2,cond_true,cond_false,den,aZ,and_true];symm;simp;omega
  ·simp only[decide_eq_false c1,decide_eq_false c2,cond_false];have:=Mc (n:=n) (ρ:=ρ) (d:=a.l.sub b.l) (f:=λc=>decide (c<0)) (e:=lt a.l b.l) (by simp only[den,aa.lC];congr 1;simp;omega) ⟨ha.1,hb.1⟩;exact⟨this.1,this.2⟩
theorem TS {n:Nat} {ρ:Env} {a b:bK} (ha:a.ok n ρ) (hb:b.ok n ρ):(mkLe a b).den ρ=decide (a.l.den ρ<=b.l.den ρ)/\(mkLe a b).aZ n:=by
 have h1:=ha.2;have h2:=hb.2
 unfold mkLe;by_cases c1:a.hi<=b.lo
 ·simp only[decide_eq_true c1,cond_true,den,aZ,and_true];symm;simp;omega
 ·by_cases c2:b.hi<a.lo
  ·simp only[decide_eq_false c1,decide_eq_true c2,cond_true,cond_false,den,aZ,and_true];symm;simp;omega
  ·simp only[decide_eq_false c1,decide_eq_false c2,cond_false];have:=Mc (n:=n) (ρ:=ρ) (d:=a.l.sub b.l) (f:=λc=>decide (c<=0)) (e:=le a.l b.l) (by simp only[den,aa.lC];congr 1;simp;omega) ⟨ha.1,hb.1⟩;exact⟨this.1,this.2⟩
theorem tB {n:Nat} {ρ:Env} {a b:bK} (ha:a.ok n ρ) (hb:b.ok n ρ):(mkEq a b).den ρ=decide (a.l.den ρ=b.l.den ρ)/\(mkEq a b).aZ n:=by
 have h1:=ha.2;have h2:=hb.2
 unfold mkEq;by_cases c1:a.hi<b.lo
 ·simp only[decide_eq_true c1,cond_true,den,aZ,and_true];symm;simp;omega
 ·by_cases c2:b.hi<a.lo
  ·simp only[decide_eq_false c1,decide_eq_true c2,cond_true,cond_false,den,aZ,and_true];symm;simp;omega
  ·cases c3:(a.lo==a.hi&&b.lo==b.hi&&a.lo==b.lo)with
   |true=>
    simp only[aO,beq_iff_eq]at c3;simp only[decide_eq_false c1,decide_eq_false c2,cond_false,cond_true,den,aZ,and_true];symm;simp;omega
   |false=>
    cases c4:aa.beq a.l b.l with
    |true=>simp only[decide_eq_false c1,decide_eq_false c2,cond_false,cond_true,den,aZ,and_true,aa.beq_eq c4];simp
    |false=>
     simp only[decide_eq_false c1,decide_eq_false c2,cond_false];have:=Mc (n:=n) (ρ:=ρ) (d:=a.l.sub b.l) (f:=λc=>decide (c=0)) (e:=eq a.l b.l) (by simp only[den,aa.lC];congr 1;simp;omega) ⟨ha.1,hb.1⟩;exact⟨this.1,this.2⟩
end bh
end Go.bg
namespace Go.bg
inductive A where
 |int (k:di) (x:bK)
 |bool (b:bh)
 |ptr (b off:Nat)
 |oj (b off:Nat) (bj:bK)
 |gptr (g off:Nat)
 |zW (g off:Nat) (bj:bK)
 |slc (b off len cap:Nat)
 |con (v:aA)
 |str (l:aa)
 |rows (sh:List ay) (off code cap:aa) (kind:Nat)
 |sl (b aM:Nat) (o ro len cap:aa)
 |ep (b aM:Nat) (o i:aa) (j:Nat)
inductive W where
 |one (a:A)
 |agg (l:List A)
inductive V where
 |w (x:W)
 |eX (l:List W)
 |any
 |oY (b len lo:Nat)
 |mK (f:Nat) (gY:List A)
def cC (op:BinOp) (k:di) (x y:Int):Int:=
 match op with
 | .and=>k.wrap (pa k.bits x&&&pa k.bits y).toNat
 | .or=>k.wrap (pa k.bits x|||pa k.bits y).toNat
 | .xor=>k.wrap (pa k.bits x^^^pa k.bits y).toNat
 | .andNot=>k.wrap (pa k.bits x&&&~~~(pa k.bits y)).toNat
 |_=>0
inductive T where
 |stuck
 |leaf (v:V)
 |div (n:Nat) (x:aa) (d lo hi:Int) (r:T)
 |mul (n:Nat) (x y:aa) (lo hi:Int) (r:T)
 |bit (n:Nat) (op:BinOp) (k:di) (x y:aa) (r:T)
 |shr (n:Nat) (x y:aa) (lo hi:Int) (r:T)
 |Jz (n:Nat) (cs:List aa) (bj:aa) (lo hi:Int) (r:T)
 |tv (b:bh) (t e:T)
 |call (id:Nat) (args:List aa) (n:Nat) (bds:List (Int×Int)) (r:T)
 |loop (iR:Nat) (init:List aa) (n:Nat) (bds:List (Int×Int)) (r:T)
 |again (iR:Nat) (vals:List aa)
 |both (a b:T)
 |fn (n:Nat) (op:Nat) (args:List aa) (lo hi:Int) (r:T)
 |oN (op:Nat) (args:List aa) (r:T)
 |sU (n:Nat) (lo hi:Int) (r:T)
 |nat (n:Nat) (r:T)
 |vf (op:Nat) (args:List aa) (r:T)
 |ind (n:Nat) (b:bh) (r:T)
def oJ:List (Int×Int)->(List Int->Prop)->Prop
 |[],P=>P []
 |(l,h)::b,P=>∀r:Int,l<=r->r<=h->oJ b (λrs=>P (r::rs))
def bd:List (Int×Int)->List Int->Prop
 |[],[]=>True
 |(l,h)::b,r::rs=>l<=r/\r<=h/\bd b rs
 |_,_=>False
theorem kC:∀{b:List (Int×Int)} {P:List Int->Prop} {rs:List Int},oJ b P->bd b rs->P rs
 |[],_,[],h,_=>h
 |(l,u)::b,P,r::rs,h,hi=>kC (b:=b) (P:=λrs=>P (r::rs)) (h r hi.1 hi.2.1) hi.2.2
 |[],_,_::_,_,hi=>hi.elim
 |(_,_)::_,_,[],_,hi=>hi.elim
abbrev df:=Nat->List Int->Prop
def df.set (A:df) (iR:Nat) (p:List Int->Prop):df:=λi=>cond (aG i iR) p (A i)
def T.holds (S:Nat->List Int->List Int->Prop) (L:V->Env->Prop):T->df->Env->Prop
 |stuck,_,_=>False
 |leaf v,_,ρ=>L v ρ
 |div n x d lo hi r,A,ρ=>∀q:Int,lo<=q->q<=hi->0<=x.den ρ-d*q->x.den ρ-d*q<d->r.holds S L A (cV ρ n q)
 |mul n x y lo hi r,A,ρ=>∀p:Int,lo<=p->p<=hi->p=x.den ρ*y.den ρ->r.holds S L A (cV ρ n p)
 |bit n op k x y r,A,ρ=>∀z:Int,0<=z->z<=k.max->z=cC op k (x.den ρ) (y.den ρ)->r.holds S L A (cV ρ n z)
 |shr n x y lo hi r,A,ρ=>∀z:Int,lo<=z->z<=hi->z=x.den ρ/2^(y.den ρ).toNat->r.holds S L A (cV ρ n z)
 |Jz n cs bj lo hi r,A,ρ=>∀z:Int,lo<=z->z<=hi->z=(cs.map (·.den ρ)).getD (bj.den ρ).toNat 0->r.holds S L A (cV ρ n z)
 |tv b t e,A,ρ=>(b.den ρ=true->t.holds S L A ρ)/\(b.den ρ=false->e.holds S L A ρ)
 |call id args n bds r,A,ρ=>oJ bds λrs=>S id (args.map (·.den ρ)) rs->r.holds S L A (bf ρ n rs)
 |loop iR init n bds r,A,ρ=>∃(I:List Int->Prop) (j9:List Int->Nat),I (init.map (·.den ρ))/\
  oJ bds λzs=>I zs->r.holds S L (A.set iR λvs=>I vs/\j9 vs<j9 zs) (bf ρ n zs)
 |again iR vals,A,ρ=>A iR (vals.map (·.den ρ))
 |both a b,A,ρ=>a.holds S L A ρ/\b.holds S L A ρ
 |fn n op args lo hi r,A,ρ=>∀z:Int,lo<=z->z<=hi->z=aw op (args.map (·.den ρ))->r.holds S L A (cV ρ n z)
 |oN op args r,A,ρ=>af op (args.map (·.den ρ))/\r.holds S L A ρ
 |sU n lo hi r,A,ρ=>∀z:Int,lo<=z->z<=hi->r.holds S L A (cV ρ n z)
 |nat n r,A,ρ=>∀z:Int,0<=z->r.holds S L A (cV ρ n z)
 |vf op args r,A,ρ=>af op (args.map (·.den ρ))->r.holds S L A ρ
 |ind n b r,A,ρ=>∀z:Int,0<=z->z<=1->b.den ρ=decide (z=1)->r.holds S L A (cV ρ n z)
abbrev M (α:Type):=Nat->(α->Nat->T)->T
namespace M
variable {α β:Type}
def pure (a:α):M α:=λn k=>k a n
def bind (x:M α) (f:α->M β):M β:=λn k=>x n λa n'=>f a n' k
def fail:M α:=λ_ _=> .stuck
def ar (S:Nat->List Int->List Int->Prop) (L:V->Env->Prop) (x:M α) (n:Nat) (ρ:Env) (R:Env->Nat->α->Prop):Prop:=
 ∀A k,(x n k).holds S L A ρ->∃ag n' a,n<=n'/\agree n ρ ag/\R ag n' a/\(k a n').holds S L A ag
variable {S:Nat->List Int->List Int->Prop} {L:V->Env->Prop} {n:Nat} {ρ:Env}
theorem ar.pure {a:α} {R:Env->Nat->α->Prop} (h:R ρ n a):ar S L (M.pure a) n ρ R:=
 λ_ _ hk=>⟨ρ,n,a,aW _,agree.refl _ _,h,hk⟩
theorem ar.fail {R:Env->Nat->α->Prop}:ar S L (M.fail:M α) n ρ R:=λ_ _ hk=>hk.elim
theorem ar.bind {x:M α} {f:α->M β} {R:Env->Nat->α->Prop} {R':Env->Nat->β->Prop} (hx:ar S L x n ρ R)
 (hf:∀ag n' a,n<=n'->agree n ρ ag->R ag n' a->ar S L (f a) n' ag R'):ar S L (M.bind x f) n ρ R':=by
 intro A k hk;obtain⟨ag,n',a,hn,ha,hR,iu⟩:=hx A _ hk;obtain⟨pV,Bv,b,mj,fu,nX,ag8⟩:=hf ag n' a hn ha hR A k iu;exact⟨pV,Bv,b,gk hn mj,ha.trans fu hn,nX,ag8⟩
theorem ar.mono {x:M α} {R R':Env->Nat->α->Prop} (hx:ar S L x n ρ R) (h:∀ag n' a,n<=n'->agree n ρ ag->R ag n' a->R' ag n' a):ar S L x n ρ R':=by
 intro A k hk;obtain⟨ag,n',a,hn,ha,hR,iu⟩:=hx A k hk;exact⟨ag,n',a,hn,ha,h _ _ _ hn ha hR,iu⟩
end M
open M
section
variable {S:Nat->List Int->List Int->Prop} {L:V->Env->Prop} {n:Nat} {ρ:Env}
def wZ:List aa->Option (List Int)
 |[]=>some []
 |l::r=>match l.du,wZ r with|some c,some s=>some (c::s)|_,_=>none
theorem Lv {ρ:Env}:∀{l:List aa} {cs:List Int},wZ l=some cs->l.map (·.den ρ)=cs
 |[],cs,h=>by simp[wZ]at h;subst h;rfl
 |l::r,cs,h=>by
  simp only[wZ]at h;cases h1:l.du with
  |none=>simp[h1]at h
  |some c=>
   cases h2:wZ r with
   |none=>simp[h1,h2]at h
   |some s=>
    simp only[h1,h2,aK]at h;subst h;simp only[ct,aa.iO h1,Lv h2]
def eB (op:Nat) (args:List aa) (lo hi:Int):M aa:=λn k=>match bC op 5,wZ args with
 |true,some cs=>k (.const (aw op cs)) n
 |_,_=> .fn n op args lo hi (k (.var n) (n+1))
def G7:Nat->List Int->Bool
 |1,[s,i]=>decide (0<=i)&&decide (i<(U s).length)
 |2,[s,a,b]=>decide (0<=a)&&decide (a<=b)&&decide (b<=(U s).length)
 |3,[s,t]=>bC ((U s).length+(U t).length) 1000000
 |30,[i,n]=>decide (0<=i)&&decide (i<n)
 |32,[a,b,n]=>decide (0<=a)&&decide (a<=b)&&decide (b<=n)
 |39,[x,l,h]=>decide (l<=x)&&decide (x<=h)
 |_,_=>false
theorem ac6 {op:Nat} {cs:List Int} (h:G7 op cs=true):af op cs:=by
 unfold G7 at h;split at h
 ·simp only[aO,decide_eq_true_eq]at h;exact h
 ·simp only[aO,decide_eq_true_eq]at h;exact⟨h.1.1,h.1.2,h.2⟩
 ·have h:=eE h;show _<=eK;unfold eK;omega
 ·simp only[aO,decide_eq_true_eq]at h;exact h
 ·simp only[aO,decide_eq_true_eq]at h;exact⟨h.1.1,h.1.2,h.2⟩
 ·simp only[aO,decide_eq_true_eq]at h;exact h
 ·cases h
def fj (op:Nat) (args:List aa):M Unit:=λn k=>match wZ args with
 |some cs=>cond (G7 op cs) (k () n) (.oN op args (k () n))
 |none=> .oN op args (k () n)
theorem gf {op:Nat} {args:List aa} {lo hi:Int} (h1:lo<=aw op (args.map (·.den ρ))) (h2:aw op (args.map (·.den ρ))<=hi):
 ar S L (eB op args lo hi) n ρ λag n' l=>l.aZ n'/\l.den ag=aw op (args.map (·.den ρ)):=by
 intro A k hk;unfold eB at hk;split at hk
 ·rename_i cs _ hcs;exact⟨_,n,_,aW _,agree.refl _ _,⟨aa.cH _ _,by rw[aa.aT,Lv hcs]⟩,hk⟩
 ·exact⟨_,n+1,_,kB _,agree.cV _ _ _,⟨aa.er (rP n),by simp[aa.cp,jG]⟩,hk _ h1 h2 rfl⟩
theorem gD {op:Nat} {args:List aa} {α:Type} {x:M α} {R:Env->Nat->α->Prop} (h:af op (args.map (·.den ρ))->ar S L x n ρ R):ar S L (bind (fj op args) λ_=>x) n ρ R:=by
 intro A k hk;unfold M.bind fj at hk;split at hk
 ·rename_i cs hcs;cases hb:G7 op cs with
  |true=>
   rw[hb]at hk;exact h (by rw[Lv hcs];exact ac6 hb) A k hk
  |false=>
   rw[hb]at hk;exact h hk.1 A k hk.2
 ·exact h hk.1 A k hk.2
def r4 (x:bK) (d:Int):M bK:=λn k=>
 cond (d==1) (k x n) <| cond (x.lo/d==x.hi/d) (k (.const (x.lo/d)) n) (.div n x.l d (x.lo/d) (x.hi/d) (k ⟨.var n,x.lo/d,x.hi/d⟩ (n+1)))
theorem C4 {x:bK} {d:Int} (hd:0<d) (hx:x.ok n ρ):ar S L (r4 x d) n ρ λag n' q=>q.ok n' ag/\q.l.den ag=x.l.den ρ/d/\(q.lo=x.lo/d/\q.hi=x.hi/d):=by
 intro A k hk;have h1:=auI hd hx.2.1;have h2:=auI hd hx.2.2;unfold r4 at hk;cases ML:(d==1)with
 |true=>
  have e:d=1:=by simpa using ML
  subst e;simp only[ML,cond_true]at hk;exact⟨ρ,n,x,aW _,agree.refl _ _,⟨hx,by simp,by simp,by simp⟩,hk⟩
 |false=>
 simp only[ML,cond_false]at hk;cases hc:(x.lo/d==x.hi/d)with
 |true=>
  simp only[hc,cond_true]at hk;have hc:x.lo/d=x.hi/d:=by simpa using hc
  exact⟨ρ,n,_,aW _,agree.refl _ _,⟨bK.np _ _ _,by simp only[bK.const,aa.aT];omega,rfl,hc⟩,hk⟩
 |false=>
  simp only[hc,cond_false,T.holds]at hk;have hm:=aaA (x.l.den ρ) (show d≠0 by omega);have tX:=aaB (x.l.den ρ) hd;have he:=aaC (x.l.den ρ) d;refine⟨_,n+1,_,kB _,agree.cV _ _ _,⟨⟨aa.er (rP n),?_,?_⟩,?_,rfl,rfl⟩,hk (x.l.den ρ/d) h1 h2 (by omega) (by omega)⟩<;>
   simp only[aa.cp,jG]<;>omega
def XF (x:bK) (d:Int):M bK:=
 bind (r4 x d) λq=>pure ⟨x.l.sub (q.l.smul d),cond (q.lo==q.hi) (x.lo-d*q.lo) 0,cond (q.lo==q.hi) (x.hi-d*q.lo) (d-1)⟩
theorem alp {x:bK} {d:Int} (hd:0<d) (hx:x.ok n ρ):ar S L (XF x d) n ρ λag n' q=>q.ok n' ag/\q.l.den ag=x.l.den ρ% d:=by
 refine(C4 hd hx).bind λag n' q hn ha ⟨hq,he,pz,awK⟩=>ar.pure ?_;have jj:=hx.agree ha hn;have hm:=aaA (x.l.den ρ) (show d≠0 by omega);have tX:=aaB (x.l.den ρ) hd;have awI:=aaC (x.l.den ρ) d;have qZ:(x.l.sub (q.l.smul d)).den ag=x.l.den ρ% d:=by
  rw[aa.lC,aa.kg,aa.bG ha hx.1,he];omega
 refine⟨⟨aa.wj jj.1 (aa.sP hq.1),?_,?_⟩,qZ⟩
 ·cases hc:(q.lo==q.hi)with
  |true=>
   have hc:q.lo=q.hi:=by simpa using hc
   have:q.l.den ag=q.lo:=by have:=hq.2;omega
   simp only[cond_true,aa.lC,aa.kg,this];have:=jj.2.1;omega
  |false=>simp only[cond_false,qZ];omega
 ·cases hc:(q.lo==q.hi)with
  |true=>
   have hc:q.lo=q.hi:=by simpa using hc
   have:q.l.den ag=q.lo:=by have:=hq.2;omega
   simp only[cond_true,aa.lC,aa.kg,this];have:=jj.2.2;omega
  |false=>simp only[cond_false,qZ];omega
def two (k:di):Int:=match k with| .i8| .u8=>256| .i16| .u16=>65536| .i32| .u32=>4294967296| .i64| .u64=>18446744073709551616
theorem uD (k:di):two k=(2:Int)^k.bits:=by cases k<;>rfl
def half (k:di):Int:=cond k.signed (two k/2) 0
theorem JR (k:di) (x:Int):k.wrap x=(x+half k)% two k-half k:=by
 cases k<;>simp only[auJ,F4,aaD,half,two,cond_true,cond_false,wD,Bool.false_and]<;>
  simp<;>(try split)<;>omega
def uI (k:di) (x:bK):M bK:=
 cond (decide (-half k<=x.lo)&&decide (x.hi<two k-half k)) (pure x)
  (bind (XF ⟨x.l.add (.const (half k)),x.lo+half k,x.hi+half k⟩ (two k)) λr=>pure ⟨r.l.add (.const (-half k)),r.lo-half k,r.hi-half k⟩)
theorem yQ {k:di} {x:bK} (hx:x.ok n ρ):ar S L (uI k x) n ρ λag n' q=>q.ok n' ag/\q.l.den ag=k.wrap (x.l.den ρ):=by
 have ht:0<two k:=by cases k<;>decide
 unfold uI;cases hc:(decide (-half k<=x.lo)&&decide (x.hi<two k-half k))with
 |true=>
  simp only[aO,decide_eq_true_eq]at hc;refine ar.pure ⟨hx,?_⟩;have h1:=hx.2;rw[JR,wG (by omega) (by omega)];omega
 |false=>
  refine(alp (x:=⟨x.l.add (.const (half k)),x.lo+half k,x.hi+half k⟩) ht ⟨aa.rE hx.1 (aa.cH _ _),?_,?_⟩).bind λag n' r hn ha ⟨hr,he⟩=>ar.pure ?_
  ·rw[aa.den_add,aa.aT];have:=hx.2.1;simp only;omega
  ·rw[aa.den_add,aa.aT];have:=hx.2.2;simp only;omega
  ·have e:(r.l.add (.const (-half k))).den ag=k.wrap (x.l.den ρ):=by
    rw[aa.den_add,aa.aT,he,aa.den_add,aa.aT,JR];omega
   refine⟨⟨aa.rE hr.1 (aa.cH _ _),?_,?_⟩,e⟩<;>simp only[aa.den_add,aa.aT]<;>have:=hr.2<;>omega
def mulM (x y:bK):M bK:=λn k=>
 match x.l.du,y.l.du with
 |some c,_=>cond (decide (0<=c)) (k ⟨y.l.smul c,c*y.lo,c*y.hi⟩ n) .stuck
 |none,some c=>cond (decide (0<=c)) (k ⟨x.l.smul c,c*x.lo,c*x.hi⟩ n) .stuck
 |none,none=>cond (decide (0<=x.lo)&&decide (0<=y.lo)) (.mul n x.l y.l (x.lo*y.lo) (x.hi*y.hi) (k ⟨.var n,x.lo*y.lo,x.hi*y.hi⟩ (n+1))) .stuck
theorem XH {x y:bK} (hx:x.ok n ρ) (hy:y.ok n ρ):ar S L (mulM x y) n ρ λag n' q=>q.ok n' ag/\q.l.den ag=x.l.den ρ*y.l.den ρ:=by
 intro A k hk;unfold mulM at hk;cases h1:x.l.du with
 |some c=>
  simp only[h1]at hk;by_cases hc:0<=c
  ·simp only[decide_eq_true hc,cond_true]at hk;refine⟨ρ,n,_,aW _,agree.refl _ _,⟨⟨aa.sP hy.1,?_,?_⟩,?_⟩,hk⟩
   ·simp only[aa.kg];exact y6 hy.2.1 hc
   ·simp only[aa.kg];exact y6 hy.2.2 hc
   ·simp only[aa.kg,aa.iO h1]
  ·simp only[decide_eq_false hc,cond_false,T.holds]at hk
 |none=>
  cases h2:y.l.du with
  |some c=>
   simp only[h1,h2]at hk;by_cases hc:0<=c
   ·simp only[decide_eq_true hc,cond_true]at hk;refine⟨ρ,n,_,aW _,agree.refl _ _,⟨⟨aa.sP hx.1,?_,?_⟩,?_⟩,hk⟩
    ·simp only[aa.kg];exact y6 hx.2.1 hc
    ·simp only[aa.kg];exact y6 hx.2.2 hc
    ·simp only[aa.kg,aa.iO h2];exact wH _ _
   ·simp only[decide_eq_false hc,cond_false,T.holds]at hk
  |none=>
   simp only[h1,h2]at hk;cases hc:(decide (0<=x.lo)&&decide (0<=y.lo))with
   |false=>simp only[hc,cond_false,T.holds]at hk
   |true=>
    simp only[hc,cond_true,T.holds]at hk;simp only[aO,decide_eq_true_eq]at hc;have a1:x.lo*y.lo<=x.l.den ρ*y.l.den ρ:=aaE hx.2.1 hy.2.1 hc.2 (by have:=hx.2.1;omega);have a2:x.l.den ρ*y.l.den ρ<=x.hi*y.hi:=aaE hx.2.2 hy.2.2 (by have:=hy.2.1;omega) (by have:=hx.2;omega);refine⟨_,n+1,_,kB _,agree.cV _ _ _,⟨⟨aa.er (rP n),?_,?_⟩,?_⟩,hk _ a1 a2 rfl⟩<;>simp only[aa.cp,jG]<;>assumption
def zz (op:BinOp) (k:di) (x y:bK):M bK:=λn c=>
 cond k.signed .stuck (.bit n op k x.l y.l (c ⟨.var n,0,k.max⟩ (n+1)))
theorem aub {k:di} (hk:k.signed=false) (x:Int):0<=k.wrap x/\k.wrap x<=k.max:=by
 cases k<;>simp[F4]at hk<;>simp[auJ,F4,aaD,hT]<;>omega
theorem acs {k:di} (hk:k.signed=false) (op:BinOp) (x y:Int):0<=cC op k x y/\cC op k x y<=k.max:=by
 unfold cC;split
 iterate 4 exact aub hk _
 cases k<;>simp[F4]at hk<;>simp[hT,F4,aaD]
theorem GS {op:BinOp} {k:di} {x y:bK}:ar S L (zz op k x y) n ρ λag n' q=>q.ok n' ag/\q.l.den ag=cC op k (x.l.den ρ) (y.l.den ρ):=by
 intro A c hk;unfold zz at hk;cases hs:k.signed with
 |true=>simp only[hs,cond_true,T.holds]at hk
 |false=>
  simp only[hs,cond_false,T.holds]at hk;have hb:=acs hs op (x.l.den ρ) (y.l.den ρ);refine⟨_,n+1,_,kB _,agree.cV _ _ _,⟨⟨aa.er (rP n),?_,?_⟩,?_⟩,hk _ hb.1 hb.2 rfl⟩<;>simp only[aa.cp,jG]<;>first|exact hb.1|exact hb.2
def IJ (c:Int):Option (Int×Int):=
 match c with
 | .ofNat 0=>none
 | .ofNat c=>
  let b:=2^(l5 c+1);let a:=b-c
  cond (aG (2^l5 a) a) (some (a,b)) none
 |_=>none
theorem bv_and {w:Nat} (x y:Int):((pa w x&&&pa w y).toNat:Int)=(((x% 2^w).toNat&&&(y% 2^w).toNat:Nat):Int):=by
 rw[BitVec.toNat_and,Kc,Kc]
 congr
theorem acF {w:Nat} (x y:Int):((pa w x|||pa w y).toNat:Int)=(((x% 2^w).toNat|||(y% 2^w).toNat:Nat):Int):=by
 rw[BitVec.toNat_or,Kc,Kc]
 congr
theorem ab2 (x a b:Nat) (awE:a<=b):x&&&(2^b-2^a)=2^a*(x/2^a)-2^b*(x/2^b):=by
 have e1:2^b-2^a=2^a*(2^(b-a)-1):=by
  rw[Nat.mul_sub,<-Kd,F3];congr 2;omega
 have e2:x&&&(2^b-2^a)=2^a*(x/2^a% 2^(b-a)):=by
  rw[e1];apply Nat.eq_of_testBit_eq;intro i;rw[Nat.testBit_and,y0 (2^a) (2^(b-a)-1),y0 (2^a),auK,auK,Nat.testBit_two_pow_sub_one,Nat.testBit_mod_two_pow,Nat.testBit_div_two_pow];by_cases h:a<=i
  ·simp only[h,decide_true,wD];rw[show i-a+a=i by omega,Bool.and_comm]
  ·simp[h]
 rw[e2];have e3:x/2^b=x/2^a/2^(b-a):=by
  rw[J8,<-Kd];congr 2;omega
 have fr:2^b=2^a*2^(b-a):=by rw[<-Kd];congr 1;omega
 have oP:=auL (x/2^a) (2^(b-a));rw[e3,fr,Nat.mul_assoc,<-Nat.mul_sub]
 congr 1
 omega
theorem ale {c a b:Int} (h:IJ c=some (a,b)):∃i j:Nat,i<=j/\a=2^i/\b=2^j/\c=b-a/\0<a/\0<b:=by
 unfold IJ at h;split at h
 ·cases h
 ·rename_i c hc;have hc0:c≠0:=λe=>hc (by rw[e]);cases hb:aG (2^l5 (2^(l5 c+1)-c)) (2^(l5 c+1)-c)with
  |false=>simp[hb]at h
  |true=>
   simp only[hb,cond_true,aK,cv]at h;obtain⟨rfl,rfl⟩:=h;have e:=bA hb;have hlt:c<2^(l5 c+1):=auM;have hp:0<2^l5 (2^(l5 c+1)-c):=Cm _;refine⟨l5 (2^(l5 c+1)-c),l5 c+1,?_,?_,?_,?_,?_,?_⟩
   ·rcases mC (l5 c+1) (l5 (2^(l5 c+1)-c))with ah|ah
    ·have:=Nat.pow_lt_pow_right (a:=2) (by omega) ah;omega
    ·exact ah
   ·rw[<-e];simp
   ·simp
   ·have:((2^(l5 c+1)-c:Nat):Int)=((2^(l5 c+1):Nat):Int)-(c:Int):=by omega
    simp only[Int.ofNat_eq_natCast];omega
   ·omega
   ·have:0<2^(l5 c+1):=Cm _;omega
 ·cases h
def andM (x:bK) (a b:Int):M bK:=
 bind (r4 x a) λp=>bind (r4 x b) λq=>
  pure ⟨(p.l.smul a).sub (q.l.smul b),cond (q.lo==q.hi) (a*p.lo-b*q.lo) 0,cond (q.lo==q.hi) (a*p.hi-b*q.lo) (b-a)⟩
theorem ab1 {x:bK} {i j:Nat} (tU:i<=j) (hx:x.ok n ρ) (h0:0<=x.lo):ar S L (andM x (2^i) (2^j)) n ρ λag n' q=>q.ok n' ag/\q.l.den ag=((x.l.den ρ).toNat&&&(2^j-2^i):Nat):=by
 have hi:(0:Int)<2^i:=by have:=Cm i;exact_mod_cast this
 have hj:(0:Int)<2^j:=by have:=Cm j;exact_mod_cast this
 refine(C4 hi hx).bind λaD n1 p fl dM ⟨hp,ep,_,_⟩=>?_;refine(C4 hj (hx.agree dM fl)).bind λbp n2 q ee db ⟨hq,eq,_,_⟩=>ar.pure ?_;rw[aa.bG dM hx.1]at eq;have xT:=hp.agree db ee;have adV:p.l.den bp=x.l.den ρ/2^i:=by rw[aa.bG db hp.1,ep]
 obtain⟨X,bL⟩:=s4 (show 0<=x.l.den ρ by have:=hx.2.1;omega);have e:((p.l.smul (2^i)).sub (q.l.smul (2^j))).den bp=((x.l.den ρ).toNat&&&(2^j-2^i):Nat):=by
  rw[aa.lC,aa.kg,aa.kg,adV,eq,bL,eZ,ab2 X i j tU];have h1:2^j*(X/2^j)<=2^i*(X/2^i):=by
   have e3:X/2^j=X/2^i/2^(j-i):=by rw[J8,<-Kd];congr 2;omega
   have fr:2^j=2^i*2^(j-i):=by rw[<-Kd];congr 1;omega
   rw[e3]
   conv=>lhs;rw[fr,Nat.mul_assoc]
   exact Nat.mul_le_mul_left _ (Nat.mul_div_le _ _)
  rw[aaF h1];simp
 refine⟨⟨aa.wj (aa.sP xT.1) (aa.sP hq.1),?_,?_⟩,e⟩
 ·cases hc:(q.lo==q.hi)with
  |true=>
   have hc:q.lo=q.hi:=by simpa using hc
   have h1:q.l.den bp=q.lo:=by have:=hq.2;omega
   simp only[cond_true,aa.lC,aa.kg,h1];have:=y6 xT.2.1 (uR hi);omega
  |false=>simp only[cond_false,e];omega
 ·cases hc:(q.lo==q.hi)with
  |true=>
   have hc:q.lo=q.hi:=by simpa using hc
   have h1:q.l.den bp=q.lo:=by have:=hq.2;omega
   simp only[cond_true,aa.lC,aa.kg,h1];have:=y6 xT.2.2 (uR hi);omega
  |false=>
   simp only[cond_false,e];have h2:(x.l.den ρ).toNat&&&(2^j-2^i)<=2^j-2^i:=Nat.and_le_right;have h3:2^i<=2^j:=Rm (by omega) tU;have h4:((2^j-2^i:Nat):Int)=2^j-2^i:=by rw[aaF h3];simp
   omega
end
end Go.bg
namespace Go.bg
open M
def lZ (c:Int) (g:Nat):Option Addr:=
 if c=-1 then none else match ab (g:Int)with
  |[[b,o,s]]=>some ⟨b.toNat,o.toNat,if s<0 then none else some s.toNat⟩
  |_=>some ⟨0,0,none⟩
theorem aaj (c:Int) (g:Nat):(lZ c g).isNone=decide (c=-1):=by
 unfold lZ;split
 ·rename_i h;simp[h]
 ·rename_i h;split<;>simp[h]
theorem Rd (p:Option Addr):∃c g,(-2<=c/\c<0)/\lZ c g=p:=by
 cases p with
 |none=>exact⟨-1,0,by decide,rfl⟩
 |some a=>
  obtain⟨b,o,s⟩:=a;have key:∀z:Int,∃c g,(-2<=c/\c<0)/\lZ c g=some ⟨b,o,if z<0 then none else some z.toNat⟩:=λz=>by
   have h:=fe [[(b:Int),(o:Int),z]];refine⟨-2,(rc [[(b:Int),(o:Int),z]]).toNat,by decide,?_⟩;unfold lZ;rw[if_neg (by decide),Int.toNat_of_nonneg h,dv];simp
  cases s with
  |none=>exact key (-1)
  |some k=>have:=key k;rwa [if_neg (by omega),eZ]at this
def A.den (ρ:Env) (m:Nat->Nat):A->aA
 | .int k x=> .int k (x.l.den ρ)
 | .bool b=> .bool (b.den ρ)
 | .ptr b off=> .pointer (some ⟨m b,off,none⟩)
 | .oj b off bj=> .pointer (some ⟨m b,off+(bj.l.den ρ).toNat,none⟩)
 | .gptr g off=> .pointer (some ⟨g,off,none⟩)
 | .zW g off bj=> .pointer (some ⟨g,off+(bj.l.den ρ).toNat,none⟩)
 | .slc b off len cap=> .slice (some ⟨m b,off,none⟩) len cap
 | .con v=>v
 | .str l=> .string (aL (U (l.den ρ)))
 | .rows _ _ code _ _=> .int .u8 (code.den ρ)
 | .sl b aM o ro len cap=>if cap.den ρ<0 then .slice (lZ (cap.den ρ) (m b)) 0 0 else .slice (some ⟨m b,(o.den ρ).toNat+(ro.den ρ).toNat*aM,none⟩) (len.den ρ).toNat (cap.den ρ).toNat
 | .ep b aM o i j=> .pointer (some ⟨m b,(o.den ρ).toNat+(i.den ρ).toNat*aM+j,none⟩)
def B0 (o ro len cap:Int):Prop:=(0<=o/\0<=ro/\0<=len/\len<=9223372036854775807)/\(-2<=cap/\ro+cap<=9223372036854775807)/\(cap<0->len=0)/\(0<=cap->len<=cap)
def A.ok (n nb:Nat) (ρ:Env):A->Prop
 | .int _ x=>x.ok n ρ
 | .bool b=>b.aZ n
 | .ptr b _=>b<nb
 | .oj b _ bj=>b<nb/\bj.ok n ρ/\0<=bj.lo
 | .gptr .. =>True
 | .zW _ _ bj=>bj.ok n ρ/\0<=bj.lo
 | .slc b .. =>b<nb
 | .con v=>v.oneCell'=true
 | .str l=>l.aZ n/\0<=l.den ρ/\l.den ρ<=bx
 | .rows _ off code cap _=>(off.aZ n/\code.aZ n/\cap.aZ n)/\(0<=code.den ρ/\code.den ρ<=ch)/\-2<=cap.den ρ/\cap.den ρ<=9223372036854775807
 | .sl b _ o ro len cap=>b<nb/\(o.aZ n/\ro.aZ n/\len.aZ n/\cap.aZ n)/\B0 (o.den ρ) (ro.den ρ) (len.den ρ) (cap.den ρ)
 | .ep b _ o i _=>b<nb/\(o.aZ n/\i.aZ n)/\0<=o.den ρ/\0<=i.den ρ
theorem A.ok.ext {n n' nb jB:Nat} {ρ ag:Env} {a:A} (h:a.ok n nb ρ) (ha:agree n ρ ag) (hn:n<=n') (hb:nb<=jB):a.ok n' jB ag:=by
 cases a<;>simp only[A.ok]at h⊢
 ·exact h.agree ha hn
 ·exact bh.aZ.mono hn h
 ·omega
 ·exact⟨by omega,h.2.1.agree ha hn,h.2.2⟩
 ·exact⟨h.1.agree ha hn,h.2⟩
 ·omega
 ·exact h
 ·exact⟨h.1.mono hn,by rw[aa.bG ha h.1];exact h.2⟩
 ·obtain⟨⟨h1,h2,h3⟩,h4⟩:=h;exact⟨⟨h1.mono hn,h2.mono hn,h3.mono hn⟩,by rw[aa.bG ha h2,aa.bG ha h3];exact h4⟩
 ·obtain⟨h1,⟨h2,h3,h4,h5⟩,h6⟩:=h;exact⟨by omega,⟨h2.mono hn,h3.mono hn,h4.mono hn,h5.mono hn⟩,by rw[aa.bG ha h2,aa.bG ha h3,aa.bG ha h4,aa.bG ha h5];exact h6⟩
 ·obtain⟨h1,⟨h2,h3⟩,h4⟩:=h;exact⟨by omega,⟨h2.mono hn,h3.mono hn⟩,by rw[aa.bG ha h2,aa.bG ha h3];exact h4⟩
theorem A.kf {n nb:Nat} {ρ ag:Env} {m m':Nat->Nat} {a:A} (h:a.ok n nb ρ) (ha:agree n ρ ag) (hm:∀b,b<nb->m' b=m b):a.den ag m'=a.den ρ m:=by
 cases a<;>simp only[A.ok]at h<;>simp only[A.den]
 ·rw[aa.bG ha h.1]
 ·rw[bh.bG ha h]
 ·rw[hm _ h]
 ·rw[hm _ h.1,aa.bG ha h.2.1.1]
 ·rw[aa.bG ha h.1.1]
 ·rw[hm _ h]
 ·rw[aa.bG ha h.1]
 ·rw[aa.bG ha h.1.2.1]
 ·obtain⟨h1,⟨h2,h3,h4,h5⟩,h6⟩:=h;rw[hm _ h1,aa.bG ha h2,aa.bG ha h3,aa.bG ha h4,aa.bG ha h5]
 ·rw[hm _ h.1,aa.bG ha h.2.1.1,aa.bG ha h.2.1.2]
theorem A.IZ {n nb:Nat} {ρ:Env} {m:Nat->Nat} {a:A} (h:a.ok n nb ρ):(a.den ρ m).oneCell'=true:=by
 cases a<;>first|rfl|exact h|(simp only[A.den];split<;>rfl)
def W.den (ρ:Env) (m:Nat->Nat):W->aA
 | .one a=>a.den ρ m
 | .agg l=> .agg (l.map (A.den ρ m)).toArray
def W.ok (n nb:Nat) (ρ:Env):W->Prop
 | .one a=>a.ok n nb ρ
 | .agg l=>∀a∈l,a.ok n nb ρ
theorem W.ok.ext {n n' nb jB:Nat} {ρ ag:Env} {x:W} (h:x.ok n nb ρ) (ha:agree n ρ ag) (hn:n<=n') (hb:nb<=jB):x.ok n' jB ag:=by
 cases x with
 |one a=>exact A.ok.ext h ha hn hb
 |agg l=>exactλa h'=>(h a h').ext ha hn hb
theorem qp {n nb:Nat} {ρ ag:Env} {m m':Nat->Nat} {l:List A} (h:∀a∈l,a.ok n nb ρ) (ha:agree n ρ ag) (hm:∀b,b<nb->m' b=m b):l.map (A.den ag m')=l.map (A.den ρ m):=
 gI λa h'=>A.kf (h a h') ha hm
theorem W.kf {n nb:Nat} {ρ ag:Env} {m m':Nat->Nat} {x:W} (h:x.ok n nb ρ) (ha:agree n ρ ag) (hm:∀b,b<nb->m' b=m b):x.den ag m'=x.den ρ m:=by
 cases x with
 |one a=>exact A.kf h ha hm
 |agg l=>simp only[W.den,qp h ha hm]
def V.rel (ρ:Env) (m:Nat->Nat):V->aA->Prop
 | .w x,v=>v=x.den ρ m
 | .eX l,v=>v= .tuple (l.map (W.den ρ m)).toArray
 | .any,_=>True
 | .oY b len lo,v=>∃c:Nat,lo<=c/\v= .slice (some ⟨m b,0,none⟩) len c
 | .mK f gY,v=>v= .func (.func f) #[] (gY.map (A.den ρ m)).toArray
def V.ok (n nb:Nat) (ρ:Env):V->Prop
 | .w x=>x.ok n nb ρ
 | .eX l=>∀x∈l,x.ok n nb ρ
 | .any=>True
 | .oY b _ _=>b<nb
 | .mK _ gY=>∀a∈gY,A.ok n nb ρ a
theorem V.ok.ext {n n' nb jB:Nat} {ρ ag:Env} {x:V} (h:x.ok n nb ρ) (ha:agree n ρ ag) (hn:n<=n') (hb:nb<=jB):x.ok n' jB ag:=by
 cases x with
 |w x=>exact W.ok.ext h ha hn hb
 |eX l=>exactλa h'=>(h a h').ext ha hn hb
 |any=>trivial
 |oY b len lo=>exact uQ h hb
 |mK f gY=>exactλa h'=>(h a h').ext ha hn hb
theorem V.rel.ext {n nb:Nat} {ρ ag:Env} {m m':Nat->Nat} {x:V} {v:aA} (hr:x.rel ρ m v) (h:x.ok n nb ρ) (ha:agree n ρ ag) (hm:∀b,b<nb->m' b=m b):x.rel ag m' v:=by
 cases x with
 |w x=>simp only[V.rel]at hr⊢;rw[W.kf h ha hm];exact hr
 |eX l=>simp only[V.rel]at hr⊢;rw[hr];congr 2;exact(gI λa h'=>W.kf (h a h') ha hm).symm
 |any=>trivial
 |oY b len lo=>obtain⟨c,h1,h2⟩:=hr;exact⟨c,h1,by rw[hm b h];exact h2⟩
 |mK f gY=>simp only[V.rel]at hr⊢;rw[hr];congr 2;exact(gI λa h'=>A.kf (h a h') ha hm).symm
section
variable {S:Nat->List Int->List Int->Prop} {L:V->Env->Prop} {n:Nat} {ρ:Env}
def GG (s:Int):List (Int×Nat)->Bool
 |[]=>true
 |(k,_)::r=>k% s==0&&GG s r
theorem SW {s:Int} (ρ:Env):∀{l},GG s l=true->gu ρ l% s=0
 |[],_=>by simp[gu]
 |(k,i)::r,h=>by
  simp only[GG,aO,beq_iff_eq]at h;have h1:=SW ρ h.2;obtain⟨c,hc⟩:=Rt h.1;obtain⟨d,hd⟩:=Rt h1;simp only[gu,hc,hd,Int.mul_assoc];rw[<-Int.mul_add];exact auN _ _
def aa.tl (s:Int) (l:aa):Bool:=l.c% s==0&&GG s l.ts
theorem aa.Lu {s:Int} (ρ:Env) {l:aa} (h:l.tl s=true):l.den ρ% s=0:=by
 simp only[tl,aO,beq_iff_eq]at h;have h1:=SW ρ h.2;obtain⟨c,hc⟩:=Rt h.1;obtain⟨d,hd⟩:=Rt h1;simp only[den,hc,hd];rw[<-Int.mul_add];exact auN _ _
def above (h:Int):Nat:=2^(l5 h.toNat+1)
theorem SQ {x h:Int} (hx:x<=h) (h0:0<=x):x<(above h:Int):=by
 have:h.toNat<2^(l5 h.toNat+1):=auM;unfold above;omega
theorem ei {c:Bool} {α:Type} {x:M α} {R:Env->Nat->α->Prop} (h:c=true->ar S L x n ρ R):ar S L (cond c x fail) n ρ R:=by
 cases c with
 |true=>exact h rfl
 |false=>exact ar.fail
def mu (k:di):Int:=two k-half k
theorem Pb (k:di):mu k<=two k:=by cases k<;>decide
theorem akg (k:di):∃i:Nat,mu k=2^i/\i<=k.bits:=by cases k<;>first|exact⟨7,by decide,by decide⟩|exact⟨8,by decide,by decide⟩|exact⟨15,by decide,by decide⟩|exact⟨16,by decide,by decide⟩|exact⟨31,by decide,by decide⟩|exact⟨32,by decide,by decide⟩|exact⟨63,by decide,by decide⟩|exact⟨64,by decide,by decide⟩
def GF (x:aa):List Nat->Nat
 |[]=>1
 |i::r=>cond (x.tl (2^i)) (2^i) (GF x r)
def orM (k:di) (x y:bK):M bK:=
 cond (!(decide (0<=x.lo)&&decide (0<=y.lo)&&decide (x.hi<mu k)&&decide (y.hi<mu k))) (cond (decide (0<=x.lo)&&decide (x.hi<mu k)) (
  let s:=GF x.l [24,18,16,12,8,6,4]
  cond (x.l.tl s&&decide (y.hi<mu k)&&decide (x.hi+s<mu k)) (bind (fj 30 [y.l,.const s]) λ_=>pure ⟨x.l.add y.l,x.lo,x.hi+s⟩) fail) fail) <|
 cond (x.l.tl (above y.hi)) (pure ⟨x.l.add y.l,x.lo+y.lo,cond (decide (x.hi+y.hi<two k)) (x.hi+y.hi) (two k-1)⟩) <|
 cond (y.l.tl (above x.hi)) (pure ⟨x.l.add y.l,x.lo+y.lo,cond (decide (x.hi+y.hi<two k)) (x.hi+y.hi) (two k-1)⟩) (zz .or k x y)
theorem EU {X Y s:Nat} (hs:∃i,s=2^i) (hx:X% s=0) (hy:Y<s):X|||Y=X+Y:=by
 obtain⟨i,rfl⟩:=hs;have e:=auL X (2^i);rw[hx,lu]at e;rw[<-e,<-Nat.two_pow_add_eq_or_of_lt hy]
theorem ZU {k:di} {z:Int} (h0:0<=z) (h1:z<mu k):k.wrap z=z:=by
 rw[JR];have ah:0<=half k:=by cases k<;>decide
 unfold mu at h1;rw[wG (by omega) (by omega)];omega
theorem GR {k:di} {x y:Int} (hx:0<=x) (hy:0<=y) (hx2:x<mu k) (OD:y<mu k):cC .or k x y=((x.toNat|||y.toNat:Nat):Int):=by
 have hl:=Pb k;have hx3:x<2^k.bits:=by rw[<-uD];omega
 have OE:y<2^k.bits:=by rw[<-uD];omega
 obtain⟨i,hi,_⟩:=akg k;obtain⟨X,rfl⟩:=s4 hx;obtain⟨Y,rfl⟩:=s4 hy;have bL:X<2^i:=by rw[hi]at hx2;exact_mod_cast hx2
 have hY:Y<2^i:=by rw[hi]at OD;exact_mod_cast OD
 have h1:X|||Y<2^i:=auO bL hY;unfold cC;simp only;rw[acF,wG hx hx3,wG hy OE];simp only[eZ];exact ZU (by omega) (by rw[hi];exact_mod_cast h1)
theorem LI {k:di} {x y:Int} (hx:0<=x) (hy:0<=y) (hx2:x<mu k) (OD:y<two k):cC .and k x y=((x.toNat&&&y.toNat:Nat):Int):=by
 have hl:=Pb k;have hx3:x<2^k.bits:=by rw[<-uD];omega
 have OE:y<2^k.bits:=by rw[<-uD];omega
 obtain⟨X,rfl⟩:=s4 hx;obtain⟨Y,rfl⟩:=s4 hy;have h1:X&&&Y<=X:=Nat.and_le_left;unfold cC;simp only;rw[bv_and,wG hx hx3,wG hy OE];simp only[eZ];exact ZU (by omega) (by omega)
theorem toNat_mod {x:Int} {s:Nat} (hx:0<=x) (h:x% (s:Int)=0):x.toNat% s=0:=by
 obtain⟨X,rfl⟩:=s4 hx;simp only[eZ]
 exact_mod_cast h
theorem anf {k:di} {x y:bK} (hx:x.ok n ρ) (hy:y.ok n ρ):ar S L (orM k x y) n ρ λag n' q=>q.ok n' ag/\q.l.den ag=cC .or k (x.l.den ρ) (y.l.den ρ):=by
 unfold orM;cases hc:(!(decide (0<=x.lo)&&decide (0<=y.lo)&&decide (x.hi<mu k)&&decide (y.hi<mu k)))with
 |true=>
  simp only[cond_true];refine ei λh1=>ei λh2=>gD λh3=>ar.pure ?_;simp only[aO,decide_eq_true_eq]at h1 h2;simp only[ct,et,af,aa.aT]at h3;obtain⟨⟨h4,h6⟩,h5⟩:=h2;have CT:=hx.2;have Tk:=hy.2
  generalize hs:GF x.l [24,18,16,12,8,6,4]=s at*;have hm:=aa.Lu ρ h4;have ahH:∃i,s=2^i:=by
   rw[<-hs];generalize [24,18,16,12,8,6,4]=l;induction l with
   |nil=>exact⟨0,rfl⟩
   |cons i r ih=>
    unfold GF;cases x.l.tl (2^i)with
    |true=>exact⟨i,rfl⟩
    |false=>exact ih
  have e:x.l.den ρ+y.l.den ρ=cC .or k (x.l.den ρ) (y.l.den ρ):=by
   rw[GR (by omega) h3.1 (by omega) (by omega),EU ahH (toNat_mod (by omega) hm) (by omega)];omega
  exact⟨⟨aa.rE hx.1 hy.1,by simp only[aa.den_add];omega,by simp only[aa.den_add];omega⟩,by rw[aa.den_add];exact e⟩
 |false=>
  simp only[mB,aO,decide_eq_true_eq]at hc;obtain⟨⟨⟨h1,h2⟩,z1⟩,awA⟩:=hc;have D9:=Pb k;have h3:x.hi<two k:=by omega
  have h4:y.hi<two k:=by omega
  have CT:=hx.2;have Tk:=hy.2
  have hb:=GR (k:=k) (x:=x.l.den ρ) (y:=y.l.den ρ) (by omega) (by omega) (by omega) (by omega);have hlt:cC .or k (x.l.den ρ) (y.l.den ρ)<two k:=by
   have e1:x.l.den ρ<2^k.bits:=by rw[<-uD];omega
   have e2:y.l.den ρ<2^k.bits:=by rw[<-uD];omega
   have h1:(x.l.den ρ).toNat|||(y.l.den ρ).toNat<2^k.bits:=auO (by
    have:(x.l.den ρ).toNat=x.l.den ρ:=by omega
    exact_mod_cast (show((x.l.den ρ).toNat:Int)<2^k.bits by omega)) (by exact_mod_cast (show((y.l.den ρ).toNat:Int)<2^k.bits by omega))
   rw[hb,uD]
   exact_mod_cast h1
  have ok:∀q:Int,q=cC .or k (x.l.den ρ) (y.l.den ρ)->x.l.den ρ+y.l.den ρ=q->(bK.mk (x.l.add y.l) (x.lo+y.lo) (cond (decide (x.hi+y.hi<two k)) (x.hi+y.hi) (two k-1))).ok n ρ:=λq nz n6=>⟨aa.rE hx.1 hy.1,by simp only[aa.den_add];omega,by
   simp only[aa.den_add];cases hd:decide (x.hi+y.hi<two k)with
   |true=>simp only[cond_true];omega
   |false=>simp only[cond_false];omega⟩
  simp only[cond_false];cases h5:x.l.tl (above y.hi)with
  |true=>
   have hm:=aa.Lu ρ h5;have hl:=SQ Tk.2 (by omega);have hs:x.l.den ρ+y.l.den ρ=cC .or k (x.l.den ρ) (y.l.den ρ):=by
    rw[hb,EU (s:=above y.hi) ⟨_,rfl⟩ (toNat_mod (by omega) hm) (by omega)];omega
   exact ar.pure ⟨ok _ rfl hs,by rw[aa.den_add];exact hs⟩
  |false=>
   simp only[cond_false];cases h6:y.l.tl (above x.hi)with
   |true=>
    have hm:=aa.Lu ρ h6;have hl:=SQ CT.2 (by omega);have hs:x.l.den ρ+y.l.den ρ=cC .or k (x.l.den ρ) (y.l.den ρ):=by
     rw[hb,Nat.or_comm,EU (s:=above x.hi) ⟨_,rfl⟩ (toNat_mod (by omega) hm) (by omega)];omega
    exact ar.pure ⟨ok _ rfl hs,by rw[aa.den_add];exact hs⟩
   |false=>exact GS
def GI (k:di) (x:bK) (c:Int):M bK:=
 match IJ c with
 |some (a,b)=>cond (!(decide (0<=x.lo)&&decide (x.hi<mu k)&&decide (c<two k)&&decide (0<=c))) fail (andM x a b)
 |none=>cond (c==0&&decide (0<=x.lo)&&decide (x.hi<mu k)) (pure (.const 0)) (zz .and k x (.const c))
theorem S1 {k:di} {x:bK} {c:Int} (hx:x.ok n ρ):ar S L (GI k x c) n ρ λag n' q=>q.ok n' ag/\q.l.den ag=cC .and k (x.l.den ρ) c:=by
 unfold GI;have CT:=hx.2;cases hm:IJ c with
 |some p=>
  obtain⟨a,b⟩:=p;simp only;cases hc:(!(decide (0<=x.lo)&&decide (x.hi<mu k)&&decide (c<two k)&&decide (0<=c)))with
  |true=>exact ar.fail
  |false=>
   simp only[mB,aO,decide_eq_true_eq]at hc;obtain⟨⟨⟨h1,h2⟩,h3⟩,h4⟩:=hc;obtain⟨i,j,tU,rfl,rfl,Vl,_,_⟩:=ale hm;refine(ab1 tU hx h1).mono λag n' q _ _ ⟨ho,he⟩=>⟨ho,?_⟩;rw[he,LI (by omega) h4 (by omega) h3]
   congr 2
   have h3:2^i<=2^j:=Rm (by omega) tU;have h5:((2^j-2^i:Nat):Int)=2^j-2^i:=by rw[aaF h3];simp
   omega
 |none=>
  simp only;cases hc:(c==0&&decide (0<=x.lo)&&decide (x.hi<mu k))with
  |false=>exact GS.mono λag n' q _ _ ⟨h1,h2⟩=>⟨h1,by rw[h2];simp only[bK.const,aa.aT]⟩
  |true=>
   simp only[aO,beq_iff_eq,decide_eq_true_eq]at hc;obtain⟨⟨rfl,h1⟩,h2⟩:=hc;refine ar.pure ⟨bK.np _ _ _,?_⟩;rw[LI (by omega) (bD _) (by omega) (by cases k<;>decide)];simp[bK.const,aa.aT]
theorem acr (k:di) (x y:Int):cC .and k x y=cC .and k y x:=by simp only[cC,BitVec.and_comm]
def LA (k:di) (x y:bK):M bK:=
 match y.l.du,x.l.du with
 |some c,_=>GI k x c
 |none,some c=>GI k y c
 |none,none=>zz .and k x y
theorem ab0 {k:di} {x y:bK} (hx:x.ok n ρ) (hy:y.ok n ρ):ar S L (LA k x y) n ρ λag n' q=>q.ok n' ag/\q.l.den ag=cC .and k (x.l.den ρ) (y.l.den ρ):=by
 unfold LA;cases h1:y.l.du with
 |some c=>simp only[aa.iO h1];exact S1 hx
 |none=>
  cases h2:x.l.du with
  |some c=>simp only[aa.iO h2];rw[acr];exact S1 hy
  |none=>exact GS
def Qw (x y:bK):M bK:=λn k=> .shr n x.l y.l 0 x.hi (k ⟨.var n,0,x.hi⟩ (n+1))
theorem ap8 {x y:bK} (hx:x.ok n ρ) (h0:0<=x.lo):ar S L (Qw x y) n ρ λag n' q=>q.ok n' ag/\q.l.den ag=x.l.den ρ/2^(y.l.den ρ).toNat:=by
 intro A k hk;simp only[Qw,T.holds]at hk;have hp:(0:Int)<2^(y.l.den ρ).toNat:=by have:=Cm (y.l.den ρ).toNat;exact_mod_cast this
 have b0:0<=x.l.den ρ:=by have:=hx.2;omega
 have a1:0<=x.l.den ρ/2^(y.l.den ρ).toNat:=auP b0 (uR hp);have a2:x.l.den ρ/2^(y.l.den ρ).toNat<=x.hi:=pR (Int.ediv_le_self _ b0) hx.2.2;exact⟨_,n+1,_,kB _,agree.cV _ _ _,⟨⟨aa.er (rP n),by simp only[aa.cp,jG];exact a1,by simp only[aa.cp,jG];exact a2⟩,by simp only[aa.cp,jG]⟩,hk _ a1 a2 rfl⟩
def isInt (k:di) (x:M bK):M A:=bind x λr=>pure (.int k r)
def BF (x:bK):M bK:=cond (decide (0<=x.lo)) (pure x) (bind (fj 77 [x.l]) λ_=>pure ⟨x.l,0,x.hi⟩)
def Pp (x y:bK):M bK:=match x.l.du,y.l.du with
 |none,none=>bind (BF x) λx=>bind (BF y) λy=>mulM x y
 |_,_=>mulM x y
def LH (op:BinOp) (k:di) (x:bK) (a6:di) (y:bK):M A:=
 match op with
 | .shl=>match y.l.du with
  |some c=>cond (decide (0<=c)) (let s:Int:=2^min c.toNat k.bits;isInt k (uI k ⟨x.l.smul s,x.lo*s,x.hi*s⟩)) fail
  |none=>fail
 | .shr=>match y.l.du with
  |some c=>cond (decide (0<=c)) (isInt k (r4 x (2^min c.toNat k.bits))) fail
  |none=>cond (decide (0<=x.lo)&&decide (0<=y.lo)&&decide (y.hi<=(k.bits:Int))) (isInt k (Qw x y)) fail
 | .add=>cond (decide (k=a6)) (isInt k (uI k ⟨x.l.add y.l,x.lo+y.lo,x.hi+y.hi⟩)) fail
 | .sub=>cond (decide (k=a6)) (isInt k (uI k ⟨x.l.sub y.l,x.lo-y.hi,x.hi-y.lo⟩)) fail
 | .mul=>cond (decide (k=a6)) (isInt k (bind (Pp x y) (uI k))) fail
 | .quo=>match y.l.du with
  |some c=>cond (decide (k=a6)&&decide (0<c)) (bind (BF x) λx=>isInt k (bind (r4 x c) (uI k))) fail
  |none=>fail
 | .rem=>match y.l.du with
  |some _=>fail
  |none=>cond (decide (k=a6)) (bind (BF x) λx=>bind (fj 36 [y.l]) λ_=>isInt k (bind (eB 38 [x.l,y.l] 0 (cond (decide (y.hi-1<=x.hi)) (y.hi-1) x.hi)) λl=>pure ⟨l,0,cond (decide (y.hi-1<=x.hi)) (y.hi-1) x.hi⟩)) fail
 | .and=>cond (decide (k=a6)) (isInt k (LA k x y)) fail
 | .or=>cond (decide (k=a6)) (isInt k (orM k x y)) fail
 | .xor=>cond (decide (k=a6)) (isInt k (zz .xor k x y)) fail
 | .andNot=>fail
 | .eql=>cond (decide (k=a6)) (pure (.bool (.mkEq x y))) fail
 | .neq=>cond (decide (k=a6)) (pure (.bool (.mkNot (.mkEq x y)))) fail
 | .lss=>cond (decide (k=a6)) (pure (.bool (.mkLt x y))) fail
 | .leq=>cond (decide (k=a6)) (pure (.bool (.mkLe x y))) fail
 | .gtr=>cond (decide (k=a6)) (pure (.bool (.mkLt y x))) fail
 | .geq=>cond (decide (k=a6)) (pure (.bool (.mkLe y x))) fail
theorem rp {k:di} {x:M bK} {R:Env->Nat->A->Prop} {v:Int} (h:ar S L x n ρ λag n' q=>q.ok n' ag/\q.l.den ag=v)
 (hR:∀ag n' (q:bK),n<=n'->agree n ρ ag->q.ok n' ag->q.l.den ag=v->R ag n' (.int k q)):ar S L (isInt k x) n ρ R:=
 h.bind λag n' q hn ha ⟨ho,he⟩=>ar.pure (hR ag n' q hn ha ho he)
theorem Jd {x:bK} (hx:x.ok n ρ):ar S L (BF x) n ρ λag n' q=>q.ok n' ag/\q.l=x.l/\q.hi=x.hi/\0<=q.lo/\x.l.den ag=x.l.den ρ:=by
 unfold BF;cases h:decide (0<=x.lo)with
 |true=>exact ar.pure ⟨hx,rfl,rfl,of_decide_eq_true h,rfl⟩
 |false=>
  refine gD λhk=>ar.pure ⟨⟨hx.1,?_,hx.2.2⟩,rfl,rfl,bD _,rfl⟩;simpa [af,zH]using hk
theorem als {x y:bK} (hx:x.ok n ρ) (hy:y.ok n ρ):ar S L (Pp x y) n ρ λag n' q=>q.ok n' ag/\q.l.den ag=x.l.den ρ*y.l.den ρ:=by
 unfold Pp;split
 ·refine(Jd hx).bind λaD n1 j3 fl dM ⟨jj,ex,_,_,xg⟩=>(Jd (hy.agree dM fl)).bind λbp n2 jI ee db ⟨OC,ad0,_,_,ad1⟩=>(XH (jj.agree db ee) OC).mono λeO n3 q _ _ ⟨h1,h2⟩=>⟨h1,?_⟩;rw[h2,ad0,ad1,aa.bG dM hy.1,aa.bG db jj.1,ex,xg]
 ·exact XH hx hy
theorem acq {nb:Nat} {m:Nat->Nat} (P:bk) {op:BinOp} {k a6:di} {x y:bK} (t:aS) (hx:x.ok n ρ) (hy:y.ok n ρ):
 ar S L (LH op k x a6 y) n ρ λag n' a=>a.ok n' nb ag/\∀w,(binOp op t (.int k (x.l.den ρ)) (.int a6 (y.l.den ρ))).run P w= .ok (a.den ag m) w:=by
 have bo:∀s:Nat,(0:Int)<2^s:=λs=>by have:=Cm s;exact_mod_cast this
 cases op<;>simp only[LH]
 case shl=>
  cases hc:y.l.du with
  |none=>
   exact ar.fail
  |some c=>
   refine ei λh0=>?_;simp only[decide_eq_true_eq]at h0;have hp:=bo (min c.toNat k.bits);refine rp (yQ (x:=⟨x.l.smul (2^min c.toNat k.bits),x.lo*2^min c.toNat k.bits,x.hi*2^min c.toNat k.bits⟩) ⟨aa.sP hx.1,?_,?_⟩) λag n' q _ _ ho he=>⟨ho,λw=>?_⟩
   ·simp only[aa.kg];rw[wH];exact y6 hx.2.1 (uR hp)
   ·simp only[aa.kg];rw[wH x.hi];exact y6 hx.2.2 (uR hp)
   ·simp only[A.den,he,aa.kg,aa.iO hc,binOp,Op.shift];rw[if_neg (by omega)];simp[wH]
 case shr=>
  cases hc:y.l.du with
  |some c=>
   refine ei λh0=>?_;simp only[decide_eq_true_eq]at h0;have hp:=bo (min c.toNat k.bits);refine rp ((C4 hp hx).mono λ_ _ q _ _ h=>⟨h.1,h.2.1⟩) λag n' q _ _ ho he=>⟨ho,λw=>?_⟩;simp only[A.den,he,aa.iO hc,binOp,Op.shift];rw[if_neg (by omega)];simp[auQ _ (uR hp)]
  |none=>
   refine ei λh0=>?_;simp only[aO,decide_eq_true_eq]at h0;refine rp (ap8 hx h0.1.1) λag n' q _ _ ho he=>⟨ho,λw=>?_⟩;have x7:=hy.2;simp only[A.den,he,binOp,Op.shift];rw[if_neg (by omega),show min (y.l.den ρ).toNat k.bits=(y.l.den ρ).toNat by omega];simp[auQ _ (uR (bo _))]
 case add=>
  refine ei λh0=>?_;simp only[decide_eq_true_eq]at h0;subst h0;have OB:=hx.2;have x7:=hy.2
  refine rp (yQ (x:=⟨x.l.add y.l,x.lo+y.lo,x.hi+y.hi⟩) ⟨aa.rE hx.1 hy.1,by simp only[aa.den_add];omega,by simp only[aa.den_add];omega⟩) λag n' q _ _ ho he=>⟨ho,λw=>?_⟩;simp[A.den,he,aa.den_add,binOp,Op.intArith]
 case sub=>
  refine ei λh0=>?_;simp only[decide_eq_true_eq]at h0;subst h0;have OB:=hx.2;have x7:=hy.2
  refine rp (yQ (x:=⟨x.l.sub y.l,x.lo-y.hi,x.hi-y.lo⟩) ⟨aa.wj hx.1 hy.1,by simp only[aa.lC];omega,by simp only[aa.lC];omega⟩) λag n' q _ _ ho he=>⟨ho,λw=>?_⟩;simp[A.den,he,aa.lC,binOp,Op.intArith]
 case mul=>
  refine ei λh0=>?_;simp only[decide_eq_true_eq]at h0;subst h0;refine rp (v:=k.wrap (x.l.den ρ*y.l.den ρ)) ((als hx hy).bind λaD n1 p _ _ ⟨hp,ep⟩=>by rw[<-ep];exact yQ hp) λag n' q _ _ ho he=>⟨ho,λw=>?_⟩;simp[A.den,he,binOp,Op.intArith]
 case quo=>
  cases hc:y.l.du with
  |none=>
   exact ar.fail
  |some c=>
   refine ei λh0=>(Jd hx).bind λbY n0 j3 n4 ha0 ⟨jj,ex,adQ,pz,xg⟩=>?_;simp only[aO,decide_eq_true_eq]at h0;obtain⟨h0,h1⟩:=h0;subst h0;have OB:=jj.2;refine rp (v:=k.wrap (j3.l.den bY/c)) ((C4 h1 jj).bind λaD n1 p _ _ ⟨hp,ep,_⟩=>by rw[<-ep];exact yQ hp) λag n' q _ _ ho he=>⟨ho,λw=>?_⟩;have hx0:0<=x.l.den ρ:=by rw[<-xg,<-ex];omega
   simp only[A.den,he,aa.iO hc,binOp,Op.intDiv];rw[ex,xg,if_neg (by simp),if_neg (by omega),Int.tdiv_eq_ediv_of_nonneg hx0];simp
 case rem=>
  cases hc:y.l.du with
  |none=>
   refine ei λh0=>(Jd hx).bind λbY n0 j3 n4 ha0 ⟨jj,ex,adQ,pz,xg⟩=>gD λhk=>?_;have h0:=of_decide_eq_true h0;subst h0;simp only[ct,et,af]at hk;have Wj:=aa.bG ha0 hy.1;have OB:=jj.2;have x7:=(hy.agree ha0 n4).2
   have e1:=aaA (j3.l.den bY) (show y.l.den bY≠0 by omega);have e2:=aaB (j3.l.den bY) hk;have e3:j3.l.den bY% y.l.den bY<=j3.l.den bY:=by
    have h5:=aaC (j3.l.den bY) (y.l.den bY);have h6:=Int.mul_nonneg (uR hk) (auP (show 0<=j3.l.den bY by omega) (uR hk));omega
   have hf:aw 38 ([j3.l,y.l].map (·.den bY))=j3.l.den bY% y.l.den bY:=rfl;have fr:j3.l.den bY% y.l.den bY<=cond (decide (y.hi-1<=j3.hi)) (y.hi-1) j3.hi:=by
    cases decide (y.hi-1<=j3.hi)with
    |true=>simp only[cond_true];omega
    |false=>simp only[cond_false];omega
   refine rp (v:=j3.l.den bY% y.l.den bY) ((gf (by rw[hf];exact e1) (by rw[hf];exact fr)).bind λaD n1 l _ _ ⟨g1,g2⟩=>ar.pure ⟨⟨g1,by simp only;rw[g2,hf];exact e1,by simp only;rw[g2,hf];exact fr⟩,by simp only;rw[g2,hf]⟩) λag n' q _ _ ho he=>⟨ho,λw=>?_⟩;simp only[A.den,he,binOp,Op.intDiv];have aw4:0<y.l.den ρ:=Wj▸hk;have hx0:0<=x.l.den ρ:=by rw[<-xg,<-ex];omega
   rw[Wj,ex,xg,if_neg (by simp),if_neg (by omega),Int.tmod_eq_emod_of_nonneg hx0];simp
  |some c=>
   exact ar.fail
 case and=>
  refine ei λh0=>?_;simp only[decide_eq_true_eq]at h0;subst h0;refine rp (ab0 hx hy) λag n' q _ _ ho he=>⟨ho,λw=>?_⟩;simp[A.den,he,binOp,Op.intBits,cC]
 case or=>
  refine ei λh0=>?_;simp only[decide_eq_true_eq]at h0;subst h0;refine rp (anf hx hy) λag n' q _ _ ho he=>⟨ho,λw=>?_⟩;simp[A.den,he,binOp,Op.intBits,cC]
 case xor=>
  refine ei λh0=>?_;simp only[decide_eq_true_eq]at h0;subst h0;refine rp GS λag n' q _ _ ho he=>⟨ho,λw=>?_⟩;simp[A.den,he,binOp,Op.intBits,cC]
 case andNot=>
  exact ar.fail
 all_goals
  refine ei λh0=>?_;simp only[decide_eq_true_eq]at h0;subst h0;have e1:=bh.tB hx hy;have e2:=bh.Md hx hy;have e3:=bh.TS hx hy;have fr:=bh.Md hy hx;have oP:=bh.TS hy hx;refine ar.pure ⟨?_,λw=>?_⟩
  ·first|exact e1.2|exact bh.uA e1.2|exact e2.2|exact e3.2|exact fr.2|exact oP.2
  ·simp[A.den,bh.tC,e1.1,e2.1,e3.1,fr.1,oP.1,binOp,Op.intCmp]
   try rfl
end
end Go.bg
namespace Go.bg
open M
abbrev ao:=List A×(aS×Bool)
abbrev dA:=List (Nat×List (di×Int))
structure cN where
 b:ai
 r:ai
 ex:Nat->Prop
 ro:Nat->Prop
 ds:List Deferred
def bT:List A->Bool
 |[.rows _ _ _ _ _]=>false
 |_=>true
noncomputable def aQ (ρ:Env):List A->Nat
 |[.rows _ _ _ cap k]=>if cap.den ρ<0 then 0 else k
 |_=>2
def bO:List ay->List Int->Prop
 |[],[]=>True
 |c::sh,z::r=>(c.dS.1<=z/\z<=c.dS.2)/\bO sh r
 |_,_=>False
def dp:List ay->List Int->List aA
 |c::sh,z::r=>c.val z::dp sh r
 |_,_=>[]
def bm (sh:List ay) (rows:List (List Int)):List aA:=rows.flatMap (dp sh)
def pY (cells:Array aA) (off:Nat) (sh:List ay) (rows:List (List Int)):Prop:=
 (∀row∈rows,bO sh row)/\∃pre post,cells.toList=pre++bm sh rows++post/\pre.length=off
theorem bO.len:∀{sh:List ay} {row:List Int},bO sh row->row.length=sh.length
 |[],[],_=>rfl
 |_::_,_::_,h=>by simp[bO.len h.2]
 |[],_::_,h=>h.elim
 |_::_,[],h=>h.elim
theorem bO.get:∀{sh:List ay} {row:List Int} {j:Nat} {c:ay},bO sh row->sh[j]?=some c->∃z,row[j]?=some z/\c.dS.1<=z/\z<=c.dS.2/\(dp sh row)[j]?=some (c.val z)
 |c'::sh,z::r,0,c,h,hc=>by
  simp only[nd,aK]at hc;subst hc;exact⟨z,rfl,h.1.1,h.1.2,rfl⟩
 |c'::sh,z::r,j+1,c,h,hc=>bO.get (sh:=sh) (row:=r) (j:=j) h.2 (by simpa using hc)
 |[],_,_,_,_,hc=>by simp at hc
 |_::_,[],_,_,h,_=>h.elim
theorem Fk:∀{sh:List ay} {row:List Int},bO sh row->(dp sh row).length=sh.length
 |[],[],_=>rfl
 |_::_,_::_,h=>by simp[dp,Fk h.2]
 |[],_::_,h=>h.elim
 |_::_,[],h=>h.elim
theorem mf {sh:List ay}:∀{rows:List (List Int)},(∀row∈rows,bO sh row)->(bm sh rows).length=rows.length*sh.length
 |[],_=>by simp[bm]
 |r::rs,h=>by
  have ih:=mf (rows:=rs) λrow hr=>h row (cF _ hr);have h1:=Fk (h r (by simp));simp only[bm,qB,dm,cS]at ih⊢;rw[ih,h1,rK];omega
theorem MC {sh:List ay}:∀{rows:List (List Int)} {i j:Nat} {row:List Int} {v:aA},(∀row∈rows,bO sh row)->rows[i]?=some row->(dp sh row)[j]?=some v->(bm sh rows)[i*sh.length+j]?=some v
 |r::rs,0,j,row,v,h,hi,hj=>by
  simp only[nd,aK]at hi;subst hi;have hlt:=(List.getElem?_eq_some_iff.1 hj).1;simp only[bm,qB,Nat.zero_mul,y7];rw[rO hlt];exact hj
 |r::rs,i+1,j,row,v,h,hi,hj=>by
  have ih:=MC (rows:=rs) (i:=i) (λrow hr=>h row (cF _ hr)) (by simpa using hi) hj;have h1:=Fk (h r (by simp));simp only[bm,qB]at ih⊢;rw[uP (by rw[h1,rK];omega),h1,rK];rw[show i*sh.length+sh.length+j-sh.length=i*sh.length+j by omega];exact ih
 |[],i,_,_,_,_,hi,_=>by simp at hi
theorem qa (sh:List ay) (a b:List (List Int)):bm sh (a++b)=bm sh a++bm sh b:=by simp[bm]
def qH (F:Nat->Prop) (w:ai) (sh:List ay) (rows:List (List Int)) (v:aA):Prop:=
 ((∃p,v= .slice p 0 0)/\rows=[])∨∃(g o cap:Nat) (cells:Array aA) (t:aS) (fz:Nat×Nat),v= .slice (some ⟨g,o,none⟩) rows.length cap/\(rows.length<=cap/\(cap:Int)<=9223372036854775807/\rows.length<=140737488351232)/\F g/\w.heap[g]?=some (.cells cells t fz)/\pY cells o sh rows
def p6 (F:Nat->Prop) (w:ai):ay->Int->aA->Prop
 | .sub k,z,v=>qH F w (mx k) (ab z) v
 |c,z,v=>v=c.val z
def dX (F:Nat->Prop) (w:ai):List ay->List Int->List aA->Prop
 |[],[],[]=>True
 |c::sh,z::r,v::vs=>p6 F w c z v/\dX F w sh r vs
 |_,_,_=>False
def eH (F:Nat->Prop) (w:ai) (sh:List ay):List (List Int)->List aA->Prop
 |[],vs=>vs=[]
 |row::rows,vs=>∃a b,vs=a++b/\dX F w sh row a/\eH F w sh rows b
def ig (F:Nat->Prop) (w:ai) (cells:Array aA) (off:Nat) (sh:List ay) (rows:List (List Int)):Prop:=
 (∀row∈rows,bO sh row)/\∃pre vs post,cells.toList=pre++vs++post/\pre.length=off/\eH F w sh rows vs
def Fr (F:Nat->Prop) (w:ai) (F':Nat->Prop) (w':ai):Prop:=∀g,F g->∀o,w.heap[g]?=some o->F' g/\w'.heap[g]?=some o
theorem Fr.of {F F':Nat->Prop} (w:ai) (h:∀g,F g->F' g):Fr F w F' w:=λg hg o ho=>⟨h g hg,ho⟩
theorem Fr.trans {F F' Sm:Nat->Prop} {w w' lp:ai} (h:Fr F w F' w') (h':Fr F' w' Sm lp):Fr F w Sm lp:=λg hg o ho=>by
 obtain⟨h1,h2⟩:=h g hg o ho;exact h' g h1 o h2
theorem Fr.ext {F F':Nat->Prop} {w w':ai} (h:∀g,F g->F' g) (he:w.Extends w'):Fr F w F' w':=λg hg o ho=>⟨h g hg,by rw[he.block g (Array.getElem?_eq_some_iff.1 ho).1];exact ho⟩
theorem qH.mono {F F':Nat->Prop} {w w':ai} {sh:List ay} {rows:List (List Int)} {v:aA} (h:qH F w sh rows v) (hf:Fr F w F' w'):qH F' w' sh rows v:=by
 rcases h with h|⟨g,o,cap,cells,t,fz,h1,h2,h3,h4,h5⟩
 ·exact .inl h
 ·obtain⟨k1,k2⟩:=hf g h3 _ h4;exact .inr ⟨g,o,cap,cells,t,fz,h1,h2,k1,k2,h5⟩
theorem p6.mono {F F':Nat->Prop} {w w':ai} {c:ay} {z:Int} {v:aA} (h:p6 F w c z v) (hf:Fr F w F' w'):p6 F' w' c z v:=by
 cases c with
 |sub k=>exact qH.mono (F:=F) (w:=w) h hf
 |_=>exact h
theorem dX.mono {F F':Nat->Prop} {w w':ai} (hf:Fr F w F' w'):∀{sh:List ay} {row:List Int} {vs:List aA},dX F w sh row vs->dX F' w' sh row vs
 |[],[],[],_=>trivial
 |c::sh,z::r,v::vs,h=>⟨h.1.mono hf,dX.mono hf h.2⟩
 |[],_::_,_,h=>h.elim
 |[],[],_::_,h=>h.elim
 |_::_,[],_,h=>h.elim
 |_::_,_::_,[],h=>h.elim
theorem eH.mono {F F':Nat->Prop} {w w':ai} (hf:Fr F w F' w') {sh:List ay}:∀{rows:List (List Int)} {vs:List aA},eH F w sh rows vs->eH F' w' sh rows vs
 |[],_,h=>h
 |row::rows,vs,h=>by
  obtain⟨a,b,h1,h2,h3⟩:=h;exact⟨a,b,h1,h2.mono hf,eH.mono hf h3⟩
theorem ig.mono {F F':Nat->Prop} {w w':ai} {cells:Array aA} {off:Nat} {sh:List ay} {rows:List (List Int)} (h:ig F w cells off sh rows) (hf:Fr F w F' w'):ig F' w' cells off sh rows:=by
 obtain⟨h1,pre,vs,post,h2,h3,h4⟩:=h;exact⟨h1,pre,vs,post,h2,h3,h4.mono hf⟩
theorem dX.len {F:Nat->Prop} {w:ai}:∀{sh:List ay} {row:List Int} {vs:List aA},dX F w sh row vs->vs.length=sh.length
 |[],[],[],_=>rfl
 |c::sh,z::r,v::vs,h=>by simp[dX.len h.2]
 |[],_::_,_,h=>h.elim
 |[],[],_::_,h=>h.elim
 |_::_,[],_,h=>h.elim
 |_::_,_::_,[],h=>h.elim
theorem eH.len {F:Nat->Prop} {w:ai} {sh:List ay}:∀{rows:List (List Int)} {vs:List aA},eH F w sh rows vs->vs.length=rows.length*sh.length
 |[],vs,h=>by
  have h:vs=[]:=h;simp[h]
 |row::rows,vs,h=>by
  obtain⟨a,b,rfl,h2,h3⟩:=h;have h4:=h2.len;have h5:=eH.len h3;rw[dm,h4,h5,cS,rK,Nat.add_comm]
theorem Fi {F:Nat->Prop} {w:ai}:∀{sh:List ay} {row:List Int} {vs:List aA},iS sh=true->bO sh row->(dX F w sh row vs↔vs=dp sh row)
 |[],[],[],_,_=>⟨λ_=>rfl,λ_=>trivial⟩
 |[],[],_::_,_,_=>⟨λh=>h.elim,λh=>by cases h⟩
 |c::sh,z::r,[],_,_=>⟨λh=>h.elim,λh=>by cases h⟩
 |c::sh,z::r,v::vs,hp,hr=>by
  have hp:(c.plain&&sh.all ay.plain)=true:=hp;simp only[aO]at hp;have ih:=Fi (F:=F) (w:=w) (vs:=vs) hp.2 hr.2;have hc:p6 F w c z v↔v=c.val z:=by
   cases c with
   |sub k=>cases hp.1
   |_=>exact Iff.rfl
  simp only[dX,dp,kz,hc,ih]
 |[],_::_,_,_,h=>h.elim
 |_::_,[],_,_,h=>h.elim
theorem Qg {F:Nat->Prop} {w:ai} {sh:List ay} (hp:iS sh=true):∀{rows:List (List Int)} {vs:List aA},(∀row∈rows,bO sh row)->(eH F w sh rows vs↔vs=bm sh rows)
 |[],vs,_=>by simp[eH,bm]
 |row::rows,vs,h=>by
  have ih:=λb=>Qg (F:=F) (w:=w) hp (vs:=b) λr hr=>h r (cF _ hr);have h0:=h row (by simp);refine⟨λ⟨a,b,h1,h2,h3⟩=>?_,λh1=>⟨dp sh row,bm sh rows,by rw[h1];rfl,(Fi hp h0).2 rfl,(ih _).2 rfl⟩⟩;rw[h1,(Fi hp h0).1 h2,(ih b).1 h3];rfl
theorem mF {F:Nat->Prop} {w:ai} {cells:Array aA} {off:Nat} {sh:List ay} {rows:List (List Int)} (hp:iS sh=true):ig F w cells off sh rows↔pY cells off sh rows:=
 ⟨λ⟨h1,pre,vs,post,h2,h3,h4⟩=>⟨h1,pre,post,by rw[h2,(Qg hp h1).1 h4],h3⟩,λ⟨h1,pre,post,h2,h3⟩=>⟨h1,pre,bm sh rows,post,h2,h3,(Qg hp h1).2 rfl⟩⟩
theorem dX.get {F:Nat->Prop} {w:ai}:∀{sh:List ay} {row:List Int} {vs:List aA} {j:Nat} {c:ay},dX F w sh row vs->sh[j]?=some c->∃z v,row[j]?=some z/\vs[j]?=some v/\p6 F w c z v
 |c'::sh,z::r,v::vs,0,c,h,hc=>by
  simp only[nd,aK]at hc;subst hc;exact⟨z,v,rfl,rfl,h.1⟩
 |c'::sh,z::r,v::vs,j+1,c,h,hc=>dX.get (sh:=sh) (row:=r) (vs:=vs) (j:=j) h.2 (by simpa using hc)
 |[],_,_,_,_,_,hc=>by simp at hc
 |_::_,[],_,_,_,h,_=>h.elim
 |_::_,_::_,[],_,_,h,_=>h.elim
theorem eH.get {F:Nat->Prop} {w:ai} {sh:List ay}:∀{rows:List (List Int)} {vs:List aA} {i:Nat} {row:List Int},eH F w sh rows vs->rows[i]?=some row->dX F w sh row ((vs.drop (i*sh.length)).take sh.length)
 |r::rs,vs,0,row,h,hi=>by
  simp only[nd,aK]at hi;subst hi;obtain⟨a,b,rfl,h2,h3⟩:=h;rw[Nat.zero_mul,List.drop_zero,<-h2.len,List.take_left];exact h2
 |r::rs,vs,i+1,row,h,hi=>by
  obtain⟨a,b,rfl,h2,h3⟩:=h;have ih:=eH.get (i:=i) h3 (by simpa using hi);rw[rK,Nat.add_comm,<-List.drop_drop,<-h2.len,List.drop_left,h2.len];exact ih
 |[],_,_,_,_,hi=>by simp at hi
theorem Qf {F:Nat->Prop} {w:ai} {sh:List ay}:∀{r1 r2:List (List Int)} {v1 v2:List aA},eH F w sh r1 v1->eH F w sh r2 v2->eH F w sh (r1++r2) (v1++v2)
 |[],r2,v1,v2,h1,h2=>by
  have h1:v1=[]:=h1;subst h1;exact h2
 |r::r1,r2,v1,v2,h1,h2=>by
  obtain⟨a,b,rfl,k1,k2⟩:=h1;exact⟨a,b++v2,by simp,k1,Qf k2 h2⟩
theorem eH.split {F:Nat->Prop} {w:ai} {sh:List ay}:∀{rows:List (List Int)} {vs:List aA} (k:Nat),eH F w sh rows vs->eH F w sh (rows.take k) (vs.take (k*sh.length))/\eH F w sh (rows.drop k) (vs.drop (k*sh.length))
 |rows,vs,0,h=>by simpa [eH]using h
 |[],vs,k+1,h=>by
  have h:vs=[]:=h;subst h;simp[eH]
 |r::rs,vs,k+1,h=>by
  obtain⟨a,b,rfl,h2,h3⟩:=h;obtain⟨k1,k2⟩:=h3.split k;have e:=h2.len;have e2:(k+1)*sh.length=a.length+k*sh.length:=by rw[rK,e,Nat.add_comm]
  rw[e2,List.take_length_add_append,List.drop_length_add_append];exact⟨⟨a,_,rfl,h2,k1⟩,k2⟩
def ti (kind:Nat) (fz:Nat×Nat) (n:Nat):Prop:=(kind=2/\fz=(0,0))∨(kind≠2/\fz=(n,n+1))
theorem ti.two {fz:Nat×Nat} {n:Nat} (h:ti 2 fz n):fz=(0,0):=by
 rcases h with h|h
 ·exact h.2
 ·exact absurd rfl h.1
theorem ti.ER {n:Nat}:ti 2 (0,0) n:= .inl ⟨rfl,rfl⟩
def gK (w0:cN) (ρ:Env) (F:Nat->Prop) (g:Nat) (sh:List ay) (off code cap:aa) (kind:Nat) (t:aS) (w:ai):Prop:=
 kind≠0->(cap.den ρ<0->ab (code.den ρ)=[])/\(0<=cap.den ρ->(w0.ex g∨w0.ro g∨w0.r.heap.size<=g)/\∃cells t' fz,w.heap[g]?=some (.cells cells t' fz)/\(0<=off.den ρ/\ig F w cells (off.den ρ).toNat sh (ab (code.den ρ)))/\
  (2<=kind->t'=t/\off.den ρ=0/\ti kind fz cells.size/\cells.size=(cap.den ρ).toNat*sh.length/\w0.b.heap.size<=g/\(w0.ex g∨w0.r.heap.size<=g)))
def cc (w0:cN) (ρ:Env) (m:Nat->Nat) (bl:List ao) (g:Nat):Prop:=
 (w0.ex g∨w0.ro g∨w0.r.heap.size<=g)/\∀(i:Nat) (p:ao),bl[i]?=some p->2<=aQ ρ p.1->m i≠g
structure Mem (w0:cN) (ρ:Env) (m:Nat->Nat) (bl:List ao) (w:ai):Prop where
 ext:w0.b.Extends w
 jf:w.os=w0.r.os
 ji:w.tape=w0.r.tape
 iy:w.output=w0.r.output
 ew:w0.r.heap.size<=w.heap.size
 gg:∀i:Nat,i<w0.r.heap.size->¬w0.ex i->w.heap[i]?=w0.r.heap[i]?
 blk:∀(i:Nat) (cs:List A) (t:aS×Bool),bl[i]?=some (cs,t)->bT cs=true->w0.b.heap.size<=m i/\(w0.ex (m i)∨w0.r.heap.size<=m i)/\∃r:List aA,(t.2=false->r=[])/\w.heap[m i]?=some (.cells (cs.map (A.den ρ m)++r).toArray t.1 (0,0))
 rws:∀(i:Nat) (sh:List ay) (off code cap:aa) (kind:Nat) (t:aS×Bool),bl[i]?=some ([.rows sh off code cap kind],t)->gK w0 ρ (cc w0 ρ m bl) (m i) sh off code cap kind t.1 w
 inj:∀(i j:Nat) (p q:ao),bl[i]?=some p->bl[j]?=some q->m i=m j->i=j∨(aQ ρ p.1<=1/\aQ ρ q.1<=1)∨aQ ρ p.1=0∨aQ ρ q.1=0
theorem Mem.lt {w0:cN} {ρ:Env} {m:Nat->Nat} {bl:List ao} {w:ai} (h:Mem w0 ρ m bl w) {i:Nat} {p:ao} (hi:bl[i]?=some p) (hk:aQ ρ p.1≠0):m i<w.heap.size:=by
 obtain⟨cs,t⟩:=p;by_cases ho:bT cs=true
 ·obtain⟨_,_,r,_,h2⟩:=h.blk i cs t hi ho;exact(Array.getElem?_eq_some_iff.1 h2).1
 ·unfold bT at ho;split at ho
  ·rename_i sh off code cap k;simp only[aQ]at hk;split at hk
   ·exact absurd rfl hk
   ·rename_i cK;obtain⟨_,cells,t',fz,h2,_⟩:=(h.rws i _ _ _ _ _ t hi hk).2 (by omega);exact(Array.getElem?_eq_some_iff.1 h2).1
  ·exact absurd rfl ho
theorem hH {ρ:Env} {cs:List A} (h:bT cs=true):aQ ρ cs=2:=by
 unfold bT at h;unfold aQ;split<;>simp_all
def b9 (n nb:Nat) (ρ:Env) (bl:List ao):Prop:=∀p∈bl,∀a∈p.1,A.ok n nb ρ a
def eQ (gl:dA) (w0:cN):Prop:=∀g cs,(g,cs)∈gl->g<w0.b.heap.size/\∃t pn,w0.b.heap[g]?=some (.cells (cs.map λp=>Value.int p.1 p.2).toArray t pn)
theorem b9.ext {n n' nb jB:Nat} {ρ ag:Env} {bl:List ao} (h:b9 n nb ρ bl) (ha:agree n ρ ag) (hn:n<=n') (hb:nb<=jB):b9 n' jB ag bl:=
 λp hp a h'=>(h p hp a h').ext ha hn hb
theorem gK.dP {w0:cN} {n nb:Nat} {ρ ag:Env} {F:Nat->Prop} {g:Nat} {sh:List ay} {off code cap:aa} {kind:Nat} {t:aS} {w:ai} (h:gK w0 ρ F g sh off code cap kind t w) (aY:(A.rows sh off code cap kind).ok n nb ρ) (ha:agree n ρ ag):gK w0 ag F g sh off code cap kind t w:=by
 unfold gK at*;rw[aa.bG ha aY.1.1,aa.bG ha aY.1.2.1,aa.bG ha aY.1.2.2];exact h
theorem gK.grow {w0:cN} {ρ:Env} {F F':Nat->Prop} {g:Nat} {sh:List ay} {off code cap:aa} {kind:Nat} {t:aS} {w w':ai} (h:gK w0 ρ F g sh off code cap kind t w) (hf:Fr F w F' w') (he:kind≠0->0<=cap.den ρ->w'.heap[g]?=w.heap[g]?):gK w0 ρ F' g sh off code cap kind t w':=by
 intro hk;obtain⟨h1,h2⟩:=h hk;refine⟨h1,λhc=>?_⟩;rw[he hk hc];obtain⟨h3,cells,t',fz,h4,⟨h5,h6⟩,h7⟩:=h2 hc;exact⟨h3,cells,t',fz,h4,⟨h5,h6.mono hf⟩,h7⟩
theorem gK.mono {w0:cN} {ρ:Env} {F F':Nat->Prop} {g:Nat} {sh:List ay} {off code cap:aa} {kind:Nat} {t:aS} {w:ai} (h:gK w0 ρ F g sh off code cap kind t w) (hf:∀g,F g->F' g):gK w0 ρ F' g sh off code cap kind t w:=
 h.grow (Fr.of w hf) λ_ _=>rfl
theorem cc.mono {w0:cN} {ρ ag:Env} {m m':Nat->Nat} {bl aI:List ao} (h:∀(i:Nat) (p:ao),aI[i]?=some p->2<=aQ ag p.1->∃j q,bl[j]?=some q/\2<=aQ ρ q.1/\m j=m' i):∀g,cc w0 ρ m bl g->cc w0 ag m' aI g:=λg ⟨h1,h2⟩=>⟨h1,λi p hi hk=>by
 obtain⟨j,q,hj,hq,he⟩:=h i p hi hk;rw[<-he];exact h2 j q hj hq⟩
theorem mq {n nb:Nat} {ρ ag:Env} {cs:List A} (aY:∀a∈cs,A.ok n nb ρ a) (ha:agree n ρ ag):aQ ag cs=aQ ρ cs:=by
 unfold aQ;split
 ·rename_i sh off code cap k;have h1:A.ok n nb ρ (.rows sh off code cap k):=aY _ (by simp);rw[aa.bG ha h1.1.2.2]
 ·rfl
theorem agree.sym {n:Nat} {ρ ag:Env} (h:agree n ρ ag):agree n ag ρ:=λi hi=>(h i hi).symm
theorem Mem.dP {w0:cN} {n:Nat} {ρ ag:Env} {m:Nat->Nat} {bl:List ao} {w:ai} (h:Mem w0 ρ m bl w) (hb:b9 n bl.length ρ bl) (ha:agree n ρ ag):Mem w0 ag m bl w:=
 ⟨h.ext,h.jf,h.ji,h.iy,h.ew,h.gg,λi cs t hi ho=>by
  obtain⟨h1,h2,r,hr,h3⟩:=h.blk i cs t hi ho;exact⟨h1,h2,r,hr,by rw[qp (hb _ (cZ hi)) ha (λ_ _=>rfl)];exact h3⟩,
  λi sh off code cap kind t hi=>((h.rws i sh off code cap kind t hi).dP (hb _ (cZ hi) _ (by simp)) ha).mono (cc.mono λi p hi hk=>⟨i,p,hi,by rw[mq (hb _ (cZ hi)) ha]at hk;exact hk,rfl⟩),λi j p q hi hj he=>by
   rw[mq (hb _ (cZ hi)) ha,mq (hb _ (cZ hj)) ha];exact h.inj i j p q hi hj he⟩
theorem iz {ρ:Env} {sh:List ay} {off code cap:aa} {k:Nat} (hk:k≠0) (hc:0<=cap.den ρ):aQ ρ [.rows sh off code cap k]=k:=by
 simp only[aQ];rw[if_neg (by omega)]
theorem Mem.grow {w0:cN} {ρ:Env} {m:Nat->Nat} {bl:List ao} {w w':ai} (h:Mem w0 ρ m bl w) (he:w.Extends w'):Mem w0 ρ m bl w':=
 ⟨h.ext.trans he,he.os.trans h.jf,he.tape.trans h.ji,he.output.trans h.iy,gk h.ew he.size,λi hi hx=>(he.block i (uQ hi h.ew)).trans (h.gg i hi hx),λi cs t hi ho=>by
  obtain⟨h1,h2,r,hr,h3⟩:=h.blk i cs t hi ho;exact⟨h1,h2,r,hr,by rw[he.block _ (h.lt hi (by rw[hH ho];decide))];exact h3⟩,λi sh off code cap kind t hi=>(h.rws i sh off code cap kind t hi).grow (Fr.ext (λ_ h=>h) he) λhk hc=>he.block _ (h.lt hi (by simp only[iz hk hc];exact hk)),h.inj⟩
theorem Mem.ne {w0:cN} {ρ:Env} {m:Nat->Nat} {bl:List ao} {w:ai} (h:Mem w0 ρ m bl w) {i j:Nat} {p q:ao} (hi:bl[i]?=some p) (hj:bl[j]?=some q) (hp:2<=aQ ρ p.1) (hq:aQ ρ q.1≠0) (hne:i≠j):m i≠m j:=λe=>by
 rcases h.inj i j p q hi hj e with h|h|h|h
 ·exact hne h
 ·omega
 ·omega
 ·exact hq h
def dq (n nb:Nat) (ρ:Env) (m:Nat->Nat) (tm:List V) (tmps:Array aA):Prop:=
 tm.length=tmps.size/\∀(i:Nat) (v:V),tm[i]?=some v->v.ok n nb ρ/\∃x,tmps[i]?=some x/\v.rel ρ m x
theorem dq.ext {n n' nb jB:Nat} {ρ ag:Env} {m m':Nat->Nat} {tm:List V} {tmps:Array aA} (h:dq n nb ρ m tm tmps) (ha:agree n ρ ag) (hn:n<=n') (hb:nb<=jB) (hm:∀b,b<nb->m' b=m b):dq n' jB ag m' tm tmps:=
 ⟨h.1,λi v hv=>by obtain⟨h1,x,h2,h3⟩:=h.2 i v hv;exact⟨h1.ext ha hn hb,x,h2,h3.ext h1 ha hm⟩⟩
def om:List V->Nat->V->List V
 |[],_,_=>[]
 |_::r,0,v=>v::r
 |x::r,i+1,v=>x::om r i v
theorem Qu:∀(l:List V) (i:Nat) (v:V),om l i v=l.set i v
 |[],_,_=>rfl
 |_::_,0,_=>rfl
 |_::r,i+1,v=>by simp[om,Qu r i v]
def ey (tm:List V) (d:Option Tmp) (v:V):List V:=match d with|some d=>om tm d v|none=>tm
theorem dq.put {n nb:Nat} {ρ:Env} {m:Nat->Nat} {tm:List V} {a:Act} {v:V} {x:aA} (h:dq n nb ρ m tm a.tmps) (d:Option Tmp) (hv:v.ok n nb ρ) (hx:v.rel ρ m x):dq n nb ρ m (ey tm d v) (a.put d x).tmps:=by
 cases d with
 |none=>exact h
 |some d=>
  simp only[ey,Cr,Qu];refine⟨by simp[h.1],λi u hu=>?_⟩;rw[List.getElem?_set]at hu;by_cases hd:d=i
  ·subst hd;simp only[if_true]at hu;split at hu
   ·rename_i hlt;simp only[aK]at hu;subst hu;exact⟨hv,x,by simp[<-h.1,hlt],hx⟩
   ·cases hu
  ·rw[if_neg hd]at hu;obtain⟨h1,y,h2,h3⟩:=h.2 i u hu;exact⟨h1,y,by rw[auR (by omega)];exact h2,h3⟩
def zJ:aA->Option A
 | .int k n=>some (.int k (.const n))
 | .bool b=>some (.bool (.lit b))
 | .string s=>cond (bC s.size 1000000) (some (.str (.const (dC s.data.toList)))) none
 |v=>cond v.oneCell' (some (.con v)) none
theorem TD {v:aA} {a:A} (h:zJ v=some a) (n nb:Nat) (ρ:Env) (m:Nat->Nat):a.ok n nb ρ/\a.den ρ m=v:=by
 unfold zJ at h;split at h
 ·simp only[aK]at h;subst h;exact⟨bK.np _ _ _,by simp[A.den,bK.const,aa.aT]⟩
 ·simp only[aK]at h;subst h;exact⟨trivial,rfl⟩
 ·rename_i s;cases hc:bC s.size 1000000 with
  |false=>simp[hc]at h
  |true=>
   simp only[hc,cond_true,aK]at h;subst h;have hl:s.data.toList.length<=eK:=by
    have:=eE hc;have h2:s.data.toList.length=s.size:=by simp
    unfold eK;omega
   refine⟨⟨aa.cH _ _,by rw[aa.aT];exact ph _,by rw[aa.aT];exact nR hl⟩,?_⟩;simp[A.den,aa.aT,ea,aL]
 ·cases hc:v.oneCell' with
  |false=>simp[hc]at h
  |true=>simp only[hc,cond_true,aK]at h;subst h;exact⟨hc,rfl⟩
def tz:List aA->Option (List A)
 |[]=>some []
 |v::r=>match zJ v,tz r with|some a,some l=>some (a::l)|_,_=>none
theorem xb:∀{vs:List aA} {l:List A},tz vs=some l->∀(n nb:Nat) (ρ:Env) (m:Nat->Nat),(∀a∈l,A.ok n nb ρ a)/\l.map (A.den ρ m)=vs
 |[],l,h,n,nb,ρ,m=>by simp[tz]at h;subst h;simp
 |v::r,l,h,n,nb,ρ,m=>by
  simp only[tz]at h;cases h1:zJ v with
  |none=>simp[h1]at h
  |some a=>
   cases h2:tz r with
   |none=>simp[h1,h2]at h
   |some bV=>
    simp only[h1,h2,aK]at h;subst h;have e1:=TD h1 n nb ρ m;have e2:=xb h2 n nb ρ m;exact⟨λa ha=>by rcases List.mem_cons.1 ha with rfl|ha;exact e1.1;exact e2.1 a ha,by simp[e1.2,e2.2]⟩
def G9:aA->V
 | .agg cs=>match tz cs.toList with|some l=> .w (.agg l)|none=> .any
 | .tuple _=> .any
 |v=>match zJ v with|some a=> .w (.one a)|none=> .any
theorem adf (v:aA) (n nb:Nat) (ρ:Env) (m:Nat->Nat):(G9 v).ok n nb ρ/\(G9 v).rel ρ m v:=by
 unfold G9;split
 ·rename_i cs;cases h:tz cs.toList with
  |none=>exact⟨trivial,trivial⟩
  |some l=>have e:=xb h n nb ρ m;exact⟨e.1,by simp[V.rel,W.den,e.2]⟩
 ·exact⟨trivial,trivial⟩
 ·cases h:zJ v with
  |none=>exact⟨trivial,trivial⟩
  |some a=>have e:=TD h n nb ρ m;exact⟨e.1,by simp[V.rel,W.den,e.2]⟩
def b8 (tm:List V):l8->V
 | .tmp t=>(tm[t]?).getD .any
 | .const v=>G9 v
 | .global g=> .w (.one (.gptr g 0))
 | .func f=> .w (.one (.con (.func (.func f) #[] #[])))
theorem cu {n nb:Nat} {ρ:Env} {m:Nat->Nat} {tm:List V} {a:Act} (h:dq n nb ρ m tm a.tmps) (x:l8):(b8 tm x).ok n nb ρ/\(b8 tm x).rel ρ m (a.eval x):=by
 cases x with
 |tmp t=>
  simp only[b8,Act.eval];cases ht:tm[t]? with
  |none=>exact⟨trivial,trivial⟩
  |some v=>
   obtain⟨h1,y,h2,h3⟩:=h.2 t v ht;exact⟨h1,by simp only[pS];rw[show a.tmps.getD t undef=y by simp[h2]];exact h3⟩
 |const v=>exact adf v n nb ρ m
 |global g=>exact⟨trivial,rfl⟩
 |func f=>exact⟨rfl,rfl⟩
def od (P:bk) (t:aS):Option Bool:=
 match P.underlying t with|some (.struct _)=>some true|some (.array _ _)=>some true|some _=>some false|none=>none
def eM (P:bk) (t:aS):Option Nat:=match P.info? t with|some i=>some i.size|none=>none
theorem rC {P:bk} {t:aS} {b:Bool} (h:od P t=some b) (w:ai):(isAgg t).run P w= .ok b w:=by
 unfold od at h;cases hu:P.underlying t with
 |none=>simp[hu]at h
 |some d=>cases d<;>simp[hu]at h<;>subst h<;>simp[isAgg,fh hu]
theorem iD {P:bk} {t:aS} {k:Nat} (h:eM P t=some k) (w:ai):(sizeOf t).run P w= .ok k w:=by
 unfold eM at h;cases hi:P.info? t with
 |none=>simp[hi]at h
 |some i=>simp[hi]at h;subst h;simp[sizeOf,typeInfo,hi]
def zF (bl:List ao) (gl:dA):A->Option (List A)
 | .ptr b off=>match bl[b]? with|some (cs,_)=>cond (bT cs) (some (cs.drop off)) none|none=>none
 | .gptr g off=>match gl.find? (λp=>aG p.1 g)with|some (_,cs)=>some ((cs.drop off).map λp=> .int p.1 (.const p.2))|none=>none
 |_=>none
theorem jw (g o j:Nat):(⟨g,o,none⟩:Addr).add j=⟨g,o+j,none⟩:=by unfold Addr.add;split<;>simp_all
theorem LY {w0:cN} {w:ai} {n:Nat} {ρ:Env} {m:Nat->Nat} {bl:List ao} {gl:dA} {p:A} {cs:List A} (hm:Mem w0 ρ m bl w) (hb:b9 n bl.length ρ bl) (hg:eQ gl w0) (h:zF bl gl p=some cs):
 ∃g o,p.den ρ m= .pointer (some ⟨g,o,none⟩)/\(∀a∈cs,A.ok n bl.length ρ a)/\∀j a,cs[j]?=some a->w.cell? ⟨g,o+j,none⟩=some (a.den ρ m):=by
 unfold zF at h;split at h
 ·rename_i b off;cases hbl:bl[b]? with
  |none=>simp[hbl]at h
  |some q=>
   obtain⟨C,t⟩:=q;simp only[hbl]at h;cases jz:bT C with
   |false=>simp[jz]at h
   |true=>
   simp only[jz,cond_true,aK]at h;subst h;obtain⟨h1,_,r,_,h2⟩:=hm.blk b C t hbl jz;refine⟨m b,off,rfl,λa ha=>hb _ (cZ hbl) a (nQ ha),λj a hj=>?_⟩;rw[wI]at hj;have hlt:off+j<C.length:=(List.getElem?_eq_some_iff.1 hj).1;simp only[jL,h2,rL,pU,if_false,Ke];rw[rO (by simpa using hlt),oB,hj];rfl
 ·rename_i g off;cases hf:gl.find? (λp=>aG p.1 g)with
  |none=>simp[hf]at h
  |some q=>
   obtain⟨ba,C⟩:=q;simp only[hf,aK]at h;subst h;have ed:ba=g:=by have:=FY hf;exact bA this
   subst ed;obtain⟨h1,t,pn,h2⟩:=hg ba C (y5 hf);refine⟨ba,off,rfl,λa ha=>?_,λj a hj=>?_⟩
   ·obtain⟨p,_,rfl⟩:=List.mem_map.1 ha;exact bK.np _ _ _
   ·rw[oB,wI]at hj;cases hq:C[off+j]? with
    |none=>simp[hq]at hj
    |some q=>
     simp only[hq,s3,aK]at hj;subst hj;have:=hm.ext.cell ⟨ba,off+j,none⟩ h1;rw[this];simp[jL,h2,hq,A.den,bK.const,aa.aT]
 ·cases h
def Pe (P:bk) (bl:List ao) (gl:dA) (ty:aS) (p:A):M V:=
 match zF bl gl p,od P ty,eM P ty with
 |some cs,some true,some k=>cond (bC k cs.length) (pure (.w (.agg (cs.take k)))) fail
 |some (a::_),some false,_=>pure (.w (.one a))
 |_,_,_=>fail
section
variable {S:Nat->List Int->List Int->Prop} {L:V->Env->Prop} {n:Nat} {ρ:Env} {m:Nat->Nat} {bl:List ao} {gl:dA} {w0:cN} {P:bk}
def lz (w0:cN) (m:Nat->Nat) (bl:List ao) (n:Nat) (ρ:Env) (run:ai->Result aA) (ag:Env) (n':Nat) (v:V):Prop:=
 v.ok n' bl.length ag/\∃val,v.rel ag m val/\∀w,Mem w0 ρ m bl w->run w= .ok val w
theorem akm (hb:b9 n bl.length ρ bl) (hg:eQ gl w0) (hex:∃w,Mem w0 ρ m bl w) (ty:aS) (p:A):ar S L (Pe P bl gl ty p) n ρ (lz w0 m bl n ρ λw=>(oD ty (p.den ρ m)).run P w):=by
 obtain⟨uJ,hx⟩:=hex;unfold Pe;cases hc:zF bl gl p with
 |none=>exact ar.fail
 |some cs=>
  obtain⟨g,o,hp,aY,_⟩:=LY hx hb hg hc;have hcell:∀w,Mem w0 ρ m bl w->∀j a,cs[j]?=some a->w.cell? ⟨g,o+j,none⟩=some (a.den ρ m):=λw hw=>by
   obtain⟨ba,cm,ny,_,h'⟩:=LY hw hb hg hc;rw[hp]at ny;simp only[aAd,aK,Addr.mk.injEq,and_true]at ny;obtain⟨rfl,rfl⟩:=ny;exact h'
  cases ha:od P ty with
  |none=>exact ar.fail
  |some b=>
   cases b with
   |true=>
    cases hs:eM P ty with
    |none=>exact ar.fail
    |some k=>
     refine ei λhk=>ar.pure ⟨λa h=>aY a (j7 h),_,rfl,λw hw=>?_⟩;have hk:k<=cs.length:=eE hk;have hl:=F1 (P:=P) w ⟨g,o,none⟩ ((cs.take k).map (A.den ρ m)) λj v hj=>by
      rw[jw];rw[oB]at hj;cases hq:(cs.take k)[j]? with
      |none=>simp[hq]at hj
      |some a=>
       simp only[hq,s3,aK]at hj;subst hj;refine hcell w hw j a ?_;rw[o8]at hq;split at hq
       ·exact hq
       ·cases hq
     simp only[j8,ng,wF hk]at hl;simp[oD,l7,hp,loadVar,rC ha,iD hs,hl,W.den]
   |false=>
    cases cs with
    |nil=>exact ar.fail
    |cons a r=>
     refine ar.pure ⟨aY a (by simp),_,rfl,λw hw=>?_⟩;have:=hcell w hw 0 a rfl;simp only[lu]at this;simp[oD,l7,hp,loadVar,rC ha,this,W.den]
def kindOf (P:bk) (ty:aS):Option di:=match P.underlying ty with|some (.int k)=>some k|_=>none
def sB:List Int->Int
 |[]=>0
 |[x]=>x
 |x::r=>cond (decide (x<=sB r)) x (sB r)
def sA:List Int->Int
 |[]=>0
 |[x]=>x
 |x::r=>cond (decide (sA r<=x)) x (sA r)
theorem XB:∀(l:List Int),∀z∈l,sB l<=z/\z<=sA l
 |[],_,h=>by cases h
 |[x],z,h=>by simp at h;subst h;simp[sB,sA]
 |x::y::r,z,h=>by
  unfold sB sA;have ih:=XB (y::r);rcases List.mem_cons.1 h with rfl|h
  ·refine⟨?_,?_⟩
   ·cases hc:decide (z<=sB (y::r))with
    |true=>simp
    |false=>simp at hc⊢;omega
   ·cases hc:decide (sA (y::r)<=z)with
    |true=>simp
    |false=>simp at hc⊢;omega
  ·have:=ih z h;refine⟨?_,?_⟩
   ·cases hc:decide (x<=sB (y::r))with
    |true=>simp at hc⊢;omega
    |false=>simp;exact this.1
   ·cases hc:decide (sA (y::r)<=x)with
    |true=>simp at hc⊢;omega
    |false=>simp;exact this.2
def Qs (P:bk) (gl:dA) (ty:aS) (g off:Nat) (bj:bK):M V:=λn c=>
 match gl.find? (λp=>aG p.1 g),kindOf P ty with
 |some (_,cs),some k=>cond (((cs.drop off).take (bj.hi.toNat+1)).all (λp=>decide (p.1=k))&&aG ((cs.drop off).take (bj.hi.toNat+1)).length (bj.hi.toNat+1)&&decide (0<=bj.lo))
  (.Jz n (((cs.drop off).take (bj.hi.toNat+1)).map λp=> .const p.2) bj.l (sB (((cs.drop off).take (bj.hi.toNat+1)).map (·.2))) (sA (((cs.drop off).take (bj.hi.toNat+1)).map (·.2)))
    (c (.w (.one (.int k ⟨.var n,sB (((cs.drop off).take (bj.hi.toNat+1)).map (·.2)),sA (((cs.drop off).take (bj.hi.toNat+1)).map (·.2))⟩))) (n+1))) .stuck
 |_,_=> .stuck
theorem ap0 (hg:eQ gl w0) (ty:aS) (g off:Nat) {bj:bK} (As:bj.ok n ρ):ar S L (Qs P gl ty g off bj) n ρ (lz w0 m bl n ρ λw=>(oD ty ((A.zW g off bj).den ρ m)).run P w):=by
 intro avq c hk;unfold Qs at hk;cases hf:gl.find? (λp=>aG p.1 g)with
 |none=>simp[hf,T.holds]at hk
 |some q=>
  obtain⟨ba,cs⟩:=q;have ed:ba=g:=by have:=FY hf;exact bA this
  subst ed;cases fv:kindOf P ty with
  |none=>simp[hf,fv,T.holds]at hk
  |some k=>
   simp only[hf,fv]at hk;generalize hC:(cs.drop off).take (bj.hi.toNat+1)=C at hk;cases hc:(C.all (λp=>decide (p.1=k))&&aG C.length (bj.hi.toNat+1)&&decide (0<=bj.lo))with
   |false=>simp[hc,T.holds]at hk
   |true=>
    simp only[hc,cond_true,T.holds]at hk;simp only[aO,decide_eq_true_eq]at hc;obtain⟨⟨c1,c2⟩,c3⟩:=hc;have c2:=bA c2;have CT:=As.2;have hlt:(bj.l.den ρ).toNat<C.length:=by omega
    have hz:((C.map λp=>aa.const p.2).map (·.den ρ)).getD (bj.l.den ρ).toNat 0=(C[(bj.l.den ρ).toNat]).2:=by
     simp[aB,hlt,aa.aT]
    have lK:=XB (C.map (·.2)) _ (List.mem_map_of_mem (Cs hlt));refine⟨_,n+1,_,kB _,agree.cV _ _ _,(show lz w0 m bl n ρ _ (cV ρ n (((C.map λp=>aa.const p.2).map (·.den ρ)).getD (bj.l.den ρ).toNat 0)) (n+1) (.w (.one (.int k ⟨.var n,sB (C.map (·.2)),sA (C.map (·.2))⟩))) from⟨⟨aa.er (rP n),?_,?_⟩,_,rfl,?_⟩),hk _ (by rw[hz];exact lK.1) (by rw[hz];exact lK.2) rfl⟩
    ·simp only[aa.cp,jG,hz];exact lK.1
    ·simp only[aa.cp,jG,hz];exact lK.2
    ·intro w hw;have hu:od P ty=some false:=by
      unfold kindOf at fv;unfold od;cases hq:P.underlying ty with
      |none=>simp[hq]at fv
      |some d=>cases d<;>simp[hq]at fv<;>rfl
     have iv:(C[(bj.l.den ρ).toNat]).1=k:=by simpa using List.all_eq_true.1 c1 _ (Cs hlt)
     have hcs:cs[off+(bj.l.den ρ).toNat]?=some (C[(bj.l.den ρ).toNat]):=by
      have h3:C[(bj.l.den ρ).toNat]?=some (C[(bj.l.den ρ).toNat]):=gy hlt;have h4:C[(bj.l.den ρ).toNat]?=cs[off+(bj.l.den ρ).toNat]?:=by rw[<-hC,o8,if_pos (by omega),wI]
      rw[<-h4,h3]
     obtain⟨vy,t,pn,agx⟩:=hg ba cs (y5 hf);have hcell:w.cell? ⟨ba,off+(bj.l.den ρ).toNat,none⟩=some (.int k (C[(bj.l.den ρ).toNat]).2):=by
      rw[hw.ext.cell _ vy];simp only[jL,agx,rL,pU,if_false,Ke];rw[oB,hcs,s3,iv]
     simp only[W.den,A.den,aa.cp,jG,hz];simp[oD,l7,loadVar,rC hu,hcell]
end
end Go.bg
namespace Go.bg
open M
abbrev dY:=cB->Option (List ao->List V->M V)
def zn (P:bk) (o:Oper) (a:Act) (w:ai) (val:aA):Prop:=
 (execOp a.eval o).run P w= .ok (.value val) w∨
 ∃f args,(execOp a.eval o).run P w= .ok (.enter f args) w/\Calls P f args w λe lp=>e= .returned val/\w.Extends lp
def zi (P:bk) (f:cB) (args:Array aA) (w:ai) (val:aA):Prop:=
 (callFunc f args).run P w= .ok (.value val) w∨
 ((callFunc f args).run P w= .ok (.enter f args) w/\Calls P f args w λe lp=>e= .returned val/\w.Extends lp)
def dh (ρ:Env) (m:Nat->Nat):List V->List aA->Prop
 |[],[]=>True
 |v::r,x::s=>v.rel ρ m x/\dh ρ m r s
 |_,_=>False
def fq (S:Nat->List Int->List Int->Prop) (P:bk) (gl:dA) (w0:cN) (cal:dY):Prop:=
 ∀f g,cal f=some g->∀(L:V->Env->Prop) (n:Nat) (ρ:Env) (m:Nat->Nat) (bl:List ao) (vs:List V) (xs:List aA),b9 n bl.length ρ bl->(∃w,Mem w0 ρ m bl w)->(∀v∈vs,v.ok n bl.length ρ)->dh ρ m vs xs->
  ar S L (g bl vs) n ρ λag n' v=>v.ok n' bl.length ag/\∃val,v.rel ag m val/\∀w,Mem w0 ρ m bl w->zi P f xs.toArray w val
def Dd (P:bk) (s:aS) (f:Nat):Option Field:=match P.underlying s with|some (.struct dH)=>dH[f]?|_=>none
def tq (P:bk) (t:aS):Option (Nat×aS):=match P.underlying t with|some (.array n e)=>some (n,e)|_=>none
def hL (P:bk) (t:aS):Option aS:=match P.underlying t with|some (.slice e)=>some e|_=>none
def I9 (P:bk) (t:aS) (l:List A) (off:Nat):M V:=
 match od P t,eM P t with
 |some true,some k=>pure (.w (.agg ((l.drop off).take k)))
 |some false,_=>match l[off]? with|some a=>pure (.w (.one a))|none=>fail
 |_,_=>fail
def OH (P:bk) (t:aS) (x:V) (bj:bK):M V:=
 match x with
 | .w (.one (.ptr b off))=>match tq P t with
  |some (len,e)=>match eM P e with
   |some s=>match bj.l.du with
    |some i=>cond (decide (0<=i)&&decide (i<len)) (pure (.w (.one (.ptr b (off+i.toNat*s))))) fail
    |none=>cond (aG s 1&&decide (0<=bj.lo)&&decide (bj.hi<len)) (pure (.w (.one (.oj b off bj)))) fail
   |none=>fail
  |none=>fail
 | .w (.one (.gptr g off))=>match tq P t with
  |some (len,e)=>match eM P e with
   |some s=>match bj.l.du with
    |some _=>fail
    |none=>cond (aG s 1) (bind (fj 74 [bj.l,.const len]) λ_=>pure (.w (.one (.zW g off ⟨bj.l,0,(len:Int)-1⟩)))) fail
   |none=>fail
  |none=>fail
 | .w (.one (.slc b off len _))=>match hL P t with
  |some e=>match eM P e with
   |some s=>match bj.l.du with
    |some i=>cond (decide (0<=i)&&decide (i<len)) (pure (.w (.one (.ptr b (off+i.toNat*s))))) fail
    |none=>cond (aG s 1&&decide (0<=bj.lo)&&decide (bj.hi<len)) (pure (.w (.one (.oj b off bj)))) fail
   |none=>fail
  |none=>fail
 |_=>fail
def uq:List V->Option (List A)
 |[]=>some []
 | .w (.one a)::r=>match uq r with|some l=>some (a::l)|none=>none
 |_::_=>none
def adY:List A->List A->Option bh
 |[],[]=>some (.lit true)
 | .int k x::r,.int a6 y::r'=>cond (decide (k=a6)) (match adY r r' with|some b=>some (.mkAnd (.mkEq x y) b)|none=>none) none
 |_,_=>none
def Dj (P:bk):Nat->List Field->Bool
 |_,[]=>true
 |i,f::r=>(f.name != "_")&&aG f.offset i&&Dj P (i+1) r
noncomputable def pj (P:bk):List Field->List A->List A->M bh
 |[],[],[]=>pure (.lit true)
 |f::dH,.int k a::xs,.int a6 b::fx=>match kindOf P f.type with
  |some k2=>cond (decide (k=a6)) (bind (pj P dH xs fx) λr=>pure (.mkAnd (.mkEq a b) r)) fail
  |none=>fail
 |f::dH,.str a::xs,.str b::fx=>match P.underlying f.type with
  |some .string=>bind (eB 4 [a,b] 0 1) λl=>bind (pj P dH xs fx) λr=>pure (.mkAnd (.mkEq ⟨l,0,1⟩ (.const 1)) r)
  |_=>fail
 |_,_,_=>fail
noncomputable def Ua (P:bk) (g:aS->List A->List A->M bh):Nat->List Field->List A->List A->M bh
 |_,[],_,_=>pure (.lit true)
 |o,f::dH,x,y=>match eM P f.type with
  |some s=>cond ((f.name != "_")&&aG f.offset o) (bind (g f.type (x.take s) (y.take s)) λb=>bind (Ua P g (o+s) dH (x.drop s) (y.drop s)) λr=>pure (.mkAnd b r)) fail
  |none=>fail
noncomputable def adX (P:bk):Nat->aS->List A->List A->M bh
 |0,_,_,_=>fail
 |d+1,t,x,y=>match P.underlying t with
  |some (.int k)=>match x,y with
   |[.int k1 a],[.int k2 b]=>cond (decide (k1=k2)) (pure (.mkEq a b)) fail
   |_,_=>fail
  |some .string=>match x,y with
   |[.str a],[.str b]=>bind (eB 4 [a,b] 0 1) λl=>pure (.mkEq ⟨l,0,1⟩ (.const 1))
   |_,_=>fail
  |some .bool=>match x,y with
   |[.bool a],[.bool b]=>pure (.mkIff a b)
   |_,_=>fail
  |some (.struct dH)=>cond (!P.stoodInHeld t) (Ua P (adX P d) 0 dH.toList x y) fail
  |_=>fail
noncomputable def Hh (P:bk) (t:aS) (x y:List A):M bh:=
 match P.underlying t with
 |some (.struct dH)=>cond (Dj P 0 dH.toList&& !P.stoodInHeld t&& !P.eqGuardType P.depth t) (pj P dH.toList x y) fail
 |_=>fail
noncomputable def QH (op:BinOp) (a b:aa):M V:=
 match op with
 | .add=>bind (fj 3 [a,b]) λ_=>bind (eB 3 [a,b] 0 bx) λl=>pure (.w (.one (.str l)))
 | .eql=>bind (eB 4 [a,b] 0 1) λl=>pure (.w (.one (.bool (.mkEq ⟨l,0,1⟩ (.const 1)))))
 | .neq=>bind (eB 4 [a,b] 0 1) λl=>pure (.w (.one (.bool (.mkNot (.mkEq ⟨l,0,1⟩ (.const 1))))))
 | .lss=>bind (eB 5 [a,b] 0 1) λl=>pure (.w (.one (.bool (.mkEq ⟨l,0,1⟩ (.const 1)))))
 | .geq=>bind (eB 5 [a,b] 0 1) λl=>pure (.w (.one (.bool (.mkNot (.mkEq ⟨l,0,1⟩ (.const 1))))))
 |_=>fail
def Zp (s:aa):M V:=bind (eB 0 [s] 0 9223372036854775807) λl=>pure (.w (.one (.int .i64 ⟨l,0,9223372036854775807⟩)))
def Zo (s i:aa):M V:=bind (fj 1 [s,i]) λ_=>bind (eB 1 [s,i] 0 255) λl=>pure (.w (.one (.int .u8 ⟨l,0,255⟩)))
noncomputable def JG (s a b:aa):M V:=bind (fj 2 [s,a,b]) λ_=>bind (eB 2 [s,a,b] 0 bx) λl=>pure (.w (.one (.str l)))
def mX (v:V):Option aa:=match v with| .w (.one (.int _ a))=>some a.l|_=>none
noncomputable def QI (tm:List V) (s:aa) (lo hi:Option l8):M V:=
 match(match lo with|none=>some (aa.const 0)|some x=>mX (b8 tm x))with
 |none=>fail
 |some a=>match hi with
  |none=>bind (eB 0 [s] 0 9223372036854775807) λb=>JG s a b
  |some y=>match mX (b8 tm y)with
   |some b=>JG s a b
   |none=>fail
noncomputable def Tb (P:bk) (op:BinOp) (t:aS) (x y:V):M V:=
 match x,y with
 | .w (.one (.int k a)),.w (.one (.int a6 b))=>bind (LH op k a a6 b) λr=>pure (.w (.one r))
 | .w (.agg a),.w (.agg b)=>match op with
  | .eql=>bind (Hh P t a b) λe=>pure (.w (.one (.bool e)))
  | .neq=>bind (Hh P t a b) λe=>pure (.w (.one (.bool (.mkNot e))))
  |_=>fail
 | .w (.one (.str a)),.w (.one (.str b))=>QH op a b
 | .w (.one (.bool a)),.w (.one (.bool b))=>match op,P.underlying t with
  | .eql,some .bool=>pure (.w (.one (.bool (.mkIff a b))))
  | .neq,some .bool=>pure (.w (.one (.bool (.mkNot (.mkIff a b)))))
  |_,_=>fail
 |_,_=>fail
def ZE (op:UnOp) (x:V):M V:=
 match op,x with
 | .not,.w (.one (.bool b))=>pure (.w (.one (.bool (.mkNot b))))
 | .xor,.w (.one (.int k a))=>cond (!k.signed&&decide (0<=a.lo)&&decide (a.hi<two k)) (pure (.w (.one (.int k ⟨(aa.const (two k-1)).sub a.l,two k-1-a.hi,two k-1-a.lo⟩)))) fail
 | .neg,.w (.one (.int k a))=>bind (uI k ⟨a.l.smul (-1),-a.hi,-a.lo⟩) λr=>pure (.w (.one (.int k r)))
 |_,_=>fail
def TE (P:bk) (src dst:aS) (x:V):M V:=
 match P.underlying src,P.underlying dst,x with
 |some _,some .string,.w (.one (.int _ a))=>match a.l.du with
  |some c=>cond (bC (Kf c).size 1000) (pure (.w (.one (.str (.const (dC (Kf c).data.toList)))))) fail
  |none=>fail
 |_,_,_=>match P.underlying src,kindOf P dst,x with
 |some _,some k,.w (.one (.int _ a))=>bind (uI k a) λr=>pure (.w (.one (.int k r)))
 |_,_,_=>fail
def G8 (v:V):Option Int:=match v with| .w (.one (.int _ a))=>a.l.du|_=>none
def I2 (tm:List V):Option l8->Option (Option Int)
 |none=>some none
 |some x=>match G8 (b8 tm x)with|some c=>some (some c)|none=>none
def Ze (P:bk) (t:aS) (x:V) (lo hi:Option Int):M V:=
 match x,tq P t with
 | .w (.one (.ptr b off)),some (n,e)=>match eM P e with
  |some s=>cond (decide (0<=lo.getD 0)&&decide (lo.getD 0<=hi.getD n)&&decide (hi.getD n<=n)&&decide (lo.getD 0<n)) (pure (.w (.one (.slc b (off+(lo.getD 0).toNat*s) ((hi.getD n).toNat-(lo.getD 0).toNat) (n-(lo.getD 0).toNat))))) fail
  |none=>fail
 | .w (.one (.slc b off len cap)),none=>match hL P t with
  |some e=>match eM P e with
   |some s=>cond (decide (0<=lo.getD 0)&&decide (lo.getD 0<=hi.getD len)&&decide (hi.getD len<=cap)&&decide (lo.getD 0<cap)) (pure (.w (.one (.slc b (off+(lo.getD 0).toNat*s) ((hi.getD len).toNat-(lo.getD 0).toNat) (cap-(lo.getD 0).toNat))))) fail
   |none=>fail
  |none=>fail
 |_,_=>fail
def XO (x:V):M V:=
 match x with
 | .w (.one (.ptr b o))=>pure (.w (.one (.ptr b o)))
 | .w (.one (.oj b o i))=>pure (.w (.one (.oj b o i)))
 | .w (.one (.gptr g o))=>pure (.w (.one (.gptr g o)))
 |_=>fail
def W.cells:W->List A
 | .one a=>[a]
 | .agg l=>l
def l4 (P:bk) (t:aS):Option (List A):=
 match P.info? t with
 |some i=>match i.zero with
  |some z=>tz z.cells.toList
  |none=>none
 |none=>none
def r8 (place:Nat->Option (Nat×Nat)):List A->List (Nat×V)->Option (List A)
 |cells,[]=>some cells
 |cells,(i,.w u)::r=>match place i with
  |some (off,size)=>cond (aG u.cells.length size&&bC (off+size) cells.length) (r8 place (cells.take off++u.cells++cells.drop (off+size)) r) none
  |none=>none
 |_,_::_=>none
def LO (P:bk) (t:aS) (parts:List (Nat×V)):Option (List A):=
 match l4 P t,P.underlying t with
 |some z,some (.array _ e)=>match eM P e with
  |some s=>r8 (λi=>some (i*s,s)) z parts
  |none=>none
 |some z,some (.struct fields)=>match fields.toList.mapM (λf=>(P.info? f.type).map λi=>(f.offset,i.size))with
  |some places=>r8 (places.toArray[·]?) z parts
  |none=>none
 |_,_=>none
noncomputable def PR (P:bk) (cal:dY) (gl:dA) (bl:List ao) (tm:List V) (o:Oper):M V:=
 match o.op with
 | .move x| .assign x=>pure (b8 tm x)
 | .load t x=>match b8 tm x with
  | .w (.one (.zW g off bj))=>Qs P gl t g off bj
  | .w (.one p)=>Pe P bl gl t p
  |_=>fail
 | .nilCheck x=>XO (b8 tm x)
 | .pick c x y=>match b8 tm c with
  | .w (.one (.bool (.lit v)))=>pure (cond v (b8 tm x) (b8 tm y))
  |_=>fail
 | .binOp op t x y _=>Tb P op t (b8 tm x) (b8 tm y)
 | .unOp op _ x=>ZE op (b8 tm x)
 | .convert s d x=>TE P s d (b8 tm x)
 | .indexAddr t x bj=>match b8 tm bj with
  | .w (.one (.int _ i))=>OH P t (b8 tm x) i
  |_=>fail
 | .index t x bj=>match b8 tm x with
  | .w (.one (.str s))=>match P.underlying t,mX (b8 tm bj)with
   |some .string,some i=>Zo s i
   |_,_=>fail
  |_=>match b8 tm x,G8 (b8 tm bj),tq P t with
   | .w (.agg l),some i,some (len,e)=>match eM P e with
    |some s=>cond (decide (0<=i)&&decide (i<len)) (I9 P e l (i.toNat*s)) fail
    |none=>fail
   |_,_,_=>fail
 | .fieldAddr s x f=>match b8 tm x,Dd P s f with
  | .w (.one (.ptr b off)),some fd=>match eM P fd.type with
   |some (_+1)=>pure (.w (.one (.ptr b (off+fd.offset))))
   |_=>fail
  |_,_=>fail
 | .field s x f=>match b8 tm x,Dd P s f with
  | .w (.agg l),some fd=>I9 P fd.type l fd.offset
  |_,_=>fail
 | .extract x i=>match b8 tm x with
  | .eX l=>match l[i]? with|some u=>pure (.w u)|none=>fail
  |_=>fail
 | .slice t x lo hi none=>match b8 tm x,P.underlying t with
  | .w (.one (.str s)),some .string=>QI tm s lo hi
  |_,_=>match I2 tm lo,I2 tm hi with
   |some l,some h=>Ze P t (b8 tm x) l h
   |_,_=>fail
 | .call c=>match c.callee with
  | .value (.func f)=>match cal f with
   |some g=>g bl (c.args.toList.map (b8 tm))
   |none=>fail
  | .builtin .len=>match c.args.toList,c.argTypes.toList with
   |[x],[t]=>match b8 tm x,P.underlying t with
    | .w (.one (.str s)),some .string=>Zp s
    |_,_=>match b8 tm x,hL P t with
     | .w (.one (.slc _ _ len _)),some _=>pure (.w (.one (.int .i64 (.const len))))
     |_,_=>fail
   |_,_=>fail
  |_=>fail
 | .makeFunc (.func f) first gY=>match first.toList,uq (gY.toList.map (b8 tm))with
  |[],some l=>pure (.mK f l)
  |_,_=>fail
 | .build t parts=>match LO P t (parts.toList.map λp=>(p.1,b8 tm p.2))with
  |some l=>pure (.w (.agg l))
  |none=>fail
 |_=>fail
section
variable {S:Nat->List Int->List Int->Prop} {L:V->Env->Prop} {n:Nat} {ρ:Env} {m:Nat->Nat} {bl:List ao} {gl:dA} {w0:cN} {P:bk} {tm:List V} {a:Act}
def ly (w0:cN) (m:Nat->Nat) (bl:List ao) (n:Nat) (ρ:Env) (P:bk) (o:Oper) (a:Act) (ag:Env) (n':Nat) (v:V):Prop:=
 v.ok n' bl.length ag/\∃val,v.rel ag m val/\∀w,Mem w0 ρ m bl w->zn P o a w val
theorem ly.of_run {o:Oper} {s:Sem aA} {ag:Env} {n':Nat} {v:V} (he:execOp a.eval o=(do pure (kU (<-s)))) (h:lz w0 m bl n ρ (λw=>s.run P w) ag n' v):ly w0 m bl n ρ P o a ag n' v:=by
 obtain⟨h1,val,h2,h3⟩:=h;exact⟨h1,val,h2,λw hw=> .inl (by rw[he];simp[h3 w hw])⟩
theorem W.G5 {n nb:Nat} {ρ:Env} {m:Nat->Nat} (u:W) (hu:u.ok n nb ρ):(u.den ρ m).cells=(u.cells.map (A.den ρ m)).toArray:=by
 cases u with
 |one a=>
  have:=A.IZ (m:=m) hu;simp only[W.den,W.cells,ct,et];generalize A.den ρ m a=v at*;cases v<;>first|rfl|simp[Value.oneCell']at this
 |agg l=>simp[W.den,W.cells,Value.cells]
theorem W.zG {n nb:Nat} {ρ:Env} {u:W} (hu:u.ok n nb ρ):∀a∈u.cells,A.ok n nb ρ a:=by
 cases u with
 |one a=>intro x hx;simp[W.cells]at hx;subst hx;exact hu
 |agg l=>exact hu
def Gx (n nb:Nat) (ρ:Env) (m:Nat->Nat):List (Nat×V)->List (Nat×aA)->Prop
 |[],[]=>True
 |p::r,q::s=>(p.1=q.1/\V.ok n nb ρ p.2/\V.rel ρ m p.2 q.2)/\Gx n nb ρ m r s
 |_,_=>False
theorem UB (off:Nat):∀(src:List aA) (dst:Array aA) (k:Nat),off+k+src.length<=dst.size->
 ((src.zipIdx k).foldl (λcs (c,j)=>cs.setIfInBounds (off+j) c) dst)=(dst.toList.take (off+k)++src++dst.toList.drop (off+k+src.length)).toArray
 |[],dst,k,h=>by simp
 |c::src,dst,k,h=>by
  simp only[cS]at h;rw[List.zipIdx_cons,List.foldl_cons,UB off src _ (k+1) (by simp;omega)]
  congr 1
  simp only[Array.toList_setIfInBounds,cS];have h1:off+k<dst.toList.length:=by simp;omega
  rw[List.take_set,show off+(k+1)=off+k+1 by omega,List.drop_set_of_lt (by omega),List.take_add_one,gy h1];rw[show off+k+1+src.length=off+k+(src.length+1) by omega];simp only[Option.toList_some];rw[List.set_append_right _ _ (by simp;omega)];have hm:min (off+k) dst.size=off+k:=wF (by omega);simp[hm]
theorem Hm {n nb:Nat} {ρ:Env} {m:Nat->Nat} {place:Nat->Option (Nat×Nat)}:∀{parts:List (Nat×V)} {vals:List (Nat×aA)} {cells l:List A},r8 place cells parts=some l->(∀a∈cells,A.ok n nb ρ a)->
 Gx n nb ρ m parts vals->(∀a∈l,A.ok n nb ρ a)/\aaH place (cells.map (A.den ρ m)).toArray vals=some (l.map (A.den ρ m)).toArray
 |[],[],cells,l,h,hc,_=>by simp[r8]at h;subst h;exact⟨hc,rfl⟩
 |(i,.w u)::r,(ya,x)::s,cells,l,h,hc,⟨⟨e1,e2,e3⟩,hr⟩=>by
  simp only at e1;subst e1;simp only[V.rel]at e3;have e3:x=u.den ρ m:=e3;subst e3;simp only[r8]at h;cases hp:place i with
  |none=>simp[hp]at h
  |some q=>
   obtain⟨off,size⟩:=q;simp only[hp]at h;cases hq:(aG u.cells.length size&&bC (off+size) cells.length)with
   |false=>simp[hq]at h
   |true=>
    simp only[hq,cond_true]at h;simp only[aO]at hq;have q1:=bA hq.1;have q2:=eE hq.2;have jR:=W.G5 (m:=m) u e2;obtain⟨g1,g2⟩:=Hm (m:=m) h (λa ha=>by
     rcases List.mem_append.1 ha with ha|ha
     ·rcases List.mem_append.1 ha with ha|ha
      ·exact hc a (j7 ha)
      ·exact W.zG e2 a ha
     ·exact hc a (nQ ha)) hr
    refine⟨g1,?_⟩;simp only[aaH,hp,jR,List.size_toArray,j8,q1];rw[if_neg (by simp;omega)];rw[<-g2]
    congr 1
    have:=UB off (u.cells.map (A.den ρ m)) (cells.map (A.den ρ m)).toArray 0 (by simp;omega);simp only[lu]at this;rw[<-Array.foldl_toList];simp only[Array.toList_zipIdx];rw[this];simp[y2,y3,q1]
 |(_,.eX _)::_,_,_,_,h,_,_=>by simp[r8]at h
 |(_,.any)::_,_,_,_,h,_,_=>by simp[r8]at h
 |[],_::_,_,_,_,_,hr=>hr.elim
 |(_,.w _)::_,[],_,_,_,_,hr=>hr.elim
theorem acD {n nb:Nat} {ρ:Env} {m:Nat->Nat} {t:aS} {parts:List (Nat×V)} {vals:List (Nat×aA)} {l:List A} (h:LO P t parts=some l)
 (hr:Gx n nb ρ m parts vals):(∀a∈l,A.ok n nb ρ a)/\P.built t vals=some (l.map (A.den ρ m)).toArray:=by
 unfold LO at h;unfold Program.built;cases hz:l4 P t with
 |none=>simp[hz]at h
 |some z=>
  unfold l4 at hz;cases hi:P.info? t with
  |none=>simp[hi]at hz
  |some it=>
   simp only[hi]at hz;cases hz0:it.zero with
   |none=>simp[hz0]at hz
   |some z0=>
    simp only[hz0]at hz;have hzs:=xb hz n nb ρ m;have hz1:z0.cells=(z.map (A.den ρ m)).toArray:=by rw[hzs.2]
    cases hu:P.underlying t with
    |none=>simp[l4,hi,hz0,hz,hu]at h
    |some d=>
     cases d<;>try(simp[l4,hi,hz0,hz,hu]at h;done)
     case array len e=>
      simp only[l4,hi,hz0,hz,hu,eM]at h;cases NP:P.info? e with
      |none=>simp[NP]at h
      |some aw8=>
       simp only[NP]at h;simp only[hz0,NP,hz1];exact Hm h hzs.1 hr
     case struct fields=>
      simp only[l4,hi,hz0,hz,hu]at h;cases hp:fields.toList.mapM (λf=>(P.info? f.type).map λi=>(f.offset,i.size))with
      |none=>simp[hp]at h
      |some places=>
       simp only[hp]at h;simp only[hz0,hp,hz1];exact Hm h hzs.1 hr
theorem Yc {t:aS} {l:List A} {off:Nat} (hl:∀x∈l,A.ok n bl.length ρ x):ar S L (I9 P t l off) n ρ (lz w0 m bl n ρ λw=>(part t (l.map (A.den ρ m)).toArray off).run P w):=by
 unfold I9;cases h1:od P t with
 |none=>exact ar.fail
 |some b=>
  cases b with
  |true=>
   cases h2:eM P t with
   |none=>exact ar.fail
   |some k=>
    refine ar.pure ⟨λx hx=>hl x (nQ (j7 hx)),_,rfl,λw _=>?_⟩;simp[part,rC h1,iD h2,W.den,y2,y3,List.take_drop]
    try congr 1
  |false=>
   cases h3:l[off]? with
   |none=>exact ar.fail
   |some x=>
    refine ar.pure ⟨hl x (cZ h3),_,rfl,λw _=>?_⟩;simp[part,rC h1,h3,W.den]
theorem zt {t:aS} {len:Nat} {e:aS} (h:tq P t=some (len,e)):P.underlying t=some (.array len e):=by
 unfold tq at h;cases hu:P.underlying t with
 |none=>simp[hu]at h
 |some d=>cases d<;>simp[hu]at h<;>simp[h]
theorem hO {t e:aS} (h:hL P t=some e):P.underlying t=some (.slice e):=by
 unfold hL at h;cases hu:P.underlying t with
 |none=>simp[hu]at h
 |some d=>cases d<;>simp[hu]at h<;>simp[h]
theorem W4 {t:aS} {k:di} (h:kindOf P t=some k):P.underlying t=some (.int k):=by
 unfold kindOf at h;cases hu:P.underlying t with
 |none=>simp[hu]at h
 |some d=>cases d<;>simp[hu]at h<;>simp[h]
theorem Mr {s:aS} {f:Nat} {fd:Field} (h:Dd P s f=some fd):∃dH,P.underlying s=some (.struct dH)/\dH[f]?=some fd:=by
 unfold Dd at h;cases hu:P.underlying s with
 |none=>simp[hu]at h
 |some d=>cases d<;>simp[hu]at h<;>exact⟨_,rfl,h⟩
theorem ait {t:aS} {x:V} {k:di} {bj:bK} {X:aA} (hx:x.ok n bl.length ρ) (bL:x.rel ρ m X) (hi:bj.ok n ρ):
 ar S L (OH P t x bj) n ρ (lz w0 m bl n ρ λw=>(s5 t X (.int k (bj.l.den ρ))).run P w):=by
 unfold OH;split
 ·rename_i b off;simp only[V.rel,W.den,A.den]at bL;subst bL;cases h1:tq P t with
  |none=>exact ar.fail
  |some q=>
   obtain⟨len,e⟩:=q;cases h2:eM P e with
   |none=>simp only[h2];exact ar.fail
   |some s=>
    simp only[h2];cases h3:bj.l.du with
    |some i=>
     refine ei λhc=>ar.pure ⟨hx,_,rfl,λw _=>?_⟩;simp only[aO,decide_eq_true_eq]at hc;simp[s5,asIntOf,fh (zt h1),l7,aa.iO h3,hc,iD h2,jw,W.den,A.den]
    |none=>
     refine ei λhc=>ar.pure ⟨?_,_,rfl,λw _=>?_⟩
     ·simp only[aO,decide_eq_true_eq]at hc;exact⟨hx,hi,hc.1.2⟩
     ·simp only[aO,decide_eq_true_eq]at hc;have hs:=bA hc.1.1;subst hs;have b1:=hi.2;have c1:0<=bj.l.den ρ:=by omega
      have c2:bj.l.den ρ<len:=by omega
      simp[s5,asIntOf,fh (zt h1),l7,c1,c2,iD h2,jw,W.den,A.den]
 ·rename_i g off;simp only[V.rel,W.den,A.den]at bL;subst bL;cases h1:tq P t with
  |none=>exact ar.fail
  |some q=>
   obtain⟨len,e⟩:=q;cases h2:eM P e with
   |none=>simp only[h2];exact ar.fail
   |some s=>
    simp only[h2];cases h3:bj.l.du with
    |some i=>
     exact ar.fail
    |none=>
     refine ei λhc=>gD λhq=>ar.pure ⟨?_,_,rfl,λw _=>?_⟩
     ·simp only[ct,et,aa.aT,af,zH]at hq;exact⟨⟨hi.1,by show(0:Int)<=_;exact hq.1,by show _<=((len:Int)-1);have:=hq.2;simp only;omega⟩,bD _⟩
     ·simp only[ct,et,aa.aT,af,zH]at hq;have hs:=bA hc;subst hs;simp[s5,asIntOf,fh (zt h1),l7,hq.1,hq.2,iD h2,jw,W.den,A.den]
 ·rename_i b off len cap;simp only[V.rel,W.den,A.den]at bL;subst bL;cases h1:hL P t with
  |none=>exact ar.fail
  |some e=>
   cases h2:eM P e with
   |none=>simp only[h2];exact ar.fail
   |some s=>
    simp only[h2];cases h3:bj.l.du with
    |some i=>
     refine ei λhc=>ar.pure ⟨hx,_,rfl,λw _=>?_⟩;simp only[aO,decide_eq_true_eq]at hc;simp[s5,asIntOf,fh (hO h1),l7,aa.iO h3,hc,iD h2,jw,W.den,A.den]
    |none=>
     refine ei λhc=>ar.pure ⟨?_,_,rfl,λw _=>?_⟩
     ·simp only[aO,decide_eq_true_eq]at hc;exact⟨hx,hi,hc.1.2⟩
     ·simp only[aO,decide_eq_true_eq]at hc;have hs:=bA hc.1.1;subst hs;have b1:=hi.2;have c1:0<=bj.l.den ρ:=by omega
      have c2:bj.l.den ρ<len:=by omega
      simp[s5,asIntOf,fh (hO h1),l7,c1,c2,iD h2,jw,W.den,A.den]
 ·exact ar.fail
theorem am6 {vs:List V}:∀{l:List A} {xs:List aA},uq vs=some l->(∀v∈vs,V.ok n bl.length ρ v)->dh ρ m vs xs->(∀a∈l,A.ok n bl.length ρ a)/\xs=l.map (A.den ρ m):=by
 induction vs with
 |nil=>
  intro l xs h _ hr;simp[uq]at h;subst h;cases xs with
  |nil=>exact⟨λ_ h=>by simp at h,rfl⟩
  |cons _ _=>exact hr.elim
 |cons v r ih=>
  intro l xs h aY hr;cases xs with
  |nil=>cases v<;>exact hr.elim
  |cons x s=>
   cases v with
   |w y=>
    cases y with
    |agg q=>simp[uq]at h
    |one a=>
     cases h1:uq r with
     |none=>simp[uq,h1]at h
     |some bV=>
      simp only[uq,h1,aK]at h;subst h;obtain⟨e1,e2⟩:=ih h1 (λv hv=>aY v (cF _ hv)) hr.2;have h0:x=a.den ρ m:=hr.1;exact⟨λb hb=>by rcases List.mem_cons.1 hb with rfl|hb;exact aY (.w (.one b)) (by simp);exact e1 b hb,by rw[h0,e2];rfl⟩
   |_=>simp[uq]at h
theorem w7 (l:List UInt8):(aL l).toList=l:=aAp l
theorem nV (l:List UInt8):(aL l).size=l.length:=by simp[aL,aAq]
theorem Ta (l bV:List UInt8):(l==bV)=decide ((if l=bV then(1:Int)else 0)=1):=by
 by_cases h:l=bV
 ·subst h;simp
 ·rw[if_neg h];simp[h]
theorem GQ (p:Prop) [Decidable p]:(0:Int)<=(if p then 1 else 0)/\(if p then(1:Int)else 0)<=1:=by split<;>decide
theorem Xk (b:Bool):b=decide ((if b=true then(1:Int)else 0)=1):=by cases b<;>rfl
theorem aqw {op:BinOp} {t:aS} {x y:l8} {p q:aa} (hp:(A.str p).ok n bl.length ρ) (hq:(A.str q).ok n bl.length ρ):
 ar S L (QH op p q) n ρ (lz w0 m bl n ρ λw=>(do eqGuard op t x y (.string (aL (U (p.den ρ)))) (.string (aL (U (q.den ρ))));binOp op t (.string (aL (U (p.den ρ)))) (.string (aL (U (q.den ρ)))):Sem aA).run P w):=by
 have b1:=GQ (U (p.den ρ)=U (q.den ρ));have b2:=GQ (dz (U (p.den ρ)) (U (q.den ρ))=true);unfold QH;split
 ·refine gD λhc=>?_;have hc:(U (p.den ρ)).length+(U (q.den ρ)).length<=eK:=hc;have hl:(U (p.den ρ)++U (q.den ρ)).length<=eK:=by simpa using hc
  refine(gf (op:=3) (args:=[p,q]) (ph _) (nR hl)).bind λaD n1 l _ _ ⟨h1,h2⟩=>?_;have h2:l.den aD=dC (U (p.den ρ)++U (q.den ρ)):=h2;refine ar.pure ⟨⟨h1,by rw[h2];exact ph _,by rw[h2];exact nR hl⟩,_,rfl,λw _=>?_⟩;have hr:=run_string_add_sum (P:=P) w (aL (U (p.den ρ))) (aL (U (q.den ρ))) (by rw[nV,nV];unfold eK at hc;omega);simp only[eqGuard,binOp_string_add,W.den,A.den,h2,ea];simp[hr];exact aAr _ _
 ·refine(gf (op:=4) (args:=[p,q]) b1.1 b1.2).bind λaD n1 l _ _ ⟨h1,h2⟩=>?_;have h2:l.den aD=if U (p.den ρ)=U (q.den ρ)then 1 else 0:=h2
  have e:=bh.tB (n:=n1) (ρ:=aD) (a:=⟨l,0,1⟩) (b:= .const 1) ⟨h1,by simp only[h2];exact b1.1,by simp only[h2];exact b1.2⟩ (bK.np _ _ _);refine ar.pure ⟨e.2,_,rfl,λw _=>?_⟩;simp only[W.den,A.den,binOp_string_eql,w7];rw[e.1];simp only[h2,bK.const,aa.aT,Ta];simp[eqGuard]
 ·refine(gf (op:=4) (args:=[p,q]) b1.1 b1.2).bind λaD n1 l _ _ ⟨h1,h2⟩=>?_;have h2:l.den aD=if U (p.den ρ)=U (q.den ρ)then 1 else 0:=h2
  have e:=bh.tB (n:=n1) (ρ:=aD) (a:=⟨l,0,1⟩) (b:= .const 1) ⟨h1,by simp only[h2];exact b1.1,by simp only[h2];exact b1.2⟩ (bK.np _ _ _);refine ar.pure ⟨bh.uA e.2,_,rfl,λw _=>?_⟩;simp only[W.den,A.den,bh.tC,binOp_string_neq,w7];rw[e.1];simp only[h2,bK.const,aa.aT,Ta];simp[eqGuard]
 ·refine(gf (op:=5) (args:=[p,q]) b2.1 b2.2).bind λaD n1 l _ _ ⟨h1,h2⟩=>?_;have h2:l.den aD=if dz (U (p.den ρ)) (U (q.den ρ))=true then 1 else 0:=h2
  have e:=bh.tB (n:=n1) (ρ:=aD) (a:=⟨l,0,1⟩) (b:= .const 1) ⟨h1,by simp only[h2];exact b2.1,by simp only[h2];exact b2.2⟩ (bK.np _ _ _);refine ar.pure ⟨e.2,_,rfl,λw _=>?_⟩;simp only[W.den,A.den,binOp_string_lss,w7];rw[e.1];simp only[h2,bK.const,aa.aT];rw[<-Xk];simp[eqGuard]
 ·refine(gf (op:=5) (args:=[p,q]) b2.1 b2.2).bind λaD n1 l _ _ ⟨h1,h2⟩=>?_;have h2:l.den aD=if dz (U (p.den ρ)) (U (q.den ρ))=true then 1 else 0:=h2
  have e:=bh.tB (n:=n1) (ρ:=aD) (a:=⟨l,0,1⟩) (b:= .const 1) ⟨h1,by simp only[h2];exact b2.1,by simp only[h2];exact b2.2⟩ (bK.np _ _ _);refine ar.pure ⟨bh.uA e.2,_,rfl,λw _=>?_⟩;simp only[W.den,A.den,bh.tC,binOp_string_geq,w7];rw[e.1];simp only[h2,bK.const,aa.aT];rw[<-Xk];simp[eqGuard]
 ·exact ar.fail
theorem aqy {t ty:aS} {p:aa} (hu:P.underlying t=some .string) (hp:(A.str p).ok n bl.length ρ):
 ar S L (Zp p) n ρ (lz w0 m bl n ρ λw=>(F5 #[t] ty #[.string (aL (U (p.den ρ)))]).run P w):=by
 have hl:=rR hp.2.2;unfold eK at hl;refine(gf (op:=0) (args:=[p]) (rN _) (by show((U (p.den ρ)).length:Int)<=_;omega)).bind λaD n1 l _ _ ⟨h1,h2⟩=>?_;have h2:l.den aD=((U (p.den ρ)).length:Int):=h2;refine ar.pure ⟨⟨h1,by simp only[h2];omega,by simp only[h2];omega⟩,_,rfl,λw _=>?_⟩;simp[F5,fh hu,goInt,W.den,A.den,h2,nV]
theorem aqx {t:aS} {k:di} {p i:aa} (hu:P.underlying t=some .string) (hp:(A.str p).ok n bl.length ρ):
 ar S L (Zo p i) n ρ (lz w0 m bl n ρ λw=>(Rv t (.string (aL (U (p.den ρ)))) (.int k (i.den ρ))).run P w):=by
 refine gD λhc=>?_;have hc:0<=i.den ρ/\i.den ρ<((U (p.den ρ)).length:Int):=hc;have hlt:(i.den ρ).toNat<(U (p.den ρ)).length:=by omega
 have hb:=((U (p.den ρ)).getD (i.den ρ).toNat 0).toNat_lt;refine(gf (op:=1) (args:=[p,i]) (rN _) (by show(((U (p.den ρ)).getD (i.den ρ).toNat 0).toNat:Int)<=_;omega)).bind λaD n1 l _ _ ⟨h1,h2⟩=>?_;have h2:l.den aD=(((U (p.den ρ)).getD (i.den ρ).toNat 0).toNat:Int):=h2;refine ar.pure ⟨⟨h1,by simp only[h2];omega,by simp only[h2];omega⟩,_,rfl,λw _=>?_⟩;have e:(aL (U (p.den ρ)))[(i.den ρ).toNat]?=some ((U (p.den ρ)).getD (i.den ρ).toNat 0):=by
  rw[aAs _ _ (by rw[nV];exact hlt)];simp[aL,aB,hlt];rfl
 simp[Rv,asIntOf,fh hu,hc.1,e,W.den,A.den,h2]
theorem aqA {p a b:aa} (hp:(A.str p).ok n bl.length ρ):ar S L (JG p a b) n ρ λag n' v=>v.ok n' bl.length ag/\v.rel ag m (.string ((aL (U (p.den ρ))).extract (a.den ρ).toNat (b.den ρ).toNat))/\0<=a.den ρ/\a.den ρ<=b.den ρ/\b.den ρ<=((U (p.den ρ)).length:Int):=by
 refine gD λhc=>?_;have hc:0<=a.den ρ/\a.den ρ<=b.den ρ/\b.den ρ<=((U (p.den ρ)).length:Int):=hc;have hl:=rR hp.2.2;have hl2:(((U (p.den ρ)).drop (a.den ρ).toNat).take ((b.den ρ).toNat-(a.den ρ).toNat)).length<=eK:=by simp;omega
 refine(gf (op:=2) (args:=[p,a,b]) (ph _) (nR hl2)).bind λaD n1 l _ _ ⟨h1,h2⟩=>?_;have h2:l.den aD=dC (((U (p.den ρ)).drop (a.den ρ).toNat).take ((b.den ρ).toNat-(a.den ρ).toNat)):=h2;refine ar.pure ⟨⟨h1,by rw[h2];exact ph _,by rw[h2];exact nR hl2⟩,?_,hc⟩;show _=_;simp only[W.den,A.den,h2,ea]
 congr 1
 exact aAt _ _ _
theorem ub {v:V} {l:aa} {x:aA} (h:mX v=some l) (hr:v.rel ρ m x) (aY:v.ok n bl.length ρ):∃k,x= .int k (l.den ρ)/\l.aZ n:=by
 unfold mX at h;split at h
 ·rename_i k a;simp only[aK]at h;subst h;exact⟨k,hr,aY.1⟩
 ·cases h
theorem mw {k:di} {i:Int} {y:Nat} {mJ:BoundsCode} (p1:0<=i) (bo:i<=y) (w:ai):(F6 (.int k i) y mJ).run P w= .ok i.toNat w:=by
 simp[F6,asIntOf,p1,bo]
theorem aqz {t:aS} {p:aa} {lo hi:Option l8} (hu:P.underlying t=some .string) (hp:(A.str p).ok n bl.length ρ) (ht:dq n bl.length ρ m tm a.tmps):
 ar S L (QI tm p lo hi) n ρ (lz w0 m bl n ρ λw=>(nP t (.string (aL (U (p.den ρ)))) (lo.map a.eval) (hi.map a.eval) none).run P w):=by
 unfold QI;split
 ·exact ar.fail
 ·rename_i la xN;have pz:∃f:Option aA,lo.map a.eval=f/\(f=none/\la.den ρ=0∨∃k,f=some (.int k (la.den ρ))):=by
   cases lo with
   |none=>simp only[aK]at xN;subst xN;exact⟨none,rfl,.inl ⟨rfl,aa.aT _ _⟩⟩
   |some x=>
    obtain⟨k,hk,_⟩:=ub (m:=m) (bl:=bl) xN (cu ht x).2 (cu ht x).1;exact⟨_,rfl,.inr ⟨k,by rw[<-hk];rfl⟩⟩
  obtain⟨Us,e1,hZ⟩:=pz;have key:∀(lb:aa) (aD:Env) (n1:Nat),n<=n1->agree n ρ aD->(hi.map a.eval=none/\lb.den aD=((U (p.den ρ)).length:Int)∨∃k,hi.map a.eval=some (.int k (lb.den aD)))->la.aZ n->
   ar S L (JG p la lb) n1 aD (lz w0 m bl n ρ λw=>(nP t (.string (aL (U (p.den ρ)))) (lo.map a.eval) (hi.map a.eval) none).run P w):=λlb aD n1 hn ha ah ahT=>by
   have vD:(A.str p).ok n1 bl.length aD:=hp.ext ha hn (aW _);have ep:p.den aD=p.den ρ:=aa.bG ha hp.1;have Mm:la.den aD=la.den ρ:=aa.bG ha ahT;refine(aqA (m:=m) (bl:=bl) (a:=la) (b:=lb) vD).mono λbp n2 v _ _ ⟨q1,q2,q3,de,iT⟩=>⟨q1,_,q2,λw _=>?_⟩;rw[ep,Mm]at*;have qe:(jv false (aL (U (p.den ρ))).size (aL (U (p.den ρ))).size Us (hi.map a.eval) none).run P w= .ok ((la.den ρ).toNat,(lb.den aD).toNat,(aL (U (p.den ρ))).size) w:=by
    rw[nV];rcases hZ with⟨rfl,hz⟩|⟨k,rfl⟩<;>rcases ah with⟨h1,h2⟩|⟨k2,h1⟩
    ·rw[h1,hz,h2];simp[jv]
    ·rw[h1,hz];simp[jv,mw (P:=P) (by omega:0<=lb.den aD) iT]
    ·rw[h1,h2];simp[jv,mw (P:=P) (y:=(U (p.den ρ)).length) q3 (by omega)]
    ·rw[h1];simp[jv,mw (P:=P) (by omega:0<=lb.den aD) iT,mw (P:=P) (y:=(lb.den aD).toNat) q3 (by omega)]
   rw[e1];simp[nP,Kg,fh hu,qe]
  have At:la.aZ n:=by
   cases lo with
   |none=>simp only[aK]at xN;subst xN;exact aa.cH _ _
   |some x=>exact(ub (m:=m) (bl:=bl) xN (cu ht x).2 (cu ht x).1).choose_spec.2
  cases hi with
  |none=>
   have hl:=rR hp.2.2;unfold eK at hl;exact(gf (op:=0) (args:=[p]) (rN _) (by show((U (p.den ρ)).length:Int)<=_;omega)).bind λaD n1 l hn ha ⟨h1,h2⟩=>key l aD n1 hn ha (.inl ⟨rfl,h2⟩) At
  |some y=>
   simp only;cases hy:mX (b8 tm y)with
   |none=>exact ar.fail
   |some b=>
    obtain⟨k,hk,_⟩:=ub (m:=m) (bl:=bl) hy (cu ht y).2 (cu ht y).1;exact key b ρ n (aW _) (agree.refl _ _) (.inr ⟨k,by rw[<-hk];rfl⟩) At
theorem Gr {xs:List l8} (h:dq n bl.length ρ m tm a.tmps):dh ρ m (xs.map (b8 tm)) (xs.map a.eval):=by
 induction xs with
 |nil=>trivial
 |cons x r ih=>exact⟨(cu h x).2,ih⟩
theorem Qi {c:Call} {f:cB} (hc:c.callee= .value (.func f)) (o:Oper) (ho:o.op= .call c):execOp a.eval o=callFunc f (c.args.map a.eval):=by
 simp only[execOp,ho,resolve,hc,Act.eval,aaI];simp[invoke,bind_pure_comp]
theorem Mo {nb:Nat} {m:Nat->Nat}:∀(dH:List Field) (x y:List A) (i n:Nat) (ρ:Env),Dj P i dH=true->(∀a∈x,A.ok n nb ρ a)->(∀a∈y,A.ok n nb ρ a)->
 ar S L (pj P dH x y) n ρ λag n' b=>b.aZ n'/\∀(w:ai) (d:Nat) (xs fx:Array aA),xs.toList.drop i=x.map (A.den ρ m)->fx.toList.drop i=y.map (A.den ρ m)->(Op.eqFields (d+1) xs fx dH).run P w= .ok (b.den ag) w
 |[],[],[],i,n,ρ,_,_,_=>ar.pure ⟨trivial,λw d xs fx _ _=>by simp[Op.eqFields,bh.den]⟩
 |f::dH,x::xs,y::fx,i,n,ρ,hf,hx,hy=>by
  cases x with
  |int k a=>
   cases y with
   |int a6 b=>
    unfold Dj at hf;simp only[aO,bne_iff_ne,ne_eq]at hf;obtain⟨⟨hn,ho⟩,hf⟩:=hf;have ho:=bA ho;unfold pj;split
    ·rename_i k2 hk2;have hu:=W4 hk2;refine ei λhk=>?_;have hk:k=a6:=by simpa using hk
     subst hk;have alF:a.ok n ρ:=hx (.int k a) (by simp);have alG:b.ok n ρ:=hy (.int k b) (by simp);refine(Mo (nb:=nb) (m:=m) dH xs fx (i+1) n ρ hf (λz hz=>hx z (cF _ hz)) (λz hz=>hy z (cF _ hz))).bind λag n' r lL jc ⟨r1,r2⟩=>ar.pure ?_;have e1:=bh.tB (alF.agree jc lL) (alG.agree jc lL);refine⟨bh.Y4 e1.2 r1,λw d uG uH Et Eu=>?_⟩;have MJ:uG[i]?=some (.int k (a.l.den ρ)):=by
      have:=congrArg List.head? Et;simpa [A.den]using this
     have MK:uH[i]?=some (.int k (b.l.den ρ)):=by
      have:=congrArg List.head? Eu;simpa [A.den]using this
     have Mh:uG.toList.drop (i+1)=xs.map (A.den ρ m):=by
      have:=congrArg List.tail Et;simpa using this
     have aJ:uH.toList.drop (i+1)=fx.map (A.den ρ m):=by
      have:=congrArg List.tail Eu;simpa using this
     have PJ:(part f.type uG f.offset).run P w= .ok (.int k (a.l.den ρ)) w:=by simp[part,isAgg,fh hu,ho,MJ]
     have PK:(part f.type uH f.offset).run P w= .ok (.int k (b.l.den ρ)) w:=by simp[part,isAgg,fh hu,ho,MK]
     have Mm:a.l.den ag=a.l.den ρ:=by
      have:=A.kf (m:=m) (m':=m) (hx (.int k a) (by simp)) jc (λ_ _=>rfl);simpa [A.den]using this
     have r5:b.l.den ag=b.l.den ρ:=by
      have:=A.kf (m:=m) (m':=m) (hy (.int k b) (by simp)) jc (λ_ _=>rfl);simpa [A.den]using this
     simp only[Op.eqFields,ne_eq,hn,not_false_eq_true,if_true,gm,PJ,PK,gz,run_equalIn_int w d f.type k k2 _ _ hu,bh.TQ,e1.1,Mm,r5];by_cases hq:a.l.den ρ=b.l.den ρ
     ·simp[hq,r2 w d uG uH Mh aJ]
     ·simp[hq]
    ·exact ar.fail
   |_=>unfold pj;exact ar.fail
  |str a=>
   cases y with
   |str b=>
    unfold Dj at hf;simp only[aO,bne_iff_ne,ne_eq]at hf;obtain⟨⟨hn,ho⟩,hf⟩:=hf;have ho:=bA ho;unfold pj;split
    ·rename_i hu;have b1:=GQ (U (a.den ρ)=U (b.den ρ));refine(gf (op:=4) (args:=[a,b]) b1.1 b1.2).bind λaD n1 l fl Ad ⟨h1,h2⟩=>?_;have h2:l.den aD=if U (a.den ρ)=U (b.den ρ)then 1 else 0:=h2
     have hx1:∀z∈xs,A.ok n1 nb aD z:=λz hz=>(hx z (cF _ hz)).ext Ad fl (aW _);have aij:∀z∈fx,A.ok n1 nb aD z:=λz hz=>(hy z (cF _ hz)).ext Ad fl (aW _);have ol:(⟨l,0,1⟩:bK).ok n1 aD:=⟨h1,by simp only[h2];exact b1.1,by simp only[h2];exact b1.2⟩;refine(Mo (nb:=nb) (m:=m) dH xs fx (i+1) n1 aD hf hx1 aij).bind λag n' r lL jc ⟨r1,r2⟩=>ar.pure ?_;have e1:=bh.tB (n:=n') (ρ:=ag) (a:=⟨l,0,1⟩) (b:= .const 1) (ol.agree jc lL) (bK.np _ _ _);refine⟨bh.Y4 e1.2 r1,λw d uG uH Et Eu=>?_⟩;have MJ:uG[i]?=some (.string (aL (U (a.den ρ)))):=by
      have:=congrArg List.head? Et;simpa [A.den]using this
     have MK:uH[i]?=some (.string (aL (U (b.den ρ)))):=by
      have:=congrArg List.head? Eu;simpa [A.den]using this
     have Mh:uG.toList.drop (i+1)=xs.map (A.den aD m):=by
      have:=congrArg List.tail Et;rw[gI (g:=A.den ρ m) λz hz=>A.kf (hx z (cF _ hz)) Ad (λ_ _=>rfl)];simpa using this
     have aJ:uH.toList.drop (i+1)=fx.map (A.den aD m):=by
      have:=congrArg List.tail Eu;rw[gI (g:=A.den ρ m) λz hz=>A.kf (hy z (cF _ hz)) Ad (λ_ _=>rfl)];simpa using this
     have PJ:(part f.type uG f.offset).run P w= .ok (.string (aL (U (a.den ρ)))) w:=by simp[part,isAgg,fh hu,ho,MJ]
     have PK:(part f.type uH f.offset).run P w= .ok (.string (aL (U (b.den ρ)))) w:=by simp[part,isAgg,fh hu,ho,MK]
     have el:l.den ag=l.den aD:=aa.bG jc h1;have e2:(bh.mkEq ⟨l,0,1⟩ (.const 1)).den ag=decide (U (a.den ρ)=U (b.den ρ)):=by
      rw[e1.1];simp only[bK.const,aa.aT,el,h2];by_cases hq:U (a.den ρ)=U (b.den ρ)<;>simp[hq]
     simp only[Op.eqFields,ne_eq,hn,not_false_eq_true,if_true,gm,PJ,PK,gz,run_equalIn_string w d f.type _ _ hu,bh.TQ,e2,w7];by_cases hq:U (a.den ρ)=U (b.den ρ)
     ·simp[hq,r2 w d uG uH Mh aJ]
     ·simp[hq]
    ·exact ar.fail
   |_=>unfold pj;exact ar.fail
  |_=>unfold pj;exact ar.fail
 |[],_::_,_,_,_,_,_,_,_=>by unfold pj;exact ar.fail
 |[],[],y::_,_,_,_,_,_,_=>by cases y<;>(unfold pj;exact ar.fail)
 |_::_,[],_,_,_,_,_,_,_=>by unfold pj;exact ar.fail
 |_::_,x::_,[],_,_,_,_,_,_=>by cases x<;>(unfold pj;exact ar.fail)
theorem Ub {nb:Nat} {m:Nat->Nat} {t:aS} {x y:List A} (hx:∀a∈x,A.ok n nb ρ a) (hy:∀a∈y,A.ok n nb ρ a):
 ar S L (Hh P t x y) n ρ λag n' b=>b.aZ n'/\P.eqGuardType P.depth t=false/\∀w,(Op.equalIn 10000 t (.agg (x.map (A.den ρ m)).toArray) (.agg (y.map (A.den ρ m)).toArray)).run P w= .ok (b.den ag) w:=by
 unfold Hh;split
 ·rename_i dH hu;refine ei λhg=>?_;simp only[aO,fZ]at hg;refine(Mo (nb:=nb) (m:=m) dH.toList x y 0 n ρ hg.1.1 hx hy).mono λag n' b _ _ ⟨h1,h2⟩=>⟨h1,hg.2,λw=>?_⟩;have hf:P.fieldsOf t=dH:=by simp[Program.fieldsOf,hu]
  rw[run_equalIn_struct w 9999 t _ _ (by rw[hf];exact hu) hg.1.2,hf];exact h2 w 9998 _ _ (by simp) (by simp)
 ·exact ar.fail
theorem ao1 {cal:dY} (cy:fq S P gl w0 cal) (hb:b9 n bl.length ρ bl) (hg:eQ gl w0) (hex:∃w,Mem w0 ρ m bl w) (ht:dq n bl.length ρ m tm a.tmps) (o:Oper):
 ar S L (PR P cal gl bl tm o) n ρ (ly w0 m bl n ρ P o a):=by
 unfold PR;split
 case h_1 x h=>
  exact ar.pure ⟨(cu ht x).1,_,(cu ht x).2,λw _=> .inl (by simp[execOp,h])⟩
 case h_2 x h=>
  exact ar.pure ⟨(cu ht x).1,_,(cu ht x).2,λw _=> .inl (by simp[execOp,h])⟩
 case h_3 t x h=>
  have hx:=cu ht x;have he:execOp a.eval o=(do pure (kU (<-oD t (a.eval x)))):=by simp only[execOp,h]
  split
  ·rename_i g off bj hv;rw[hv]at hx;have dt:a.eval x=(A.zW g off bj).den ρ m:=hx.2;rw[dt]at he;exact(ap0 hg t g off hx.1.1).mono λ_ _ _ _ _ hq=>ly.of_run he hq
  ·rename_i p _ hv;rw[hv]at hx;have dt:a.eval x=p.den ρ m:=hx.2;rw[dt]at he;exact(akm hb hg hex t p).mono λ_ _ _ _ _ hq=>ly.of_run he hq
  ·exact ar.fail
 case h_4 x h=>
  have hx:=cu ht x;unfold XO;split<;>first
   |exact ar.fail
   |(rename_i hv
     rw[hv]at hx;refine ar.pure ⟨hx.1,_,rfl,λw _=> .inl ?_⟩;have dt:=hx.2;simp only[V.rel,W.den,A.den]at dt;simp[execOp,h,dt,W.den,A.den])
 case h_5 c x y h=>
  have hc:=cu ht c;split
  ·rename_i v hv;rw[hv]at hc;have e1:a.eval c= .bool v:=hc.2;cases v with
   |true=>exact ar.pure ⟨(cu ht x).1,_,(cu ht x).2,λw _=> .inl (by simp[execOp,h,e1,asBool])⟩
   |false=>exact ar.pure ⟨(cu ht y).1,_,(cu ht y).2,λw _=> .inl (by simp[execOp,h,e1,asBool])⟩
  ·exact ar.fail
 case h_6 op t x y t' h=>
  have hx:=cu ht x;have hy:=cu ht y;unfold Tb;split
  ·rename_i k p a6 q pC lP;rw[pC]at hx;rw[lP]at hy;have e1:a.eval x= .int k (p.l.den ρ):=hx.2;have e2:a.eval y= .int a6 (q.l.den ρ):=hy.2;refine(acq (nb:=bl.length) (m:=m) P t hx.1 hy.1).bind λaD n1 r _ _ ⟨h1,h2⟩=>ar.pure ⟨h1,_,rfl,λw _=> .inl ?_⟩;have hgd:(eqGuard op t x y (.int k (p.l.den ρ)) (.int a6 (q.l.den ρ))).run P w= .ok () w:=by cases op<;>simp[eqGuard]
   simp only[execOp,h,e1,e2];simp[hgd,h2,W.den]
  ·rename_i p q pC lP;rw[pC]at hx;rw[lP]at hy;have e1:a.eval x= .agg (p.map (A.den ρ m)).toArray:=hx.2;have e2:a.eval y= .agg (q.map (A.den ρ m)).toArray:=hy.2;split
   ·refine(Ub (m:=m) (t:=t) hx.1 hy.1).bind λag n' r _ _ ⟨r1,g1,r2⟩=>ar.pure ⟨r1,_,rfl,λw _=> .inl ?_⟩;simp only[execOp,h,e1,e2];simp[run_eqGuard_agg w .eql t x y _ _ g1,run_eql_struct,r2,W.den,A.den]
   ·refine(Ub (m:=m) (t:=t) hx.1 hy.1).bind λag n' r _ _ ⟨r1,g1,r2⟩=>ar.pure ⟨bh.uA r1,_,rfl,λw _=> .inl ?_⟩;simp only[execOp,h,e1,e2];simp[run_eqGuard_agg w .neq t x y _ _ g1,run_neq_struct,r2,W.den,A.den,bh.tC]
   ·exact ar.fail
  ·rename_i p q pC lP;rw[pC]at hx;rw[lP]at hy;have e1:a.eval x= .string (aL (U (p.den ρ))):=hx.2;have e2:a.eval y= .string (aL (U (q.den ρ))):=hy.2;have he:execOp a.eval o=(do pure (kU (<-(do eqGuard op t x y (.string (aL (U (p.den ρ)))) (.string (aL (U (q.den ρ))));binOp op t (.string (aL (U (p.den ρ)))) (.string (aL (U (q.den ρ)))):Sem aA)))):=by simp only[execOp,h,e1,e2]
   exact(aqw (op:=op) (t:=t) (x:=x) (y:=y) (w0:=w0) (m:=m) hx.1 hy.1).mono λ_ _ _ _ _ hq=>ly.of_run he hq
  ·rename_i p q pC lP;rw[pC]at hx;rw[lP]at hy;have e1:a.eval x= .bool (p.den ρ):=hx.2;have e2:a.eval y= .bool (q.den ρ):=hy.2;have hgd:(eqGuard op t x y (.bool (p.den ρ)) (.bool (q.den ρ))).run P=λw=> .ok () w:=by funext w;cases op<;>simp[eqGuard]
   split
   ·rename_i hu;refine ar.pure ⟨bh.Y5 hx.1 hy.1,_,rfl,λw _=> .inl ?_⟩;simp only[execOp,h,e1,e2];simp[hgd,run_eql_bool w t _ _ hu,W.den,A.den,bh.TR]
   ·rename_i hu;refine ar.pure ⟨bh.uA (bh.Y5 hx.1 hy.1),_,rfl,λw _=> .inl ?_⟩;simp only[execOp,h,e1,e2];simp[hgd,run_neq_bool w t _ _ hu,W.den,A.den,bh.TR,bh.tC]
   ·exact ar.fail
  ·exact ar.fail
 case h_7 op t x h=>
  have hx:=cu ht x;unfold ZE;split
  ·rename_i b hv;rw[hv]at hx;have e1:a.eval x= .bool (b.den ρ):=hx.2;refine ar.pure ⟨bh.uA hx.1,_,rfl,λw _=> .inl ?_⟩;simp[execOp,h,e1,Op.unary,W.den,A.den,bh.tC]
  ·rename_i k p hv;rw[hv]at hx;have e1:a.eval x= .int k (p.l.den ρ):=hx.2;refine ei λhc=>?_;simp only[aO,fZ,decide_eq_true_eq]at hc;have hp:=hx.1;have Tj:=bK.ok.agree (n':=n) hp (agree.refl n ρ) (aW _);have b2:=Tj.2;have e2:((aa.const (two k-1)).sub p.l).den ρ=two k-1-p.l.den ρ:=by rw[aa.lC,aa.aT]
   refine ar.pure ⟨⟨aa.wj (aa.cH _ _) Tj.1,by simp only[e2];omega,by simp only[e2];omega⟩,_,rfl,λw _=> .inl ?_⟩;have key:k.wrap (pa k.bits (if k.signed=true then-1 else k.max)^^^pa k.bits (p.l.den ρ)).toNat=two k-1-p.l.den ρ:=by
    have hk:=hc.1.1;obtain⟨X,bL⟩:=s4 (show 0<=p.l.den ρ by omega);have hlt:X<2^k.bits:=by
     have:(X:Int)<2^k.bits:=by rw[<-uD,<-bL];omega
     exact_mod_cast this
    have hall:(pa k.bits (if k.signed=true then-1 else k.max))=BitVec.allOnes k.bits:=by
     cases k<;>simp[F4]at hk<;>rfl
    rw[hall,BitVec.allOnes_xor,BitVec.toNat_not,bL,Kc];have e3:((X:Int)% ((2^k.bits:Nat):Int)).toNat=X:=by
     rw[wG (by omega) (by exact_mod_cast hlt)];rfl
    rw[e3,JR];have ah:half k=0:=by simp[half,hk]
    have h2:two k=((2^k.bits:Nat):Int):=by rw[uD];simp
    rw[ah,h2,Int.add_zero,Int.sub_zero,wG (by omega) (by omega)];omega
   simp only[execOp,h,e1,Op.unary,Op.intBits,W.den,A.den,e2];simp at key;simp[key]
  ·rename_i k p hv;rw[hv]at hx;have e1:a.eval x= .int k (p.l.den ρ):=hx.2;have b2:=bK.ok.agree (n':=n) hx.1 (agree.refl n ρ) (aW _);have b3:=b2.2;have e2:(p.l.smul (-1)).den ρ=-p.l.den ρ:=by rw[aa.kg];omega
   refine(yQ (k:=k) (x:=⟨p.l.smul (-1),-p.hi,-p.lo⟩) ⟨aa.sP b2.1,by simp only[e2];omega,by simp only[e2];omega⟩).bind λaD n1 r _ _ ⟨h1,h2⟩=>ar.pure ⟨h1,_,rfl,λw _=> .inl ?_⟩;simp only[e2]at h2;simp[execOp,h,e1,Op.unary,Op.intArith,W.den,A.den,h2]
  ·exact ar.fail
 case h_8 s d x h=>
  have hx:=cu ht x;unfold TE;split
  ·rename_i a6 p hu hk hv;rw[hv]at hx;have e1:a.eval x= .int a6 (p.l.den ρ):=hx.2;split
   ·rename_i c hc;refine ei λhsz=>?_;have hl:(Kf c).data.toList.length<=eK:=by
     have:=eE hsz;have h2:(Kf c).data.toList.length=(Kf c).size:=by simp
     unfold eK;omega
    refine ar.pure ⟨⟨aa.cH _ _,by rw[aa.aT];exact ph _,by rw[aa.aT];exact nR hl⟩,_,rfl,λw _=> .inl ?_⟩;simp[execOp,h,e1,convert,fh hu,fh hk,Conv.intToString,W.den,A.den,aa.aT,ea,aL,aa.iO hc]
   ·exact ar.fail
  ·split
   rotate_left
   ·exact ar.fail
   rename_i k a6 p hu hk hv;rw[hv]at hx;have e1:a.eval x= .int a6 (p.l.den ρ):=hx.2;refine(yQ (k:=k) hx.1).bind λaD n1 r _ _ ⟨h1,h2⟩=>ar.pure ⟨h1,_,rfl,λw _=> .inl ?_⟩;simp[execOp,h,e1,convert,fh hu,fh (W4 hk),Conv.intToInt,W.den,A.den,h2]
 case h_9 t x bj h=>
  have hx:=cu ht x;have hi:=cu ht bj;split
  ·rename_i k i hv;rw[hv]at hi;have e1:a.eval bj= .int k (i.l.den ρ):=hi.2;have he:execOp a.eval o=(do pure (kU (<-s5 t (a.eval x) (.int k (i.l.den ρ))))):=by simp only[execOp,h,e1]
   exact(ait hx.1 hx.2 hi.1).mono λ_ _ _ _ _ hq=>ly.of_run he hq
  ·exact ar.fail
 case h_10 t x bj h=>
  have hx:=cu ht x;have hi:=cu ht bj;split
  ·rename_i s hv;rw[hv]at hx;have e1:a.eval x= .string (aL (U (s.den ρ))):=hx.2;split
   ·rename_i i hu Aj;obtain⟨k,hk,_⟩:=ub (m:=m) (bl:=bl) Aj hi.2 hi.1;have he:execOp a.eval o=(do pure (kU (<-Rv t (.string (aL (U (s.den ρ)))) (.int k (i.den ρ))))):=by simp only[execOp,h,e1,hk]
    exact(aqx (w0:=w0) (m:=m) hu hx.1).mono λ_ _ _ _ _ hq=>ly.of_run he hq
   ·exact ar.fail
  split
  ·rename_i l i len e hv Aj HG;rw[hv]at hx;have e1:a.eval x= .agg (l.map (A.den ρ m)).toArray:=hx.2;have e2:∃k,a.eval bj= .int k i:=by
    unfold G8 at Aj;split at Aj
    ·rename_i k p lP;rw[lP]at hi;have:a.eval bj= .int k (p.l.den ρ):=hi.2;exact⟨k,by rw[this,aa.iO Aj]⟩
    ·cases Aj
   obtain⟨k,e2⟩:=e2;split
   ·rename_i s hs;refine ei λhc=>?_;simp only[aO,decide_eq_true_eq]at hc;refine(Yc (w0:=w0) (m:=m) (bl:=bl) hx.1).mono λaD n1 v _ _ ⟨q1,val,q2,q3⟩=>⟨q1,val,q2,λw hw=> .inl ?_⟩;have:=q3 w hw;simp[execOp,h,e1,e2,Rv,asIntOf,fh (zt HG),hc,iD hs,this]
   ·exact ar.fail
  ·exact ar.fail
 case h_11 s x f h=>
  have hx:=cu ht x;split
  ·rename_i b off fd hv hf;rw[hv]at hx;have e1:a.eval x= .pointer (some ⟨m b,off,none⟩):=hx.2;obtain⟨dH,hu,DW⟩:=Mr hf;split
   ·rename_i k hs;refine ar.pure ⟨hx.1,_,rfl,λw _=> .inl ?_⟩;simp[execOp,h,e1,Cn,fh hu,DW,l7,fieldPlace,iD hs,jw,W.den,A.den]
   ·exact ar.fail
  ·exact ar.fail
 case h_12 s x f h=>
  have hx:=cu ht x;split
  ·rename_i l fd hv hf;rw[hv]at hx;have e1:a.eval x= .agg (l.map (A.den ρ m)).toArray:=hx.2;obtain⟨dH,hu,DW⟩:=Mr hf;refine(Yc (w0:=w0) (m:=m) (bl:=bl) hx.1).mono λaD n1 v _ _ ⟨q1,val,q2,q3⟩=>⟨q1,val,q2,λw hw=> .inl ?_⟩;have:=q3 w hw;simp[execOp,h,e1,Instr.field,asAgg,fh hu,DW,this]
  ·exact ar.fail
 case h_13 x i h=>
  have hx:=cu ht x;split
  ·rename_i l hv;rw[hv]at hx;have e1:a.eval x= .tuple (l.map (W.den ρ m)).toArray:=hx.2;split
   ·rename_i u hu;refine ar.pure ⟨hx.1 u (cZ hu),_,rfl,λw _=> .inl ?_⟩;simp[execOp,h,e1,Rq,hu]
   ·exact ar.fail
  ·exact ar.fail
 case h_14 t x lo hi h=>
  have hx:=cu ht x;split
  ·rename_i s hv hu;rw[hv]at hx;have e1:a.eval x= .string (aL (U (s.den ρ))):=hx.2;have he:execOp a.eval o=(do pure (kU (<-nP t (.string (aL (U (s.den ρ)))) (lo.map a.eval) (hi.map a.eval) none))):=by simp only[execOp,h,e1];rfl
   exact(aqz (w0:=w0) (m:=m) hu hx.1 ht).mono λ_ _ _ _ _ hq=>ly.of_run he hq
  have key:∀(y:Option l8) (c:Option Int),I2 tm y=some c->∃f:Int->aA,(∀c,∃k,f c= .int k c)/\y.map a.eval=c.map f:=by
   intro y c hy;unfold I2 at hy;cases y with
   |none=>simp at hy;subst hy;exact⟨λc=> .int .i64 c,λc=>⟨_,rfl⟩,rfl⟩
   |some y=>
    simp only at hy;have hi:=cu ht y;unfold G8 at hy;split at hy
    ·rename_i c' hq;split at hq
     ·rename_i k p lP;simp only[aK]at hy;subst hy;rw[lP]at hi;have:a.eval y= .int k (p.l.den ρ):=hi.2;exact⟨λc=> .int k c,λc=>⟨_,rfl⟩,by simp[this,aa.iO hq]⟩
     ·cases hq
    ·cases hy
  split
  ·rename_i l ah h1 h2;obtain⟨Us,Ut,Uu⟩:=key lo l h1;obtain⟨awu,Hl,Ui⟩:=key hi ah h2;unfold Ze;split
   ·rename_i b off yo e hv HG;rw[hv]at hx;have e1:a.eval x= .pointer (some ⟨m b,off,none⟩):=hx.2;split
    ·rename_i s hs;refine ei λhc=>?_;simp only[aO,decide_eq_true_eq]at hc;refine ar.pure ⟨hx.1,_,rfl,λw _=> .inl ?_⟩;have hb1:(jv false yo yo (lo.map a.eval) (hi.map a.eval) none).run P w= .ok ((l.getD 0).toNat,(ah.getD yo).toNat,yo) w:=by
      rw[Uu,Ui];have c1:∀(k:di) (i:Int) (y:Nat) (mJ:BoundsCode),0<=i->i<=y->(F6 (.int k i) y mJ).run P w= .ok i.toNat w:=λk i y mJ p1 bo=>by
       simp[F6,asIntOf,p1,bo]
      cases l with
      |none=>
       cases ah with
       |none=>simp[jv]
       |some h'=>
        obtain⟨a6,iu⟩:=Hl h';simp only[Rw,pS]at hc;simp[jv,iu,c1 a6 h' yo _ (by omega) (by omega)]
      |some bV=>
       obtain⟨k1,iv⟩:=Ut bV;cases ah with
       |none=>
        simp only[Rw,pS]at hc;simp[jv,iv,c1 k1 bV yo _ (by omega) (by omega)]
       |some h'=>
        obtain⟨a6,iu⟩:=Hl h';simp only[pS]at hc;simp[jv,iu,iv,c1 a6 h' yo _ (by omega) (by omega),c1 k1 bV h'.toNat _ (by omega) (by omega)]
     simp only[execOp,h,e1,aaJ,nP];simp[fh (zt HG),l7,hb1,iD hs,jw,W.den,A.den];intro hq;have h3:=hc.2;omega
    ·exact ar.fail
   ·rename_i b off len cap hv HG;rw[hv]at hx;have e1:a.eval x= .slice (some ⟨m b,off,none⟩) len cap:=hx.2;split
    ·rename_i e n7;split
     ·rename_i s hs;refine ei λhc=>?_;simp only[aO,decide_eq_true_eq]at hc;refine ar.pure ⟨hx.1,_,rfl,λw _=> .inl ?_⟩;have hb1:(jv true len cap (lo.map a.eval) (hi.map a.eval) none).run P w= .ok ((l.getD 0).toNat,(ah.getD len).toNat,cap) w:=by
       rw[Uu,Ui];have c1:∀(k:di) (i:Int) (y:Nat) (mJ:BoundsCode),0<=i->i<=y->(F6 (.int k i) y mJ).run P w= .ok i.toNat w:=λk i y mJ p1 bo=>by
        simp[F6,asIntOf,p1,bo]
       cases l with
       |none=>
        cases ah with
        |none=>simp[jv]
        |some h'=>
         obtain⟨a6,iu⟩:=Hl h';simp only[Rw,pS]at hc;simp[jv,iu,c1 a6 h' cap _ (by omega) (by omega)]
       |some bV=>
        obtain⟨k1,iv⟩:=Ut bV;cases ah with
        |none=>
         simp only[Rw,pS]at hc;simp[jv,iv,c1 k1 bV len _ (by omega) (by omega)]
        |some h'=>
         obtain⟨a6,iu⟩:=Hl h';simp only[pS]at hc;simp[jv,iu,iv,c1 a6 h' cap _ (by omega) (by omega),c1 k1 bV h'.toNat _ (by omega) (by omega)]
      simp only[execOp,h,e1,aaJ,nP];simp[fh (hO n7),Kg,hb1,iD hs,jw,W.den,A.den];intro hq;have h3:=hc.2;omega
     ·exact ar.fail
    ·exact ar.fail
   ·exact ar.fail
  ·exact ar.fail
 case h_15 c h=>
  split
  ·rename_i f hc;split
   ·rename_i g NM;have nt:∀v∈c.args.toList.map (b8 tm),V.ok n bl.length ρ v:=λv hv=>by
     obtain⟨x,_,rfl⟩:=List.mem_map.1 hv;exact(cu ht x).1
    refine(cy f g NM L n ρ m bl _ _ hb hex nt (Gr (xs:=c.args.toList) ht)).mono λaD n1 v _ _ ⟨q1,val,q2,q3⟩=>⟨q1,val,q2,λw hw=>?_⟩;have he:=Qi (a:=a) hc o h;have ha:(c.args.toList.map a.eval).toArray=c.args.map a.eval:=by
     rw[<-uT]
    have de:=q3 w hw;rw[ha]at de;rcases de with de|⟨de,iT⟩
    ·exact .inl (by rw[he];exact de)
    ·exact .inr ⟨f,_,by rw[he];exact de,iT⟩
   ·exact ar.fail
  ·rename_i hc;split
   ·rename_i x t gE pA;have hx:=cu ht x;split
    ·rename_i s hv hu;rw[hv]at hx;have e1:a.eval x= .string (aL (U (s.den ρ))):=hx.2;have a1:c.args=#[x]:=by rw[<-l6 (xs:=c.args),gE]
     have a2:c.argTypes=#[t]:=by rw[<-l6 (xs:=c.argTypes),pA]
     have he:execOp a.eval o=(do pure (kU (<-F5 #[t] o.type #[.string (aL (U (s.den ρ)))]))):=by
      simp[execOp,h,resolve,hc,a1,a2,e1,invoke,builtin]
     exact(aqy (w0:=w0) (m:=m) hu hx.1).mono λ_ _ _ _ _ hq=>ly.of_run he hq
    split
    ·rename_i b off len cap e hv hs;rw[hv]at hx;have e1:a.eval x= .slice (some ⟨m b,off,none⟩) len cap:=hx.2;refine ar.pure ⟨bK.np _ _ _,_,rfl,λw _=> .inl ?_⟩;have a1:c.args=#[x]:=by rw[<-l6 (xs:=c.args),gE]
     have a2:c.argTypes=#[t]:=by rw[<-l6 (xs:=c.argTypes),pA]
     simp[execOp,h,resolve,hc,a1,a2,e1,invoke,builtin,F5,fh (hO hs),goInt,W.den,A.den,bK.const,aa.aT]
    ·exact ar.fail
   ·exact ar.fail
  ·exact ar.fail
 case h_16 f first gY h=>
  split
  ·rename_i l hf hl;obtain⟨g1,g2⟩:=am6 (m:=m) hl (λv hv=>by obtain⟨x,_,rfl⟩:=List.mem_map.1 hv;exact(cu ht x).1) (Gr (xs:=gY.toList) ht);have Vz:first=#[]:=by rw[<-l6 (xs:=first),hf]
   have vv:gY.map a.eval=(l.map (A.den ρ m)).toArray:=by rw[<-g2,<-uT]
   refine ar.pure ⟨g1,_,rfl,λw _=> .inl ?_⟩;simp only[execOp,h,vv,Vz];simp[Instr.makeFunc]
  ·exact ar.fail
 case h_17 t parts h=>
  split
  ·rename_i l hl;obtain⟨g1,g2⟩:=acD (n:=n) (nb:=bl.length) (ρ:=ρ) (m:=m) (vals:=(parts.map λ(i,x)=>(i,a.eval x)).toList) hl (by
    rw[uT];generalize parts.toList=ps;induction ps with
    |nil=>exact trivial
    |cons p r ih=>exact⟨⟨rfl,cu ht p.2⟩,ih⟩)
   refine ar.pure ⟨g1,_,rfl,λw _=> .inl ?_⟩;simp only[execOp,h];simp[run_build w t _ _ g2,W.den]
  ·exact ar.fail
 case h_18=>exact ar.fail
end
end Go.bg
namespace Go.bg
open M
noncomputable def CZ (c:ay) (code i:aa) (j:Nat):M A:=
 match c with
 | .int k lo hi=>bind (eB 21 [code,i,.const j] lo hi) λl=>pure (.int k ⟨l,lo,hi⟩)
 | .str=>bind (eB 21 [code,i,.const j] 0 bx) λl=>pure (.str l)
 | .bool=>bind (eB 21 [code,i,.const j] 0 1) λl=>pure (.bool (.mkEq ⟨l,0,1⟩ (.const 1)))
 | .sub _=>fail
 | .nil=>pure (.con (.slice none 0 0))
noncomputable def LZ (code i:aa):Nat->List ay->M (List A)
 |_,[]=>pure []
 |j,c::r=>bind (CZ c code i j) λa=>bind (LZ code i (j+1) r) λl=>pure (a::l)
noncomputable def Qd (c:ay) (code:aa):Nat->aa->M (List A)
 |0,_=>pure []
 |q+1,i=>bind (fj 21 [code,i]) λ_=>bind (CZ c code i 0) λa=>bind (Qd c code q (i.add (.const 1))) λl=>pure (a::l)
noncomputable def Mn (P:bk) (bl:List ao) (t:aS) (b aM:Nat) (o i:aa) (j:Nat):M V:=
 match bl[b]? with
 |some ([.rows sh off code cap kind],_)=>cond (b6 0 kind&&aG aM sh.length&&aa.beq o off) (bind (fj 21 [code,i]) λ_=>match od P t,eM P t with
  |some true,some k=>cond (bC (j+k) sh.length) (bind (LZ code i j ((sh.drop j).take k)) λl=>pure (.w (.agg l))) (match sh,j with
   |[c],0=>bind (Qd c code k i) λl=>pure (.w (.agg l))
   |_,_=>fail)
  |some false,_=>match sh[j]? with
   |some c=>bind (CZ c code i j) λa=>pure (.w (.one a))
   |none=>fail
  |_,_=>fail) fail
 |_=>fail
def Qx (P:bk) (t:aS) (b aM:Nat) (o ro len:aa) (bj:aa):M V:=
 match hL P t with
 |some e=>match eM P e with
  |some s=>cond (aG s aM) (bind (fj 30 [bj,len]) λ_=>pure (.w (.one (.ep b aM o (ro.add bj) 0)))) fail
  |none=>fail
 |none=>fail
def zu (op:Nat) (ls:List aa):M Unit:=λn k=> .vf op ls (k () n)
def QA (P:bk) (t:aS) (b aM:Nat) (o ro len cap:aa) (x y:aa):M V:=
 match hL P t with
 |some e=>match eM P e with
  |some s=>cond (aG s aM) (bind (fj 32 [x,y,len]) λ_=>match x.du with
   |some 0=>pure (.w (.one (.sl b aM o ro y cap)))
   |_=>bind (zu 68 [len,cap]) λ_=>bind (eB 33 [ro,x,cap] 0 9223372036854775809) λr=>pure (.w (.one (.sl b aM o r (y.sub x) (cap.sub x))))) fail
  |none=>fail
 |none=>fail
def tu (tm:List V) (d:aa):Option l8->Option aa
 |none=>some d
 |some x=>mX (b8 tm x)
def Tn:List ay->Bool
 |[.int .u8 lo hi]=>decide (lo=0)&&decide (hi=255)
 |_=>false
noncomputable def Qz (bl:List ao) (b aM:Nat) (o ro len:aa):M V:=
 match bl[b]? with
 |some ([.rows sh off code cap kind],_)=>cond (b6 0 kind&&aG aM 1&&aa.beq o off&&Tn sh) (bind (fj 35 [code,ro,ro.add len]) λ_=>bind (eB 34 [code,ro,ro.add len] 0 bx) λl=>pure (.w (.one (.str l)))) fail
 |_=>fail
def LM {α:Type} (b:bh) (x y:M α):M α:=λn k=>match b with
 | .lit v=>cond v (x n k) (y n k)
 |b=> .tv b (x n k) (y n k)
def XA (k:di) (x y:bK):M V:=LM (.mkLt y x) (pure (.w (.one (.int k y)))) (pure (.w (.one (.int k x))))
def ma:List A->Option (List Bool)
 |[]=>some []
 | .bool (.lit b)::r=>match ma r with|some l=>some (b::l)|none=>none
 |_::_=>none
def ua:Nat->List Bool->List UInt8
 |_,[]=>[]
 |i,b::r=>cond b (kx i::ua (i+1) r) (ua (i+1) r)
def Qr (bl:List ao) (b off:Nat) (bj:bK):M V:=
 match bl[b]? with
 |some (cs,_)=>match ma ((cs.drop off).take (bj.hi.toNat+1))with
  |some l=>cond (aG l.length (bj.hi.toNat+1)&&bC bj.hi.toNat 255&&decide (0<=bj.lo)&&bT cs) (bind (eB 43 [.const (dC (ua 0 l)),bj.l] 0 1) λr=>pure (.w (.one (.bool (.mkEq ⟨r,0,1⟩ (.const 1)))))) fail
  |none=>fail
 |none=>fail
noncomputable def Qe (P:bk) (bl:List ao) (tm:List V) (o:Oper):Option (M V):=
 match o.op with
 | .load t x=>match b8 tm x with
  | .w (.one (.ep b aM o i j))=>some (Mn P bl t b aM o i j)
  | .w (.one (.oj b off bj))=>match P.underlying t with
   |some .bool=>some (Qr bl b off bj)
   |_=>none
  |_=>none
 | .nilCheck x=>match b8 tm x with
  | .w (.one (.ep b aM o i j))=>some (pure (.w (.one (.ep b aM o i j))))
  |_=>none
 | .indexAddr t x bj=>match b8 tm x,b8 tm bj with
  | .w (.one (.sl b aM o ro len cap)),.w (.one (.int _ i))=>some (Qx P t b aM o ro len i.l)
  |_,_=>none
 | .sliceToArrayPointer t x=>match b8 tm x,tq P t with
  | .w (.one (.sl b aM o ro len cap)),some (k,_)=>some (cond (b6 0 k) (bind (fj 30 [.const ((k:Int)-1),len]) λ_=>pure (.w (.one (.ep b aM o ro 0)))) fail)
  |_,_=>none
 | .fieldAddr s x f=>match b8 tm x,Dd P s f with
  | .w (.one (.ep b aM o i j)),some fd=>match eM P fd.type with
   |some (_+1)=>some (pure (.w (.one (.ep b aM o i (j+fd.offset)))))
   |_=>none
  |_,_=>none
 | .slice t x lo hi none=>match b8 tm x with
  | .w (.one (.sl b aM o ro len cap))=>match tu tm (.const 0) lo,tu tm len hi with
   |some p,some q=>some (QA P t b aM o ro len cap p q)
   |_,_=>none
  |_=>none
 | .convert s d x=>match b8 tm x,hL P s,P.underlying d with
  | .w (.one (.sl b aM o ro len cap)),some e,some .string=>match P.underlying e with
   |some (.int .u8)=>some (Qz bl b aM o ro len)
   |_=>none
  |_,_,_=>none
 | .call c=>match c.callee with
  | .builtin .len=>match c.args.toList,c.argTypes.toList with
   |[x],[t]=>match b8 tm x,hL P t with
    | .w (.one (.sl b aM o ro len cap)),some _=>some (pure (.w (.one (.int .i64 ⟨len,0,9223372036854775807⟩))))
    |_,_=>none
   |_,_=>none
  | .builtin .min=>match c.args.toList with
   |[x,y]=>match b8 tm x,b8 tm y with
    | .w (.one (.int k p)),.w (.one (.int a6 q))=>cond (decide (k=a6)) (some (XA k p q)) none
    |_,_=>none
   |_=>none
  |_=>none
 | .binOp op t x y _=>match hL P t,b8 tm x,b8 tm y with
  |some _,.w (.one (.sl b aM o ro len cap)),.w (.one (.con (.slice none 0 0)))=>match op with
   | .eql=>some (bind (zu 53 [cap,len]) λ_=>pure (.w (.one (.bool (.eq cap (.const (-1)))))))
   | .neq=>some (bind (zu 53 [cap,len]) λ_=>pure (.w (.one (.bool (.mkNot (.eq cap (.const (-1))))))))
   |_=>none
  |_,_,_=>none
 |_=>none
def QB (P:bk) (t:aS) (b aM:Nat) (o ro len cap:aa) (x y z:aa):M V:=
 match hL P t with
 |some e=>match eM P e with
  |some s=>cond (aG s aM) (bind (cond (aa.beq z len) (fj 78 [x,y,z,cap]) (fj 64 [x,y,z,len])) λ_=>bind (eB 33 [ro,x,z] 0 9223372036854775808) λr=>pure (.w (.one (.sl b aM o r (y.sub x) (z.sub x))))) fail
  |none=>fail
 |none=>fail
def WQ (bl:List ao) (b:Nat):Bool:=match bl[b]? with
 |some ([.rows _ _ _ _ kind],_)=>aG kind 1
 |_=>false
def QC (P:bk) (bl:List ao) (t:aS) (b aM:Nat) (o ro len cap:aa) (x y z:aa):M V:=
 cond (WQ bl b&&aa.beq z len&&aa.beq y len&&aa.beq x (.const 0))
  (match hL P t with
    |some e=>match eM P e with
     |some s=>cond (aG s aM) (bind (eB 62 [cap,len] (-2) 9223372036854775807) λc=>pure (.w (.one (.sl b aM o ro len c)))) fail
     |none=>fail
    |none=>fail) (QB P t b aM o ro len cap x y z)
noncomputable def Jr (P:bk) (bl:List ao) (tm:List V) (o:Oper):Option (M V):=
 match o.op with
 | .slice t x lo (some hi) (some fC)=>match b8 tm x with
  | .w (.one (.sl b aM cm ro len cap))=>match tu tm (.const 0) lo,mX (b8 tm hi),mX (b8 tm fC)with
   |some p,some q,some r=>some (QC P bl t b aM cm ro len cap p q r)
   |_,_,_=>none
  |_=>none
 | .call c=>match c.callee with
  | .builtin .len=>match c.args.toList,c.argTypes.toList with
   |[x],[t]=>match b8 tm x,hL P t with
    | .w (.one (.con (.slice none 0 0))),some _=>some (pure (.w (.one (.int .i64 (.const 0)))))
    |_,_=>none
   |_,_=>none
  |_=>none
 |_=>none
noncomputable def Hd (cal:dY) (bl:List ao) (tm:List V) (o:Oper):Option (M V):=
 match o.op with
 | .call c=>match c.callee with
  | .value (.tmp x)=>match b8 tm (.tmp x)with
   | .w (.one (.con (.func (.func f) Hj Hk)))=>cond (aG Hj.size 0&&aG Hk.size 0) ((cal f).map λg=>g bl (c.args.toList.map (b8 tm))) none
   |_=>none
  |_=>none
 |_=>none
noncomputable def sN (P:bk) (cal:dY) (gl:dA) (bl:List ao) (tm:List V) (o:Oper):M V:=
 match Qe P bl tm o with
 |some x=>x
 |none=>match Jr P bl tm o with
  |some x=>x
  |none=>match Hd cal bl tm o with
   |some x=>x
   |none=>PR P cal gl bl tm o
theorem pY.get {cells:Array aA} {off:Nat} {sh:List ay} {rows:List (List Int)} (h:pY cells off sh rows) {i j:Nat} {row:List Int} {v:aA} (hi:rows[i]?=some row) (hj:(dp sh row)[j]?=some v):cells[off+i*sh.length+j]?=some v:=by
 obtain⟨h1,pre,post,h2,h3⟩:=h;have h4:=MC h1 hi hj;rw[<-FX,h2,gJ,uP (by omega),rO]
 ·rw[show off+i*sh.length+j-pre.length=i*sh.length+j by omega];exact h4
 ·have:=(List.getElem?_eq_some_iff.1 h4).1;omega
theorem ig.cell {F:Nat->Prop} {w:ai} {cells:Array aA} {off:Nat} {sh:List ay} {rows:List (List Int)} (h:ig F w cells off sh rows) {i j:Nat} {row:List Int} {c:ay} (hi:rows[i]?=some row) (hc:sh[j]?=some c):∃z v,row[j]?=some z/\cells[off+i*sh.length+j]?=some v/\p6 F w c z v:=by
 obtain⟨h1,pre,vs,post,h2,h3,h4⟩:=h;obtain⟨z,v,k1,k2,k3⟩:=(h4.get hi).get hc;refine⟨z,v,k1,?_,k3⟩;rw[o8]at k2;split at k2
 ·rw[wI]at k2;have hlt:=(List.getElem?_eq_some_iff.1 k2).1;rw[<-FX,h2,gJ,uP (by omega),rO (by omega)];rw[show off+i*sh.length+j-pre.length=i*sh.length+j by omega];exact k2
 ·cases k2
theorem YB:∀{sh:List ay} {row:List Int} {j:Nat} {c:ay} {z:Int},bO sh row->sh[j]?=some c->row[j]?=some z->(dp sh row)[j]?=some (c.val z)
 |c'::sh,FD::r,0,c,z,h,hc,hz=>by
  simp only[nd,aK]at hc hz;subst hc;subst hz;rfl
 |c'::sh,FD::r,j+1,c,z,h,hc,hz=>by
  simp only[List.getElem?_cons_succ]at hc hz;exact YB (sh:=sh) h.2 hc hz
 |[],_,_,_,_,_,hc,_=>by simp at hc
 |_::_,[],_,_,_,h,_,_=>h.elim
theorem ig.get {F:Nat->Prop} {w:ai} {cells:Array aA} {off:Nat} {sh:List ay} {rows:List (List Int)} (h:ig F w cells off sh rows) {i j:Nat} {row:List Int} {v:aA} {c:ay} (hi:rows[i]?=some row) (hc:sh[j]?=some c) (hp:c.plain=true) (hj:(dp sh row)[j]?=some v):cells[off+i*sh.length+j]?=some v:=by
 obtain⟨z,v',k1,k2,k3⟩:=h.cell hi hc;have e:=YB (h.1 row (cZ hi)) hc k1;rw[hj]at e;have e2:v'=c.val z:=by
  cases c with
  |sub _=>cases hp
  |_=>exact k3
 rw[k2,e2,<-gH e]
section
variable {S:Nat->List Int->List Int->Prop} {L:V->Env->Prop} {n:Nat} {ρ:Env} {m:Nat->Nat} {bl:List ao} {gl:dA} {w0:cN} {P:bk} {tm:List V} {a:Act}
theorem acz {α:Type} {b:bh} {x y:M α} {R:Env->Nat->α->Prop} (h1:b.den ρ=true->ar S L x n ρ R) (h2:b.den ρ=false->ar S L y n ρ R):ar S L (LM b x y) n ρ R:=by
 intro A k hk;unfold LM at hk;cases hb:b.den ρ with
 |true=>
  cases b with
  |lit v=>simp only[bh.den]at hb;subst hb;exact h1 rfl A k hk
  |_=>exact h1 hb A k (hk.1 hb)
 |false=>
  cases b with
  |lit v=>simp only[bh.den]at hb;subst hb;exact h2 rfl A k hk
  |_=>exact h2 hb A k (hk.2 hb)
theorem LW {nb:Nat} {c:ay} {code i:aa} {j:Nat} {z:Int} {row:List Int} (hrow:(ab (code.den ρ))[(i.den ρ).toNat]?=some row) (hz:row[j]?=some z) (h1:c.dS.1<=z) (h2:z<=c.dS.2):
 ar S L (CZ c code i j) n ρ λag n' x=>x.ok n' nb ag/\x.den ag m=c.val z/\c.plain=true:=by
 have hf:aw 21 ([code,i,aa.const (j:Nat)].map (·.den ρ))=z:=by
  simp only[ct,et,aa.aT,aw,eZ];simp[aB,hrow,hz]
 cases c with
 |int k lo hi=>
  refine(gf (by rw[hf];exact h1) (by rw[hf];exact h2)).bind λaD n1 l _ _ ⟨g1,g2⟩=>ar.pure ⟨⟨g1,?_,?_⟩,?_,rfl⟩
  ·rw[g2,hf];exact h1
  ·rw[g2,hf];exact h2
  ·simp only[A.den,ay.val];rw[g2,hf]
 |str=>
  refine(gf (by rw[hf];exact h1) (by rw[hf];exact h2)).bind λaD n1 l _ _ ⟨g1,g2⟩=>ar.pure ⟨⟨g1,?_,?_⟩,?_,rfl⟩
  ·rw[g2,hf];exact h1
  ·rw[g2,hf];exact h2
  ·simp only[A.den,ay.val];rw[g2,hf]
 |bool=>
  refine(gf (by rw[hf];exact h1) (by rw[hf];exact h2)).bind λaD n1 l _ _ ⟨g1,g2⟩=>ar.pure ?_;have aY:bK.ok n1 aD ⟨l,0,1⟩:=⟨g1,by simp only;rw[g2,hf];exact h1,by simp only;rw[g2,hf];exact h2⟩;have e:=bh.tB aY (bK.np n1 aD 1);refine⟨e.2,?_,rfl⟩;simp only[A.den,ay.val];rw[e.1];simp only[bK.const,aa.aT];rw[g2,hf]
 |sub k=>exact ar.fail
 |nil=>exact ar.pure ⟨(rfl:(Value.slice none 0 0).oneCell'=true),rfl,rfl⟩
theorem Tw {nb:Nat} {sh:List ay} {row:List Int} (aY:bO sh row):∀{r:List ay} {n:Nat} {ρ:Env} {code i:aa} {j:Nat},code.aZ n->i.aZ n->(ab (code.den ρ))[(i.den ρ).toNat]?=some row->(∀(x:Nat) (c:ay),r[x]?=some c->sh[j+x]?=some c)->
 ar S L (LZ code i j r) n ρ λag n' l=>(∀a∈l,A.ok n' nb ag a)/\l.length=r.length/\∀(x:Nat) (a:A),l[x]?=some a->∃c,sh[j+x]?=some c/\c.plain=true/\(dp sh row)[j+x]?=some (a.den ag m)
 |[],n,ρ,code,i,j,_,_,_,_=>ar.pure ⟨λ_ h=>by simp at h,rfl,λx a h=>by simp at h⟩
 |c::r,n,ρ,code,i,j,xY,xZ,hrow,hr=>by
  have h0:=hr 0 c rfl;obtain⟨z,h1,h2,h3,h4⟩:=aY.get h0;refine(LW (nb:=nb) (m:=m) hrow h1 h2 h3).bind λaD n1 y hn ha ⟨g1,g2,g3⟩=>?_;refine(Tw (nb:=nb) (r:=r) (n:=n1) (ρ:=aD) (code:=code) (i:=i) (j:=j+1) aY (xY.mono hn) (xZ.mono hn) (by rw[aa.bG ha xY,aa.bG ha xZ];exact hrow) (λx c hx=>by
   have:=hr (x+1) c (by simpa using hx);rw[show j+1+x=j+(x+1) by omega];exact this)).bind λbp n2 l ee db ⟨k1,k2,k3⟩=>ar.pure ⟨λb hb=>?_,by simp[k2],λx b hb=>?_⟩
  ·rcases List.mem_cons.1 hb with rfl|hb
   ·exact g1.ext db ee (aW _)
   ·exact k1 b hb
  ·cases x with
   |zero=>
    simp only[nd,aK]at hb;subst hb;exact⟨c,h0,g3,by rw[A.kf g1 db (λ_ _=>rfl),g2];exact h4⟩
   |succ x=>
    have:=k3 x b (by simpa using hb);rw[show j+(x+1)=j+1+x by omega];exact this
theorem YI {nb:Nat} {c:ay} {code:aa}:∀{q n:Nat} {ρ:Env} {i:aa},(∀row∈ab (code.den ρ),bO [c] row)->code.aZ n->i.aZ n->
 ar S L (Qd c code q i) n ρ λag n' l=>(∀a∈l,A.ok n' nb ag a)/\l.length=q/\∀(x:Nat) (a:A),l[x]?=some a->∃row,(ab (code.den ρ))[(i.den ρ).toNat+x]?=some row/\c.plain=true/\(dp [c] row)[0]?=some (a.den ag m)
 |0,n,ρ,i,_,_,_=>ar.pure ⟨λ_ h=>by simp at h,rfl,λx a h=>by simp at h⟩
 |q+1,n,ρ,i,jh,xY,xZ=>by
  refine gD λhk=>?_;simp only[ct,et,af]at hk;have hlt:(i.den ρ).toNat<(ab (code.den ρ)).length:=by omega
  have hrow:(ab (code.den ρ))[(i.den ρ).toNat]?=some (ab (code.den ρ))[(i.den ρ).toNat]:=gy hlt;have aY:=jh _ (Cs hlt);generalize (ab (code.den ρ))[(i.den ρ).toNat]=row at hrow aY;obtain⟨z,h1,h2,h3,h4⟩:=aY.get (show([c]:List ay)[0]?=some c from rfl);refine(LW (nb:=nb) (m:=m) hrow h1 h2 h3).bind λaD n1 y hn ha ⟨g1,g2,g4⟩=>?_;have gL:=aa.bG ha xY;have hid:=aa.bG ha xZ;refine(YI (nb:=nb) (q:=q) (n:=n1) (ρ:=aD) (i:=i.add (.const 1)) (by rw[gL];exact jh) (xY.mono hn) (aa.rE (xZ.mono hn) (aa.cH _ _))).bind λbp n2 l ee db ⟨k1,k2,k3⟩=>ar.pure ⟨λb hb=>?_,by simp[k2],λx b hb=>?_⟩
  ·rcases List.mem_cons.1 hb with rfl|hb
   ·exact g1.ext db ee (aW _)
   ·exact k1 b hb
  ·cases x with
   |zero=>
    simp only[nd,aK]at hb;subst hb;exact⟨row,by simpa using hrow,g4,by rw[A.kf g1 db (λ_ _=>rfl),g2];exact h4⟩
   |succ x=>
    obtain⟨wc,r1,r3,r2⟩:=k3 x b (by simpa using hb);rw[gL,aa.den_add,aa.aT,hid]at r1;exact⟨wc,by rw[<-r1];congr 1;omega,r3,r2⟩
theorem adW (hb:b9 n bl.length ρ bl) (hex:∃w,Mem w0 ρ m bl w) (t:aS) {b aM:Nat} {o i:aa} {j:Nat} (hx:(A.ep b aM o i j).ok n bl.length ρ):
 ar S L (Mn P bl t b aM o i j) n ρ (lz w0 m bl n ρ λw=>(oD t ((A.ep b aM o i j).den ρ m)).run P w):=by
 obtain⟨uJ,ri⟩:=hex;unfold Mn;split
 ·rename_i sh off code cap kind t' hbl;refine ei λhc=>gD λhk=>?_;simp only[aO]at hc;obtain⟨⟨c1,c2⟩,c3⟩:=hc;have c1:0<kind:=eE c1;have c2:=bA c2;have c3:=aa.beq_eq c3;subst c3;have Az:(A.rows sh o code cap kind).ok n bl.length ρ:=hb _ (cZ hbl) _ (by simp);simp only[ct,et,af]at hk;have hlt:(i.den ρ).toNat<(ab (code.den ρ)).length:=by omega
  have hrow:(ab (code.den ρ))[(i.den ρ).toNat]?=some (ab (code.den ρ))[(i.den ρ).toNat]:=gy hlt;generalize (ab (code.den ρ))[(i.den ρ).toNat]=row at hrow;have cK:0<=cap.den ρ:=by
   rcases hU (cap.den ρ) 0 with h|h
   ·have:=(ri.rws b sh o code cap kind t' hbl (by omega)).1 h;rw[this]at hlt;simp at hlt
   ·exact h
  have kL:∀w,Mem w0 ρ m bl w->bO sh row/\∀(x:Nat) (v:aA) (c:ay),sh[x]?=some c->c.plain=true->(dp sh row)[x]?=some v->w.cell? ⟨m b,(o.den ρ).toNat+(i.den ρ).toNat*aM+x,none⟩=some v:=λw hw=>by
   obtain⟨_,cells,gS,fz,g1,⟨g2,g3⟩,_⟩:=(hw.rws b sh o code cap kind t' hbl (by omega)).2 cK;refine⟨g3.1 _ (cZ hrow),λx v c hc hp hv=>?_⟩;have:=g3.get hrow hc hp hv;simp only[jL,g1,rL,pU,if_false];rw[c2];exact this
  have jh:=(kL uJ ri).1;cases pt:od P t with
  |none=>exact ar.fail
  |some qK=>
   cases qK with
   |true=>
    cases hs:eM P t with
    |none=>exact ar.fail
    |some k=>
     simp only;cases hk2:bC (j+k) sh.length with
     |false=>
      simp only[cond_false];split
      ·rename_i c _;have hall:∀row∈ab (code.den ρ),bO [c] row:=by
        obtain⟨_,cells,gS,fz,g1,⟨g2,g3⟩,_⟩:=(ri.rws b [c] o code cap kind t' hbl (by omega)).2 cK;exact g3.1
       refine(YI (nb:=bl.length) (m:=m) (q:=k) (i:=i) hall Az.1.2.1 hx.2.1.2).bind λaD n1 l hn ha ⟨g1,g2,g3⟩=>ar.pure ⟨g1,_,rfl,λw hw=>?_⟩;have hl:=F1 (P:=P) w ⟨m b,(o.den ρ).toNat+(i.den ρ).toNat*aM+0,none⟩ (l.map (A.den aD m)) λx v hj=>by
        rw[jw];rw[oB]at hj;cases hq:l[x]? with
        |none=>simp[hq]at hj
        |some y=>
         simp only[hq,s3,aK]at hj;subst hj;obtain⟨wc,r1,r3,r2⟩:=g3 x y hq;obtain⟨_,cells,gS,fz,e1,⟨e2,e3⟩,_⟩:=(hw.rws b [c] o code cap kind t' hbl (by omega)).2 cK;have:=e3.get (j:=0) (c:=c) r1 rfl r3 r2;simp only[jL,e1,rL,pU,if_false];simp only[cS,eF]at c2 this;rw[c2];rw[<-this];congr 1;omega
       simp only[j8,g2,lu]at hl;simp[oD,l7,A.den,loadVar,rC pt,iD hs,hl,W.den]
      ·exact ar.fail
     |true=>
     simp only[cond_true];have hk2:=eE hk2;refine(Tw (nb:=bl.length) (m:=m) (r:=(sh.drop j).take k) jh Az.1.2.1 hx.2.1.2 hrow (λx c Ex=>by
      rw[o8]at Ex;split at Ex
      ·rw[wI]at Ex;exact Ex
      ·cases Ex)).bind λaD n1 l hn ha ⟨g1,g2,g3⟩=>ar.pure ⟨g1,_,rfl,λw hw=>?_⟩
     have hl:=F1 (P:=P) w ⟨m b,(o.den ρ).toNat+(i.den ρ).toNat*aM+j,none⟩ (l.map (A.den aD m)) λx v hj=>by
      rw[jw];rw[oB]at hj;cases hq:l[x]? with
      |none=>simp[hq]at hj
      |some y=>
       simp only[hq,s3,aK]at hj;subst hj;rw[Cv];obtain⟨c,q1,q2,q3⟩:=g3 x y hq;exact(kL w hw).2 (j+x) _ c q1 q2 q3
     simp only[j8,g2,ng,List.length_drop,wF (show k<=sh.length-j by omega)]at hl;simp[oD,l7,A.den,loadVar,rC pt,iD hs,hl,W.den]
   |false=>
    cases hc:sh[j]? with
    |none=>simp only;exact ar.fail
    |some c=>
     simp only;obtain⟨z,h1,h2,h3,h4⟩:=jh.get hc;refine(LW (nb:=bl.length) (m:=m) hrow h1 h2 h3).bind λaD n1 y hn ha ⟨g1,g2,g3⟩=>ar.pure ⟨g1,_,rfl,λw hw=>?_⟩;have:=(kL w hw).2 j _ c hc g3 h4;have Oc:(A.ep b aM o i j).den ρ m= .pointer (some ⟨m b,(o.den ρ).toNat+(i.den ρ).toNat*aM+j,none⟩):=rfl;simp[oD,l7,Oc,loadVar,rC pt,this,W.den,g2]
 ·exact ar.fail
theorem oo {b aM:Nat} {o ro len cap:aa} (hx:(A.sl b aM o ro len cap).ok n bl.length ρ):∃p,(A.sl b aM o ro len cap).den ρ m= .slice p (len.den ρ).toNat (if cap.den ρ<0 then 0 else(cap.den ρ).toNat)/\(cap.den ρ<0->p=lZ (cap.den ρ) (m b))/\(0<=cap.den ρ->p=some ⟨m b,(o.den ρ).toNat+(ro.den ρ).toNat*aM,none⟩):=by
 obtain⟨_,_,_,_,h3,_⟩:=hx;simp only[A.den];by_cases hc:cap.den ρ<0
 ·rw[if_pos hc,if_pos hc,h3 hc];exact⟨_,rfl,λ_=>rfl,λh=>by omega⟩
 ·rw[if_neg hc,if_neg hc];exact⟨_,rfl,λh=>absurd h hc,λ_=>rfl⟩
theorem aqc {t:aS} {b aM:Nat} {o ro len cap bj:aa} {k:di} (hx:(A.sl b aM o ro len cap).ok n bl.length ρ) (hi:bj.aZ n):
 ar S L (Qx P t b aM o ro len bj) n ρ (lz w0 m bl n ρ λw=>(s5 t ((A.sl b aM o ro len cap).den ρ m) (.int k (bj.den ρ))).run P w):=by
 unfold Qx;cases h1:hL P t with
 |none=>exact ar.fail
 |some e=>
  cases h2:eM P e with
  |none=>simp only[h2];exact ar.fail
  |some s=>
   simp only[h2];refine ei λhs=>gD λhk=>ar.pure ?_;have hs:=bA hs;subst hs;simp only[ct,et,af]at hk;obtain⟨x1,⟨x2,x3,eT,iG⟩,⟨iW,ox,lq,nN⟩,ov,fE,gT⟩:=hx;have cK:¬(cap.den ρ<0):=λh=>by have:=fE h;omega
   refine⟨⟨x1,⟨x2,aa.rE x3 hi⟩,iW,by rw[aa.den_add];omega⟩,_,rfl,λw _=>?_⟩;have c2:bj.den ρ<((len.den ρ).toNat:Int):=by omega
   have e1:(ro.den ρ+bj.den ρ).toNat=(ro.den ρ).toNat+(bj.den ρ).toNat:=by omega
   simp only[A.den,if_neg cK,W.den,aa.den_add,e1];simp[-au4,s5,asIntOf,fh (hO h1),hk.1,c2,iD h2,jw,uW,Cv]
theorem GU {d:aa} {y:Option l8} {l:aa} (h:tu tm d y=some l) (ht:dq n bl.length ρ m tm a.tmps):(y=none/\l=d)∨∃k,y.map a.eval=some (.int k (l.den ρ))/\l.aZ n:=by
 cases y with
 |none=>exact .inl ⟨rfl,by simpa [tu]using h.symm⟩
 |some x=>
  obtain⟨k,hk,h2⟩:=ub (m:=m) (bl:=bl) h (cu ht x).2 (cu ht x).1;exact .inr ⟨k,by rw[<-hk];rfl,h2⟩
theorem GM {op:Nat} {ls:List aa} (h:af op (ls.map (·.den ρ))):ar S L (zu op ls) n ρ λag n' _=>ag=ρ/\n'=n:=λA k hk=>⟨ρ,n,(),aW _,agree.refl _ _,⟨rfl,rfl⟩,hk h⟩
theorem aqg {t:aS} {b aM:Nat} {o ro len cap p q:aa} {lo hi:Option l8} (hx:(A.sl b aM o ro len cap).ok n bl.length ρ) (ht:dq n bl.length ρ m tm a.tmps) (hp:tu tm (.const 0) lo=some p) (hq:tu tm len hi=some q):
 ar S L (QA P t b aM o ro len cap p q) n ρ (lz w0 m bl n ρ λw=>(nP t ((A.sl b aM o ro len cap).den ρ m) (lo.map a.eval) (hi.map a.eval) none).run P w):=by
 unfold QA;cases h1:hL P t with
 |none=>exact ar.fail
 |some e=>
  cases h2:eM P e with
  |none=>simp only[h2];exact ar.fail
  |some s=>
   simp only[h2];refine ei λhs=>gD λhk=>?_;have hs:=bA hs;subst hs;simp only[ct,et,af]at hk;obtain⟨k1,k2,k3⟩:=hk;have jj:=hx;obtain⟨x1,⟨x2,x3,eT,iG⟩,⟨iW,ox,lq,nN⟩,⟨ov,ow⟩,fE,gT⟩:=hx;have hsp:=GU hp ht;have H6:=GU hq ht;have yJ:p.aZ n:=by rcases hsp with⟨_,rfl⟩|⟨_,_,h⟩;exact aa.cH _ _;exact h
   have yK:q.aZ n:=by rcases H6 with⟨_,rfl⟩|⟨_,_,h⟩;exact eT;exact h
   obtain⟨ptr,e1,e2,e3⟩:=oo (m:=m) jj;have qe:∀w,(jv true (len.den ρ).toNat (if cap.den ρ<0 then 0 else(cap.den ρ).toNat) (lo.map a.eval) (hi.map a.eval) none).run P w= .ok ((p.den ρ).toNat,(q.den ρ).toNat,(if cap.den ρ<0 then 0 else(cap.den ρ).toNat)) w:=λw=>by
    have hle:(len.den ρ)<=((if cap.den ρ<0 then 0 else(cap.den ρ).toNat:Nat):Int):=by
     split
     ·rename_i h;rw[fE h];simp
     ·rename_i h;have:=gT (by omega);omega
    generalize (if cap.den ρ<0 then 0 else(cap.den ρ).toNat)=C at hle;rcases hsp with⟨rfl,rfl⟩|⟨EI,ny,_⟩<;>rcases H6 with⟨rfl,rfl⟩|⟨W6,hq',_⟩
    ·simp[jv,aa.aT]
    ·rw[hq'];simp[jv,aa.aT,mw (P:=P) (by omega:0<=q.den ρ) (by omega:q.den ρ<=(C:Int))]
    ·rw[ny];simp[jv,mw (P:=P) (y:=(q.den ρ).toNat) k1 (by omega)]
    ·rw[ny,hq'];simp[jv,mw (P:=P) (by omega:0<=q.den ρ) (by omega:q.den ρ<=(C:Int)),mw (P:=P) (y:=(q.den ρ).toNat) k1 (by omega)]
   have hrun:∀(w:ai) (r:Int),r=(if p.den ρ=cap.den ρ then ro.den ρ else ro.den ρ+p.den ρ)->
    (nP t ((A.sl b s o ro len cap).den ρ m) (lo.map a.eval) (hi.map a.eval) none).run P w= .ok (if cap.den ρ-p.den ρ<0 then .slice (lZ (cap.den ρ-p.den ρ) (m b)) 0 0 else .slice (some ⟨m b,(o.den ρ).toNat+r.toNat*s,none⟩) (q.den ρ-p.den ρ).toNat (cap.den ρ-p.den ρ).toNat) w:=λw r hr=>by
    rw[e1];have fr:(q.den ρ).toNat-(p.den ρ).toNat=(q.den ρ-p.den ρ).toNat:=by omega
    simp only[nP,gm,fh (hO h1),gz,Kg,qe w,iD h2,hV,fr];by_cases hc:cap.den ρ<0
    ·have hl:=fE hc;have xS:p.den ρ=0:=by omega
     rw[if_pos hc,e2 hc,if_pos (by omega)];have:q.den ρ=0:=by omega
     simp[xS,this,hc]
    ·rw[if_neg hc,e3 (by omega)];have dU:=gT (by omega);have Ak:¬(cap.den ρ-p.den ρ<0):=by omega
     rw[if_neg Ak];have oP:(cap.den ρ).toNat-(p.den ρ).toNat=(cap.den ρ-p.den ρ).toNat:=by omega
     rw[oP];by_cases Eg:p.den ρ=cap.den ρ
     ·rw[if_pos Eg]at hr;have h7:(cap.den ρ).toNat=(p.den ρ).toNat:=by omega
      rw[if_pos h7,hr]
     ·rw[if_neg Eg]at hr;have h7:¬(cap.den ρ).toNat=(p.den ρ).toNat:=by omega
      rw[if_neg h7,hr];have lD:(ro.den ρ+p.den ρ).toNat=(ro.den ρ).toNat+(p.den ρ).toNat:=by omega
      rw[lD,uW,<-Cv];simp[jw]
   split
   ·rename_i h0;have xS:=aa.iO h0 (ρ:=ρ);refine ar.pure ⟨⟨x1,⟨x2,x3,yK,iG⟩,⟨iW,ox,by omega,by omega⟩,⟨ov,ow⟩,λh=>?_,λh=>?_⟩,_,rfl,λw _=>?_⟩
    ·have:=fE h;omega
    ·have:=gT h;omega
    ·have hr:=hrun w (ro.den ρ) (by rw[xS];split<;>omega);rw[xS]at hr;simp only[Int.sub_zero]at hr;simp only[W.den,A.den]at hr⊢;exact hr
   ·have hb1:(0:Int)<=aw 33 ([ro,p,cap].map (·.den ρ)):=by
     simp only[ct,et,aw];split<;>omega
    have hb2:aw 33 ([ro,p,cap].map (·.den ρ))<=9223372036854775809:=by
     simp only[ct,et,aw];by_cases hc:cap.den ρ<0
     ·have:=fE hc;split<;>omega
     ·have:=gT (by omega);split<;>omega
    refine(GM (op:=68) (ls:=[len,cap]) (show len.den ρ<=cap.den ρ∨len.den ρ=0 from by
     by_cases hc:cap.den ρ<0
     ·exact .inr (fE hc)
     ·exact .inl (gT (by omega)))).bind λbY n0 _ _ _ ⟨x9,n4⟩=>?_
    have x9:=x9.symm;have n4:=n4.symm
    subst x9;subst n4;refine(gf hb1 hb2).bind λaD n1 r hn ha ⟨g1,g2⟩=>ar.pure ?_;simp only[ct,et,aw]at g2;have a1:=aa.bG ha x2;have a2:=aa.bG ha yK;have a3:=aa.bG ha yJ;have a4:=aa.bG ha iG
    refine⟨⟨x1,⟨x2.mono hn,g1,aa.wj (yK.mono hn) (yJ.mono hn),aa.wj (iG.mono hn) (yJ.mono hn)⟩,?_⟩,_,rfl,λw _=>?_⟩
    ·rw[aa.lC,aa.lC,a1,a2,a3,a4,g2];refine⟨⟨iW,?_,by omega,by omega⟩,⟨?_,?_⟩,λh=>?_,λh=>?_⟩
     ·split<;>omega
     ·by_cases hc:cap.den ρ<0
      ·have:=fE hc;omega
      ·have:=gT (by omega);omega
     ·split<;>omega
     ·by_cases hc:cap.den ρ<0
      ·have:=fE hc;omega
      ·have:=gT (by omega);omega
     ·by_cases hc:cap.den ρ<0
      ·have:=fE hc;omega
      ·have:=gT (by omega);omega
    ·refine(hrun w (r.den aD) g2).trans ?_;simp only[W.den,A.den,aa.lC,a1,a2,a3,a4]
theorem apK (w:ai) (src e:aS) (hs:P.underlying src=some (.slice e)) (he:P.underlying e=some (.int .u8)) (p:Option Addr) (c:Nat):
 ∀dst,P.underlying dst=some .string->(convert src dst (.slice p 0 c)).run P w= .ok (.string aAL) w:=by
 intro dst hd;cases p with
 |none=>exact run_convert_bytes_nil w src e hs he _ _ dst hd
 |some a=>
  have hl:(loadCells a 0).run P w= .ok ([]:List aA).toArray w:=by
   have:=F1 (P:=P) w a ([]:List aA) (λj v hj=>by simp at hj);simpa using this
  rw[run_convert_bytes_string w src dst e _ 0 c hs he hd,run_bytesToString w _ 0 c [] hl];simp
theorem aqd (hb:b9 n bl.length ρ bl) (hex:∃w,Mem w0 ρ m bl w) {src dst e:aS} (hs:P.underlying src=some (.slice e)) (he:P.underlying e=some (.int .u8)) (hd:P.underlying dst=some .string) {b aM:Nat} {o ro len cap:aa} (hx:(A.sl b aM o ro len cap).ok n bl.length ρ):
 ar S L (Qz bl b aM o ro len) n ρ (lz w0 m bl n ρ λw=>(convert src dst ((A.sl b aM o ro len cap).den ρ m)).run P w):=by
 obtain⟨uJ,ri⟩:=hex;unfold Qz;split
 ·rename_i sh off code dT kind t' hbl;refine ei λhc=>gD λhk=>?_;simp only[aO]at hc;obtain⟨⟨⟨c1,c2⟩,c3⟩,c4⟩:=hc;have c1:0<kind:=eE c1;have c2:=bA c2;have c3:=aa.beq_eq c3;subst c3;subst c2;simp only[ct,et,af,aa.den_add]at hk;obtain⟨ptr,e1,e2,e3⟩:=oo (m:=m) hx;obtain⟨x1,⟨x2,x3,eT,iG⟩,⟨iW,ox,lq,nN⟩,⟨ov,ow⟩,fE,gT⟩:=hx;generalize hR:ab (code.den ρ)=rows at hk;have qh:dT.den ρ<0->rows=[]:=λh=>by rw[<-hR];exact(ri.rws b sh o code dT kind t' hbl (by omega)).1 h
  have gE:(((rows.drop (ro.den ρ).toNat).take (len.den ρ).toNat).map λrow=>row.getD 0 0).length=(len.den ρ).toNat:=by
   simp;omega
  have hf:aw 34 ([code,ro,ro.add len].map (·.den ρ))=dC ((((rows.drop (ro.den ρ).toNat).take (len.den ρ).toNat).map λrow=>row.getD 0 0).map λz=>kx z.toNat):=by
   simp only[ct,et,aw,aa.den_add,hR];have:(ro.den ρ+len.den ρ).toNat-(ro.den ρ).toNat=(len.den ρ).toNat:=by omega
   rw[this,kT];rfl
  generalize bL:(((rows.drop (ro.den ρ).toNat).take (len.den ρ).toNat).map λrow=>row.getD 0 0)=xs at gE hf;have hl:(xs.map λz=>kx z.toNat).length<=eK:=by
   have:(xs.map λz=>kx z.toNat).length=(len.den ρ).toNat:=by simp[gE]
   unfold eK;omega
  refine(gf (by rw[hf];exact ph _) (by rw[hf];exact nR hl)).bind λaD n1 l _ _ ⟨g1,g2⟩=>ar.pure ⟨⟨g1,by rw[g2,hf];exact ph _,by rw[g2,hf];exact nR hl⟩,_,rfl,λw hw=>?_⟩;have n9:(W.one (A.str l)).den aD m= .string (strOfNums xs):=by
   simp only[W.den,A.den,g2,hf,ea];rfl
  rw[n9];show(convert src dst ((A.sl b 1 o ro len cap).den ρ m)).run P w=_;rw[e1];by_cases cK:cap.den ρ<0
  ·have hl0:=fE cK;rw[e2 cK,if_pos cK];have Wi:xs=[]:=td (by rw[gE,hl0];rfl);rw[Wi,show(len.den ρ).toNat=0 by omega,apK w src e hs he _ _ dst hd];rfl
  ·rw[e3 (by omega),if_neg cK];by_cases Nx:dT.den ρ<0
   ·have jg:=qh Nx;have hl0:len.den ρ=0:=by rw[jg]at hk;simp at hk;omega
    have Wi:xs=[]:=td (by rw[gE,hl0];rfl);exact run_convert_bytes_arg w src e hs he (m b) _ _ _ xs gE (λi hi=>by rw[hl0]at hi;simp at hi) dst hd
   ·obtain⟨_,cells,gS,fz,k1,⟨k2,k3⟩,_⟩:=(hw.rws b sh o code dT kind t' hbl (by omega)).2 (by omega);refine run_convert_bytes_arg w src e hs he (m b) _ _ _ xs gE (λi hi=>?_) dst hd;have hlt:(ro.den ρ).toNat+i<rows.length:=by omega
    have hrow:(ab (code.den ρ))[(ro.den ρ).toNat+i]?=some rows[(ro.den ρ).toNat+i]:=by rw[hR];exact gy hlt
    have km:∃lo hi,sh=[.int .u8 lo hi]:=by
     unfold Tn at c4;split at c4
     ·exact⟨_,_,rfl⟩
     ·cases c4
    obtain⟨lo,cL,rfl⟩:=km;have Az:=k3.1 _ (cZ hrow);obtain⟨z,q1,_,_,de⟩:=Az.get (j:=0) (c:= .int .u8 lo cL) rfl;have:=k3.get (j:=0) (c:= .int .u8 lo cL) hrow rfl rfl de;have hz:xs.getD i 0=z:=by
     rw[<-bL];have:i<(len.den ρ).toNat:=hi;simp[aB,o8,this,hlt,q1]
    simp only[jL,k1,rL,pU,if_false,hz];simp only[cS,eF,lu,y7,F3]at this;rw[show(o.den ρ).toNat+(ro.den ρ).toNat*1+i=(o.den ρ).toNat+((ro.den ρ).toNat+i) by omega];exact this
 ·exact ar.fail
theorem alh {k:di} {x y:bK} {t:aS} {ts:Array aS} (hx:x.ok n ρ) (hy:y.ok n ρ):ar S L (XA k x y) n ρ (lz w0 m bl n ρ λw=>(Rz ts t #[.int k (x.l.den ρ),.int k (y.l.den ρ)]).run P w):=by
 have e:=bh.Md hy hx;have hr:∀w,(Rz ts t #[.int k (x.l.den ρ),.int k (y.l.den ρ)]).run P w= .ok (.int k (if y.l.den ρ<x.l.den ρ then y.l.den ρ else x.l.den ρ)) w:=λw=>by
  simp[Rz,Builtin.min2]
 refine acz (λhb=>ar.pure ⟨hy,_,rfl,λw _=>?_⟩) λhb=>ar.pure ⟨hx,_,rfl,λw _=>?_⟩
 ·rw[e.1]at hb;simp only[hr,if_pos (of_decide_eq_true hb)];rfl
 ·rw[e.1]at hb;simp only[hr,if_neg (of_decide_eq_false hb)];rfl
theorem Ti:∀{cs:List A} {l:List Bool},ma cs=some l->cs=l.map λb=>A.bool (.lit b)
 |[],l,h=>by simp[ma]at h;subst h;rfl
 | .bool (.lit b)::r,l,h=>by
  simp only[ma]at h;cases hr:ma r with
  |none=>simp[hr]at h
  |some bV=>
   simp only[hr,aK]at h;subst h;simp[Ti hr]
 | .bool (.eq ..)::_,_,h| .bool (.lt ..)::_,_,h| .bool (.le ..)::_,_,h| .bool (.not ..)::_,_,h| .bool (.and ..)::_,_,h| .bool (.iff ..)::_,_,h=>by simp[ma]at h
 | .int .. ::_,_,h=>by simp[ma]at h
 | .ptr .. ::_,_,h=>by simp[ma]at h
 | .oj .. ::_,_,h=>by simp[ma]at h
 | .gptr .. ::_,_,h=>by simp[ma]at h
 | .slc .. ::_,_,h=>by simp[ma]at h
 | .con _::_,_,h=>by simp[ma]at h
 | .str _::_,_,h=>by simp[ma]at h
 | .rows .. ::_,_,h=>by simp[ma]at h
 | .sl .. ::_,_,h=>by simp[ma]at h
 | .ep .. ::_,_,h=>by simp[ma]at h
theorem Ww:∀(l:List Bool) (s:Nat),s+l.length<=256->∀i:Nat,i<256->(kx i∈ua s l↔s<=i/\l[i-s]?=some true)
 |[],s,_,i,_=>by simp[ua]
 |b::r,s,h,i,hi=>by
  simp only[cS]at h;have ih:=Ww r (s+1) (by omega) i hi;have hne:s≠i->kx i≠kx s:=λhne he=>by
   have:=congrArg UInt8.toNat he;simp at this;omega
  have key:(s+1<=i/\r[i-(s+1)]?=some true)↔(s<i/\(b::r)[i-s]?=some true):=by
   constructor
   ·rintro⟨h1,h2⟩
    refine⟨h1,?_⟩;rw[show i-s=(i-(s+1))+1 by omega];simpa using h2
   ·rintro⟨h1,h2⟩
    refine⟨h1,?_⟩;rw[show i-s=(i-(s+1))+1 by omega]at h2;simpa using h2
  unfold ua;cases b with
  |true=>
   simp only[cond_true,kS,ih,key];by_cases he:s=i
   ·subst he;simp
   ·constructor
    ·rintro(h1|h1)
     ·exact absurd h1 (hne he)
     ·exact⟨by omega,h1.2⟩
    ·rintro⟨h1,h2⟩;exact .inr ⟨by omega,h2⟩
  |false=>
   simp only[cond_false,ih,key];by_cases he:s=i
   ·subst he;simp
   ·constructor
    ·rintro⟨h1,h2⟩;exact⟨by omega,h2⟩
    ·rintro⟨h1,h2⟩;exact⟨by omega,h2⟩
theorem apZ (hb:b9 n bl.length ρ bl) {ty:aS} (hu:P.underlying ty=some .bool) (b off:Nat) {bj:bK} (As:bj.ok n ρ):ar S L (Qr bl b off bj) n ρ (lz w0 m bl n ρ λw=>(oD ty ((A.oj b off bj).den ρ m)).run P w):=by
 unfold Qr;cases hbl:bl[b]? with
 |none=>exact ar.fail
 |some q=>
  obtain⟨cs,t⟩:=q;simp only;cases hi:ma ((cs.drop off).take (bj.hi.toNat+1))with
  |none=>exact ar.fail
  |some l=>
   refine ei λhc=>?_;simp only[aO,decide_eq_true_eq]at hc;obtain⟨⟨⟨hc1,hc2⟩,Vj⟩,hq⟩:=hc;have hlen:=bA hc1;have Ds:=eE hc2;have e:=Ti hi;have CT:=As.2;have hlt:(bj.l.den ρ).toNat<l.length:=by omega
   have hh:dC (ua 0 l)=(aa.const (dC (ua 0 l))).den ρ:=(aa.aT _ _).symm;have hf:aw 43 ([aa.const (dC (ua 0 l)),bj.l].map (·.den ρ))=if l[(bj.l.den ρ).toNat]=true then 1 else 0:=by
    simp only[ct,et,aw,aa.aT,ea];have:=Ww l 0 (by omega) (bj.l.den ρ).toNat (by omega);simp only[Nat.sub_zero,iI,true_and,gy hlt,aK]at this;simp only[this]
   have b1:=GQ (l[(bj.l.den ρ).toNat]=true);refine(gf (by rw[hf];exact b1.1) (by rw[hf];exact b1.2)).bind λaD n1 r hn ha ⟨g1,g2⟩=>?_;rw[hf]at g2;have e2:=bh.tB (n:=n1) (ρ:=aD) (a:=⟨r,0,1⟩) (b:= .const 1) ⟨g1,by simp only[g2];exact b1.1,by simp only[g2];exact b1.2⟩ (bK.np _ _ _);refine ar.pure ⟨e2.2,_,rfl,λw hw=>?_⟩;obtain⟨_,_,yI,_,h2⟩:=hw.blk b cs t hbl hq;have hcs:cs[off+(bj.l.den ρ).toNat]?=some (.bool (.lit l[(bj.l.den ρ).toNat])):=by
    have h1:((cs.drop off).take (bj.hi.toNat+1))[(bj.l.den ρ).toNat]?=some (.bool (.lit l[(bj.l.den ρ).toNat])):=by rw[e];simp[hlt]
    rw[o8]at h1;split at h1
    ·rw[wI]at h1;exact h1
    ·cases h1
   have agB:=(List.getElem?_eq_some_iff.1 hcs).1;have hcell:w.cell? ⟨m b,off+(bj.l.den ρ).toNat,none⟩=some (.bool l[(bj.l.den ρ).toNat]):=by
    simp only[jL,h2,rL,pU,if_false,Ke];rw[rO (by simpa using agB),oB,hcs];rfl
   have pt:od P ty=some false:=by unfold od;rw[hu]
   have Oc:(A.oj b off bj).den ρ m= .pointer (some ⟨m b,off+(bj.l.den ρ).toNat,none⟩):=rfl;simp only[W.den,A.den];rw[e2.1];simp only[g2,bK.const,aa.aT];have agp:decide ((if l[(bj.l.den ρ).toNat]=true then(1:Int)else 0)=1)=l[(bj.l.den ρ).toNat]:=by
    cases l[(bj.l.den ρ).toNat]<;>rfl
   rw[agp];have ahD:=Oc;simp only[A.den]at ahD;simp[oD,l7,loadVar,rC pt,hcell]
theorem apL (w:ai) {t e:aS} (hu:P.underlying t=some (.slice e)) (p:Option Addr) (l c:Nat):(binOp .eql t (.slice p l c) (.slice none 0 0)).run P w= .ok (.bool p.isNone) w:=by
 have h:binOp .eql t (.slice p l c) (.slice none 0 0)=(do pure (.bool (<-Op.equal t (.slice p l c) (.slice none 0 0)))):=rfl;rw[h];simp only[gm,run_equal_slice_nil w t e p l c hu,gz,hV]
theorem apO (w:ai) {t e:aS} (hu:P.underlying t=some (.slice e)) (p:Option Addr) (l c:Nat):(binOp .neq t (.slice p l c) (.slice none 0 0)).run P w= .ok (.bool !p.isNone) w:=by
 have h:binOp .neq t (.slice p l c) (.slice none 0 0)=(do pure (.bool (!(<-Op.equal t (.slice p l c) (.slice none 0 0))))):=rfl;rw[h];simp only[gm,run_equal_slice_nil w t e p l c hu,gz,hV]
theorem ac5 {α:Type} {p q r len cap:aa} {f:Unit->M α} {R:Env->Nat->α->Prop} (dE:cap.den ρ<0->len.den ρ=0) (dU:0<=cap.den ρ->len.den ρ<=cap.den ρ) (h:(0<=p.den ρ/\p.den ρ<=q.den ρ/\q.den ρ<=r.den ρ/\r.den ρ<=cap.den ρ)->ar S L (f ()) n ρ R):
 ar S L (bind (cond (aa.beq r len) (fj 78 [p,q,r,cap]) (fj 64 [p,q,r,len])) f) n ρ R:=by
 cases aa.beq r len with
 |true=>exact gD λhk=>h hk
 |false=>
  refine gD λhk=>h ?_;have hk:0<=p.den ρ/\p.den ρ<=q.den ρ/\q.den ρ<=r.den ρ/\r.den ρ<=len.den ρ/\0<len.den ρ:=hk;have hc:0<=cap.den ρ:=by
   rcases hU (cap.den ρ) 0 with h|h
   ·have:=dE h;omega
   ·exact h
  have:=dU hc;omega
theorem aqf {t:aS} {b aM:Nat} {o ro len cap p q r:aa} {lo:Option l8} {hi fC:l8} (hx:(A.sl b aM o ro len cap).ok n bl.length ρ) (ht:dq n bl.length ρ m tm a.tmps) (hp:tu tm (.const 0) lo=some p) (hq:mX (b8 tm hi)=some q) (hr:mX (b8 tm fC)=some r):
 ar S L (QB P t b aM o ro len cap p q r) n ρ (lz w0 m bl n ρ λw=>(nP t ((A.sl b aM o ro len cap).den ρ m) (lo.map a.eval) (some (a.eval hi)) (some (a.eval fC))).run P w):=by
 unfold QB;cases h1:hL P t with
 |none=>exact ar.fail
 |some e=>
  cases h2:eM P e with
  |none=>simp only[h2];exact ar.fail
  |some s=>
   simp only[h2];refine ei λhs=>ac5 (λh=>hx.2.2.2.2.1 h) (λh=>hx.2.2.2.2.2 h) λhk=>?_;have hs:=bA hs;subst hs;obtain⟨k1,k2,k3,k4⟩:=hk;have jj:=hx;obtain⟨x1,⟨x2,x3,eT,iG⟩,⟨iW,ox,lq,nN⟩,⟨ov,ow⟩,fE,gT⟩:=hx;have hsp:=GU hp ht;have yJ:p.aZ n:=by rcases hsp with⟨_,rfl⟩|⟨_,_,h⟩;exact aa.cH _ _;exact h
   obtain⟨W6,hq',yK⟩:=ub (m:=m) (bl:=bl) hq (cu ht hi).2 (cu ht hi).1;obtain⟨ajk,gQ,Qp⟩:=ub (m:=m) (bl:=bl) hr (cu ht fC).2 (cu ht fC).1;obtain⟨ptr,e1,e2,e3⟩:=oo (m:=m) jj;have hc:¬(cap.den ρ<0):=by omega
   have dU:=gT (by omega);have He:=e1;rw[if_neg hc,e3 (by omega)]at He;have hf:aw 33 ([ro,p,r].map (·.den ρ))=(if p.den ρ=r.den ρ then ro.den ρ else ro.den ρ+p.den ρ):=rfl;refine(gf (by rw[hf];split<;>omega) (by rw[hf];split<;>omega)).bind λaD n1 yI hn ha ⟨g1,g2⟩=>ar.pure ?_;rw[hf]at g2;have a1:=aa.bG ha x2;have a2:=aa.bG ha yK;have a3:=aa.bG ha yJ;have a4:=aa.bG ha Qp
   refine⟨⟨x1,⟨x2.mono hn,g1,aa.wj (yK.mono hn) (yJ.mono hn),aa.wj (Qp.mono hn) (yJ.mono hn)⟩,?_⟩,_,rfl,λw _=>?_⟩
   ·rw[aa.lC,aa.lC,a1,a2,a3,a4,g2];refine⟨⟨iW,?_,by omega,by omega⟩,⟨by omega,?_⟩,λh=>by omega,λh=>by omega⟩
    ·split<;>omega
    ·split<;>omega
   ·rw[He];have qe:(jv true (len.den ρ).toNat (cap.den ρ).toNat (lo.map a.eval) (some (a.eval hi)) (some (a.eval fC))).run P w= .ok ((p.den ρ).toNat,(q.den ρ).toNat,(r.den ρ).toNat) w:=by
     rw[hq',gQ];rcases hsp with⟨rfl,rfl⟩|⟨EI,ny,_⟩
     ·simp[jv,aa.aT,mw (P:=P) (y:=(cap.den ρ).toNat) (by omega:0<=r.den ρ) (by omega),mw (P:=P) (y:=(r.den ρ).toNat) (by omega:0<=q.den ρ) (by omega)]
     ·rw[ny];simp[jv,mw (P:=P) (y:=(cap.den ρ).toNat) (by omega:0<=r.den ρ) (by omega),mw (P:=P) (y:=(r.den ρ).toNat) (by omega:0<=q.den ρ) (by omega),mw (P:=P) (y:=(q.den ρ).toNat) k1 (by omega)]
    have fr:(q.den ρ).toNat-(p.den ρ).toNat=(q.den ρ-p.den ρ).toNat:=by omega
    have oP:(r.den ρ).toNat-(p.den ρ).toNat=(r.den ρ-p.den ρ).toNat:=by omega
    simp only[nP,gm,fh (hO h1),gz,Kg,qe,iD h2,hV,fr,oP,W.den,A.den,aa.lC,a1,a2,a3,a4,g2];rw[if_neg (show ¬(r.den ρ-p.den ρ<0) by omega)];by_cases Eg:p.den ρ=r.den ρ
    ·rw[if_pos Eg,if_pos (by omega)]
    ·rw[if_neg Eg,if_neg (by omega)];have lD:(ro.den ρ+p.den ρ).toNat=(ro.den ρ).toNat+(p.den ρ).toNat:=by omega
     rw[lD,uW,<-Cv];simp[jw]
theorem aqe {t:aS} {b aM:Nat} {o ro len cap p q r:aa} {lo:Option l8} {hi fC:l8} (hx:(A.sl b aM o ro len cap).ok n bl.length ρ) (ht:dq n bl.length ρ m tm a.tmps) (hp:tu tm (.const 0) lo=some p) (hq:mX (b8 tm hi)=some q) (hr:mX (b8 tm fC)=some r):
 ar S L (QC P bl t b aM o ro len cap p q r) n ρ (lz w0 m bl n ρ λw=>(nP t ((A.sl b aM o ro len cap).den ρ m) (lo.map a.eval) (some (a.eval hi)) (some (a.eval fC))).run P w):=by
 unfold QC;cases hc:(WQ bl b&&aa.beq r len&&aa.beq q len&&aa.beq p (.const 0))with
 |false=>exact aqf hx ht hp hq hr
 |true=>
  simp only[aO]at hc;obtain⟨⟨⟨_,c1⟩,c2⟩,c3⟩:=hc;simp only[cond_true];cases h1:hL P t with
  |none=>exact ar.fail
  |some e=>
   cases h2:eM P e with
   |none=>simp only[h2];exact ar.fail
   |some s=>
    simp only[h2];refine ei λhs=>?_;have hs:=bA hs;have jj:=hx;obtain⟨x1,⟨x2,x3,eT,iG⟩,⟨iW,ox,lq,nN⟩,⟨ov,ow⟩,fE,gT⟩:=hx;have hsp:=GU hp ht;obtain⟨W6,hq',yK⟩:=ub (m:=m) (bl:=bl) hq (cu ht hi).2 (cu ht hi).1;obtain⟨ajk,gQ,Qp⟩:=ub (m:=m) (bl:=bl) hr (cu ht fC).2 (cu ht fC).1;have e1:=aa.beq_eq c1;have e2:=aa.beq_eq c2;have e3:=aa.beq_eq c3;subst e1;subst e2;subst e3;have hf:aw 62 ([cap,q].map (·.den ρ))=min (cap.den ρ) (q.den ρ):=rfl;have pz:∀w:ai,(jv true (q.den ρ).toNat (if cap.den ρ<0 then 0 else(cap.den ρ).toNat) (lo.map a.eval) (some (a.eval hi)) (some (a.eval fC))).run P w= .ok (0,(q.den ρ).toNat,(q.den ρ).toNat) w:=λw=>by
     have hh:(q.den ρ).toNat<=(if cap.den ρ<0 then 0 else(cap.den ρ).toNat):=by
      split
      ·rename_i h;have:=fE h;omega
      ·rename_i h;have:=gT (by omega);omega
     rw[hq',gQ];rcases hsp with⟨rfl,_⟩|⟨EI,ny,_⟩
     ·simp[jv,mw (P:=P) (y:=(if cap.den ρ<0 then 0 else(cap.den ρ).toNat)) lq (by omega),mw (P:=P) (y:=(q.den ρ).toNat) lq (by omega)]
     ·rw[ny,aa.aT];simp[jv,mw (P:=P) (y:=(if cap.den ρ<0 then 0 else(cap.den ρ).toNat)) lq (by omega),mw (P:=P) (y:=(q.den ρ).toNat) lq (by omega),mw (P:=P) (y:=(q.den ρ).toNat) (bD 0) (by omega)]
    obtain⟨ptr,d1,d2,d3⟩:=oo (m:=m) jj;refine(gf (by rw[hf];omega) (by rw[hf];omega)).bind λaD n1 c hn ha ⟨g1,g2⟩=>ar.pure ?_;rw[hf]at g2;have a1:=aa.bG ha x2;have a2:=aa.bG ha x3;have a4:=aa.bG ha eT
    refine⟨⟨x1,⟨x2.mono hn,x3.mono hn,eT.mono hn,g1⟩,?_⟩,_,rfl,λw _=>?_⟩
    ·rw[a1,a2,a4,g2];refine⟨⟨iW,ox,lq,nN⟩,⟨by omega,by omega⟩,λh=>?_,λh=>?_⟩
     ·rcases hU (cap.den ρ) 0 with h0|h0
      ·exact fE h0
      ·have:=gT h0;omega
     ·rcases hU (cap.den ρ) 0 with h0|h0
      ·omega
      ·have:=gT h0;omega
    ·rw[d1];simp only[nP,gm,fh (hO h1),gz,Kg,pz w,iD h2,hV,Nat.sub_zero,W.den,A.den,a1,a2,a4,g2];by_cases hc:cap.den ρ<0
     ·have hl:=fE hc;rw[if_pos (show min (cap.den ρ) (q.den ρ)<0 by omega),d2 hc,hl,show min (cap.den ρ) 0=cap.den ρ by omega];rfl
     ·have:=gT (by omega);rw[if_neg (show ¬min (cap.den ρ) (q.den ρ)<0 by omega),d3 (by omega),show min (cap.den ρ) (q.den ρ)=q.den ρ by omega];by_cases h0:(q.den ρ).toNat=0
      ·rw[h0];rfl
      ·rw[if_neg (by omega)];simp[jw]
theorem apD (hb:b9 n bl.length ρ bl) (hex:∃w,Mem w0 ρ m bl w) (ht:dq n bl.length ρ m tm a.tmps) (o:Oper) {q:M V} (hq:Jr P bl tm o=some q):ar S L q n ρ (ly w0 m bl n ρ P o a):=by
 obtain⟨uJ,ri⟩:=hex;unfold Jr at hq;split at hq
 ·rename_i t x lo hi fC h;have hx:=cu ht x;split at hq
  ·rename_i b aM off ro len cap hv;rw[hv]at hx;have dt:a.eval x=(A.sl b aM off ro len cap).den ρ m:=hx.2;have he:execOp a.eval o=(do pure (kU (<-nP t ((A.sl b aM off ro len cap).den ρ m) (lo.map a.eval) (some (a.eval hi)) (some (a.eval fC))))):=by simp only[execOp,h,dt];rfl
   split at hq
   ·rename_i p q' r hp hq' hr;cases hq;exact(aqe hx.1 ht hp hq' hr).mono λ_ _ _ _ _ hq=>ly.of_run he hq
   ·cases hq
  ·cases hq
 ·rename_i c h;split at hq
  ·rename_i hc;split at hq
   ·rename_i x t gE pA;have hx:=cu ht x;split at hq
    ·rename_i e hv hs;cases hq;rw[hv]at hx;have dt:a.eval x= .slice none 0 0:=hx.2;have a1:c.args=#[x]:=by rw[<-l6 (xs:=c.args),gE]
     have a2:c.argTypes=#[t]:=by rw[<-l6 (xs:=c.argTypes),pA]
     refine ar.pure ⟨bK.np _ _ _,_,rfl,λw _=> .inl ?_⟩;simp[execOp,h,resolve,hc,a1,a2,dt,invoke,builtin,F5,fh (hO hs),goInt,W.den,A.den,bK.const,aa.aT]
    ·cases hq
   ·cases hq
  ·cases hq
 ·cases hq
theorem E5 {cal:dY} (cy:fq S P gl w0 cal) (hb:b9 n bl.length ρ bl) (hg:eQ gl w0) (hex:∃w,Mem w0 ρ m bl w) (ht:dq n bl.length ρ m tm a.tmps) (o:Oper):
 ar S L (sN P cal gl bl tm o) n ρ (ly w0 m bl n ρ P o a):=by
 unfold sN;cases hq:Qe P bl tm o with
 |none=>
  simp only;cases n6:Jr P bl tm o with
  |some q=>exact apD hb hex ht o n6
  |none=>
  simp only;cases hd:Hd cal bl tm o with
  |none=>exact ao1 cy hb hg hex ht o
  |some q=>
   simp only;unfold Hd at hd;split at hd
   ·rename_i c ho;split at hd
    ·rename_i x hc;split at hd
     ·rename_i f Hj Hk hv;cases hz:(aG Hj.size 0&&aG Hk.size 0)with
      |false=>rw[hz]at hd;cases hd
      |true=>
       rw[hz]at hd;simp only[cond_true,Option.map_eq_some_iff]at hd;obtain⟨g,NM,rfl⟩:=hd;simp only[aO,Nat.beq_eq]at hz;have e0:Hj=#[]:=uV hz.1;have e1:Hk=#[]:=uV hz.2;subst e0 e1;have hx:=cu ht (.tmp x);rw[hv]at hx;have dt:a.eval (.tmp x)= .func (.func f) #[] #[]:=hx.2;have nt:∀v∈c.args.toList.map (b8 tm),V.ok n bl.length ρ v:=λv hv=>by
        obtain⟨x,_,rfl⟩:=List.mem_map.1 hv;exact(cu ht x).1
       have he:execOp a.eval o=callFunc f (c.args.map a.eval):=by
        simp only[execOp,ho,resolve,hc,dt,aaI];simp[invoke,bind_pure_comp]
       refine(cy f g NM L n ρ m bl _ _ hb hex nt (Gr (xs:=c.args.toList) ht)).mono λaD n1 v _ _ ⟨q1,val,q2,q3⟩=>⟨q1,val,q2,λw hw=>?_⟩;have ha:(c.args.toList.map a.eval).toArray=c.args.map a.eval:=by
        rw[<-uT]
       have de:=q3 w hw;rw[ha]at de;rcases de with de|⟨de,iT⟩
       ·exact .inl (by rw[he];exact de)
       ·exact .inr ⟨f,_,by rw[he];exact de,iT⟩
     ·cases hd
    ·cases hd
   ·cases hd
 |some q=>
  simp only;unfold Qe at hq;split at hq
  case h_1 t x h=>
   have hx:=cu ht x;split at hq
   ·rename_i b aM off i j hv;cases hq;rw[hv]at hx;have dt:a.eval x=(A.ep b aM off i j).den ρ m:=hx.2;have he:execOp a.eval o=(do pure (kU (<-oD t ((A.ep b aM off i j).den ρ m)))):=by simp only[execOp,h,dt]
    exact(adW hb hex t hx.1).mono λ_ _ _ _ _ hq=>ly.of_run he hq
   ·rename_i b off bj hv;split at hq
    ·rename_i hu;cases hq;rw[hv]at hx;have dt:a.eval x=(A.oj b off bj).den ρ m:=hx.2;have he:execOp a.eval o=(do pure (kU (<-oD t ((A.oj b off bj).den ρ m)))):=by simp only[execOp,h,dt]
     exact(apZ hb hu b off hx.1.2.1).mono λ_ _ _ _ _ hq=>ly.of_run he hq
    ·cases hq
   ·cases hq
  case h_2 x h=>
   have hx:=cu ht x;split at hq
   ·rename_i b aM off i j hv;cases hq;rw[hv]at hx;refine ar.pure ⟨hx.1,_,rfl,λw _=> .inl ?_⟩;have dt:=hx.2;simp only[V.rel,W.den,A.den]at dt;simp[execOp,h,dt,W.den,A.den]
   ·cases hq
  case h_3 t x bj h=>
   have hx:=cu ht x;have hi:=cu ht bj;split at hq
   ·rename_i b aM off ro len cap k i hv tZ;cases hq;rw[hv]at hx;rw[tZ]at hi;have dt:a.eval x=(A.sl b aM off ro len cap).den ρ m:=hx.2;have ag4:a.eval bj= .int k (i.l.den ρ):=hi.2;have he:execOp a.eval o=(do pure (kU (<-s5 t ((A.sl b aM off ro len cap).den ρ m) (.int k (i.l.den ρ))))):=by simp only[execOp,h,dt,ag4]
    have ag5:bK.ok n ρ i:=hi.1;exact(aqc hx.1 ag5.1).mono λ_ _ _ _ _ hq=>ly.of_run he hq
   ·cases hq
  case h_4 t x h=>
   have hx:=cu ht x;split at hq
   ·rename_i b aM off ro len cap k e hv ha;cases hq;rw[hv]at hx;refine ei λhc=>gD λhk=>?_;have hc:0<k:=eE hc;simp only[ct,et,aa.aT,af]at hk;have aY:A.ok n bl.length ρ (.sl b aM off ro len cap):=hx.1;obtain⟨h1,⟨h2,h3,h4,h5⟩,h6⟩:=aY;have cK:¬cap.den ρ<0:=λHX=>by have:=h6.2.2.1 HX;omega
    refine ar.pure ⟨⟨h1,⟨h2,h3⟩,h6.1.1,h6.1.2.1⟩,_,rfl,λw _=> .inl ?_⟩;have dt:a.eval x=(A.sl b aM off ro len cap).den ρ m:=hx.2;have hle:¬(len.den ρ).toNat<k:=by omega
    simp only[execOp,h];rw[dt];simp only[A.den,if_neg cK];simp[Instr.arrayAt,fh (zt ha),hle,W.den,A.den]
   ·cases hq
  case h_5 s x f h=>
   have hx:=cu ht x;split at hq
   ·rename_i b aM off i j fd hv hf;rw[hv]at hx;obtain⟨dH,hu,DW⟩:=Mr hf;split at hq
    ·rename_i k hs;cases hq;refine ar.pure ⟨hx.1,_,rfl,λw _=> .inl ?_⟩;have dt:=hx.2;simp only[V.rel,W.den,A.den]at dt;simp[execOp,h,dt,Cn,fh hu,DW,l7,fieldPlace,iD hs,jw,W.den,A.den,Cv]
    ·cases hq
   ·cases hq
  case h_6 t x lo hi h=>
   have hx:=cu ht x;split at hq
   ·rename_i b aM off ro len cap hv;rw[hv]at hx;have dt:a.eval x=(A.sl b aM off ro len cap).den ρ m:=hx.2;have he:execOp a.eval o=(do pure (kU (<-nP t ((A.sl b aM off ro len cap).den ρ m) (lo.map a.eval) (hi.map a.eval) none))):=by simp only[execOp,h,dt];rfl
    split at hq
    ·rename_i p q' hp hq';cases hq;exact(aqg hx.1 ht hp hq').mono λ_ _ _ _ _ hq=>ly.of_run he hq
    ·cases hq
   ·cases hq
  case h_7 s d x h=>
   have hx:=cu ht x;split at hq
   ·rename_i b aM off ro len cap e hv hs hd;split at hq
    ·rename_i agL;cases hq;rw[hv]at hx;have dt:a.eval x=(A.sl b aM off ro len cap).den ρ m:=hx.2;have he:execOp a.eval o=(do pure (kU (<-convert s d ((A.sl b aM off ro len cap).den ρ m)))):=by simp only[execOp,h,dt]
     exact(aqd hb hex (hO hs) agL hd hx.1).mono λ_ _ _ _ _ hq=>ly.of_run he hq
    ·cases hq
   ·cases hq
  case h_8 c h=>
   split at hq
   ·rename_i hc;split at hq
    ·rename_i x t gE pA;have hx:=cu ht x;split at hq
     ·rename_i b aM off ro len cap e hv hs;cases hq;rw[hv]at hx;have dt:a.eval x=(A.sl b aM off ro len cap).den ρ m:=hx.2;have pE:(A.sl b aM off ro len cap).ok n bl.length ρ:=hx.1;obtain⟨ptr,e1,_,_⟩:=oo (m:=m) pE;rw[e1]at dt;obtain⟨x1,⟨x2,x3,eT,iG⟩,⟨iW,ox,lq,nN⟩,_⟩:=pE;have a1:c.args=#[x]:=by rw[<-l6 (xs:=c.args),gE]
      have a2:c.argTypes=#[t]:=by rw[<-l6 (xs:=c.argTypes),pA]
      refine ar.pure ⟨⟨eT,lq,nN⟩,_,rfl,λw _=> .inl ?_⟩;have fr:((len.den ρ).toNat:Int)=len.den ρ:=by omega
      simp[-au4,execOp,h,resolve,hc,a1,a2,dt,invoke,builtin,F5,fh (hO hs),goInt,W.den,A.den,fr]
     ·cases hq
    ·cases hq
   ·rename_i hc;split at hq
    ·rename_i x y gE;have hx:=cu ht x;have hy:=cu ht y;split at hq
     ·rename_i k p a6 q' pC lP;by_cases je:k=a6
      ·subst je;simp only[decide_true,cond_true]at hq;cases hq;rw[pC]at hx;rw[lP]at hy;have e1:a.eval x= .int k (p.l.den ρ):=hx.2;have e2:a.eval y= .int k (q'.l.den ρ):=hy.2;have a1:c.args=#[x,y]:=by rw[<-l6 (xs:=c.args),gE]
       have he:execOp a.eval o=(do pure (kU (<-Rz c.argTypes o.type #[.int k (p.l.den ρ),.int k (q'.l.den ρ)]))):=by
        simp[execOp,h,resolve,hc,a1,e1,e2,invoke,builtin]
       exact(alh hx.1 hy.1).mono λ_ _ _ _ _ hq=>ly.of_run he hq
      ·simp[je]at hq
     ·cases hq
    ·cases hq
   ·cases hq
  case h_9 op t x y q0 h=>
   have hx:=cu ht x;have hy:=cu ht y;split at hq
   ·rename_i e b aM cm ro len cap hs pC lP;rw[pC]at hx;rw[lP]at hy;have dt:a.eval x=(A.sl b aM cm ro len cap).den ρ m:=hx.2;have rk:a.eval y= .slice none 0 0:=hy.2;have pE:(A.sl b aM cm ro len cap).ok n bl.length ρ:=hx.1;obtain⟨ptr,e1,e2,e3⟩:=oo (m:=m) pE;rw[e1]at dt;obtain⟨x1,⟨x2,x3,eT,iG⟩,_,_,fE,_⟩:=pE;have has:af 53 ([cap,len].map (·.den ρ)):=fE;have hp:ptr.isNone=decide (cap.den ρ=-1):=by
     rcases hU (cap.den ρ) 0 with h0|h0
     ·rw[e2 h0,aaj]
     ·rw[e3 h0,decide_eq_false (by omega)];rfl
    split at hq
    ·cases hq;refine(GM has).bind λaD n1 _ _ _ ⟨mV,hn⟩=>?_;have mV:=mV.symm;have hn:=hn.symm;subst mV hn;refine ar.pure ⟨⟨iG,aa.cH _ _⟩,_,rfl,λw _=> .inl ?_⟩;have hg0:eqGuard .eql t x y (.slice ptr (len.den ρ).toNat (if cap.den ρ<0 then 0 else(cap.den ρ).toNat)) (.slice none 0 0)=Co ():=rfl;have he:execOp a.eval o=(do pure (kU (<-binOp .eql t (.slice ptr (len.den ρ).toNat (if cap.den ρ<0 then 0 else(cap.den ρ).toNat)) (.slice none 0 0)))):=by
      simp only[execOp,h,dt,rk,hg0,pure_bind]
     simp only[he,gm,apL w (hO hs),gz,hV,hp];simp[W.den,A.den,bh.den,aa.aT]
    ·cases hq;refine(GM has).bind λaD n1 _ _ _ ⟨mV,hn⟩=>?_;have mV:=mV.symm;have hn:=hn.symm;subst mV hn;refine ar.pure ⟨bh.uA ⟨iG,aa.cH _ _⟩,_,rfl,λw _=> .inl ?_⟩;have hg0:eqGuard .neq t x y (.slice ptr (len.den ρ).toNat (if cap.den ρ<0 then 0 else(cap.den ρ).toNat)) (.slice none 0 0)=Co ():=rfl;have he:execOp a.eval o=(do pure (kU (<-binOp .neq t (.slice ptr (len.den ρ).toNat (if cap.den ρ<0 then 0 else(cap.den ρ).toNat)) (.slice none 0 0)))):=by
      simp only[execOp,h,dt,rk,hg0,pure_bind]
     simp only[he,gm,apO w (hO hs),gz,hV,hp];simp[W.den,A.den,bh.den,bh.tC,aa.aT]
    ·cases hq
   ·cases hq
  case h_10=>cases hq
end
end Go.bg
namespace Go.bg
def TT (ops:Array Oper) (n:Nat):Bool:=
 (da n).all λi=>match ops[i]? with
   |none=>false
   |some dW=>(dW.after.all λe=> !qz .any e||b6 e.on i)&&(match dW.op with| .select .. =>false|_=>true)&&
    (da n).all λj=>aG i j||match ops[j]? with
      |none=>false
      |some cG=>match cG.dst with
       |none=>true
       |some d=>(!(dW.looksAt ops).contains d||uU .any ops i j||uU .any ops j i)&& !(match dW.dst with|some d'=>aG d' d|none=>false)
def NG (size n:Nat):Array Bool:=((da size).map λi=>b6 i n).toArray
def zR (o:Oper):Bool:=match o.op with| .move _| .assign _| .extract _ _=>true|_=>false
def qS (ops:Array Oper) (i:Nat):Bool:=match ops[i]? with|some o=>zR o|none=>false
def e5 (o:Oper):Bool:=match o.op,o.guard,o.dst with| .alloc _,none,some _=>true|_,_,_=>false
def pg (ops:Array Oper) (i:Nat):Bool:=match ops[i]? with|some o=>e5 o|none=>false
def XN (ops:Array Oper) (n:Nat):Bool:=
 (da n).all λi=> !pg ops i||match ops[i]? with
   |some dW=>match dW.dst with
    |some d=>(da n).all λj=>match ops[j]? with|some cG=> !(cG.looksAt ops).contains d|none=>true
    |none=>false
   |none=>false
def Zc (ops:Array Oper) (n:Nat):Bool:=
 (da n).all λi=>qS ops i||(da (n+1)).any λj=>b6 i j&&uU .any ops j i&&(aG j n|| !qS ops j)
def aeh (ops:Array Oper) (n:Nat):Bool:=
 (da n).all λi=> !qS ops i||(da ops.size).all λj=>b6 j n||uU .any ops j i||(match ops[i]?,ops[j]? with|some dW,some cG=>dW.apart ops cG|_,_=>false)
def B5 (ops:Array Oper) (n:Nat):Bool:=
 y4 ops&&aeh ops n&&XN ops n&&TT ops n&&bC n ops.size&&(aG n ops.size||(Zc ops n&&auU .any ops n))&&auV .any ops (ops.size-n) n (NG ops.size n)
def calm (Q:Exit->Act->ai->Prop):Exit->Act->ai->Prop
 | .panic _,_,_=>False
 |e,a,w=>Q e a w
theorem tr {a b:Nat} (h:b6 a b=true):a<b:=eE h
theorem ak6 {a b:Nat} (h:a<b):b6 a b=true:=Nat.ble_eq_true_of_le h
section
variable {P:bk} {ops:Array Oper} {C:ai->Prop}
def rV (P:bk) (ops:Array Oper) (C:ai->Prop) (o:Oper) (v:aA) (a:Act):Prop:=
 (tc o (yielded ops a.tmps)=true/\∀w,C w->zn P o a w v)∨(tc o (yielded ops a.tmps)=false/\v=undef)
def wP (P:bk) (ops:Array Oper) (C:ai->Prop) (F:Act->Prop):List Oper->Act->Prop
 |[],a=>F a
 |o::r,a=>cond (e5 o) (wP P ops C F r a) (∃v,rV P ops C o v a/\wP P ops C F r (a.put o.dst v))
theorem PS {Q:Act->Prop}:∀(l:List Oper) (a:Act),wP P ops C Q l a->∃(as:Nat->Act) (vs:Nat->aA),as 0=a/\(∀i o,l[i]?=some o->(e5 o=false->rV P ops C o (vs i) (as i)/\as (i+1)=(as i).put o.dst (vs i))/\(e5 o=true->as (i+1)=as i))/\Q (as l.length)
 |[],a,h=>⟨λ_=>a,λ_=>undef,rfl,λi o hi=>by simp at hi,h⟩
 |o::r,a,h=>by
  unfold wP at h;cases dj:e5 o with
  |true=>
   simp only[dj,cond_true]at h;obtain⟨as,vs,e0,hs,k5⟩:=PS r _ h;refine⟨λi=>match i with|0=>a|i+1=>as i,λi=>match i with|0=>undef|i+1=>vs i,rfl,λi cm hi=>?_,k5⟩;cases i with
   |zero=>
    simp at hi;subst hi;exact⟨λh1=>by(rw[dj]at h1;cases h1),λ_=>e0⟩
   |succ i=>
    simp at hi;exact hs i cm hi
  |false=>
   simp only[dj,cond_false]at h;obtain⟨v,hy,h2⟩:=h;obtain⟨as,vs,e0,hs,k5⟩:=PS r _ h2;refine⟨λi=>match i with|0=>a|i+1=>as i,λi=>match i with|0=>v|i+1=>vs i,rfl,λi cm hi=>?_,k5⟩;cases i with
   |zero=>
    simp at hi;subst hi;exact⟨λ_=>⟨hy,e0⟩,λh1=>by(rw[dj]at h1;cases h1)⟩
   |succ i=>
    simp at hi;exact hs i cm hi
theorem ZS {Q:Exit->Act->ai->Prop} {md:aaL}:∀(f:Nat) (listed:Array Bool) (a:Act) (w:ai),wpAny P md ops Q f listed a w->wpAny P md ops Q (f+1) listed a w
 |0,_,_,_,h=>⟨λ_=>h.2,λi hi=>by rw[h.1]at hi;cases hi⟩
 |f+1,_,_,_,h=>⟨h.1,λi hi=>wpOp_mono (λa' w' h'=>ZS f _ a' w' h') (h.2 i hi)⟩
theorem ZR {Q:Exit->Act->ai->Prop} {md:aaL} {listed:Array Bool} {a:Act} {w:ai} {f nr:Nat} (h:wpAny P md ops Q f listed a w) (hle:f<=nr):wpAny P md ops Q nr listed a w:=by
 induction hle with
 |refl=>exact h
 |step _ ih=>exact ZS _ _ _ _ ih
theorem TF {α:Type} {p q:α->Bool}:∀{l:List α},(∀x∈l,q x=true->p x=true)->(∃x∈l,p x=true/\q x=false)->l.countP q<l.countP p
 |[],_,⟨x,hx,_⟩=>by simp at hx
 |y::r,h1,⟨x,hx,h2,h3⟩=>by
  have hle:r.countP q<=r.countP p:=List.countP_mono_left λz hz=>h1 z (cF _ hz);rw[auW,auW];rcases List.mem_cons.1 hx with rfl|hx
  ·simp[h2,h3];omega
  ·have ih:=TF (l:=r) (λz hz=>h1 z (cF _ hz)) ⟨x,hx,h2,h3⟩;have:=h1 y (by simp);cases hq:q y<;>cases hp:p y<;>simp[hq,hp]at this⊢<;>omega
theorem rZ {n i:Nat} {dW:Oper} (h:TT ops n=true) (hi:i<n) (ho:ops[i]?=some dW):
 (∀e∈dW.after,qz .any e=true->e.on<i)/\(∀cs b,dW.op≠ .select cs b)/\
 ∀j cG d,j<n->j≠i->ops[j]?=some cG->cG.dst=some d->dW.dst≠some d/\(d∈dW.looksAt ops->uU .any ops i j=true∨uU .any ops j i=true):=by
 have h1:=List.all_eq_true.1 h i (List.mem_range.2 hi);simp only[ho,aO]at h1;obtain⟨⟨h1,h2⟩,h3⟩:=h1;refine⟨λe he hb=>?_,λcs b hc=>by simp[hc]at h2,λj cG d hj hne kM hd=>?_⟩
 ·have:=Array.all_eq_true_iff_forall_mem.1 h1 e he;simp only[hb,FV,sZ]at this;exact tr this
 ·have h4:=List.all_eq_true.1 h3 j (List.mem_range.2 hj);have h5:aG i j=false:=by cases hb:aG i j with|false=>rfl|true=>exact absurd (bA hb).symm hne
  simp only[h5,sZ,kM,hd,aO]at h4;refine⟨λagJ=>?_,λkL=>?_⟩
  ·have:=h4.2;simp[agJ]at this
  ·have:=h4.1;have hc:(dW.looksAt ops).contains d=true:=by simpa using kL
   simp only[hc,FV,sZ,oA]at this;exact this
theorem abS {a b:Act} (h1:a.defers=b.defers) (h2:∀t:Nat,a.tmps[t]?=b.tmps[t]?):a=b:=by
 cases a;cases b;simp only at h1 h2;rw[h1,auX h2]
theorem sK {a:Act} {o:Option Tmp} {v:aA} {t:Nat} (h:o≠some t):(a.put o v).tmps[t]?=a.tmps[t]?:=by
 cases o with
 |none=>rfl
 |some d=>simp only[Cr];rw[auR (λe=>h (by rw[e]))]
theorem put_defers (a:Act) (o:Option Tmp) (v:aA):(a.put o v).defers=a.defers:=by cases o<;>rfl
theorem yA (a:Act) (o:Option Tmp) (v:aA):(a.put o v).tmps.size=a.tmps.size:=by cases o<;>simp[Cr]
theorem aef {o:Oper} {a:Act} {v:aA} {w:ai} (hf:zR o=true) (hC:C w) (h:rV P ops C o v a):Yields P ops o v a:=by
 rcases h with⟨h1,h2⟩|h
 ·refine .inl ⟨h1,λw'=>?_⟩;have h3:=h2 w hC;unfold zn at h3;unfold zR at hf;split at hf
  ·rename_i x ho;simp only[execOp,ho,hV]at h3⊢;rcases h3 with h3|⟨f,args,h3,_⟩
   ·simp only[aax,auY,and_true]at h3;rw[h3]
   ·simp at h3
  ·rename_i x ho;simp only[execOp,ho,hV]at h3⊢;rcases h3 with h3|⟨f,args,h3,_⟩
   ·simp only[aax,auY,and_true]at h3;rw[h3]
   ·simp at h3
  ·rename_i x i ho;simp only[execOp,ho,gm]at h3⊢;unfold Rq at h3⊢;cases hx:a.eval x<;>simp only[hx]at h3⊢<;>try(simp[auZ]at h3;done)
   rename_i vs;cases hv:vs[i]? with
   |none=>simp[hv,auZ]at h3
   |some u=>simp[hv]at h3;simp[h3]
  ·cases hf
 ·exact .inr h
theorem aqa {n:Nat} {listed:Array Bool} (hs:Zc ops n=true) (hc:auU .any ops n=true) (hn:n<ops.size) (inv:HeadInv .any ops n listed):
 ∀(d i:Nat),n-i=d->i<n->qS ops i=false->listed.getD i false=false->∀t,n<=t->t∉kV .any ops listed:=by
 intro d;induction d using Nat.strongRecOn with
 |_ d ih=>
  intro i hd hi hZ lO t ht hr;obtain⟨_,X0,Oa,hall⟩:=mem_ready.1 hr;have ah3:t<ops.size:=(Array.getElem?_eq_some_iff.1 Oa).1;by_cases ah4:t=n
  ·subst ah4;have h1:=List.all_eq_true.1 hs i (List.mem_range.2 hi);simp only[hZ,sZ]at h1;obtain⟨j,hj,kl⟩:=List.any_eq_true.1 h1;simp only[aO,oA]at kl;obtain⟨⟨VF,xH⟩,NT⟩:=kl;have VF:=tr VF;obtain⟨cG,kM,e,he,hb,Aw⟩:=y8 xH;have awO:j<=t:=by have:=List.mem_range.1 hj;omega
   by_cases VH:j=t
   ·subst VH;have:cG=X0:=gH (kM.symm.trans Oa);subst this;have h2:=hall e he hb;rw[Aw,lO]at h2;cases h2
   ·cases hl:listed.getD j false with
    |true=>
     have h2:=inv.closed j cG kM hl e he hb;rw[Aw,lO]at h2;cases h2
    |false=>
     have agT:qS ops j=false:=by
      rcases NT with h3|h3
      ·exact absurd (bA h3) VH
      ·simpa using h3
     exact ih (t-j) (by omega) j rfl (by omega) agT hl t (aW _) hr
  ·have h1:=List.all_eq_true.1 hc t (List.mem_range.2 ah3);simp only[oA,decide_eq_true_eq]at h1;rcases h1 with h1|h1
   ·omega
   ·obtain⟨cm,gh,e,he,hb,Aw⟩:=y8 h1;have:cm=X0:=gH (gh.symm.trans Oa);subst this;have h2:=hall e he hb;rw[Aw,y9 (inv.tail (t-1) (by omega) (by omega))]at h2;cases h2
theorem aee {o:Oper} (h:zR o=true):e5 o=false:=by
 unfold zR at h;unfold e5;cases ho:o.op<;>simp only[ho]at h⊢<;>cases h
theorem alA {n i j:Nat} {dW cG:Oper} {d:Tmp} (h:XN ops n=true) (hi:i<n) (ho:ops[i]?=some dW) (dj:e5 dW=true) (hd:dW.dst=some d) (hj:j<n) (kM:ops[j]?=some cG):d∉cG.looksAt ops:=by
 have h1:=List.all_eq_true.1 h i (List.mem_range.2 hi);have ha:pg ops i=true:=by simp[pg,ho,dj]
 simp only[ha,FV,sZ,ho,hd]at h1;have h2:=List.all_eq_true.1 h1 j (List.mem_range.2 hj);simp only[kM,fZ]at h2;intro hm;have:(cG.looksAt ops).contains d=true:=by simpa using hm
 rw[this]at h2;cases h2
theorem at7 {Q:Exit->Act->ai->Prop} {o:Oper} {i:Nat} {v:aA} {a:Act} {w:ai} {K:Act->ai->Prop} (hi:ops[i]?=some o) (hC:C w) (hy:rV P ops C o v a) (h:∀w',w.Extends w'->K (a.put o.dst v) w'):wpOp P ops Q i K a w:=by
 unfold wpOp;simp only[hi];rcases hy with⟨h1,h2⟩|⟨h1,h2⟩
 ·rw[if_pos h1];refine .inl ?_;unfold nh;rcases h2 w hC with h3|⟨f,args,h3,h4⟩
  ·rw[h3];exact h w (nf w)
  ·rw[h3];refine h4.mono λe lp ⟨he,hx⟩=>?_;subst he;exact h lp hx
 ·rw[if_neg (by simp[h1]),<-h2];exact h w (nf w)
theorem rV.of_same {o:Oper} {v:aA} {a a':Act} (hy:rV P ops C o v a) (he:execOp a'.eval o=execOp a.eval o) (hw:tc o (yielded ops a'.tmps)=tc o (yielded ops a.tmps)):rV P ops C o v a':=by
 unfold rV zn at*;rw[he,hw];exact hy
structure SJ (ops:Array Oper) (n:Nat) (S:Nat->Prop) (a an b:Act) (eN:Nat->Nat):Prop where
 d:b.defers=a.defers
 aM:b.tmps.size=a.tmps.size
 q:∀t:Nat,(∃j o,j<n/\S j/\ops[j]?=some o/\e5 o=false/\o.dst=some t)->b.tmps[t]?=an.tmps[t]?
 al:∀(t:Nat) j o,j<n->S j->ops[j]?=some o->e5 o=true->o.dst=some t->t<b.tmps.size->b.tmps[t]?=some (.pointer (some ⟨eN j,0,none⟩))
 no:∀t:Nat,(∀j o,j<n->S j->ops[j]?=some o->o.dst≠some t)->b.tmps[t]?=a.tmps[t]?
structure Fin (ops:Array Oper) (n:Nat) (an b:Act) (eN:Nat->Nat):Prop where
 d:b.defers=an.defers
 aM:b.tmps.size=an.tmps.size
 al:∀(t:Nat) j o,j<n->ops[j]?=some o->e5 o=true->o.dst=some t->t<b.tmps.size->b.tmps[t]?=some (.pointer (some ⟨eN j,0,none⟩))
 no:∀t:Nat,(∀j o,j<n->ops[j]?=some o->e5 o=true->o.dst≠some t)->b.tmps[t]?=an.tmps[t]?
def u3 (ops:Array Oper) (n:Nat) (S:Nat->Prop) (Z:Nat->Obj) (eN:Nat->Nat) (aM:Nat) (w:ai):Prop:=
 (∀j,j<n->S j->pg ops j=true->aM<=eN j/\w.heap[eN j]?=some (Z j))/\∀i j,i<n->j<n->S i->S j->pg ops i=true->pg ops j=true->eN i=eN j->i=j
theorem u3.grow {n:Nat} {S:Nat->Prop} {Z:Nat->Obj} {eN:Nat->Nat} {aM:Nat} {w w':ai} (h:u3 ops n S Z eN aM w) (he:w.Extends w'):u3 ops n S Z eN aM w':=
 ⟨λj h1 h2 h3=>by
  obtain⟨h4,h5⟩:=h.1 j h1 h2 h3;exact⟨h4,by rw[he.block _ (Array.getElem?_eq_some_iff.1 h5).1];exact h5⟩,h.2⟩
theorem aua {Q:Exit->Act->ai->Prop} {a:Act} {w:ai} {l:List Oper} (n:Nat) (Z:Nat->Obj) (hm:P.follows .mixedOrders=true) (hB:B5 l.toArray n=true) (hC:∀w',w.drew.Extends w'->C w')
 (HE:∀j o,j<n->l.toArray[j]?=some o->e5 o=true->∀(b:Act) w',(execOp b.eval o).run P w'= .ok (.value (.pointer (some ⟨w'.heap.size,0,none⟩))) (w'.alloc (Z j)))
 (h:wP P l.toArray C (λan=>∀eN b w',Fin l.toArray n an b eN->w.drew.Extends w'->u3 l.toArray n (λ_=>True) Z eN w.drew.heap.size w'->wpList P l.toArray (calm Q) (l.drop n) b w') (l.take n) a):wpAny P .any l.toArray (calm Q) l.toArray.size (rI l.toArray.size false) a {w with drawn:=w.drawn+1}:=by
 simp only[B5,aO]at hB;obtain⟨⟨⟨⟨⟨⟨aht,xC⟩,ix⟩,si⟩,hle⟩,V6⟩,ahW⟩:=hB;have hle:n<=l.length:=by simpa using eE hle
 obtain⟨as,vs,e0,hs,bJ⟩:=PS _ _ h;have hlen:(l.take n).length=n:=by simp;omega
 rw[hlen]at bJ;have hop:∀i,i<n->∃o,l.toArray[i]?=some o/\(e5 o=false->rV P l.toArray C o (vs i) (as i)/\as (i+1)=(as i).put o.dst (vs i))/\(e5 o=true->as (i+1)=as i):=λi hi=>by
  have hlt:i<l.length:=by omega
  have h1:(l.take n)[i]?=some l[i]:=by rw[o8,if_pos hi,gy hlt]
  have h2:=hs i _ h1;exact⟨l[i],by simp[hlt],h2⟩
 have DT:∀i,i<=n->(as i).defers=a.defers/\(as i).tmps.size=a.tmps.size:=by
  intro i;induction i with
  |zero=>intro _;rw[e0];exact⟨rfl,rfl⟩
  |succ i ih=>
   intro hi;obtain⟨o,ho,h1,h2⟩:=hop i (by omega);cases dj:e5 o with
   |true=>rw[h2 dj];exact ih (by omega)
   |false=>rw[(h1 dj).2,put_defers,yA];exact ih (by omega)
 have U4:∀i,i<=n->∀t:Nat,(∀j o,j<i->l.toArray[j]?=some o->e5 o=false->o.dst≠some t)->(as i).tmps[t]?=a.tmps[t]?:=by
  intro i;induction i with
  |zero=>intro _ t _;rw[e0]
  |succ i ih=>
   intro hi t hno;obtain⟨o,ho,h1,h2⟩:=hop i (by omega);have WA:=ih (by omega) t λj o hj=>hno j o (by omega);cases dj:e5 o with
   |true=>rw[h2 dj];exact WA
   |false=>rw[(h1 dj).2,sK (hno i o (by omega) ho dj)];exact WA
 have U3:∀(d i:Nat),i+d=n->∀t:Nat,(∃j o,j<i/\l.toArray[j]?=some o/\o.dst=some t)->(as n).tmps[t]?=(as i).tmps[t]?:=by
  intro d;induction d with
  |zero=>intro i hi t _;rw[show i=n by omega]
  |succ d ih=>
   intro i hi t hj;obtain⟨o,ho,h1,h2⟩:=hop i (by omega);rw[ih (i+1) (by omega) t (by obtain⟨j,o,h1,h2⟩:=hj;exact⟨j,o,by omega,h2⟩)];cases dj:e5 o with
   |true=>rw[h2 dj]
   |false=>
    rw[(h1 dj).2];obtain⟨j,cG,xH,kl,NT⟩:=hj;exact sK ((rZ si (show i<n by omega) ho).2.2 j cG t (by omega) (by omega) kl NT).1
 have hsz:l.toArray.size=l.length:=by simp
 have main:∀(f:Nat) (listed:Array Bool) (b:Act) (w1:ai) (eN:Nat->Nat),HeadInv .any l.toArray n listed->w.drew.Extends w1->
  SJ l.toArray n (λj=>listed.getD j false=true) a (as n) b eN->u3 l.toArray n (λj=>listed.getD j false=true) Z eN w.drew.heap.size w1->
  (da n).countP (λi=> !listed.getD i false)+(l.length-n)<=f->wpAny P .any l.toArray (calm Q) f listed b w1:=by
  intro f;have done:∀(listed:Array Bool) (b:Act) (w1:ai) (eN:Nat->Nat),HeadInv .any l.toArray n listed->w.drew.Extends w1->
   SJ l.toArray n (λj=>listed.getD j false=true) a (as n) b eN->u3 l.toArray n (λj=>listed.getD j false=true) Z eN w.drew.heap.size w1->(∀i,i<n->listed.getD i false=true)->
   wpAny P .any l.toArray (calm Q) (l.drop n).length listed b w1:=by
   intro listed b w1 eN inv po kh qW hall;have hl:listed=NG l.toArray.size n:=by
    apply auX;intro i;unfold NG;simp only[Ke,oB];rcases mC i l.length with hi|hi
    ·rw[List.getElem?_range (by simpa using hi)];have cL:i<listed.size:=by rw[inv.size];simpa using hi
     rcases mC i n with cE|cE
     ·have:=hall i cE;simp[cL]at this;simp[cL,this,ak6 cE]
     ·have:=inv.tail i cE (by simpa using hi);simp[cL]at this;have hb:b6 i n=false:=by cases hq:b6 i n with|false=>rfl|true=>have:=tr hq;omega
      simp[cL,this,hb]
    ·have h1:listed.size<=i:=by rw[inv.size];simpa using hi
     have h2:(da l.toArray.size)[i]?=none:=by simp;omega
     rw[h2,uO h1];rfl
   have H6:auV .any l.toArray (l.drop n).length n listed=true:=by rw[hl];simpa using ahW
   refine wpAny_of_seq (P:=P) (md:= .any) (Q':=calm Q) (l.drop n) n listed b w1 (λj=>by simp[wI]) H6 (bJ eN b w1 ?_ po ?_)
   ·refine⟨kh.d.trans (DT n (aW _)).1.symm,kh.aM.trans (DT n (aW _)).2.symm,λt j o h1 h3 h4 h5=>kh.al t j o h1 (hall j h1) h3 h4 h5,λt hno=>?_⟩;by_cases hq:∃j o,j<n/\l.toArray[j]?=some o/\e5 o=false/\o.dst=some t
    ·obtain⟨j,o,h1,h2,h3,h4⟩:=hq;exact kh.q t ⟨j,o,h1,hall j h1,h2,h3,h4⟩
    ·have hq':∀j o,j<n->l.toArray[j]?=some o->e5 o=false->o.dst≠some t:=λj o h1 h2 h3 h4=>hq ⟨j,o,h1,h2,h3,h4⟩;rw[kh.no t λj o h1 _ h3=>(by
      cases dj:e5 o with
      |true=>exact hno j o h1 h3 dj
      |false=>exact hq' j o h1 h3 dj),U4 n (aW _) t hq']
   ·exact⟨λj h1 _ h3=>qW.1 j h1 (hall j h1) h3,λi j h1 h2 _ _ h5 h6=>qW.2 i j h1 h2 (hall i h1) (hall j h2) h5 h6⟩
  have SY:∀(listed:Array Bool),(da n).countP (λi=> !listed.getD i false)=0->∀i,i<n->listed.getD i false=true:=λlisted hc i hi=>by
   cases hq:listed.getD i false with
   |true=>rfl
   |false=>
    have:0<(da n).countP (λi=> !listed.getD i false):=List.countP_pos_iff.2 ⟨i,List.mem_range.2 hi,by simp[hq]⟩;omega
  induction f with
  |zero=>
   intro listed b w1 eN inv po kh qW hf;have:=done listed b w1 eN inv po kh qW (SY listed (by omega));exact ZR this (by simp;omega)
  |succ f ih=>
   intro listed b w1 eN inv po kh qW hf;by_cases agC:(da n).countP (λi=> !listed.getD i false)=0
   ·exact ZR (done listed b w1 eN inv po kh qW (SY listed agC)) (by simp;omega)
   ·
    have gO:∃i,i<n/\listed.getD i false=false:=by
     have h1:0<(da n).countP (λi=> !listed.getD i false):=by omega
     obtain⟨i,hi,hq⟩:=List.countP_pos_iff.1 h1;exact⟨i,List.mem_range.1 hi,by simpa using hq⟩
    have hne:kV .any l.toArray listed≠[]:=by
     have key:∀k,∀i,i<=k->i<n->listed.getD i false=false->kV .any l.toArray listed≠[]:=by
      intro k;induction k with
      |zero=>
       intro i NR cE hq qh;obtain⟨o,ho,_,_⟩:=hop i cE;have hlt:i<listed.size:=by rw[inv.size];exact(Array.getElem?_eq_some_iff.1 ho).1
       have:i∈kV .any l.toArray listed:=mem_ready.2 ⟨getD_in hlt hq,o,ho,λe he hb=>by have:=(rZ si cE ho).1 e he hb;omega⟩;rw[qh]at this;cases this
      |succ k OI=>
       intro i NR cE hq qh;obtain⟨o,ho,_,_⟩:=hop i cE;have hlt:i<listed.size:=by rw[inv.size];exact(Array.getElem?_eq_some_iff.1 ho).1
       have:i∈kV .any l.toArray listed:=mem_ready.2 ⟨getD_in hlt hq,o,ho,λe he hb=>by
        have h1:=(rZ si cE ho).1 e he hb;cases n6:listed.getD e.on false with
        |true=>rfl
        |false=>exact absurd qh (OI e.on (by omega) (by omega) n6)⟩
       rw[qh]at this;cases this
     obtain⟨i,hi,hq⟩:=gO;exact key i i (aW _) hi hq
    have dc:∀i,i∈kV .any l.toArray listed->∀j,(listed.setIfInBounds i true).getD j false=true↔(j=i∨listed.getD j false=true):=λi hi j=>by
     obtain⟨lO,dW,xR,hall⟩:=mem_ready.1 hi;have hlt:i<listed.size:=by rw[inv.size];exact(Array.getElem?_eq_some_iff.1 xR).1
     by_cases hj:i=j
     ·subst hj;simp[hlt]
     ·rw[getD_set_ne false hj];exact⟨.inr,λh=>h.resolve_left (λe=>hj e.symm)⟩
    have VN:∀i,i∈kV .any l.toArray listed->i<n->(da n).countP (λj=> !(listed.setIfInBounds i true).getD j false)+(l.length-n)<=f:=λi hi cE=>by
     obtain⟨lO,_⟩:=mem_ready.1 hi;have:(da n).countP (λj=> !(listed.setIfInBounds i true).getD j false)<(da n).countP (λj=> !listed.getD j false):=by
      refine TF (λj _ hj=>?_) ⟨i,List.mem_range.2 cE,?_,?_⟩
      ·cases hq:listed.getD j false with
       |false=>rfl
       |true=>rw[(dc i hi j).2 (.inr hq)]at hj;cases hj
      ·simp only[y9 lO];rfl
      ·simp only[(dc i hi i).2 (.inl rfl)];rfl
     omega
    have step:∀i,i∈kV .any l.toArray listed->i<n->∀o,l.toArray[i]?=some o->e5 o=false->rV P l.toArray C o (vs i) b/\∀w',w1.Extends w'->wpAny P .any l.toArray (calm Q) f (listed.setIfInBounds i true) (b.put o.dst (vs i)) w':=by
     intro i hi cE o ho dj;obtain⟨lO,dW,xR,hall⟩:=mem_ready.1 hi;have:o=dW:=gH (ho.symm.trans xR);subst this;obtain⟨cm,gh,OC,_⟩:=hop i cE;have:cm=o:=gH (gh.symm.trans ho);subst this;obtain⟨hy,he⟩:=OC dj;have vx:=rZ si cE ho;have V8:∀t:Nat,t∈cm.looksAt l.toArray->b.tmps[t]?=(as i).tmps[t]?:=λt ht=>by
      by_cases hw:∃j cG,j<i/\l.toArray[j]?=some cG/\e5 cG=false/\cG.dst=some t
      ·obtain⟨j,cG,h1,h2,xo,h3⟩:=hw;rw[<-U3 (n-i) i (by omega) t ⟨j,cG,h1,h2,h3⟩];refine kh.q t ⟨j,cG,by omega,?_,h2,xo,h3⟩;rcases(vx.2.2 j cG t (by omega) (by omega) h2 h3).2 ht with h4|h4
       ·obtain⟨Pw,N6,e,q4,q5,tS⟩:=y8 h4;have:Pw=cm:=gH (N6.symm.trans ho);subst this;have:=hall e q4 q5
        rwa [tS]at this
       ·obtain⟨Bz,Ef,e,q4,q5,tS⟩:=y8 h4;have:Bz=cG:=gH (Ef.symm.trans h2);subst this;have:=(rZ si (show j<n by omega) h2).1 e q4 q5;omega
      ·rw[U4 i (by omega) t λj cG h1 h2 xo h3=>hw ⟨j,cG,h1,h2,xo,h3⟩];refine kh.no t λj cG h1 hl h2 h3=>?_;cases Vc:e5 cG with
       |true=>exact alA ix h1 h2 Vc h3 cE ho ht
       |false=>
        by_cases e7:j=i
        ·subst e7;rw[y9 lO]at hl;cases hl
        ·rcases(vx.2.2 j cG t h1 e7 h2 h3).2 ht with h4|h4
         ·obtain⟨Pw,N6,e,q4,q5,tS⟩:=y8 h4;have:Pw=cm:=gH (N6.symm.trans ho);subst this;have:=vx.1 e q4 q5;exact hw ⟨j,cG,by omega,h2,Vc,h3⟩
         ·obtain⟨Bz,Ef,e,q4,q5,tS⟩:=y8 h4;have:Bz=cG:=gH (Ef.symm.trans h2);subst this;have:=inv.closed j Bz h2 hl e q4 q5;rw[tS,y9 lO]at this;cases this
     have agO:∀x∈cm.op.operands,b.eval x=(as i).eval x:=λx hx=>by
      cases x with
      |tmp t=>
       have:=V8 t (List.mem_append_left _ (List.mem_filterMap.2 ⟨.tmp t,by simpa using hx,rfl⟩));simp only[Act.eval];simp[this]
      |_=>rfl
     have hex:execOp b.eval cm=execOp (as i).eval cm:=execOp_congr cm vx.2.1 agO;have AD:tc cm (yielded l.toArray b.tmps)=tc cm (yielded l.toArray (as i).tmps):=by
      unfold tc;cases hg:cm.guard with
      |none=>rfl
      |some MI=>
       obtain⟨g,want⟩:=MI;have:yielded l.toArray b.tmps g=yielded l.toArray (as i).tmps g:=by
        unfold yielded;cases ht:(l.toArray[g]?).bind (·.dst)with
        |none=>rfl
        |some t=>
         have:=V8 t (List.mem_append_right _ (by simp only[hg,ht];simp));simp[this]
       simp only[this]
     refine⟨hy.of_same hex AD,λw' nA=>?_⟩;refine ih _ _ _ eN (inv.set hi cE) (po.trans nA) ⟨(put_defers _ _ _).trans kh.d,(yA _ _ _).trans kh.aM,?_,?_,?_⟩ (u3.grow (w:=w1) ⟨λj h1 h2 h3=>?_,λi1 c0 h1 h2 h3 h4 h5 h6=>?_⟩ nA) (VN i hi cE)
     ·rintro t ⟨j,cG,h1,h2,h3,z1,h4⟩
      by_cases ht:cm.dst=some t
      ·have e1:(as n).tmps[t]?=(as (i+1)).tmps[t]?:=U3 (n-(i+1)) (i+1) (by omega) t ⟨i,cm,by omega,ho,ht⟩;rw[e1,he,ht];simp only[Cr];have V2:b.tmps.size=(as i).tmps.size:=kh.aM.trans (DT i (by omega)).2.symm;rcases mC t b.tmps.size with h5|h5
       ·simp[h5,V2▸h5]
       ·rw[uO (by simpa using h5),uO (by rw[Array.size_setIfInBounds,<-V2];exact h5)]
      ·rw[sK ht];rcases(dc i hi j).1 h2 with rfl|h5
       ·have:cG=cm:=gH (h3.symm.trans ho);subst this;exact absurd h4 ht
       ·exact kh.q t ⟨j,cG,h1,h5,h3,z1,h4⟩
     ·intro t j cG h1 h2 h3 h4 h5 h6;rcases(dc i hi j).1 h2 with rfl|h7
      ·have:cG=cm:=gH (h3.symm.trans ho);subst this;rw[dj]at h4;cases h4
      ·have e7:j≠i:=λe=>by subst e;rw[y9 lO]at h7;cases h7
       have ht:cm.dst≠some t:=(vx.2.2 j cG t h1 e7 h3 h5).1;rw[sK ht];rw[yA]at h6;exact kh.al t j cG h1 h7 h3 h4 h5 h6
     ·intro t hno;have ht:cm.dst≠some t:=hno i cm cE ((dc i hi i).2 (.inl rfl)) ho;rw[sK ht];exact kh.no t λj cG h1 h2 h3=>hno j cG h1 ((dc i hi j).2 (.inr h2)) h3
     ·rcases(dc i hi j).1 h2 with rfl|h7
      ·simp[pg,ho,dj]at h3
      ·exact qW.1 j h1 h7 h3
     ·have k1:listed.getD i1 false=true:=by
       rcases(dc i hi i1).1 h3 with rfl|h7
       ·simp[pg,ho,dj]at h5
       ·exact h7
      have k2:listed.getD c0 false=true:=by
       rcases(dc i hi c0).1 h4 with rfl|h7
       ·simp[pg,ho,dj]at h6
       ·exact h7
      exact qW.2 i1 c0 h1 h2 k1 k2 h5 h6
    by_cases hZ:∃i,i∈kV .any l.toArray listed/\i<n/\qS l.toArray i=true
    ·obtain⟨i,hi,cE,mR⟩:=hZ;obtain⟨o,ho,_,_⟩:=hop i cE;obtain⟨lO,dW,xR,hall⟩:=mem_ready.1 hi;have VA:zR o=true:=by unfold qS at mR;simpa [ho]using mR
     have dj:e5 o=false:=aee VA;obtain⟨x7,N4⟩:=step i hi cE o ho dj;refine wpAny_first ho (Region.noSelect_spec aht) (λc a' w' hq=>hq.elim) f listed b w1 (λj cG kM e7 xJ ag7=>?_) hi (aef VA (hC w1 po) x7) (N4 w1 (nf w1));have Ed:uU .any l.toArray j i=false:=by
      cases hq:uU .any l.toArray j i with
      |false=>rfl
      |true=>
       obtain⟨Bz,Ef,e,q4,q5,tS⟩:=y8 hq;have:Bz=cG:=gH (Ef.symm.trans kM);subst this;exact absurd tS (ag7 e q4 q5)
     have VW:j<n->uU .any l.toArray i j=false:=λvz=>by
      cases hq:uU .any l.toArray i j with
      |false=>rfl
      |true=>
       obtain⟨cm,gh,e,q4,q5,tS⟩:=y8 hq;have:cm=dW:=gH (gh.symm.trans xR);subst this;have:=hall e q4 q5;rw[tS,y9 xJ]at this;cases this
     by_cases vz:j<n
     ·have d1:=(rZ si cE ho).2.2 j cG;have d2:=(rZ si vz kM).2.2 i o;simp only[Oper.apart,aO];constructor
      ·cases hd:o.dst with
       |none=>rfl
       |some d=>
        have:=d2 d cE (λe=>e7 e.symm) ho hd;simp only[aO,fZ,bne_iff_ne,ne_eq];refine⟨?_,this.1⟩;cases hc:(cG.looksAt l.toArray).contains d with
        |false=>rfl
        |true=>
         rcases this.2 (by simpa using hc)with h1|h1
         ·rw[Ed]at h1;cases h1
         ·rw[VW vz]at h1;cases h1
      ·cases hd:cG.dst with
       |none=>rfl
       |some d=>
        have:=d1 d vz e7 kM hd;simp only[fZ];cases hc:(o.looksAt l.toArray).contains d with
        |false=>rfl
        |true=>
         rcases this.2 (by simpa using hc)with h1|h1
         ·rw[VW vz]at h1;cases h1
         ·rw[Ed]at h1;cases h1
     ·have h1:=List.all_eq_true.1 xC i (List.mem_range.2 cE);simp only[mR,FV,sZ]at h1;have h2:=List.all_eq_true.1 h1 j (List.mem_range.2 (Array.getElem?_eq_some_iff.1 kM).1);have hb:b6 j n=false:=by cases hq:b6 j n with|false=>rfl|true=>exact absurd (tr hq) vz
      simp only[hb,Ed,sZ,ho,kM]at h2;exact h2
    ·
     have n5:∃i,i<n/\qS l.toArray i=false/\listed.getD i false=false:=by
      have key:∀k,∀i,i<=k->i<n->listed.getD i false=false->∃i,i<n/\qS l.toArray i=false/\listed.getD i false=false:=by
       intro k;induction k with
       |zero=>
        intro i NR cE hq;cases kj:qS l.toArray i with
        |false=>exact⟨i,cE,kj,hq⟩
        |true=>
         obtain⟨o,ho,_,_⟩:=hop i cE;have hlt:i<listed.size:=by rw[inv.size];exact(Array.getElem?_eq_some_iff.1 ho).1
         exact absurd ⟨i,mem_ready.2 ⟨getD_in hlt hq,o,ho,λe he hb=>by have:=(rZ si cE ho).1 e he hb;omega⟩,cE,kj⟩ hZ
       |succ k OI=>
        intro i NR cE hq;cases kj:qS l.toArray i with
        |false=>exact⟨i,cE,kj,hq⟩
        |true=>
         obtain⟨o,ho,_,_⟩:=hop i cE;have hlt:i<listed.size:=by rw[inv.size];exact(Array.getElem?_eq_some_iff.1 ho).1
         by_cases Vo:∀e∈o.after,qz .any e=true->listed.getD e.on false=true
         ·exact absurd ⟨i,mem_ready.2 ⟨getD_in hlt hq,o,ho,Vo⟩,cE,kj⟩ hZ
         ·have hex:∃e,e∈o.after/\qz .any e=true/\¬listed.getD e.on false=true:=by
           apply aaM;intro hno;exact Vo λe he hb=>aaM λn6=>hno ⟨e,he,hb,n6⟩
          obtain⟨e,he,hb,n6⟩:=hex;have h1:=(rZ si cE ho).1 e he hb;exact OI e.on (by omega) (by omega) (by simpa using n6)
      obtain⟨i,hi,hq⟩:=gO;exact key i i (aW _) hi hq
     refine⟨λh0=>absurd h0 hne,λi hi=>?_⟩;have cE:i<n:=by
      rcases mC i n with h1|h1
      ·exact h1
      ·exfalso;obtain⟨_,dW,xR,_⟩:=mem_ready.1 hi;have awM:i<l.toArray.size:=(Array.getElem?_eq_some_iff.1 xR).1;simp only[oA,aO]at V6;rcases V6 with h2|⟨h2,h3⟩
       ·have:=bA h2;omega
       ·obtain⟨i0,iq,agP,qi⟩:=n5;exact aqa h2 h3 (by omega) inv (n-i0) i0 rfl iq agP qi i h1 hi
     obtain⟨o,ho,_,_⟩:=hop i cE;cases dj:e5 o with
     |false=>
      obtain⟨x7,N4⟩:=step i hi cE o ho dj;exact at7 ho (hC w1 po) x7 N4
     |true=>
      obtain⟨lO,_⟩:=mem_ready.1 hi;have hgd:o.guard=none/\∃d,o.dst=some d:=by
       unfold e5 at dj;split at dj
       ·rename_i h1 h2 h3;exact⟨h2,_,h3⟩
       ·cases dj
      obtain⟨hgd,d,hd⟩:=hgd;have vx:=rZ si cE ho;unfold wpOp;simp only[ho];rw[if_pos (by simp[tc,hgd])];refine .inl ?_;unfold nh;rw[HE i o cE ho dj b w1];show wpAny P .any l.toArray (calm Q) f (listed.setIfInBounds i true) (b.put o.dst _) _;have OG:∀j,j<n->listed.getD j false=true->pg l.toArray j=true->eN j<w1.heap.size:=λj h1 h2 h3=>(Array.getElem?_eq_some_iff.1 (qW.1 j h1 h2 h3).2).1;refine ih _ _ _ (λj=>if j=i then w1.heap.size else eN j) (inv.set hi cE) (po.alloc _) ⟨(put_defers _ _ _).trans kh.d,(yA _ _ _).trans kh.aM,?_,?_,?_⟩ ⟨λj h1 h2 h3=>?_,λi1 c0 h1 h2 h3 h4 h5 h6 h7=>?_⟩ (VN i hi cE)
      ·rintro t ⟨j,cG,h1,h2,h3,z1,h4⟩
       rcases(dc i hi j).1 h2 with rfl|h5
       ·have:cG=o:=gH (h3.symm.trans ho);subst this;rw[dj]at z1;cases z1
       ·have e7:j≠i:=λe=>by subst e;rw[y9 lO]at h5;cases h5
        rw[sK (vx.2.2 j cG t h1 e7 h3 h4).1];exact kh.q t ⟨j,cG,h1,h5,h3,z1,h4⟩
      ·intro t j cG h1 h2 h3 h4 h5 h6;rcases(dc i hi j).1 h2 with rfl|h7
       ·have:cG=o:=gH (h3.symm.trans ho);subst this;rw[h5];simp only[if_true];rw[yA]at h6;simp[Cr,h6]
       ·have e7:j≠i:=λe=>by subst e;rw[y9 lO]at h7;cases h7
        rw[sK (vx.2.2 j cG t h1 e7 h3 h5).1];rw[yA]at h6;rw[if_neg e7];exact kh.al t j cG h1 h7 h3 h4 h5 h6
      ·intro t hno;rw[sK (hno i o cE ((dc i hi i).2 (.inl rfl)) ho)];exact kh.no t λj cG h1 h2 h3=>hno j cG h1 ((dc i hi j).2 (.inr h2)) h3
      ·show w.drew.heap.size<=(if j=i then w1.heap.size else eN j)/\(w1.alloc (Z i)).heap[(if j=i then w1.heap.size else eN j)]?=some (Z j);by_cases e7:j=i
       ·subst e7;rw[if_pos rfl];exact⟨po.size,heap_alloc_new w1 (Z j)⟩
       ·rw[if_neg e7];have h7:=((dc i hi j).1 h2).resolve_left e7;obtain⟨bS,bb⟩:=qW.1 j h1 h7 h3;exact⟨bS,by rw[heap_alloc_old w1 _ (OG j h1 h7 h3)];exact bb⟩
      ·change (if i1=i then w1.heap.size else eN i1)=(if c0=i then w1.heap.size else eN c0)at h7;by_cases bS:i1=i<;>by_cases bb:c0=i
       ·rw[bS,bb]
       ·rw[if_pos bS,if_neg bb]at h7;have:=OG c0 h2 (((dc i hi c0).1 h4).resolve_left bb) h6;omega
       ·rw[if_neg bS,if_pos bb]at h7;have:=OG i1 h1 (((dc i hi i1).1 h3).resolve_left bS) h5;omega
       ·rw[if_neg bS,if_neg bb]at h7;exact qW.2 i1 c0 h1 h2 (((dc i hi i1).1 h3).resolve_left bS) (((dc i hi c0).1 h4).resolve_left bb) h5 h6 h7
 have aiN:HeadInv .any l.toArray n (rI l.toArray.size false):=
  ⟨by simp,λj cG _ hl=>(by rw[getD_replicate_false]at hl;cases hl),λt _ ht=>getD_in (by simpa using ht) (getD_replicate_false _ _)⟩
 have IS:∀j,¬(rI l.toArray.size false).getD j false=true:=λj h=>by rw[getD_replicate_false]at h;cases h
 refine main l.toArray.size _ a _ (λ_=>0) aiN (nf w.drew) ⟨rfl,rfl,λt ⟨j,o,_,h2,_⟩=>absurd h2 (IS j),λt j o _ h2=>absurd h2 (IS j),λ_ _=>rfl⟩ ⟨λj _ h2=>absurd h2 (IS j),λi j _ _ h3=>absurd h3 (IS i)⟩ ?_;have:(da n).countP (λi=> !(rI l.toArray.size false).getD i false)<=n:=by
  have:=List.countP_le_length (p:=λi=> !(rI l.toArray.size false).getD i false) (l:=da n);simpa using this
 omega
end
end Go.bg
namespace Go.bg
open M
inductive X where
 |normal
 |exit (id:Nat)
 |ret
def X.to:X->Exit
 |normal=> .normal
 |exit id=> .exit id
 |ret=> .ret
abbrev fy:=Nat->List V->List ao->T
abbrev nj:=X->fy
abbrev RK:=Nat->V->List ao->T
abbrev hX:=cB->Nat->List V->List ao->RK->T
structure cX where
 eC:List Nat
 ints:List (Nat×Int×Int)
 cells:List (Nat×Nat×Int×Int)
 oM:List Nat:=[]
 nT:List (Nat×List ay×aS):=[]
 YM:List (Nat×List ay×Nat):=[]
 iC:List (Nat×List ay):=[]
def cM:List ao->Nat->ao->List ao
 |[],_,_=>[]
 |_::r,0,b=>b::r
 |x::r,i+1,b=>x::cM r i b
theorem iE:∀(l:List ao) (i:Nat) (b:ao),cM l i b=l.set i b
 |[],_,_=>rfl
 |_::_,0,_=>rfl
 |_::r,i+1,b=>by simp[cM,iE r i b]
def ao2 (cal:dY) (dyn:Bool) (o:Oper):Bool:=
 match o.op with
 | .alloc _| .box _ _| .store _ _ _| .buildSlice _ _ _| .makeSlice _ _ _=>false
 | .call c=>match c.callee with
  | .value (.func f)=>(cal f).isSome
  | .value (.tmp _)=>dyn
  | .builtin .append=>false
  | .builtin .clear=>false
  | .builtin .copy=>false
  |_=>true
 |_=>true
def E8 (z:List A) (len:Nat):List A:=(da (len*z.length)).map λi=>(z[i% z.length]?).getD (.con undef)
def LN (P:bk) (t:aS) (len:Nat) (parts:List (Nat×V)):Option (List A×aS):=
 match hL P t with
 |some e=>match eM P e,l4 P e with
  |some s,some z=>cond (aG z.length s&&b6 0 s&&bC (len*s) 16777216) (match r8 (λi=>some (i*s,s)) (E8 z len) parts with|some cs=>some (cs,e)|none=>none) none
  |_,_=>none
 |none=>none
def oU (bl:List ao) (b off k:Nat):Option (List A):=
 match bl[b]? with
 |some (cs,_)=>cond (bC (off+k) cs.length&&bT cs) (some ((cs.drop off).take k)) none
 |none=>none
def UM (i:TypeInfo) (e:aS) (z:List A) (d:Option Tmp) (kP uz len:Nat) (olds news:List A) (n:Nat) (tm:List V) (bl:List ao) (k:fy):T:=
 cond (bC (kP+len) 1000000&&bC (Builtin.nextslicecap (kP+len) uz*i.bytes) 281474976710656&&b6 uz (kP+len)&&b6 0 len&&aG z.length i.size&&b6 0 i.size&&bT (olds++news)&&bT (olds++news++z))
  (.both (k n (ey tm d (.w (.one (.slc bl.length 0 (kP+len) (kP+len))))) (bl++[(olds++news,(e,false))]))
    (k n (ey tm d (.oY bl.length (kP+len) (kP+len+1))) (bl++[(olds++news++z,(e,true))]))) .stuck
def aiQ:V->Bool
 | .w (.one (.con (.slice none 0 0)))=>true
 |_=>false
def av6 (P:bk) (d:Option Tmp) (t t':aS) (s x:V) (n:Nat) (tm:List V) (bl:List ao) (k:fy):T:=
 match x,hL P t with
 | .w (.one (.slc b' dV vO _)),some e=>match P.info? e,l4 P e with
  |some i,some z=>match oU bl b' dV (vO*i.size)with
   |some news=>cond (!(aG t t')) .stuck <| cond (aiQ s) (UM i e z d 0 0 vO [] news n tm bl k) <| match s with
    | .w (.one (.slc b off len cap))=>match oU bl b off (len*i.size)with
     |some olds=>UM i e z d len cap vO olds news n tm bl k
     |none=> .stuck
    | .oY b len lo=>match bl[b]? with
     |some (cs,ty)=>cond (bC (len+vO) lo&&bC ((len+vO)*i.size) cs.length&&b6 0 (vO*i.size)&&bT cs&&bT (cs.take (len*i.size)++news++cs.drop (len*i.size+news.length))) (k n (ey tm d (.oY b (len+vO) lo)) (cM bl b (cs.take (len*i.size)++news++cs.drop (len*i.size+news.length),ty))) .stuck
     |none=> .stuck
    |_=> .stuck
   |none=> .stuck
  |_,_=> .stuck
 |_,_=> .stuck
def ln (sh:List ay):Bool:=bC sh.length 100&&b6 0 sh.length&&sh.all λc=>match c with
 | .int _ lo hi=>decide (-18446744073709551616<=lo)&&decide (hi<=18446744073709551616)
 |_=>true
def yd (e:bh):M aa:=λn k=> .ind n e (k (.var n) (n+1))
def G4 (c:ay) (a:A):M aa:=
 match c,a with
 | .int k lo hi,.int a6 x=>cond (decide (k=a6)&&decide (lo<=x.lo)&&decide (x.hi<=hi)) (pure x.l) fail
 | .str,.str l=>pure l
 | .bool,.bool e=>match e with
  | .lit v=>pure (.const (cond v 1 0))
  |e=>yd e
 | .nil,.con (.slice none 0 0)=>pure (.const 0)
 |_,_=>fail
def Fg:List ay->List A->M (List aa)
 |[],[]=>pure []
 |c::sh,a::r=>bind (G4 c a) λl=>bind (Fg sh r) λls=>pure (l::ls)
 |_,_=>fail
noncomputable def zr (sh:List ay):List (List A)->aa->M aa
 |[],c=>pure c
 |row::rs,c=>bind (Fg sh row) λls=>bind (eB 23 (c::ls) 0 ch) λc'=>zr sh rs c'
def EM (bl:List ao):A->List ao
 | .sl b _ _ _ _ _=>match bl[b]? with
  |some ([.rows sh off code cap 2],t)=>cM bl b ([.rows sh off code cap 1],t)
  |_=>bl
 |_=>bl
def vR (bl:List ao):List A->List ao
 |[]=>bl
 |a::r=>vR (EM bl a) r
def zE (cap cU:aa):M Unit:=cond (aa.beq cap cU) (pure ()) (fj 40 [cap,cU])
noncomputable def LV (bl:List ao) (c:ay) (a:A):M aa:=
 match c with
 | .sub k=>match a with
  | .sl b aM o ro len cap=>match bl[b]? with
   |some ([.rows sh off code cU kind],_)=>cond (aG kind 1&&iU sh (mx k)&&aa.beq o off&&aG aM sh.length) (bind (fj 22 [code,ro,ro.add len]) λ_=>bind (fj 79 [len,.const 140737488351232]) λ_=>bind (zE cap cU) λ_=>eB 22 [code,ro,ro.add len] 0 rT) fail
   |_=>fail
  | .con (.slice none 0 0)=>pure (.const 0)
  | .slc _ _ 0 0=>pure (.const 0)
  |_=>fail
 |c=>G4 c a
noncomputable def Fh (bl:List ao):List ay->List A->M (List aa)
 |[],[]=>pure []
 |c::sh,a::r=>bind (LV bl c a) λl=>bind (Fh bl sh r) λls=>pure (l::ls)
 |_,_=>fail
noncomputable def GJ (bl:List ao) (sh:List ay):List (List A)->aa->M aa
 |[],c=>pure c
 |row::rs,c=>bind (Fh bl sh row) λls=>bind (eB 23 (c::ls) 0 ch) λc'=>GJ bl sh rs c'
def mb (w:Nat):Nat->List A->List (List A)
 |0,_=>[]
 |k+1,l=>l.take w::mb w k (l.drop w)
noncomputable def JD (P:bk) (m6:aS) (sh:List ay) (bl:List ao) (x:V) (base:aa):M (aa×aa):=
 match x with
 | .w (.one (.slc b off len _))=>match oU bl b off (len*sh.length),hL P m6 with
  |some cs,some _=>bind (fj 23 [base,.const len]) λ_=>bind (GJ bl sh (mb sh.length len cs) base) λc=>pure (c,.const len)
  |_,_=>fail
 | .w (.one (.sl b aM o ro len _))=>match bl[b]?,hL P m6 with
  |some ([.rows cP off code cU kind],_),some _=>cond (b6 0 kind&&iU sh cP&&aa.beq o off&&aG aM sh.length) (bind (fj 22 [code,ro,ro.add len]) λ_=>bind (fj 23 [base,len]) λ_=>bind (eB 22 [code,ro,ro.add len] 0 ch) λs=>bind (eB 24 [base,s] 0 ch) λc=>pure (c,len)) fail
  |_,_=>fail
 |_=>fail
def ap5 (bl:List ao):V->Option (List ay)
 | .w (.one (.sl b _ _ _ _ _))=>match bl[b]? with
  |some ([.rows sh _ _ _ _],_)=>some sh
  |_=>none
 |_=>none
def ap6 (bl:List ao) (s x:V) (z:List A):Option (List ay):=ap5 bl x
def Re:V->Bool
 | .w (.one (.sl _ _ _ _ len cap))=>match len.du,cap.du with|some l,some c=>decide (l=0)&&decide (c=0)|_,_=>false
 | .w (.one (.slc _ _ len cap))=>aG len 0&&aG cap 0
 | .w (.one (.con (.slice none 0 0)))=>true
 |_=>false
noncomputable def Dp (kd:Nat) (e:aS) (d:Option Tmp) (sh:List ay) (code len:aa) (n:Nat) (tm:List V) (bl:List ao) (k:fy):T:=
 .sU n (-2) 9223372036854775807 (k (n+1) (ey tm d (.w (.one (.sl bl.length sh.length (.const 0) (.const 0) len (.var n))))) (bl++[([.rows sh (.const 0) code (.var n) kd],(e,false))]))
noncomputable def zX (e:aS) (d:Option Tmp) (sh:List ay) (code len:aa) (n:Nat) (tm:List V) (bl:List ao) (k:fy):T:=
 .sU n (-2) 9223372036854775807 (k (n+1) (ey tm d (.w (.one (.sl bl.length sh.length (.const 0) (.const 0) len (.var n))))) (bl++[([.rows sh (.const 0) code (.var n) 2],(e,false))]))
noncomputable def UC (P:bk) (m6 e:aS) (d:Option Tmp) (sh:List ay) (s x:V) (n:Nat) (tm:List V) (bl:List ao) (k:fy):T:=
 JD P m6 sh bl x (.const 0) n λp n'=>match p.2.du with
  |some 0=>k n' (ey tm d s) bl
  |some _=>zX e d sh p.1 p.2 n' tm bl k
  |none=> .tv (.le p.2 (.const 0)) (k n' (ey tm d s) bl) (zX e d sh p.1 p.2 n' tm bl k)
def zV (sh:List ay) (i:TypeInfo) (z:List A):Bool:=ln sh&&aG i.size sh.length&&aG z.length sh.length&&bC i.bytes 131072
noncomputable def LB (P:bk) (d:Option Tmp) (t t':aS) (s x:V) (n:Nat) (tm:List V) (bl:List ao) (k:fy):Option T:=
 match hL P t with
 |none=>none
 |some e=>match P.info? e,l4 P e with
  |some i,some z=>match Re s with
   |true=>match ap6 bl s x z with
    |some sh=>cond (zV sh i z) (some (UC P t' e d sh s x n tm bl k)) none
    |none=>none
   |false=>match s with
    | .w (.one (.sl b _ o ro len cap))=>match bl[b]? with
     |some ([.rows sh off code cU kind],bX)=>cond (zV sh i z&&aG kind 2&&aa.beq o (.const 0)&&aa.beq off (.const 0)&&aa.beq ro (.const 0)&&aa.beq cap cU&&aG bX.1 e)
      (some (.oN 31 [code,len] (JD P t' sh bl x code n λp n'=>zX e d sh p.1 (len.add p.2) n' tm (cM bl b ([.rows sh off code cU 0],bX)) k))) none
     |_=>none
    |_=>none
  |_,_=>none
def IG (bl:List ao):V->List ao
 | .w (.one (.slc b _ _ _))=>match bl[b]? with
  |some (cs,_)=>vR bl cs
  |none=>bl
 |_=>bl
noncomputable def QF (P:bk) (o:Oper) (n:Nat) (tm:List V) (bl:List ao) (k:fy):Option T:=
 match o.op with
 | .call c=>match c.callee with
  | .builtin .append=>match c.args.toList,c.argTypes.toList with
   |[s,x],[t,t']=>LB P o.dst t t' (b8 tm s) (b8 tm x) n tm (IG bl (b8 tm x)) k
   |_,_=>none
  |_=>none
 |_=>none
def jx:List ay:=[.int .u8 0 255]
def Im (fn:Func):Bool:=fn.name== "internal/bytealg.MakeNoZero" &&fn.body.isNone&&fn.origin== ""
noncomputable def L0 (code i:aa):Nat->List ay->Nat->List ao->(Nat->List A->List ao->T)->T
 |_,[],n,bl,k=>k n [] bl
 |j,c::r,n,bl,k=>match c with
  | .sub q=>eB 21 [code,i,.const j] 0 rT n λz n=> .nat n (.sU (n+1) (-2) 9223372036854775807 (eB 20 [z] 0 140737488351232 (n+2) λlen n'=>
   L0 code i (j+1) r n' (bl++[([.rows (mx q) (.var n) z (.var (n+1)) 1],(0,false))]) λn2 l gC=>k n2 (.sl bl.length (mx q).length (.var n) (.const 0) len (.var (n+1))::l) gC))
  |c=>CZ c code i j n λa n=>L0 code i (j+1) r n bl λn2 l gC=>k n2 (a::l) gC
noncomputable def ayX (P:bk) (o:Oper) (n:Nat) (tm:List V) (bl:List ao) (k:fy):Option T:=
 match o.op with
 | .load t p=>match b8 tm p with
  | .w (.one (.ep b aM cm i j))=>match bl[b]?,od P t,eM P t with
   |some ([.rows sh off code cap kind],_),some qK,some s=>cond (b6 0 kind&&aG aM sh.length&&aa.beq cm off&&bC (j+s) sh.length&& !(iS ((sh.drop j).take s))&&(qK||aG s 1))
    (some (fj 21 [code,i] n λ_ n=>L0 code i j ((sh.drop j).take s) n bl λn l bl=>match qK,l with
      |true,l=>k n (ey tm o.dst (.w (.agg l))) bl
      |false,[a]=>k n (ey tm o.dst (.w (.one a))) bl
      |_,_=> .stuck)) none
   |_,_,_=>none
  |_=>none
 |_=>none
noncomputable def uB (P:bk) (o:Oper) (n:Nat) (tm:List V) (bl:List ao) (k:fy):Option T:=
 match o.op with
 | .store t p x=>match b8 tm p,b8 tm x with
  | .w (.one (.ep b aM cm i j)),.w u=>match(vR bl u.cells)[b]?,eM P t with
   |some ([.rows sh off code cap kind],bX),some s=>cond (bC 2 kind&&aG aM sh.length&&aa.beq cm off&&aG u.cells.length s&&b6 0 s&&bC (j+s) sh.length&&ln sh)
    (some (fj 21 [code,i] n λ_ n=>zu 67 [code,i,.const sh.length] n λ_ n=>Fh (vR bl u.cells) ((sh.drop j).take s) u.cells n λls n=>eB 42 (code::i:: .const j::ls) 0 ch n λcode' n=>k n (ey tm o.dst (.eX [])) (cM (vR bl u.cells) b ([.rows sh off code' cap kind],bX)))) none
   |_,_=>none
  |_,_=>none
 | .convert s d x=>match b8 tm x with
  | .w (.one (.str l))=>match P.underlying s,hL P d with
   |some .string,some e=>match P.underlying e with
    |some (.int .u8)=>some (eB 27 [l] 0 ch n λcode n=>eB 0 [l] 0 9223372036854775807 n λlen n=>Dp 3 e o.dst jx code len n tm bl k)
    |_=>none
   |_,_=>none
  |_=>none
 | .makeSlice t x y=>match hL P t,mX (b8 tm x),mX (b8 tm y)with
  |some e,some lS,some lj=>match P.info? e with
   |some i=>match i.zero with
    |some (.int .u8 z)=>cond (aG i.size 1&&bC i.bytes 1024&&decide (z=0)) (some (.oN 49 [lS,lj] (eB 26 [lS,.const 0] 0 ch n λcode n=>Dp 2 e o.dst jx code lS n tm bl k))) none
    |_=>none
   |none=>none
  |_,_,_=>none
 | .call c=>match c.callee with
  | .value (.func f)=>match P.funcs[f]?,c.args.toList with
   |some fn,[x]=>match b8 tm x,fn.resultTypes.toList with
    | .w (.one (.int .i64 y)),[t]=>match hL P t with
     |some e=>match P.underlying e with
      |some (.int .u8)=>cond (Im fn) (some (.oN 26 [y.l] (.sU n 0 ch (.vf 31 [.var n,y.l] (.sU (n+1) 0 9223372036854775807 (.vf 79 [y.l,.var (n+1)]
       (k (n+2) (ey tm o.dst (.w (.one (.sl bl.length 1 (.const 0) (.const 0) y.l (.var (n+1)))))) (bl++[([.rows jx (.const 0) (.var n) (.var (n+1)) 2],(e,false))]))))))))
       none
      |_=>none
     |none=>none
    |_,_=>none
   |_,_=>none
  |_=>none
 |_=>none
noncomputable def QG (P:bk) (o:Oper) (n:Nat) (tm:List V) (bl:List ao) (k:fy):Option T:=
 match o.op with
 | .call c=>match c.callee with
  | .builtin .copy=>match c.args.toList,c.argTypes.toList with
   |[x,y],[t,t']=>match b8 tm x,b8 tm y,hL P t with
    | .w (.one (.sl b aM cm ro len cap)),.w (.one (.sl b2 QL o2 fo iQ CX)),some e=>match bl[b]?,bl[b2]?,eM P e with
     |some ([.rows sh off code cU kind],bX),some ([.rows JB IW fk tx sz],_),some s=>cond (bC 2 kind&&b6 0 sz&&aa.beq cm off&&aa.beq o2 IW&&iU sh JB&&aG aM sh.length&&aG QL sh.length&&aG s sh.length&&ln sh&&iS sh)
      (some (fj 80 [code,ro,len] n λ_ n=>fj 22 [fk,fo,fo.add iQ] n λ_ n=>eB 62 [iQ,len] 0 9223372036854775807 n λq n=>eB 22 [fk,fo,fo.add q] 0 ch n λsrc n=>eB 63 [code,ro,src] 0 ch n λcode' n=>k n (ey tm o.dst (.w (.one (.int .i64 ⟨q,0,9223372036854775807⟩)))) (cM bl b ([.rows sh off code' cU kind],bX)))) none
     |_,_,_=>none
    | .w (.one (.sl ..)),.w (.one (.con (.slice none 0 0))),some e=>match eM P e with
     |some _=>some (k n (ey tm o.dst (.w (.one (.int .i64 ⟨.const 0,0,0⟩)))) bl)
     |none=>none
    |_,_,_=>none
   |_,_=>none
  |_=>none
 |_=>none
def L4:V->Option (Nat×List A)
 | .mK f gY=>some (f,gY)
 | .w (.one (.con (.func (.func f) a b)))=>cond (aG a.size 0&&aG b.size 0) (some (f,[])) none
 |_=>none
noncomputable def QD (P:bk) (gl:dA) (cal:dY) (inl:hX) (o:Oper) (n:Nat) (tm:List V) (bl:List ao) (k:fy):T:=
 match o.op with
 | .alloc t=>match l4 P t with
  |some cs=>cond (bT cs) (k n (ey tm o.dst (.w (.one (.ptr bl.length 0)))) (bl++[(cs,(t,false))])) .stuck
  |none=> .stuck
 | .box t x=>match b8 tm x with
  | .w u=>cond (bT u.cells) (k n (ey tm o.dst (.w (.one (.ptr bl.length 0)))) (bl++[(u.cells,(t,false))])) .stuck
  |_=> .stuck
 | .buildSlice t len parts=>match LN P t len (parts.toList.map λp=>(p.1,b8 tm p.2))with
  |some (cs,e)=>cond (bT cs) (k n (ey tm o.dst (.w (.one (.slc bl.length 0 len len)))) (bl++[(cs,(e,false))])) .stuck
  |none=> .stuck
 | .store t p x=>match b8 tm p,b8 tm x with
  | .w (.one (.ptr b off)),.w u=>match bl[b]?,eM P t with
   |some (cs,bX),some s=>cond (aG u.cells.length s&&bC (off+s) cs.length&&b6 0 s&&bT cs&&bT (cs.take off++u.cells++cs.drop (off+s))) (k n (ey tm o.dst (.eX [])) (cM bl b (cs.take off++u.cells++cs.drop (off+s),bX))) .stuck
   |_,_=> .stuck
  |_,_=> .stuck
 | .call c=>match c.callee with
  | .value (.func f)=>match cal f with
   |some _=>sN P cal gl bl tm o n λv n'=>k n' (ey tm o.dst v) bl
   |none=>inl f n (c.args.toList.map (b8 tm)) bl λn' v aI=>k n' (ey tm o.dst v) aI
  | .value (.tmp x)=>match Hd cal bl tm o with
   |some _=>sN P cal gl bl tm o n λv n'=>k n' (ey tm o.dst v) bl
   |none=>match L4 (b8 tm (.tmp x))with
   |some (f,gY)=>inl f n (c.args.toList.map (b8 tm)++gY.map λy=>V.w (.one y)) bl λn' v aI=>k n' (ey tm o.dst v) aI
   |none=> .stuck
  |_=>sN P cal gl bl tm o n λv n'=>k n' (ey tm o.dst v) bl
 |_=>sN P cal gl bl tm o n λv n'=>k n' (ey tm o.dst v) bl
noncomputable def Fq (P:bk) (gl:dA) (cal:dY) (inl:hX) (o:Oper) (n:Nat) (tm:List V) (bl:List ao) (k:fy):T:=
 match QF P o n tm bl k with
 |some t=>t
 |none=>match uB P o n tm bl k with
  |some t=>t
  |none=>match QG P o n tm bl k with
   |some t=>t
   |none=>QD P gl cal inl o n tm bl k
def p4:bh->Bool->Option (aa×Option Int×Option Int)
 | .le p q,true=>match p.du,q.du with|some c,none=>some (q,some c,none)|none,some c=>some (p,none,some c)|_,_=>none
 | .le p q,false=>match p.du,q.du with|some c,none=>some (q,none,some (c-1))|none,some c=>some (p,some (c+1),none)|_,_=>none
 | .lt p q,true=>match p.du,q.du with|some c,none=>some (q,some (c+1),none)|none,some c=>some (p,none,some (c-1))|_,_=>none
 | .lt p q,false=>match p.du,q.du with|some c,none=>some (q,none,some c)|none,some c=>some (p,some c,none)|_,_=>none
 | .not b,v=>p4 b (!v)
 |_,_=>none
def Bq (a:Int):Option Int->Int
 |some b=>cond (decide (a<=b)) b a
 |none=>a
def EP (a:Int):Option Int->Int
 |some b=>cond (decide (b<=a)) b a
 |none=>a
def Ha (b:bh) (v:Bool) (r:Option (aa×Option Int×Option Int)):V->V
 | .w (.one (.bool e))=> .w (.one (.bool (cond (bh.beq e b) (.lit v) e)))
 | .w (.one (.int k x))=>match r with
  |some (l,lo,hi)=> .w (.one (.int k (cond (aa.beq x.l l) (cond (decide (Bq x.lo lo=EP x.hi hi)) (.const (Bq x.lo lo)) ⟨x.l,Bq x.lo lo,EP x.hi hi⟩) x)))
  |none=> .w (.one (.int k x))
 |u=>u
def pL (b:bh) (v:Bool) (l:List V):List V:=l.map (Ha b v (p4 b v))
def tI (ops:Array Oper) (tm:List V) (o:Oper) (yes no:List V->T):T:=
 match o.guard with
 |none=>yes tm
 |some (g,want)=>match(ops[g]?).bind (·.dst)with
  |none=> .stuck
  |some d=>match tm[d]? with
   |some (.w (.one (.bool b)))=>match b with
    | .lit v=>cond (v==want) (yes tm) (no tm)
    |b=> .tv b (cond want (yes (pL b true tm)) (no (pL b true tm))) (cond want (no (pL b false tm)) (yes (pL b false tm)))
   |some (.eX [])=>no tm
   |_=> .stuck
noncomputable def BB (P:bk) (gl:dA) (cal:dY) (inl:hX) (ops:Array Oper):List Oper->Nat->List V->List ao->fy->T
 |[],n,tm,bl,k=>k n tm bl
 |o::r,n,tm,bl,k=>tI ops tm o (λtm=>Fq P gl cal inl o n tm bl λn' bz aI=>BB P gl cal inl ops r n' bz aI k) (λtm=>BB P gl cal inl ops r n (ey tm o.dst (.eX [])) bl k)
def GH (g:Nat->T):List Nat->T
 |[]=> .stuck
 |[i]=>g i
 |i::r=> .both (g i) (GH g r)
noncomputable def Am (P:bk) (gl:dA) (cal:dY) (ops:Array Oper):List Oper->Nat->List V->List ao->(Nat->List V->T)->T
 |[],n,tm,bl,k=>k n tm
 |o::r,n,tm,bl,k=>cond (e5 o) (Am P gl cal ops r n tm bl k) (tI ops tm o (λtm=>sN P cal gl bl tm o n λv n'=>Am P gl cal ops r n' (ey tm o.dst v) bl k) (λtm=>Am P gl cal ops r n (ey tm o.dst (.eX [])) bl k))
def CG (P:bk):List Oper->Nat->List V->List ao->fy->T
 |[],n,tm,bl,k=>k n tm bl
 |o::r,n,tm,bl,k=>cond (e5 o) (match o.op with
  | .alloc t=>match l4 P t with
   |some cs=>cond (bT cs) (CG P r n (ey tm o.dst (.w (.one (.ptr bl.length 0)))) (bl++[(cs,(t,false))]) k) .stuck
   |none=> .stuck
  |_=> .stuck) (CG P r n tm bl k)
def J0 (P:bk) (l:List Oper):Bool:=l.all λo=> !e5 o||(match o.op with| .alloc t=>(l4 P t).isSome|_=>false)
def An (cal:dY) (dyn:Bool) (ops:Array Oper):List Tmp->List Oper->Nat
 |_,[]=>0
 |ds,o::r=>cond ((o.looksAt ops).any ds.contains) 0 <| cond (e5 o) (An cal dyn ops (match o.dst with|some d=>d::ds|none=>ds) r+1) <| cond (ao2 cal dyn o) (An cal dyn ops ds r+1) 0
def Ao (P:bk) (cal:dY) (ops:Array Oper):Nat:=
 cond (B5 ops (An cal false ops [] ops.toList)&&J0 P (ops.toList.take (An cal false ops [] ops.toList))) (An cal false ops [] ops.toList) (An cal true ops [] ops.toList)
def zQ:Code->Option Nat
 | .region id _ _=>some id
 | .seq a b=>match zQ a with|some i=>some i|none=>zQ b
 | .block _ c| .loop c| .scope c=>zQ c
 | .cond _ a b=>match zQ a with|some i=>some i|none=>zQ b
 |_=>none
def L7:aA->aA->Bool
 | .pointer none,.pointer none=>true
 | .slice none 0 0,.slice none 0 0=>true
 | .func (.func f) a b,.func (.func nr) a' b'=>aG f nr&&aG a.size 0&&aG b.size 0&&aG a'.size 0&&aG b'.size 0
 |_,_=>false
def A.beq:A->A->Bool
 | .int k x,.int a6 y=>decide (k=a6)&&aa.beq x.l y.l&&x.lo==y.lo&&x.hi==y.hi
 | .bool a,.bool b=>bh.beq a b
 | .con a,.con b=>L7 a b
 | .ptr b o,.ptr b' cm=>aG b b'&&aG o cm
 | .gptr b o,.gptr b' cm=>aG b b'&&aG o cm
 | .slc b o l c,.slc b' cm bV c'=>aG b b'&&aG o cm&&aG l bV&&aG c c'
 | .str a,.str b=>aa.beq a b
 | .rows sh o c q k,.rows cP cm c' q' a6=>iU sh cP&&aa.beq o cm&&aa.beq c c'&&aa.beq q q'&&aG k a6
 | .sl b z o r l c,.sl b' FD cm r' bV c'=>aG b b'&&aG z FD&&aa.beq o cm&&aa.beq r r'&&aa.beq l bV&&aa.beq c c'
 | .ep b z o i j,.ep b' FD cm ya OP=>aG b b'&&aG z FD&&aa.beq o cm&&aa.beq i ya&&aG j OP
 |_,_=>false
def nn:List A->List A->Bool
 |[],[]=>true
 |a::r,b::s=>A.beq a b&&nn r s
 |_,_=>false
def V.beq:V->V->Bool
 | .w (.one a),.w (.one b)=>A.beq a b
 | .w (.agg l),.w (.agg bV)=>nn l bV
 | .eX [],.eX []=>true
 | .mK f l,.mK nr bV=>aG f nr&&nn l bV
 |_,_=>false
def vo (i:Nat):List (Nat×Int×Int)->Option (Int×Int)
 |[]=>none
 |(j,lo,hi)::r=>cond (aG i j) (some (lo,hi)) (vo i r)
noncomputable def hs (eC:List Nat) (ints:List (Nat×Int×Int)):Nat->Nat->List V->Option (List V×List aa×List (Int×Int))
 |_,_,[]=>some ([],[],[])
 |i,s,v::r=>cond (eC.any (aG i)) (match hs eC ints (i+1) s r with|some (t,l,b)=>some (v::t,l,b)|none=>none)
  (match vo i ints with
  |some (lo,hi)=>match v with
   | .w (.one (.int k x))=>cond (decide (lo<=x.lo)&&decide (x.hi<=hi)) (match hs eC ints (i+1) (s+1) r with|some (t,l,b)=>some (.w (.one (.int k ⟨.var s,lo,hi⟩))::t,x.l::l,(lo,hi)::b)|none=>none) none
   | .w (.one (.str x))=>(match hs eC ints (i+1) (s+1) r with|some (t,l,b)=>some (.w (.one (.str (.var s)))::t,x::l,(0,bx)::b)|none=>none)
   |_=>none
  |none=>match hs eC ints (i+1) s r with|some (t,l,b)=>some (.any::t,l,b)|none=>none)
noncomputable def iZ (lo hi:Int) (s:Nat):A->Option (A×aa×(Int×Int))
 | .int k x=>cond (decide (lo<=x.lo)&&decide (x.hi<=hi)) (some (.int k ⟨.var s,lo,hi⟩,x.l,(lo,hi))) none
 | .str x=>some (.str (.var s),x,(0,bx))
 | .rows sh off code cap k=>some (.rows sh off (.var s) cap k,code,(0,ch))
 |_=>none
noncomputable def ha (ints:List (Nat×Int×Int)):Nat->Nat->List A->Option (List A×List aa×List (Int×Int))
 |_,_,[]=>some ([],[],[])
 |i,s,v::r=>match vo i ints with
  |some (lo,hi)=>match iZ lo hi s v with
   |some (a,x,dS)=>match ha ints (i+1) (s+1) r with|some (t,l,b)=>some (a::t,x::l,dS::b)|none=>none
   |none=>none
  |none=>match ha ints (i+1) s r with|some (t,l,b)=>some (v::t,l,b)|none=>none
def cellsOf (b:Nat):List (Nat×Nat×Int×Int)->List (Nat×Int×Int)
 |[]=>[]
 |(b',c,q)::r=>cond (aG b b') ((c,q)::cellsOf b r) (cellsOf b r)
noncomputable def hb (cells:List (Nat×Nat×Int×Int)):Nat->Nat->List ao->Option (List ao×List aa×List (Int×Int))
 |_,_,[]=>some ([],[],[])
 |i,s,(cs,ty)::r=>match ha (cellsOf i cells) 0 s cs with
  |some (c,l,b)=>match hb cells (i+1) (s+l.length) r with
   |some (t,bV,b')=>some ((c,ty)::t,l++bV,b++b')
   |none=>none
  |none=>none
def kZ:List V->List V->Bool
 |[],[]=>true
 | .any::r,_::s=>kZ r s
 |v::r,u::s=>V.beq v u&&kZ r s
 |_,_=>false
def kY:List ao->List ao->Bool
 |[],[]=>true
 |(c,t)::r,(c',t')::s=>nn c c'&&aG t.1 t'.1&&(t.2==t'.2)&&kY r s
 |_,_=>false
def dL:ao:=([.rows [] (.const 0) (.const 0) (.const 0) 0],(0,false))
def qm:List A->Bool
 |[.rows _ _ _ _ k]=>aG k 1
 |_=>false
def cO (N:Nat):Nat->List ao->List ao
 |_,[]=>[]
 |i,p::r=>cond (b6 i N&&(bT p.1||qm p.1)) p dL::cO N (i+1) r
def xA (N:Nat) (tm:List V) (bl:List ao) (o:Oper):Bool:=match o.op with
 | .move _| .assign _| .extract _ _| .fieldAddr .. =>true
 | .load _ p=>match b8 tm p with
  | .w (.one (.ptr b _))=>b6 b N&&(match bl[b]? with|some p=>bT p.1|none=>false)
  |_=>false
 | .slice _ x _ _ _=>match b8 tm x with| .w (.one (.sl ..))=>true|_=>false
 |_=>false
def aoK:List A->Nat->Bool
 |[.rows sh _ _ _ _],j=>match sh[j]? with|some c=>c.plain|none=>false
 |_,_=>false
def DV (N:Nat) (tm:List V) (bl:List ao) (o:Oper):Bool:=match o.op with
 | .binOp _ _ x y _=>match b8 tm x,b8 tm y with
  | .w (.one (.int ..)),.w (.one (.int ..))=>true
  | .w (.one (.str _)),.w (.one (.str _))=>true
  |_,_=>false
 | .indexAddr _ x _=>match b8 tm x with| .w (.one (.sl ..))=>true| .w (.one (.ptr ..))=>true|_=>false
 | .slice _ x _ _ _=>match b8 tm x with| .w (.one (.str _))=>true|_=>false
 | .load _ p=>match b8 tm p with
  | .w (.one (.ep b _ _ _ j))=>b6 b N&&(match bl[b]? with|some p=>qm p.1&&aoK p.1 j|none=>false)
  |_=>false
 |_=>false
def nB (o:Oper):Bool:=match o.op with| .store .. =>true|_=>false
def Pj (o:Oper):Bool:=match o.op with| .move _| .assign _| .extract _ _| .fieldAddr .. | .load .. | .slice .. =>true|_=>false
def WN (o:Oper):Bool:=match o.op with| .call c=>(match c.callee with| .value _=>true|_=>false)|_=>false
def Qy (P:bk) (l:List Oper):Bool:=l.any λo=>match o.op with| .load t _=>(hL P t).isSome|_=>false
def Pl (P:bk) (ops:Array Oper):Bool:=(ops.toList.any (λo=>nB o||WN o)&&bC 7 (ops.toList.filter λo=> !Pj o).length)||Qy P ops.toList
def Vu (P:bk) (N:Nat) (tm:List V) (bl:List ao) (ops:Array Oper) (listed:Array Bool):Option Nat:=
 cond (y4 ops) ((kV .any ops listed).find? λi=>(match ops[i]? with|some o=>xA N tm bl o||(Pl P ops&&DV N tm bl o)|none=>false)&&Rr .any ops listed i) none
def alJ (ops:Array Oper) (tm:List V) (o:Oper):Bool:=match o.guard with
 |some (g,want)=>match(ops[g]?).bind (·.dst)with
  |some d=>match tm[d]? with
   |some (.w (.one (.bool (.lit v))))=> !(v==want)
   |some (.eX [])=>true
   |_=>false
  |none=>false
 |none=>false
def XQ (tm:List V) (ops:Array Oper) (listed:Array Bool):Option Nat:=
 cond (y4 ops) ((kV .any ops listed).find? λi=>(match ops[i]? with|some o=>alJ ops tm o|none=>false)&&Rr .any ops listed i) none
def preB:List ao->List ao->Bool
 |(c,t)::r,(c',t')::s=>nn c c'&&aG t.1 t'.1&&(t.2==t'.2)&&preB r s
 |[],_=>true
 |_,_=>false
noncomputable def tp (P:bk) (gl:dA) (cal:dY) (inl:hX) (ops:Array Oper) (N:Nat) (p3:List ao):Nat->Array Bool->Nat->List V->List ao->fy->T
 |0,listed,n,tm,bl,k=>match kV .any ops listed with
  |[]=>k n tm bl
  |_=> .stuck
 |f+1,listed,n,tm,bl,k=>match kV .any ops listed with
  |[]=>k n tm bl
  |l=>match Vu P N tm bl ops listed with
   |some i=>match ops[i]? with
    |none=> .stuck
    |some o=>tI ops tm o (λtm=>sN P cal gl (cO N 0 bl) tm o n λv n'=>tp P gl cal inl ops N p3 f (listed.setIfInBounds i true) n' (ey tm o.dst v) bl k) (λtm=>tp P gl cal inl ops N p3 f (listed.setIfInBounds i true) n (ey tm o.dst (.eX [])) bl k)
   |none=>match XQ tm ops listed with
    |some i=>match ops[i]? with
     |none=> .stuck
     |some o=>tI ops tm o (λ_=> .stuck) (λtm=>tp P gl cal inl ops N p3 f (listed.setIfInBounds i true) n (ey tm o.dst (.eX [])) bl k)
    |none=>GH (λi=>match ops[i]? with
    |none=> .stuck
    |some o=>tI ops tm o (λtm=>Fq P gl cal inl o n tm bl λn' bz aI=>cond (preB p3 (cO N 0 aI)) (tp P gl cal inl ops N p3 f (listed.setIfInBounds i true) n' bz aI k) .stuck) (λtm=>tp P gl cal inl ops N p3 f (listed.setIfInBounds i true) n (ey tm o.dst (.eX [])) bl k)) l
def JE (ops:Array Oper) (k:Nat):Bool:=match ops[k]? with|some o=>nB o|none=>false
def kp (ops:Array Oper) (L:Array Bool):Bool:=(da ops.size).all λk=> !(JE ops k&&L.getD k true)
def QX (ops:Array Oper) (i:Nat):Bool:=ops.toList.all λo=> !(nB o)||o.after.toList.any λe=>qz .any e&&aG e.on i
def Xe (ops:Array Oper):Bool:=ops.toList.any WN&&ops.toList.any nB&&(da ops.size).all λk=>match ops[k]? with
 |some o=>match o.op with
  | .load .. =>QX ops k
  |_=>true
 |none=>true
def BG (P:bk) (o:Oper):Bool:=match o.op with
 | .move _| .assign _| .extract _ _=>true
 | .fieldAddr s _ i=>match P.underlying s with
  |some (.struct dH)=>match dH[i]? with
   |some f=>match eM P f.type with
    |some k=>b6 0 k
    |none=>false
   |none=>false
  |_=>false
 |_=>false
def Vv (P:bk) (N:Nat) (tm:List V) (bl:List ao) (ops:Array Oper) (listed:Array Bool):Option Nat:=
 cond (y4 ops) ((kV .any ops listed).find? λi=>(match ops[i]? with|some o=>BG P o||(kp ops listed&&(xA N tm bl o||DV N tm bl o)&& !(nB o)&&QX ops i)|none=>false)&&Rr .any ops listed i) none
noncomputable def vd (P:bk) (gl:dA) (cal:dY) (inl:hX) (ops:Array Oper) (N:Nat) (p3:List ao):Nat->Array Bool->Nat->List V->List ao->fy->T
 |0,listed,n,tm,bl,k=>match kV .any ops listed with
  |[]=>k n tm bl
  |_=> .stuck
 |f+1,listed,n,tm,bl,k=>match kV .any ops listed with
  |[]=>k n tm bl
  |l=>match Vv P N tm bl ops listed with
   |some i=>match ops[i]? with
    |none=> .stuck
    |some o=>tI ops tm o (λtm=>sN P cal gl (cO N 0 bl) tm o n λv n'=>vd P gl cal inl ops N p3 f (listed.setIfInBounds i true) n' (ey tm o.dst v) bl k) (λtm=>vd P gl cal inl ops N p3 f (listed.setIfInBounds i true) n (ey tm o.dst (.eX [])) bl k)
   |none=>GH (λi=>match ops[i]? with
    |none=> .stuck
    |some o=>tI ops tm o (λtm=>Fq P gl cal inl o n tm bl λn' bz aI=>cond (!(kp ops (listed.setIfInBounds i true))||preB p3 (cO N 0 aI)) (vd P gl cal inl ops N p3 f (listed.setIfInBounds i true) n' bz aI k) .stuck) (λtm=>vd P gl cal inl ops N p3 f (listed.setIfInBounds i true) n (ey tm o.dst (.eX [])) bl k)) l
def abV (ops:List Oper) (tm:List V) (p:l8):Nat:=match p with
 | .tmp d=>match ops.find? λo=>o.dst==some d with
  |some o=>match o.op with
   | .fieldAddr _ x _=>match b8 tm x with| .w (.one (.ptr b _))=>b|_=>0
   |_=>0
  |none=>match b8 tm p with| .w (.one (.ptr b _))=>b|_=>0
 |_=>0
def SV (ops:List Oper) (tm:List V):List Oper->Nat->Nat
 |[],N=>N
 |o::r,N=>SV ops tm r (match o.op with| .store _ p _=>min N (abV ops tm p)|_=>N)
def DU (P:bk) (ops:Array Oper) (tm:List V) (bl:List ao):Nat:=cond (Pl P ops) (min bl.length (SV ops.toList tm ops.toList bl.length)) (cond (ops.toList.any nB) 0 bl.length)
def P4 (body:Nat->List V->List ao->nj->T):Nat->Nat->List V->List ao->nj->T
 |0,_,_,_,_=> .stuck
 |r+1,n,tm,bl,k=>body n tm bl λx n' bz aI=>match x with
  | .normal=>P4 body r n' bz aI k
  |x=>k x n' bz aI
def rW (lo:Nat):List (Nat×List ay×aS)->List V->List ao->List Nat->Option (List aa×List Nat)
 |[],_,_,used=>some ([],used)
 |(s,sh,e)::r,tm,bl,used=>match tm[s]? with
  |some (.w (.one (.con (.slice none 0 0))))=>match rW lo r tm bl used with
   |some (l,u)=>some (.const 0:: .const 0:: .const (-1)::l,u)
   |none=>none
  |some (.w (.one (.sl b aM o ro len cap)))=>match bl[b]? with
   |some ([.rows cP off code cU kind],t)=>cond (iU sh cP&&aG kind 2&&aa.beq o (.const 0)&&aa.beq off (.const 0)&&aa.beq ro (.const 0)&&aa.beq cap cU&&aG t.1 e&&aG aM sh.length&&bC lo b&& !(used.any (aG b)))
    (match rW lo r tm bl (b::used)with
    |some (l,u)=>some (code::len::cap::l,u)
    |none=>none) none
   |_=>none
  |_=>none
def lf:List Nat->List ao->List ao
 |[],bl=>bl
 |b::r,bl=>match bl[b]? with
  |some ([.rows sh off code cap _],t)=>lf r (cM bl b ([.rows sh off code cap 0],t))
  |_=>lf r bl
def xi:List (Nat×Int×Int)->List V->M (List V)
 |[],tm=>pure tm
 |(s,lo,hi)::r,tm=>match tm[s]? with
  |some (.w (.one (.int k x)))=>cond (decide (lo<=x.lo)&&decide (x.hi<=hi)) (xi r tm) (bind (fj 39 [x.l,.const lo,.const hi]) λ_=>xi r (om tm s (.w (.one (.int k ⟨x.l,lo,hi⟩)))))
  |_=>xi r tm
def CS (tm:List V):List Nat->M (List aa)
 |[]=>pure []
 |s::r=>match tm[s]? with
  |some (.w (.one (.bool e)))=>bind (match e with| .lit v=>pure (.const (cond v 1 0))|e=>yd e) λl=>bind (CS tm r) λls=>pure (l::ls)
  |_=>fail
def q6:List Nat->Nat->List V->List V
 |[],_,tm=>tm
 |s::r,v,tm=>q6 r (v+1) (om tm s (.w (.one (.bool (.eq (.var v) (.const 1))))))
def px:List (Nat×List ay×aS)->Nat->List V->List ao->List V×List ao
 |[],_,tm,bl=>(tm,bl)
 |(s,sh,e)::r,v,tm,bl=>px r (v+3) (om tm s (.w (.one (.sl bl.length sh.length (.const 0) (.const 0) (.var (v+1)) (.var (v+2)))))) (bl++[([.rows sh (.const 0) (.var v) (.var (v+2)) 2],(e,false))])
def GX (l:List Nat):List (Int×Int):=l.map λ_=>(0,1)
noncomputable def wY (l:List (Nat×List ay×aS)):List (Int×Int):=l.flatMap λ_=>[(0,ch),(0,9223372036854775807),(-2,9223372036854775807)]
def yl:List (Nat×List ay)->List V->List ao->List ao
 |[],_,bl=>bl
 |(s,_)::r,tm,bl=>match tm[s]? with
  |some (.w (.one a))=>yl r tm (EM bl a)
  |_=>yl r tm bl
def v7:List (Nat×List ay)->List V->List ao->Option (List aa)
 |[],_,_=>some []
 |(s,sh)::r,tm,bl=>match tm[s]? with
  |some (.w (.one (.con (.slice none 0 0))))=>match v7 r tm bl with
   |some l=>some (.const 0:: .const 0:: .const (-1)::l)
   |none=>none
  |some (.w (.one (.slc _ _ 0 0)))=>match v7 r tm bl with
   |some l=>some (.const 0:: .const 0:: .const (-2)::l)
   |none=>none
  |some (.w (.one (.sl b aM o ro len cap)))=>match bl[b]? with
   |some ([.rows cP off code cU kind],t)=>cond (iU sh cP&&aG kind 1&&aa.beq o off&&aa.beq ro (.const 0)&&aa.beq cap cU&&aG aM sh.length)
    (match v7 r tm bl with
    |some l=>some (code::len::cap::l)
    |none=>none) none
   |_=>none
  |_=>none
def IQ:Nat->M Unit
 |0=>pure ()
 |k+1=>λn zf=> .nat n (IQ k (n+1) zf)
def headD:List (Nat×List ay)->Nat->Nat->List V->List ao->List V×List ao
 |[],_,_,tm,bl=>(tm,bl)
 |(s,sh)::r,v,u,tm,bl=>headD r (v+3) (u+1) (om tm s (.w (.one (.sl bl.length sh.length (.var u) (.const 0) (.var (v+1)) (.var (v+2)))))) (bl++[([.rows sh (.var u) (.var v) (.var (v+2)) 1],(0,false))])
noncomputable def vZ (l:List (Nat×List ay)):List (Int×Int):=l.flatMap λ_=>[(0,ch),(0,9223372036854775807),(-2,9223372036854775807)]
noncomputable def v8:List (Nat×List ay)->Nat->List V->List ao->(Nat->List V->List ao->T)->T
 |[],n,tm,bl,k=>k n tm bl
 |(s,sh)::r,n,tm,bl,k=>match tm[s]? with
  |some (.w (.one (.sl b aM o ro len cap)))=>match bl[b]? with
   |some ([.rows cP off code cU kind],_)=>cond (iU sh cP&&aG kind 1&&aa.beq o off&&aG aM sh.length&& !(aa.beq ro (.const 0)&&aa.beq cap cU))
    (.oN 22 [code,ro,ro.add len] (.oN 40 [cap,cU] (.fn n 22 [code,ro,ro.add len] 0 ch
      (v8 r (n+1) (om tm s (.w (.one (.sl bl.length aM (o.add (ro.smul aM)) (.const 0) len cap)))) (bl++[([.rows sh (o.add (ro.smul aM)) (.var n) cap 1],(0,false))]) k))))
    (v8 r n tm bl k)
   |_=>v8 r n tm bl k
  |_=>v8 r n tm bl k
noncomputable def Ph (li:cX) (body:Nat->List V->List ao->nj->T) (n:Nat) (tm:List V) (bl:List ao) (k:nj):T:=
 xi li.ints tm n λtm n=>CS tm li.oM n λlb n=>match hs li.eC li.ints 0 (n+1) tm,rW 0 li.nT tm bl [],v7 li.iC tm bl with
 |some (ks,l1,b1),some (la,us),some iA=>match hb li.cells 0 (n+1+l1.length) (lf us bl)with
  |none=> .stuck
  |some (dr,l2,b2)=>cond (!(kZ ks ks&&kY dr dr)) .stuck <| .loop n (l1++l2++(lb++la++iA)) (n+1) (b1++b2++(GX li.oM++wY li.nT++vZ li.iC))
   (IQ li.iC.length (n+1+l1.length+l2.length+(lb++la++iA).length) λ_ N=>
   let d:=headD li.iC (n+1+l1.length+l2.length+(lb++la).length) (n+1+l1.length+l2.length+(lb++la++iA).length) (q6 li.oM (n+1+l1.length+l2.length) ks) dr;let e:=px li.nT (n+1+l1.length+l2.length+lb.length) d.1 d.2
   body N e.1 e.2 λx n' bz aI=>match x with
   | .normal=>v8 li.iC n' bz (yl li.iC bz aI) λn' bz aI=>xi li.ints bz n' λbz n'=>CS bz li.oM n' λXf n'=>match hs li.eC li.ints 0 (n+1) bz,rW bl.length li.nT bz aI [],v7 li.iC bz aI with
    |some (uC,v1,_),some (O2,_),some Xs=>match hb li.cells 0 (n+1+v1.length) (aI.take bl.length)with
     |none=> .stuck
     |some (mH,v2,_)=>cond (kZ ks uC&&kY dr mH) (.again n (v1++v2++(Xf++O2++Xs))) .stuck
    |_,_,_=> .stuck
   |x=>k x n' bz aI)
 |_,_,_=> .stuck
noncomputable def Pg (li:cX) (body:Nat->List V->List ao->nj->T) (n:Nat) (tm:List V) (bl:List ao) (k:nj):T:=
 v8 li.iC n tm (yl li.iC tm bl) λn tm bl=>Ph li body n tm bl k
noncomputable def kX (P:bk) (gl:dA) (cal:dY) (inl:hX) (li:Nat->Option cX) (rounds:Nat):Code->Nat->List V->List ao->nj->T
 | .skip,n,tm,bl,k=>k .normal n tm bl
 | .region _ ops draw,n,tm,bl,k=>cond draw
  (let h:=Ao P cal ops
   cond (B5 ops h&&J0 P (ops.toList.take h)&& !Qy P (ops.toList.take h)) (Am P gl cal ops (ops.toList.take h) n tm bl λn' bz=>CG P (ops.toList.take h) n' bz bl λn' bz aI=>BB P gl cal inl ops (ops.toList.drop h) n' bz aI (k .normal)) (cond (Xe ops) (vd P gl cal inl ops bl.length (cO bl.length 0 bl) ops.size (rI ops.size false) n tm bl (k .normal)) (cond (bC (ops.toList.filter λo=> !Pj o).length 24) (tp P gl cal inl ops (DU P ops tm bl) (cO (DU P ops tm bl) 0 bl) ops.size (rI ops.size false) n tm bl (k .normal)) .stuck)))
  (BB P gl cal inl ops ops.toList n tm bl (k .normal))
 | .seq a b,n,tm,bl,k=>kX P gl cal inl li rounds a n tm bl λx n' bz aI=>match x with
  | .normal=>kX P gl cal inl li rounds b n' bz aI k
  |x=>k x n' bz aI
 | .cond c a b,n,tm,bl,k=>match b8 tm c with
  | .w (.one (.bool e))=>match e with
   | .lit v=>cond v (kX P gl cal inl li rounds a n tm bl k) (kX P gl cal inl li rounds b n tm bl k)
   |e=> .tv e (kX P gl cal inl li rounds a n (pL e true tm) bl k) (kX P gl cal inl li rounds b n (pL e false tm) bl k)
  |_=> .stuck
 | .block id c,n,tm,bl,k=>kX P gl cal inl li rounds c n tm bl λx n' bz aI=>match x with
  | .exit vF=>cond (aG vF id) (k .normal n' bz aI) (k (.exit vF) n' bz aI)
  |x=>k x n' bz aI
 | .loop c,n,tm,bl,k=>match(zQ c).bind li with
  |some l=>Pg l (λn tm bl k=>kX P gl cal inl li rounds c n tm bl k) n tm bl k
  |none=>P4 (λn tm bl k=>kX P gl cal inl li rounds c n tm bl k) rounds n tm bl k
 | .exit id,n,tm,bl,k=>k (.exit id) n tm bl
 | .ret,n,tm,bl,k=>k .ret n tm bl
 |_,_,_,_,_=> .stuck
def Fc (P:bk) (gl:dA) (bl:List ao) (tm:List V):ResultVar->Option W
 | .tmp t=>match tm[t]? with|some (.w u)=>some u|_=>none
 | .cell a t=>match tm[a]? with
  |some (.w (.one p))=>match zF bl gl p,od P t,eM P t with
   |some cs,some true,some k=>cond (bC k cs.length) (some (.agg (cs.take k))) none
   |some (x::_),some false,_=>some (.one x)
   |_,_,_=>none
  |_=>none
def yH (P:bk) (gl:dA) (bl:List ao) (tm:List V):List ResultVar->Option (List W)
 |[]=>some []
 |r::s=>match Fc P gl bl tm r,yH P gl bl tm s with|some u,some l=>some (u::l)|_,_=>none
def Py (tm:List V):List ResultVar->Option V
 |[.tmp t]=>match tm[t]? with
  |some (.mK f c)=>some (.mK f c)
  |some (.oY b l lo)=>some (.oY b l lo)
  |_=>none
 |_=>none
def Fa (P:bk) (gl:dA) (fn:Func) (n:Nat) (tm:List V) (bl:List ao) (k:RK):T:=
 match yH P gl bl tm fn.results.toList with
 |some [u]=>k n (.w u) bl
 |some l=>k n (.eX l) bl
 |none=>match Py tm fn.results.toList with
  |some v=>k n v bl
  |none=> .stuck
def BN:Nat->List V
 |0=>[]
 |n+1=> .eX []::BN n
noncomputable def GV (P:bk) (gl:dA) (cal:dY) (inl:hX) (li:cB->Nat->Option cX) (rounds:Nat):hX:=
 λf n vs bl k=>match P.funcs[f]? with
  |none=> .stuck
  |some fn=>match fn.body with
   |none=> .stuck
   |some c=>cond (!(fn.name== "runtime.NumGoroutine")&&bC vs.length fn.ntmps) (kX P gl cal inl (li f) rounds c n (vs++BN (fn.ntmps-vs.length)) bl λx n' bz aI=>match x with
    | .exit _=> .stuck
    |_=>Fa P gl fn n' bz aI k) .stuck
noncomputable def G3 (P:bk) (gl:dA) (cal:dY) (li:cB->Nat->Option cX) (rounds:Nat):Nat->hX
 |0=>λ_ _ _ _ _=> .stuck
 |d+1=>GV P gl cal (G3 P gl cal li rounds d) li rounds
abbrev hW:=cB->Option (Nat->List V->List ao->RK->T)
noncomputable def Pz (bc:hW) (inl:hX):hX:=λf n vs bl k=>match bc f with
 |some g=>g n vs bl k
 |none=>inl f n vs bl k
noncomputable def xa (bc:hW) (P:bk) (gl:dA) (cal:dY) (li:cB->Nat->Option cX) (rounds:Nat):Nat->hX
 |0=>λ_ _ _ _ _=> .stuck
 |d+1=>GV P gl cal (Pz bc (xa bc P gl cal li rounds d)) li rounds
end Go.bg
