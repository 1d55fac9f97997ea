/- Texts as numbers. -/
import GoSem.ClaimData
import GoSem.Op.String
import Derived.WalkKit
import Derived.Laws.StructEq
import Derived.ChangeKeysEq
import Derived.Laws.Tables
import Derived.Laws.Strings2
import Derived.Laws.Concat
import Derived.Laws.Cover1
import Derived.Laws.Cover3
import Derived.Laws.BytesArg
import Derived.StillTail
import Derived.OrdersHeld
import Derived.Laws.CopyRow
import Derived.Deep.LoopGhost
open Array renaming toArray_toList->l4,toList_map->AY,replicate->CJ,eq_empty_of_size_eq_zero->EL,getElem?_toList->Su,getElem?_eq_none->Yn,getElem?_setIfInBounds_ne->aWD,ext_getElem?->aWQ
open BitVec renaming ofInt->rk,toNat_ofInt->JJ
open Bool renaming and_eq_true->bI,not_eq_true'->c6,not_true->dD,not_eq_false'->dZ,false_eq_true->xX,or_eq_true->EG,false_or->JQ,true_and->aWu
open ByteArray renaming size->aZM
open Classical renaming byContradiction->ai2,choose_spec->awc,choose->aWh
open Function renaming comp->Si
open Go renaming World->aC,Value->bf,TypeId->bE,Program->cc,FuncId->dv,IntKind->eB,run_underlying->gz,Operand->rl,getD_both->JS,run_loadCells_list->Sl
open Go.Act renaming put->M3
open Go.Builtin renaming len_->M5,min_->ajh,max_->aji
open Go.ByteArray renaming toList_mk->aZL,mk_append_mk->aZN,getElem?_lt'->aZO,extract_mk->aZP
open Go.Deferred renaming ofValue->awq
open Go.Instr renaming sureAddr->pt,sliceBounds->pv,loadAt->pZ,sliceAt->uW,indexAt->xV,sliceBound->St,index->aja,slice->ajb,extract->awg,fieldAt->awh,fill->awp,arrayAt->awr
open Go.IntKind renaming max->cL,signed->Sp,bits->awl,wrap->aWt
open Go.Next renaming value->mx
open Go.Next.value renaming injEq->aWS
open Go.Op renaming eqFields->M6,intBits->Yj,equalIn->Yl
open Go.Oper renaming wp->pw
open Go.Program renaming fieldsOf->aWL
open Go.Region renaming ready->y5,wanted->CN,waitsFor->EK,waitsFor_spec->JR,noSelect->Yc,binds->ajd,Mode->aws,chainB->aWN,seqB->aWO,free->aWU
open Go.Result renaming andThen_ok->j6,andThen->aWT
open Go.Result.ok renaming injEq->aWR
open Go.Sem renaming run_bind->jS,run_pure->kZ
open Go.Utf8 renaming encode->Yk
open Go.Value.pointer renaming injEq->aZy
open Go.World renaming cell?->oq
open Go.World.Extends renaming refl->sd
open Int renaming le_refl->cn,toNat_natCast->hC,mul_comm->kL,emod_eq_of_lt->lO,eq_ofNat_of_zero_le->mr,lt_or_le->mw,le_of_lt->qv,emod_lt_of_pos->ri,emod_nonneg->sV,mul_assoc->CD,mul_le_mul_of_nonneg_left->EI,dvd_of_emod_eq_zero->JH,natCast_nonneg->JK,mul_add->MX,ediv_nonneg->Yi,mul_nonneg->ai7,mul_le_mul->ai9,mul_ediv_add_emod->awk,ofNat_sub->awm,mul_emod_right->awn,ediv_le_self->awo,ediv_le_ediv->aWs,fdiv_eq_ediv_of_nonneg->aWA,tdiv_eq_ediv_of_nonneg->aWB,tmod_eq_emod_of_nonneg->aWC,ofNat_toNat->aWY
open List renaming getD->U,map_cons->df,replicate->dw,range->dP,mem_cons_of_mem->e5,length_append->fq,mem_of_getElem?->fw,map_nil->gr,map_congr_left->j5,length_cons->kx,map_map->lz,getElem?_eq_getElem->lA,mem_of_mem_take->mv,mem_cons->m2,length_take->m4,length_nil->pr,length_map->ps,getElem?_map->qw,mem_of_mem_drop->qx,getElem?_take->tF,eq_nil_of_length_eq_zero->uV,getElem?_append_left->wG,flatMap_cons->wH,getElem?_cons_zero->xU,drop_drop->CF,getElem_mem->CL,getElem?_drop->EJ,mem_of_find?_eq_some->JN,getElem?_append_right->MY,map_take->M0,map_drop->M1,head?->M4,map_id->Sh,getElem?_toArray->Sr,tail->Ss,find?_some->Yd,mem_map_of_mem->aWE,take_drop->aWK,countP_cons->aWP
open Nat renaming beq->aU,le_refl->b1,eq_of_beq_eq_true->b8,ble->cV,blt->eC,le_of_ble_eq_true->gq,add_zero->m3,le_trans->nJ,log2->rj,le_succ->tH,pow_add->xS,mul_comm->xT,pow_succ->y1,zero_add->y4,add_mul->y6,zero_le->AS,lt_succ_self->AW,succ_mul->AX,two_pow_pos->CG,mul_one->CH,min_eq_left->CI,lt_or_ge->CK,add_assoc->JI,lt_of_lt_of_le->JL,pow_le_pow_right->MW,min->M7,div_div_eq_div_mul->Sf,mul_div_cancel_left->Sg,div_add_mod->X9,mul_assoc->Yb,one_le_two_pow->awd,testBit_mul_two_pow->aWv,lt_log2_self->aWw,or_lt_two_pow->aWy
open Option renaming isSome_none->xW,map_some->AT,getD_some->EF,getD_none->ajc,map_none->aWM
open Option.some renaming injEq->bu,inj->iI
open Prod.mk renaming injEq->fi
open Pure renaming pure->Yf
open UInt8 renaming ofNat->AR
set_option linter.unusedVariables false
set_option linter.unusedSimpArgs false
namespace Go.bX
def qH:List UInt8->Nat
 |[]=>0
 |b::r=>(b.toNat+1)+257*qH r
def Gp:Nat->Nat->List UInt8
 |0,_=>[]
 |f+1,n=>match n with
  |0=>[]
  |k+1=>AR (k% 257)::Gp f ((k+1)/257)
theorem abu (b:UInt8) (r:List UInt8):qH (b::r)=(b.toNat+1)+257*qH r:=rfl
theorem az0 (b:UInt8) (r:List UInt8):qH (b::r)=(b.toNat+257*qH r)+1:=by rw[abu];omega
theorem atD:∀(l:List UInt8) (f:Nat),l.length<=f->Gp f (qH l)=l
 |[],0,_=>rfl
 |[],f+1,_=>rfl
 |b::r,0,h=>by simp at h
 |b::r,f+1,h=>by
  have hb:=b.toNat_lt;rw[az0];show AR ((b.toNat+257*qH r)% 257)::Gp f ((b.toNat+257*qH r+1)/257)=b::r;have av:(b.toNat+257*qH r)% 257=b.toNat:=by omega
  have aH:(b.toNat+257*qH r+1)/257=qH r:=by omega
  rw[av,aH,atD r f (by simpa using h)];simp
theorem atE:∀(f n k:Nat),n<257^k->(Gp f n).length<=k
 |0,_,_,_=>by simp[Gp]
 |f+1,0,k,_=>by simp[Gp]
 |f+1,n+1,0,h=>by simp at h
 |f+1,n+1,k+1,h=>by
  have:(n+1)/257<257^k:=by rw[Nat.div_lt_iff_lt_mul (by decide)];rw[y1]at h;exact h
  have ih:=atE f ((n+1)/257) k this;simp only[Gp,kx];omega
theorem amQ:∀(l:List UInt8),qH l<257^l.length
 |[]=>by simp[qH]
 |b::r=>by
  have ih:=amQ r;have hb:=b.toNat_lt;unfold qH;rw[kx,y1];omega
theorem amP:∀(l:List UInt8),l.length<=qH l
 |[]=>by simp
 |b::r=>by
  have ih:=amP r;unfold qH;rw[kx];omega
theorem amR:∀(l:List UInt8),0<l.length->2^(l.length-1)<=qH l
 |[b],_=>by rw[abu];show 1<=_;omega
 |b::c::r,_=>by
  have ih:=amR (c::r) (by simp);rw[abu b];simp only[kx,Nat.add_sub_cancel]at ih⊢;rw[y1];omega
def bD (z:Int):List UInt8:=Gp (rj z.toNat+1) z.toNat
def k5 (l:List UInt8):Int:=qH l
theorem Ce (l:List UInt8):bD (k5 l)=l:=by
 unfold bD k5;rw[hC];apply atD;by_cases h:l.length=0
 ·omega
 ·have h1:=amR l (by omega);have h2:qH l≠0:=by have:=amP l;omega
  have h3:=(Nat.le_log2 h2).2 h1;omega
theorem zz (l:List UInt8):0<=k5 l:=JK _
theorem axz (k:Nat):∃H:Int,(∀l:List UInt8,l.length<=k->k5 l<=H)/\∀z:Int,z<=H->(bD z).length<=k:=by
 refine⟨(257^k:Nat)-1,λl h=>?_,λz h=>?_⟩
 ·have h1:=amQ l;have h2:257^l.length<=257^k:=MW (by decide) h;unfold k5;omega
 ·unfold bD;apply atE;have:=Nat.pow_pos (n:=k) (show 0<257 by decide);omega
def nw:Nat:=0x7ffffffff000
theorem ZV:∃H:Int,(∀l:List UInt8,l.length<=nw->k5 l<=H)/\∀z:Int,z<=H->(bD z).length<=nw:=axz nw
noncomputable def p3:Int:=aWh ZV
theorem x1 {l:List UInt8} (h:l.length<=nw):k5 l<=p3:=(awc ZV).1 l h
theorem Nh {z:Int} (h:z<=p3):(bD z).length<=nw:=(awc ZV).2 z h
theorem ZW:0<=p3:=by have:=x1 (l:=[]) (by simp);exact this
def yq (l:List UInt8):List UInt8:=cond (cV l.length 1000000) l []
theorem aHh (l:List UInt8):0<=k5 (yq l)/\k5 (yq l)<=p3:=by
 refine⟨zz _,x1 ?_⟩;unfold yq;cases h:cV l.length 1000000 with
 |true=>have:=gq h;simp only[cond_true];unfold nw;omega
 |false=>simp
def eS (l:List UInt8):ByteArray:=⟨l.toArray⟩
def CP (z:Int):Nat:=if 0<=z then 2*z.toNat else 2*(-z).toNat-1
def Gy (n:Nat):Int:=if n% 2=0 then((n/2:Nat):Int)else-(((n+1)/2:Nat):Int)
theorem aVo (z:Int):Gy (CP z)=z:=by
 unfold CP Gy;split
 ·rw[if_pos (by omega)];omega
 ·rw[if_neg (by omega)];omega
def lc:List Nat->Nat
 |[]=>0
 |x::r=>2^x*(2*lc r+1)
def tw:Nat->Nat->Nat
 |0,_=>0
 |f+1,n=>if n% 2=0 then tw f (n/2)+1 else 0
theorem auB (k:Nat):∀(x f:Nat),x<f->tw f (2^x*(2*k+1))=x
 |0,f+1,_=>by
  unfold tw;rw[if_neg (by rw[Nat.pow_zero,Nat.one_mul];omega)]
 |x+1,f+1,h=>by
  unfold tw;have e:2^(x+1)*(2*k+1)=2*(2^x*(2*k+1)):=by rw[y1,xT (2^x) 2,Yb]
  rw[e,if_pos (by omega),Sg _ (by decide),auB k x f (by omega)]
def DW:Nat->Nat->List Nat
 |0,_=>[]
 |f+1,n=>if n=0 then []else tw n n::DW f (n/2^tw n n/2)
theorem aIt (x:Nat):x<2^x:=Nat.lt_two_pow_self
theorem afI:∀l:List Nat,l.length<=lc l
 |[]=>b1 _
 |x::r=>by
  have ih:=afI r;unfold lc;have h1:1<=2^x:=awd;have h2:2*lc r+1<=2^x*(2*lc r+1):=Nat.le_mul_of_pos_left _ h1;rw[kx];omega
theorem afL:∀(l:List Nat) (f:Nat),l.length<=f->DW f (lc l)=l
 |[],0,_=>rfl
 |[],f+1,_=>by simp[DW,lc]
 |x::r,0,h=>by simp at h
 |x::r,f+1,h=>by
  have h1:1<=2^x:=awd;have h2:2^x<=2^x*(2*lc r+1):=Nat.le_mul_of_pos_right _ (by omega);have h3:=aIt x;have hz:lc (x::r)≠0:=by
   have hl:lc (x::r)=2^x*(2*lc r+1):=rfl;omega
  have aB:tw (lc (x::r)) (lc (x::r))=x:=by
   show tw (2^x*(2*lc r+1)) (2^x*(2*lc r+1))=x;exact auB _ _ _ (by omega)
  unfold DW;rw[if_neg hz,aB];have e:lc (x::r)/2^x/2=lc r:=by
   have hl:lc (x::r)=2^x*(2*lc r+1):=rfl;rw[hl,Sg _ (by omega)];omega
  rw[e,afL r f (by simpa using h)]
theorem afH (X:Nat):∀k:Nat,∃B,∀l:List Nat,l.length<=k->(∀x∈l,x<=X)->lc l<=B
 |0=>⟨0,λl h _=>by
  have:l=[]:=List.length_eq_zero_iff.1 (by omega);subst this;exact b1 _⟩
 |k+1=>by
  obtain⟨B,da⟩:=afH X k;refine⟨2^X*(2*B+1),λl h hx=>?_⟩;cases l with
  |nil=>exact AS _
  |cons x r=>
   unfold lc;have h1:=da r (by simpa using h) λy hy=>hx y (e5 _ hy);exact Nat.mul_le_mul (MW (by decide) (hx x (by simp))) (by omega)
def rc (l:List (List Int)):Int:=(lc (l.map λrow=>lc (row.map CP)):Nat)
def af (z:Int):List (List Int):=(DW z.toNat z.toNat).map λn=>(DW n n).map Gy
theorem aIA (l:List Int):(l.map CP).map Gy=l:=by
 rw[lz]
 conv=>rhs;rw[<-Sh l]
 exact j5 λz _=>aVo z
theorem jO (l:List (List Int)):af (rc l)=l:=by
 unfold af rc;rw[hC,afL _ _ (afI _),lz]
 conv=>rhs;rw[<-Sh l]
 refine j5 λrow _=>?_;simp only[Si,id];rw[afL _ _ (afI _),aIA]
theorem kh (l:List (List Int)):0<=rc l:=JK _
def ahg (row:List Int):Prop:=row.length<=100/\∀z∈row,-0x10000000000000000-p3<=z/\z<=0x10000000000000000+p3
theorem akL:∃H:Int,∀l:List (List Int),l.length<=maxLen->(∀row∈l,ahg row)->rc l<=H:=by
 obtain⟨B,da⟩:=afH (2*(0x10000000000000000+p3).toNat) 100;obtain⟨C,kc⟩:=afH B maxLen;refine⟨(C:Nat),λl h hr=>?_⟩;unfold rc;have:=kc (l.map λrow=>lc (row.map CP)) (by simpa using h) λx hx=>by
  obtain⟨row,k9,rfl⟩:=List.mem_map.1 hx;refine da _ (by simpa using(hr row k9).1) λy hy=>?_;obtain⟨z,hz,rfl⟩:=List.mem_map.1 hy;have h1:=(hr row k9).2 z hz;have h2:=ZW;unfold CP;split<;>omega
 omega
noncomputable def cP:Int:=aWh akL
theorem u1 {l:List (List Int)} (h:l.length<=maxLen) (hr:∀row∈l,ahg row):rc l<=cP:=awc akL l h hr
inductive a8 where
 |int (k:eB) (lo hi:Int)
 |str
 |bool
def a8.beq:a8->a8->Bool
 |int k lo hi,int bJ VW qN=>decide (k=bJ)&&decide (lo=VW)&&decide (hi=qN)
 |str,str=>true
 |bool,bool=>true
 |_,_=>false
theorem a8.beq_eq:∀{a b:a8},a8.beq a b=true->a=b
 |int k lo hi,int bJ VW qN,h=>by
  simp only[a8.beq,bI,decide_eq_true_eq]at h;rw[h.1.1,h.1.2,h.2]
 |str,str,_=>rfl
 |bool,bool,_=>rfl
 |int ..,str,h=>by cases h
 |int ..,bool,h=>by cases h
 |str,int ..,h=>by cases h
 |str,bool,h=>by cases h
 |bool,int ..,h=>by cases h
 |bool,str,h=>by cases h
def sQ:List a8->List a8->Bool
 |[],[]=>true
 |a::r,b::s=>a8.beq a b&&sQ r s
 |_,_=>false
theorem Ek:∀{a b:List a8},sQ a b=true->a=b
 |[],[],_=>rfl
 |a::r,b::s,h=>by
  simp only[sQ,bI]at h;rw[a8.beq_eq h.1,Ek h.2]
 |[],_::_,h=>by cases h
 |_::_,[],h=>by cases h
noncomputable def a8.gu:a8->Int×Int
 |int _ lo hi=>(lo,hi)
 |str=>(0,p3)
 |bool=>(0,1)
def a8.val:a8->Int->bf
 |int k _ _,z=> .int k z
 |str,z=> .string (eS (bD z))
 |bool,z=> .bool (decide (z=1))
def cu:Nat->List Int->Int
 |0,[s]=>(bD s).length
 |1,[s,i]=>((bD s).getD i.toNat 0).toNat
 |2,[s,a,b]=>k5 (((bD s).drop a.toNat).take (b.toNat-a.toNat))
 |3,[s,t]=>k5 (bD s++bD t)
 |4,[s,t]=>if bD s=bD t then 1 else 0
 |5,[s,t]=>if Op.bytesLess (bD s) (bD t)=true then 1 else 0
 |20,[c]=>(af c).length
 |21,[c,i,j]=>((af c).getD i.toNat []).getD j.toNat 0
 |22,[c,a,b]=>rc (((af c).drop a.toNat).take (b.toNat-a.toNat))
 |23,c::row=>rc (af c++[row])
 |24,[c,e]=>rc (af c++af e)
 |25,c::i::row=>rc ((af c).set i.toNat row)
 |26,n::row=>rc (dw n.toNat row)
 |27,[s]=>rc ((bD s).map λb=>[(b.toNat:Int)])
 |34,[c,a,b]=>k5 ((((af c).drop a.toNat).take (b.toNat-a.toNat)).map λrow=>AR (row.getD 0 0).toNat)
 |37,[x,y]=>x*2^y.toNat
 |38,[x,y]=>x% y
 |76,[x,y]=>x/y
 |33,[r,a,c]=>if a=c then r else r+a
 |29,[c,i,j,v]=>rc ((af c).set i.toNat (((af c).getD i.toNat []).set j.toNat v))
 |42,c::i::j::vs=>rc ((af c).set i.toNat (((af c).getD i.toNat []).take j.toNat++vs++((af c).getD i.toNat []).drop (j.toNat+vs.length)))
 |43,[s,i]=>if AR i.toNat∈bD s then 1 else 0
 |61,c::a::k::row=>rc ((af c).take a.toNat++dw k.toNat row++(af c).drop (a.toNat+k.toNat))
 |62,[a,b]=>min a b
 |63,[c,a,s]=>rc ((af c).take a.toNat++af s++(af c).drop (a.toNat+(af s).length))
 |28,[c]=>k5 ((af c).map λrow=>AR (row.getD 0 0).toNat)
 |_,_=>0
noncomputable def NY:Nat->List Int->Prop
 |70,[l,c]=>c∣l
 |71,z::_=>(af z).length<=1000000000
 |72,z::_=>64∣(af z).length/\(af z).length<=1000001000
 |73,z::_=>128∣(af z).length/\(af z).length<=1000001000
 |74,[i,l]=>0<=i/\i<l
 |78,[x,y,z,c]=>0<=x/\x<=y/\y<=z/\z<=c
 |79,[l,c]=>l<=c
 |75,l=>∀z∈l,(af z).length<=100000000
 |77,[x]=>0<=x
 |80,[c,a,k]=>0<=a/\0<=k/\a+k<=(af c).length
 |81,l=>(bD (l.getD 5 0)).length<=1000000000
 |82,_=>True
 |83,r::_=>0<(af r).length/\(af r).length<=1000000000
 |91,l=>∀z∈l,(bD z).length<=2000
 |_,_=>False
def aj:Nat->List Int->Prop
 |1,[s,i]=>0<=i/\i<(bD s).length
 |2,[s,a,b]=>0<=a/\a<=b/\b<=(bD s).length
 |3,[s,t]=>(bD s).length+(bD t).length<=nw
 |21,[c,i]=>0<=i/\i<(af c).length
 |30,[i,n]=>0<=i/\i<n
 |31,[c,n]=>n=(af c).length
 |32,[a,b,n]=>0<=a/\a<=b/\b<=n
 |22,[c,a,b]=>0<=a/\a<=b/\b<=(af c).length
 |35,[c,a,b]=>(0<=a/\a<=b/\b<=(af c).length)/\b-a<=0x7ffffffff000
 |36,[y]=>0<y
 |39,[x,l,h]=>l<=x/\x<=h
 |40,[a,b]=>0<=a->0<=b
 |41,[s]=>(bD s).length<=4294967280
 |44,[w,s]=>bD w=[]∨(bD s).length<=4294967280
 |23,[c,k]=>(af c).length+k<=1073741824
 |26,[n]=>0<=n/\n<=1073741824
 |48,r::_=>(af r).length<=1099511627776
 |50,s::_=>(bD s).length<=1073741824
 |49,[l,c]=>0<=l/\l<=c/\c<=1073741824
 |64,[p,q,r,l]=>0<=p/\p<=q/\q<=r/\r<=l/\0<l
 |65,[c,a,k]=>0<=a/\0<k/\a+k<=(af c).length
 |66,r::_=>(af r).length<=1000000
 |68,[l,c]=>l<=c∨l=0
 |67,[c,i,k]=>((af c).getD i.toNat []).length=k.toNat
 |53,[c,l]=>c<0->l=0
 |52,[c,a,b]=>0<=a/\a<b/\b<=(af c).length/\(af c).length<=1073741824
 |51,[c,i,r]=>(0<=i/\i<=(af c).length)/\(af r).length=1/\(af c).length+1<=1073741824
 |op,l=>NY op l
abbrev zzS:Type:=Nat->List (List Int)->List (List Int)->Prop
abbrev zzK:Type:=List (List Int)->List (List Int)->Prop
end Go.bX
namespace Go.bX
abbrev Env:=Nat->Int
def eg (ρ:Env) (n:Nat) (z:Int):Env:=λi=>cond (aU i n) z (ρ i)
def b0 (ρ:Env):Nat->List Int->Env
 |_,[]=>ρ
 |n,z::zs=>b0 (eg ρ n z) (n+1) zs
def agree (n:Nat) (ρ ae:Env):Prop:=∀i,i<n->ae i=ρ i
theorem agree.refl (n:Nat) (ρ:Env):agree n ρ ρ:=λ_ _=>rfl
theorem agree.trans {n n':Nat} {ρ ae y9:Env} (h:agree n ρ ae) (aP:agree n' ae y9) (hn:n<=n'):agree n ρ y9:=
 λi hi=>(aP i (by omega)).trans (h i hi)
theorem agree.mono {n n':Nat} {ρ ae:Env} (h:agree n' ρ ae) (hn:n<=n'):agree n ρ ae:=λi hi=>h i (by omega)
theorem mL (ρ:Env) (n:Nat) (z:Int):eg ρ n z n=z:=by simp[eg]
theorem aiu (ρ:Env) {n i:Nat} (z:Int) (h:i≠n):eg ρ n z i=ρ i:=by
 unfold eg;cases hb:aU i n with
 |false=>rfl
 |true=>exact absurd (b8 hb) h
theorem agree.eg (n:Nat) (ρ:Env) (z:Int):agree n ρ (eg ρ n z):=λi hi=>aiu ρ z (by omega)
theorem agree.b0:∀(zs:List Int) (n:Nat) (ρ:Env),agree n ρ (b0 ρ n zs)
 |[],n,ρ=>agree.refl n ρ
 |z::zs,n,ρ=>(agree.eg n ρ z).trans (agree.b0 zs (n+1) _) (by omega)
structure I where
 c:Int
 ts:List (Int×Nat)
def kR (ρ:Env):List (Int×Nat)->Int
 |[]=>0
 |(k,i)::r=>k*ρ i+kR ρ r
def I.den (ρ:Env) (l:I):Int:=kR ρ l.ts+l.c
def IC (k:Int) (i:Nat):List (Int×Nat)->List (Int×Nat)
 |[]=>[(k,i)]
 |(bJ,j)::r=>cond (eC i j) ((k,i)::(bJ,j)::r) (cond (aU i j) (cond (k+bJ==0) r ((k+bJ,i)::r)) ((bJ,j)::IC k i r))
def J8:List (Int×Nat)->List (Int×Nat)->List (Int×Nat)
 |[],l=>l
 |(k,i)::r,l=>IC k i (J8 r l)
def Gq (m:Int):List (Int×Nat)->List (Int×Nat)
 |[]=>[]
 |(k,i)::r=>(m*k,i)::Gq m r
theorem ana (ρ:Env) (k:Int) (i:Nat):∀l,kR ρ (IC k i l)=k*ρ i+kR ρ l
 |[]=>rfl
 |(bJ,j)::r=>by
  unfold IC;cases h1:eC i j with
  |true=>rfl
  |false=>
   cases h2:aU i j with
   |true=>
    have e:i=j:=b8 h2;subst e;cases h3:(k+bJ==0)with
    |true=>
     have h3:k+bJ=0:=by simpa using h3
     simp only[cond_true,cond_false,kR];rw[<-Int.add_assoc,<-Int.add_mul,h3];simp
    |false=>simp only[cond_true,cond_false,kR];rw[Int.add_mul];omega
   |false=>simp only[cond_false,kR,ana ρ k i r];omega
theorem am8 (ρ:Env):∀l l',kR ρ (J8 l l')=kR ρ l+kR ρ l'
 |[],l'=>by simp[J8,kR]
 |(k,i)::r,l'=>by simp only[J8,ana,kR,am8 ρ r l'];omega
theorem anb (ρ:Env) (m:Int):∀l,kR ρ (Gq m l)=m*kR ρ l
 |[]=>by simp[Gq,kR]
 |(k,i)::r=>by simp only[Gq,kR,anb ρ m r];rw[MX,CD]
def vP (n:Nat) (l:List (Int×Nat)):Prop:=∀t∈l,t.2<n
theorem vP.mono {n n':Nat} {l} (h:vP n l) (hn:n<=n'):vP n' l:=λt aB=>JL (h t aB) hn
theorem atS {n:Nat} {k:Int} {i:Nat} (hi:i<n):∀{l},vP n l->vP n (IC k i l)
 |[],_=>by intro t aB;simp[IC]at aB;subst aB;exact hi
 |(bJ,j)::r,h=>by
  have hr:vP n r:=λt aB=>h t (e5 _ aB);have aR:j<n:=h (bJ,j) (by simp);have ih:=atS (k:=k) hi hr;unfold IC;intro t aB;cases h1:eC i j<;>cases h2:aU i j<;>cases h3:(k+bJ==0)<;>simp only[h1,h2,h3,cond_true,cond_false,m2]at aB<;>
   first
   |(rcases aB with rfl|aB<;>first|exact hi|exact aR|(exact hr t aB)|(exact ih t aB)|(rcases aB with rfl|aB<;>first|exact aR|exact hr t aB))
   |exact hr t aB
theorem atQ {n:Nat}:∀{l l'},vP n l->vP n l'->vP n (J8 l l')
 |[],_,_,aP=>aP
 |(k,i)::r,_,h,aP=>atS (k:=k) (i:=i) (h (k,i) (by simp)) (atQ (l:=r) (λt aB=>h t (e5 _ aB)) aP)
theorem atT {n:Nat} {m:Int}:∀{l},vP n l->vP n (Gq m l)
 |[],_=>λt aB=>by simp[Gq]at aB
 |(k,i)::r,h=>by
  intro t aB;simp only[Gq,m2]at aB;rcases aB with rfl|aB
  ·exact h (k,i) (by simp)
  ·exact atT (λt aB=>h t (e5 _ aB)) t aB
theorem am9 {n:Nat} {ρ ae:Env} (h:agree n ρ ae):∀{l},vP n l->kR ae l=kR ρ l
 |[],_=>rfl
 |(k,i)::r,hs=>by
  simp only[kR,h i (hs (k,i) (by simp)),am9 h (l:=r) (λt aB=>hs t (e5 _ aB))]
namespace I
def const (c:Int):I:=⟨c,[]⟩
def var (n:Nat):I:=⟨0,[(1,n)]⟩
def add (a b:I):I:=⟨a.c+b.c,J8 a.ts b.ts⟩
def smul (m:Int) (a:I):I:=cond (m==0) ⟨0,[]⟩ ⟨m*a.c,Gq m a.ts⟩
def sub (a b:I):I:=a.add (b.smul (-1))
def fk (a:I):Option Int:=match a.ts with|[]=>some a.c|_=>none
def bU (n:Nat) (a:I):Prop:=vP n a.ts
def Kf:List (Int×Nat)->List (Int×Nat)->Bool
 |[],[]=>true
 |(k,i)::r,(bJ,FM)::r'=>k==bJ&&aU i FM&&Kf r r'
 |_,_=>false
def beq (a b:I):Bool:=a.c==b.c&&Kf a.ts b.ts
theorem amm:∀{a b},Kf a b=true->a=b
 |[],[],_=>rfl
 |(k,i)::r,(bJ,FM)::r',h=>by
  simp only[Kf,bI,beq_iff_eq]at h;obtain⟨⟨h1,h2⟩,h3⟩:=h;rw[h1,b8 h2,amm h3]
 |[],_::_,h=>by simp[Kf]at h
 |_::_,[],h=>by simp[Kf]at h
theorem beq_eq {a b:I} (h:beq a b=true):a=b:=by
 simp only[beq,bI,beq_iff_eq]at h;cases a;cases b;simp only at h;rw[h.1,amm h.2]
theorem bC (ρ:Env) (c:Int):(const c).den ρ=c:=by simp[const,den,kR]
theorem de (ρ:Env) (n:Nat):(var n).den ρ=ρ n:=by simp[var,den,kR]
theorem den_add (ρ:Env) (a b:I):(a.add b).den ρ=a.den ρ+b.den ρ:=by simp only[add,den,am8];omega
theorem na (ρ:Env) (m:Int) (a:I):(a.smul m).den ρ=m*a.den ρ:=by
 unfold smul;cases h:(m==0)with
 |true=>have h:m=0:=by simpa using h
        subst h;simp[den,kR]
 |false=>simp only[cond_false,den,anb,MX]
theorem l8 (ρ:Env) (a b:I):(a.sub b).den ρ=a.den ρ-b.den ρ:=by simp only[sub,den_add,na];omega
theorem ll {ρ:Env} {a:I} {c:Int} (h:a.fk=some c):a.den ρ=c:=by
 unfold fk at h;cases ha:a.ts with
 |nil=>simp[ha]at h;simp[den,ha,kR,h]
 |cons x r=>simp[ha]at h
theorem dX (n:Nat) (c:Int):(const c).bU n:=λt aB=>by simp[const]at aB
theorem gU {n i:Nat} (h:i<n):(var i).bU n:=λt aB=>by simp[var]at aB;subst aB;exact h
theorem yT {n:Nat} {a b:I} (ha:a.bU n) (hb:b.bU n):(a.add b).bU n:=atQ ha hb
theorem xD {n:Nat} {m:Int} {a:I} (ha:a.bU n):(a.smul m).bU n:=by
 unfold smul;cases(m==0)with
 |true=>exactλt aB=>by simp at aB
 |false=>exact atT ha
theorem xE {n:Nat} {a b:I} (ha:a.bU n) (hb:b.bU n):(a.sub b).bU n:=yT ha (xD hb)
theorem bU.mono {n n':Nat} {a:I} (h:a.bU n) (hn:n<=n'):a.bU n':=vP.mono h hn
theorem cq {n:Nat} {ρ ae:Env} (h:agree n ρ ae) {a:I} (ha:a.bU n):a.den ae=a.den ρ:=by simp only[den,am9 h ha]
end I
structure bZ where
 l:I
 lo:Int
 hi:Int
def bZ.ok (n:Nat) (ρ:Env) (x:bZ):Prop:=x.l.bU n/\x.lo<=x.l.den ρ/\x.l.den ρ<=x.hi
theorem bZ.ok.agree {n n':Nat} {ρ ae:Env} {x:bZ} (h:x.ok n ρ) (ha:agree n ρ ae) (hn:n<=n'):x.ok n' ae:=
 ⟨h.1.mono hn,by rw[I.cq ha h.1];exact h.2.1,by rw[I.cq ha h.1];exact h.2.2⟩
def bZ.const (c:Int):bZ:=⟨.const c,c,c⟩
theorem bZ.qI (n:Nat) (ρ:Env) (c:Int):(bZ.const c).ok n ρ:=⟨I.dX n c,by simp[bZ.const,I.bC],by simp[bZ.const,I.bC]⟩
inductive bO where
 |lit (b:Bool)
 |eq (a b:I)
 |lt (a b:I)
 |le (a b:I)
 |not (a:bO)
 |and (a b:bO)
 |iff (a b:bO)
namespace bO
def den (ρ:Env):bO->Bool
 |lit b=>b
 |eq a b=>decide (a.den ρ=b.den ρ)
 |lt a b=>decide (a.den ρ<b.den ρ)
 |le a b=>decide (a.den ρ<=b.den ρ)
 |not a=> !a.den ρ
 |and a b=>a.den ρ&&b.den ρ
 |iff a b=>a.den ρ==b.den ρ
def bU (n:Nat):bO->Prop
 |lit _=>True
 |eq a b|lt a b|le a b=>a.bU n/\b.bU n
 |not a=>a.bU n
 |and a b=>a.bU n/\b.bU n
 |iff a b=>a.bU n/\b.bU n
theorem bU.mono {n n':Nat} (hn:n<=n'):∀{b:bO},b.bU n->b.bU n'
 |lit _,_=>trivial
 |eq _ _,h|lt _ _,h|le _ _,h=>⟨h.1.mono hn,h.2.mono hn⟩
 |not a,h=>bU.mono (b:=a) hn h
 |and a b,h=>⟨bU.mono (b:=a) hn h.1,bU.mono (b:=b) hn h.2⟩
 |iff a b,h=>⟨bU.mono (b:=a) hn h.1,bU.mono (b:=b) hn h.2⟩
theorem cq {n:Nat} {ρ ae:Env} (ha:agree n ρ ae):∀{b:bO},b.bU n->b.den ae=b.den ρ
 |lit _,_=>rfl
 |eq _ _,h|lt _ _,h|le _ _,h=>by simp only[den,I.cq ha h.1,I.cq ha h.2]
 |not a,h=>by simp only[den,cq (b:=a) ha h]
 |and a b,h=>by simp only[den,cq (b:=a) ha h.1,cq (b:=b) ha h.2]
 |iff a b,h=>by simp only[den,cq (b:=a) ha h.1,cq (b:=b) ha h.2]
def beq:bO->bO->Bool
 |lit a,lit b=>a==b
 |eq a b,eq c d|lt a b,lt c d|le a b,le c d=>I.beq a c&&I.beq b d
 |not a,not b=>beq a b
 |and a b,and c d|iff a b,iff c d=>beq a c&&beq b d
 |_,_=>false
theorem beq_eq:∀{a b:bO},beq a b=true->a=b
 |lit a,b,h=>by cases b<;>simp[beq]at h;rw[h]
 |eq a b,c,h=>by cases c<;>simp[beq]at h;rw[I.beq_eq h.1,I.beq_eq h.2]
 |lt a b,c,h=>by cases c<;>simp[beq]at h;rw[I.beq_eq h.1,I.beq_eq h.2]
 |le a b,c,h=>by cases c<;>simp[beq]at h;rw[I.beq_eq h.1,I.beq_eq h.2]
 |not a,c,h=>by cases c<;>simp[beq]at h;rw[beq_eq h]
 |and a b,c,h=>by cases c<;>simp[beq]at h;rw[beq_eq h.1,beq_eq h.2]
 |iff a b,c,h=>by cases c<;>simp[beq]at h;rw[beq_eq h.1,beq_eq h.2]
def mkNot:bO->bO
 |lit b=>lit (!b)
 |not a=>a
 |a=>not a
def mkAnd:bO->bO->bO
 |lit true,b=>b
 |lit false,_=>lit false
 |a,lit true=>a
 |a,lit false=>cond true (lit false) a
 |a,b=>and a b
def mkIff (a b:bO):bO:=
 match a with
 |lit true=>b
 |lit false=>mkNot b
 |_=>match b with
  |lit true=>a
  |lit false=>mkNot a
  |_=>cond (beq a b) (lit true) (iff a b)
theorem Bv (ρ:Env) (a:bO):(mkNot a).den ρ= !a.den ρ:=by cases a<;>simp[mkNot,den]
theorem Cf {n:Nat} {a:bO} (h:a.bU n):(mkNot a).bU n:=by cases a<;>exact h
theorem Tz (ρ:Env) (a b:bO):(mkAnd a b).den ρ=(a.den ρ&&b.den ρ):=by
 unfold mkAnd;split<;>simp[den]
theorem W1 {n:Nat} {a b:bO} (ha:a.bU n) (hb:b.bU n):(mkAnd a b).bU n:=by
 unfold mkAnd;split<;>first|exact hb|exact ha|trivial|exact⟨ha,hb⟩
theorem abX (ρ:Env) (a b:bO):(mkIff a b).den ρ=(a.den ρ==b.den ρ):=by
 unfold mkIff;split
 ·simp[den]
 ·rw[Bv];simp[den]
 ·split
  ·simp[den]
  ·rw[Bv];simp[den]
  ·cases h:beq a b with
   |true=>have:=beq_eq h;subst this;simp[den]
   |false=>rfl
theorem ahz {n:Nat} {a b:bO} (ha:a.bU n) (hb:b.bU n):(mkIff a b).bU n:=by
 unfold mkIff;split
 ·exact hb
 ·exact Cf hb
 ·split
  ·exact ha
  ·exact Cf ha
  ·cases beq a b with
   |true=>trivial
   |false=>exact⟨ha,hb⟩
def KR (d:I) (f:Int->Bool) (e:bO):bO:=match d.fk with|some c=>lit (f c)|none=>e
def mkLt (a b:bZ):bO:=cond (decide (a.hi<b.lo)) (lit true) (cond (decide (b.hi<=a.lo)) (lit false) (KR (a.l.sub b.l) (λc=>decide (c<0)) (lt a.l b.l)))
def mkLe (a b:bZ):bO:=cond (decide (a.hi<=b.lo)) (lit true) (cond (decide (b.hi<a.lo)) (lit false) (KR (a.l.sub b.l) (λc=>decide (c<=0)) (le a.l b.l)))
def mkEq (a b:bZ):bO:=cond (decide (a.hi<b.lo)) (lit false) (cond (decide (b.hi<a.lo)) (lit false) (cond (a.lo==a.hi&&b.lo==b.hi&&a.lo==b.lo) (lit true) (cond (I.beq a.l b.l) (lit true) (KR (a.l.sub b.l) (λc=>decide (c=0)) (eq a.l b.l)))))
theorem abW {n:Nat} {ρ:Env} {d:I} {f:Int->Bool} {e:bO} (h:e.den ρ=f (d.den ρ)) (hs:e.bU n):(KR d f e).den ρ=e.den ρ/\(KR d f e).bU n:=by
 unfold KR;split
 ·rename_i c hc;exact⟨by rw[h,I.ll hc];rfl,trivial⟩
 ·exact⟨rfl,hs⟩
theorem TA {n:Nat} {ρ:Env} {a b:bZ} (ha:a.ok n ρ) (hb:b.ok n ρ):(mkLt a b).den ρ=decide (a.l.den ρ<b.l.den ρ)/\(mkLt a b).bU n:=by
 have h1:=ha.2;have h2:=hb.2
 unfold mkLt;by_cases c1:a.hi<b.lo
 ·simp only[decide_eq_true c1,cond_true,den,bU,and_true];symm;simp;omega
 ·by_cases bQ:b.hi<=a.lo
  ·simp only[decide_eq_false c1,decide_eq_true bQ,cond_true,cond_false,den,bU,and_true];symm;simp;omega
  ·simp only[decide_eq_false c1,decide_eq_false bQ,cond_false];have:=abW (n:=n) (ρ:=ρ) (d:=a.l.sub b.l) (f:=λc=>decide (c<0)) (e:=lt a.l b.l) (by simp only[den,I.l8];congr 1;simp;omega) ⟨ha.1,hb.1⟩;exact⟨this.1,this.2⟩
theorem ane {n:Nat} {ρ:Env} {a b:bZ} (ha:a.ok n ρ) (hb:b.ok n ρ):(mkLe a b).den ρ=decide (a.l.den ρ<=b.l.den ρ)/\(mkLe a b).bU n:=by
 have h1:=ha.2;have h2:=hb.2
 unfold mkLe;by_cases c1:a.hi<=b.lo
 ·simp only[decide_eq_true c1,cond_true,den,bU,and_true];symm;simp;omega
 ·by_cases bQ:b.hi<a.lo
  ·simp only[decide_eq_false c1,decide_eq_true bQ,cond_true,cond_false,den,bU,and_true];symm;simp;omega
  ·simp only[decide_eq_false c1,decide_eq_false bQ,cond_false];have:=abW (n:=n) (ρ:=ρ) (d:=a.l.sub b.l) (f:=λc=>decide (c<=0)) (e:=le a.l b.l) (by simp only[den,I.l8];congr 1;simp;omega) ⟨ha.1,hb.1⟩;exact⟨this.1,this.2⟩
theorem x7 {n:Nat} {ρ:Env} {a b:bZ} (ha:a.ok n ρ) (hb:b.ok n ρ):(mkEq a b).den ρ=decide (a.l.den ρ=b.l.den ρ)/\(mkEq a b).bU n:=by
 have h1:=ha.2;have h2:=hb.2
 unfold mkEq;by_cases c1:a.hi<b.lo
 ·simp only[decide_eq_true c1,cond_true,den,bU,and_true];symm;simp;omega
 ·by_cases bQ:b.hi<a.lo
  ·simp only[decide_eq_false c1,decide_eq_true bQ,cond_true,cond_false,den,bU,and_true];symm;simp;omega
  ·cases cD:(a.lo==a.hi&&b.lo==b.hi&&a.lo==b.lo)with
   |true=>
    simp only[bI,beq_iff_eq]at cD;simp only[decide_eq_false c1,decide_eq_false bQ,cond_false,cond_true,den,bU,and_true];symm;simp;omega
   |false=>
    cases dq:I.beq a.l b.l with
    |true=>simp only[decide_eq_false c1,decide_eq_false bQ,cond_false,cond_true,den,bU,and_true,I.beq_eq dq];simp
    |false=>
     simp only[decide_eq_false c1,decide_eq_false bQ,cond_false];have:=abW (n:=n) (ρ:=ρ) (d:=a.l.sub b.l) (f:=λc=>decide (c=0)) (e:=eq a.l b.l) (by simp only[den,I.l8];congr 1;simp;omega) ⟨ha.1,hb.1⟩;exact⟨this.1,this.2⟩
end bO
end Go.bX
namespace Go.bX
inductive A where
 |int (k:eB) (x:bZ)
 |bool (b:bO)
 |ptr (b off:Nat)
 |q5 (b off:Nat) (bA:bZ)
 |gptr (g off:Nat)
 |KU (g off:Nat) (bA:bZ)
 |slc (b off len cap:Nat)
 |con (v:bf)
 |str (l:I)
 |rows (sh:List a8) (off code cap:I) (kind:Nat)
 |sl (b bL:Nat) (o ro len cap:I)
 |ep (b bL:Nat) (o i:I) (j:Nat)
inductive W where
 |one (a:A)
 |agg (l:List A)
inductive V where
 |w (x:W)
 |jQ (l:List W)
 |any
 |sK (b len lo:Nat)
 |sZ (f:Nat) (lC:List A)
def br (op:BinOp) (k:eB) (x y:Int):Int:=
 match op with
 | .and=>k.wrap (rk k.bits x&&&rk k.bits y).toNat
 | .or=>k.wrap (rk k.bits x|||rk k.bits y).toNat
 | .xor=>k.wrap (rk k.bits x^^^rk k.bits y).toNat
 | .andNot=>k.wrap (rk k.bits x&&&~~~(rk k.bits y)).toNat
 |_=>0
inductive T where
 |stuck
 |leaf (v:V)
 |div (n:Nat) (x:I) (d lo hi:Int) (r:T)
 |mul (n:Nat) (x y:I) (lo hi:Int) (r:T)
 |bit (n:Nat) (op:BinOp) (k:eB) (x y:I) (r:T)
 |shr (n:Nat) (x y:I) (lo hi:Int) (r:T)
 |Ci (n:Nat) (cs:List I) (bA:I) (lo hi:Int) (r:T)
 |vj (b:bO) (t e:T)
 |call (id:Nat) (args:List I) (n:Nat) (bds:List (Int×Int)) (r:T)
 |loop (lT:Nat) (init:List I) (n:Nat) (bds:List (Int×Int)) (r:T)
 |again (lT:Nat) (vals:List I)
 |both (a b:T)
 |fn (n:Nat) (op:Nat) (args:List I) (lo hi:Int) (r:T)
 |sY (op:Nat) (args:List I) (r:T)
 |vU (n:Nat) (lo hi:Int) (r:T)
 |nat (n:Nat) (r:T)
 |wS (op:Nat) (args:List I) (r:T)
 |ind (n:Nat) (b:bO) (r:T)
def kQ:List (Int×Int)->(List Int->Prop)->Prop
 |[],P=>P []
 |(l,h)::b,P=>∀r:Int,l<=r->r<=h->kQ b (λrs=>P (r::rs))
def ay:List (Int×Int)->List Int->Prop
 |[],[]=>True
 |(l,h)::b,r::rs=>l<=r/\r<=h/\ay b rs
 |_,_=>False
theorem m6:∀{b:List (Int×Int)} {P:List Int->Prop} {rs:List Int},kQ b P->ay b rs->P rs
 |[],_,[],h,_=>h
 |(l,u)::b,P,r::rs,h,hi=>m6 (b:=b) (P:=λrs=>P (r::rs)) (h r hi.1 hi.2.1) hi.2.2
 |[],_,_::_,_,hi=>hi.elim
 |(_,_)::_,_,[],_,hi=>hi.elim
abbrev fx:=Nat->List Int->Prop
def fx.set (A:fx) (lT:Nat) (p:List Int->Prop):fx:=λi=>cond (aU i lT) p (A i)
def T.holds (S:Nat->List Int->List Int->Prop) (L:V->Env->Prop):T->fx->Env->Prop
 |stuck,_,_=>False
 |leaf v,_,ρ=>L v ρ
 |div n x d lo hi r,A,ρ=>∀q:Int,lo<=q->q<=hi->0<=x.den ρ-d*q->x.den ρ-d*q<d->r.holds S L A (eg ρ n q)
 |mul n x y lo hi r,A,ρ=>∀p:Int,lo<=p->p<=hi->p=x.den ρ*y.den ρ->r.holds S L A (eg ρ n p)
 |bit n op k x y r,A,ρ=>∀z:Int,0<=z->z<=k.max->z=br op k (x.den ρ) (y.den ρ)->r.holds S L A (eg ρ n z)
 |shr n x y lo hi r,A,ρ=>∀z:Int,lo<=z->z<=hi->z=x.den ρ/2^(y.den ρ).toNat->r.holds S L A (eg ρ n z)
 |Ci n cs bA lo hi r,A,ρ=>∀z:Int,lo<=z->z<=hi->z=(cs.map (·.den ρ)).getD (bA.den ρ).toNat 0->r.holds S L A (eg ρ n z)
 |vj b t e,A,ρ=>(b.den ρ=true->t.holds S L A ρ)/\(b.den ρ=false->e.holds S L A ρ)
 |call id args n bds r,A,ρ=>kQ bds λrs=>S id (args.map (·.den ρ)) rs->r.holds S L A (b0 ρ n rs)
 |loop lT init n bds r,A,ρ=>∃(c5:List Int->Prop) (ey:List Int->Nat),c5 (init.map (·.den ρ))/\
  kQ bds λzs=>c5 zs->r.holds S L (A.set lT λvs=>c5 vs/\ey vs<ey zs) (b0 ρ n zs)
 |again lT vals,A,ρ=>A lT (vals.map (·.den ρ))
 |both a b,A,ρ=>a.holds S L A ρ/\b.holds S L A ρ
 |fn n op args lo hi r,A,ρ=>∀z:Int,lo<=z->z<=hi->z=cu op (args.map (·.den ρ))->r.holds S L A (eg ρ n z)
 |sY op args r,A,ρ=>aj op (args.map (·.den ρ))/\r.holds S L A ρ
 |vU n lo hi r,A,ρ=>∀z:Int,lo<=z->z<=hi->r.holds S L A (eg ρ n z)
 |nat n r,A,ρ=>∀z:Int,0<=z->r.holds S L A (eg ρ n z)
 |wS op args r,A,ρ=>aj op (args.map (·.den ρ))->r.holds S L A ρ
 |ind n b r,A,ρ=>∀z:Int,0<=z->z<=1->b.den ρ=decide (z=1)->r.holds S L A (eg ρ n z)
abbrev M (α:Type):=Nat->(α->Nat->T)->T
namespace M
variable {α β:Type}
def pure (a:α):M α:=λn k=>k a n
def bind (x:M α) (f:α->M β):M β:=λn k=>x n λa n'=>f a n' k
def fail:M α:=λ_ _=> .stuck
def aE (S:Nat->List Int->List Int->Prop) (L:V->Env->Prop) (x:M α) (n:Nat) (ρ:Env) (R:Env->Nat->α->Prop):Prop:=∀A k,(x n k).holds S L A ρ->∃ae n' a,n<=n'/\agree n ρ ae/\R ae n' a/\(k a n').holds S L A ae
variable {S:Nat->List Int->List Int->Prop} {L:V->Env->Prop} {n:Nat} {ρ:Env}
theorem aE.pure {a:α} {R:Env->Nat->α->Prop} (h:R ρ n a):aE S L (M.pure a) n ρ R:=
 λ_ _ ag=>⟨ρ,n,a,b1 _,agree.refl _ _,h,ag⟩
theorem aE.fail {R:Env->Nat->α->Prop}:aE S L (M.fail:M α) n ρ R:=λ_ _ ag=>ag.elim
theorem aE.bind {x:M α} {f:α->M β} {R:Env->Nat->α->Prop} {R':Env->Nat->β->Prop} (hx:aE S L x n ρ R)
 (hf:∀ae n' a,n<=n'->agree n ρ ae->R ae n' a->aE S L (f a) n' ae R'):aE S L (M.bind x f) n ρ R':=by
 intro A k ag;obtain⟨ae,n',a,hn,ha,hR,nW⟩:=hx A _ ag;obtain⟨y9,LS,b,BN,nS,w8,aEW⟩:=hf ae n' a hn ha hR A k nW;exact⟨y9,LS,b,nJ hn BN,ha.trans nS hn,w8,aEW⟩
theorem aE.mono {x:M α} {R R':Env->Nat->α->Prop} (hx:aE S L x n ρ R) (h:∀ae n' a,n<=n'->agree n ρ ae->R ae n' a->R' ae n' a):aE S L x n ρ R':=by
 intro A k ag;obtain⟨ae,n',a,hn,ha,hR,nW⟩:=hx A k ag;exact⟨ae,n',a,hn,ha,h _ _ _ hn ha hR,nW⟩
end M
open M
section
variable {S:Nat->List Int->List Int->Prop} {L:V->Env->Prop} {n:Nat} {ρ:Env}
def Hl:List I->Option (List Int)
 |[]=>some []
 |l::r=>match l.fk,Hl r with|some c,some s=>some (c::s)|_,_=>none
theorem aaQ {ρ:Env}:∀{l:List I} {cs:List Int},Hl l=some cs->l.map (·.den ρ)=cs
 |[],cs,h=>by simp[Hl]at h;subst h;rfl
 |l::r,cs,h=>by
  simp only[Hl]at h;cases h1:l.fk with
  |none=>simp[h1]at h
  |some c=>
   cases h2:Hl r with
   |none=>simp[h1,h2]at h
   |some s=>
    simp only[h1,h2,bu]at h;subst h;simp only[df,I.ll h1,aaQ h2]
def gF (op:Nat) (args:List I) (lo hi:Int):M I:=λn k=>match cV op 5,Hl args with
 |true,some cs=>k (.const (cu op cs)) n
 |_,_=> .fn n op args lo hi (k (.var n) (n+1))
def Tv:Nat->List Int->Bool
 |1,[s,i]=>decide (0<=i)&&decide (i<(bD s).length)
 |2,[s,a,b]=>decide (0<=a)&&decide (a<=b)&&decide (b<=(bD s).length)
 |3,[s,t]=>cV ((bD s).length+(bD t).length) 1000000
 |30,[i,n]=>decide (0<=i)&&decide (i<n)
 |32,[a,b,n]=>decide (0<=a)&&decide (a<=b)&&decide (b<=n)
 |39,[x,l,h]=>decide (l<=x)&&decide (x<=h)
 |_,_=>false
theorem aAs {op:Nat} {cs:List Int} (h:Tv op cs=true):aj op cs:=by
 unfold Tv at h;split at h
 ·simp only[bI,decide_eq_true_eq]at h;exact h
 ·simp only[bI,decide_eq_true_eq]at h;exact⟨h.1.1,h.1.2,h.2⟩
 ·have h:=gq h;show _<=nw;unfold nw;omega
 ·simp only[bI,decide_eq_true_eq]at h;exact h
 ·simp only[bI,decide_eq_true_eq]at h;exact⟨h.1.1,h.1.2,h.2⟩
 ·simp only[bI,decide_eq_true_eq]at h;exact h
 ·cases h
def hK (op:Nat) (args:List I):M Unit:=λn k=>match Hl args with
 |some cs=>cond (Tv op cs) (k () n) (.sY op args (k () n))
 |none=> .sY op args (k () n)
theorem iR {op:Nat} {args:List I} {lo hi:Int} (h1:lo<=cu op (args.map (·.den ρ))) (h2:cu op (args.map (·.den ρ))<=hi):
 aE S L (gF op args lo hi) n ρ λae n' l=>l.bU n'/\l.den ae=cu op (args.map (·.den ρ)):=by
 intro A k ag;unfold gF at ag;split at ag
 ·rename_i cs _ dS;exact⟨_,n,_,b1 _,agree.refl _ _,⟨I.dX _ _,by rw[I.bC,aaQ dS]⟩,ag⟩
 ·exact⟨_,n+1,_,tH _,agree.eg _ _ _,⟨I.gU (AW n),by simp[I.de,mL]⟩,ag _ h1 h2 rfl⟩
theorem kb {op:Nat} {args:List I} {α:Type} {x:M α} {R:Env->Nat->α->Prop} (h:aj op (args.map (·.den ρ))->aE S L x n ρ R):aE S L (bind (hK op args) λ_=>x) n ρ R:=by
 intro A k ag;unfold M.bind hK at ag;split at ag
 ·rename_i cs dS;cases hb:Tv op cs with
  |true=>
   rw[hb]at ag;exact h (by rw[aaQ dS];exact aAs hb) A k ag
  |false=>
   rw[hb]at ag;exact h ag.1 A k ag.2
 ·exact h ag.1 A k ag.2
def Bx (x:bZ) (d:Int):M bZ:=λn k=>cond (d==1) (k x n) <| cond (x.lo/d==x.hi/d) (k (.const (x.lo/d)) n) (.div n x.l d (x.lo/d) (x.hi/d) (k ⟨.var n,x.lo/d,x.hi/d⟩ (n+1)))
theorem Fe {x:bZ} {d:Int} (hd:0<d) (hx:x.ok n ρ):aE S L (Bx x d) n ρ λae n' q=>q.ok n' ae/\q.l.den ae=x.l.den ρ/d/\(q.lo=x.lo/d/\q.hi=x.hi/d):=by
 intro A k ag;have h1:=aWs hd hx.2.1;have h2:=aWs hd hx.2.2;unfold Bx at ag;cases acQ:(d==1)with
 |true=>
  have e:d=1:=by simpa using acQ
  subst e;simp only[acQ,cond_true]at ag;exact⟨ρ,n,x,b1 _,agree.refl _ _,⟨hx,by simp,by simp,by simp⟩,ag⟩
 |false=>
 simp only[acQ,cond_false]at ag;cases hc:(x.lo/d==x.hi/d)with
 |true=>
  simp only[hc,cond_true]at ag;have hc:x.lo/d=x.hi/d:=by simpa using hc
  exact⟨ρ,n,_,b1 _,agree.refl _ _,⟨bZ.qI _ _ _,by simp only[bZ.const,I.bC];omega,rfl,hc⟩,ag⟩
 |false=>
  simp only[hc,cond_false,T.holds]at ag;have hm:=sV (x.l.den ρ) (show d≠0 by omega);have Dt:=ri (x.l.den ρ) hd;have he:=awk (x.l.den ρ) d;refine⟨_,n+1,_,tH _,agree.eg _ _ _,⟨⟨I.gU (AW n),?_,?_⟩,?_,rfl,rfl⟩,ag (x.l.den ρ/d) h1 h2 (by omega) (by omega)⟩<;>
   simp only[I.de,mL]<;>omega
def af1 (x:bZ) (d:Int):M bZ:=bind (Bx x d) λq=>pure ⟨x.l.sub (q.l.smul d),cond (q.lo==q.hi) (x.lo-d*q.lo) 0,cond (q.lo==q.hi) (x.hi-d*q.lo) (d-1)⟩
theorem ar8 {x:bZ} {d:Int} (hd:0<d) (hx:x.ok n ρ):aE S L (af1 x d) n ρ λae n' q=>q.ok n' ae/\q.l.den ae=x.l.den ρ% d:=by
 refine(Fe hd hx).bind λae n' q hn ha ⟨an,he,zR,aYb⟩=>aE.pure ?_;have o5:=hx.agree ha hn;have hm:=sV (x.l.den ρ) (show d≠0 by omega);have Dt:=ri (x.l.den ρ) hd;have aEw:=awk (x.l.den ρ) d;have zM:(x.l.sub (q.l.smul d)).den ae=x.l.den ρ% d:=by
  rw[I.l8,I.na,I.cq ha hx.1,he];omega
 refine⟨⟨I.xE o5.1 (I.xD an.1),?_,?_⟩,zM⟩
 ·cases hc:(q.lo==q.hi)with
  |true=>
   have hc:q.lo=q.hi:=by simpa using hc
   have:q.l.den ae=q.lo:=by have:=an.2;omega
   simp only[cond_true,I.l8,I.na,this];have:=o5.2.1;omega
  |false=>simp only[cond_false,zM];omega
 ·cases hc:(q.lo==q.hi)with
  |true=>
   have hc:q.lo=q.hi:=by simpa using hc
   have:q.l.den ae=q.lo:=by have:=an.2;omega
   simp only[cond_true,I.l8,I.na,this];have:=o5.2.2;omega
  |false=>simp only[cond_false,zM];omega
def two (k:eB):Int:=match k with| .i8| .u8=>256| .i16| .u16=>65536| .i32| .u32=>4294967296| .i64| .u64=>0x10000000000000000
theorem yW (k:eB):two k=(2:Int)^k.bits:=by cases k<;>rfl
def half (k:eB):Int:=cond k.signed (two k/2) 0
theorem XQ (k:eB) (x:Int):k.wrap x=(x+half k)% two k-half k:=by
 cases k<;>simp only[aWt,Sp,awl,half,two,cond_true,cond_false,aWu,Bool.false_and]<;>
  simp<;>(try split)<;>omega
def Cn (k:eB) (x:bZ):M bZ:=cond (decide (-half k<=x.lo)&&decide (x.hi<two k-half k)) (pure x) (bind (af1 ⟨x.l.add (.const (half k)),x.lo+half k,x.hi+half k⟩ (two k)) λr=>pure ⟨r.l.add (.const (-half k)),r.lo-half k,r.hi-half k⟩)
theorem Gz {k:eB} {x:bZ} (hx:x.ok n ρ):aE S L (Cn k x) n ρ λae n' q=>q.ok n' ae/\q.l.den ae=k.wrap (x.l.den ρ):=by
 have aB:0<two k:=by cases k<;>decide
 unfold Cn;cases hc:(decide (-half k<=x.lo)&&decide (x.hi<two k-half k))with
 |true=>
  simp only[bI,decide_eq_true_eq]at hc;refine aE.pure ⟨hx,?_⟩;have h1:=hx.2;rw[XQ,lO (by omega) (by omega)];omega
 |false=>
  refine(ar8 (x:=⟨x.l.add (.const (half k)),x.lo+half k,x.hi+half k⟩) aB ⟨I.yT hx.1 (I.dX _ _),?_,?_⟩).bind λae n' r hn ha ⟨hr,he⟩=>aE.pure ?_
  ·rw[I.den_add,I.bC];have:=hx.2.1;simp only;omega
  ·rw[I.den_add,I.bC];have:=hx.2.2;simp only;omega
  ·have e:(r.l.add (.const (-half k))).den ae=k.wrap (x.l.den ρ):=by
    rw[I.den_add,I.bC,he,I.den_add,I.bC,XQ];omega
   refine⟨⟨I.yT hr.1 (I.dX _ _),?_,?_⟩,e⟩<;>simp only[I.den_add,I.bC]<;>have:=hr.2<;>omega
def mulM (x y:bZ):M bZ:=λn k=>
 match x.l.fk,y.l.fk with
 |some c,_=>cond (decide (0<=c)) (k ⟨y.l.smul c,c*y.lo,c*y.hi⟩ n) .stuck
 |none,some c=>cond (decide (0<=c)) (k ⟨x.l.smul c,c*x.lo,c*x.hi⟩ n) .stuck
 |none,none=>cond (decide (0<=x.lo)&&decide (0<=y.lo)) (.mul n x.l y.l (x.lo*y.lo) (x.hi*y.hi) (k ⟨.var n,x.lo*y.lo,x.hi*y.hi⟩ (n+1))) .stuck
theorem af4 {x y:bZ} (hx:x.ok n ρ) (hy:y.ok n ρ):aE S L (mulM x y) n ρ λae n' q=>q.ok n' ae/\q.l.den ae=x.l.den ρ*y.l.den ρ:=by
 intro A k ag;unfold mulM at ag;cases h1:x.l.fk with
 |some c=>
  simp only[h1]at ag;by_cases hc:0<=c
  ·simp only[decide_eq_true hc,cond_true]at ag;refine⟨ρ,n,_,b1 _,agree.refl _ _,⟨⟨I.xD hy.1,?_,?_⟩,?_⟩,ag⟩
   ·simp only[I.na];exact EI hy.2.1 hc
   ·simp only[I.na];exact EI hy.2.2 hc
   ·simp only[I.na,I.ll h1]
  ·simp only[decide_eq_false hc,cond_false,T.holds]at ag
 |none=>
  cases h2:y.l.fk with
  |some c=>
   simp only[h1,h2]at ag;by_cases hc:0<=c
   ·simp only[decide_eq_true hc,cond_true]at ag;refine⟨ρ,n,_,b1 _,agree.refl _ _,⟨⟨I.xD hx.1,?_,?_⟩,?_⟩,ag⟩
    ·simp only[I.na];exact EI hx.2.1 hc
    ·simp only[I.na];exact EI hx.2.2 hc
    ·simp only[I.na,I.ll h2];exact kL _ _
   ·simp only[decide_eq_false hc,cond_false,T.holds]at ag
  |none=>
   simp only[h1,h2]at ag;cases hc:(decide (0<=x.lo)&&decide (0<=y.lo))with
   |false=>simp only[hc,cond_false,T.holds]at ag
   |true=>
    simp only[hc,cond_true,T.holds]at ag;simp only[bI,decide_eq_true_eq]at hc;have bR:x.lo*y.lo<=x.l.den ρ*y.l.den ρ:=ai9 hx.2.1 hy.2.1 hc.2 (by have:=hx.2.1;omega);have a2:x.l.den ρ*y.l.den ρ<=x.hi*y.hi:=ai9 hx.2.2 hy.2.2 (by have:=hy.2.1;omega) (by have:=hx.2;omega);refine⟨_,n+1,_,tH _,agree.eg _ _ _,⟨⟨I.gU (AW n),?_,?_⟩,?_⟩,ag _ bR a2 rfl⟩<;>simp only[I.de,mL]<;>assumption
def Kh (op:BinOp) (k:eB) (x y:bZ):M bZ:=λn c=>cond k.signed .stuck (.bit n op k x.l y.l (c ⟨.var n,0,k.max⟩ (n+1)))
theorem aVJ {k:eB} (ag:k.signed=false) (x:Int):0<=k.wrap x/\k.wrap x<=k.max:=by
 cases k<;>simp[Sp]at ag<;>simp[aWt,Sp,awl,cL]<;>omega
theorem azg {k:eB} (ag:k.signed=false) (op:BinOp) (x y:Int):0<=br op k x y/\br op k x y<=k.max:=by
 unfold br;split
 iterate 4 exact aVJ ag _
 cases k<;>simp[Sp]at ag<;>simp[cL,Sp,awl]
theorem S9 {op:BinOp} {k:eB} {x y:bZ}:aE S L (Kh op k x y) n ρ λae n' q=>q.ok n' ae/\q.l.den ae=br op k (x.l.den ρ) (y.l.den ρ):=by
 intro A c ag;unfold Kh at ag;cases hs:k.signed with
 |true=>simp only[hs,cond_true,T.holds]at ag
 |false=>
  simp only[hs,cond_false,T.holds]at ag;have hb:=azg hs op (x.l.den ρ) (y.l.den ρ);refine⟨_,n+1,_,tH _,agree.eg _ _ _,⟨⟨I.gU (AW n),?_,?_⟩,?_⟩,ag _ hb.1 hb.2 rfl⟩<;>simp only[I.de,mL]<;>first|exact hb.1|exact hb.2
def VY (c:Int):Option (Int×Int):=
 match c with
 | .ofNat 0=>none
 | .ofNat c=>
  let b:=2^(rj c+1);let a:=b-c
  cond (aU (2^rj a) a) (some (a,b)) none
 |_=>none
theorem bv_and {w:Nat} (x y:Int):((rk w x&&&rk w y).toNat:Int)=(((x% 2^w).toNat&&&(y% 2^w).toNat:Nat):Int):=by
 rw[BitVec.toNat_and,JJ,JJ]
 congr
theorem azn {w:Nat} (x y:Int):((rk w x|||rk w y).toNat:Int)=(((x% 2^w).toNat|||(y% 2^w).toNat:Nat):Int):=by
 rw[BitVec.toNat_or,JJ,JJ]
 congr
theorem ayO (x a b:Nat) (aX8:a<=b):x&&&(2^b-2^a)=2^a*(x/2^a)-2^b*(x/2^b):=by
 have av:2^b-2^a=2^a*(2^(b-a)-1):=by
  rw[Nat.mul_sub,<-xS,CH];congr 2;omega
 have aH:x&&&(2^b-2^a)=2^a*(x/2^a% 2^(b-a)):=by
  rw[av];apply Nat.eq_of_testBit_eq;intro i;rw[Nat.testBit_and,xT (2^a) (2^(b-a)-1),xT (2^a),aWv,aWv,Nat.testBit_two_pow_sub_one,Nat.testBit_mod_two_pow,Nat.testBit_div_two_pow];by_cases h:a<=i
  ·simp only[h,decide_true,aWu];rw[show i-a+a=i by omega,Bool.and_comm]
  ·simp[h]
 rw[aH];have ca:x/2^b=x/2^a/2^(b-a):=by
  rw[Sf,<-xS];congr 2;omega
 have ht:2^b=2^a*2^(b-a):=by rw[<-xS];congr 1;omega
 have gX:=X9 (x/2^a) (2^(b-a));rw[ca,ht,Yb,<-Nat.mul_sub]
 congr 1
 omega
theorem aIB {c a b:Int} (h:VY c=some (a,b)):∃i j:Nat,i<=j/\a=2^i/\b=2^j/\c=b-a/\0<a/\0<b:=by
 unfold VY at h;split at h
 ·cases h
 ·rename_i c hc;have hc0:c≠0:=λe=>hc (by rw[e]);cases hb:aU (2^rj (2^(rj c+1)-c)) (2^(rj c+1)-c)with
  |false=>simp[hb]at h
  |true=>
   simp only[hb,cond_true,bu,fi]at h;obtain⟨rfl,rfl⟩:=h;have e:=b8 hb;have hlt:c<2^(rj c+1):=aWw;have hp:0<2^rj (2^(rj c+1)-c):=CG _;refine⟨rj (2^(rj c+1)-c),rj c+1,?_,?_,?_,?_,?_,?_⟩
   ·rcases CK (rj c+1) (rj (2^(rj c+1)-c))with ah|ah
    ·have:=Nat.pow_lt_pow_right (a:=2) (by omega) ah;omega
    ·exact ah
   ·rw[<-e];simp
   ·simp
   ·have:((2^(rj c+1)-c:Nat):Int)=((2^(rj c+1):Nat):Int)-(c:Int):=by omega
    simp only[Int.ofNat_eq_natCast];omega
   ·omega
   ·have:0<2^(rj c+1):=CG _;omega
 ·cases h
def andM (x:bZ) (a b:Int):M bZ:=bind (Bx x a) λp=>bind (Bx x b) λq=>pure ⟨(p.l.smul a).sub (q.l.smul b),cond (q.lo==q.hi) (a*p.lo-b*q.lo) 0,cond (q.lo==q.hi) (a*p.hi-b*q.lo) (b-a)⟩
theorem ayN {x:bZ} {i j:Nat} (Ld:i<=j) (hx:x.ok n ρ) (h0:0<=x.lo):aE S L (andM x (2^i) (2^j)) n ρ λae n' q=>q.ok n' ae/\q.l.den ae=((x.l.den ρ).toNat&&&(2^j-2^i):Nat):=by
 have hi:(0:Int)<2^i:=by have:=CG i;exact_mod_cast this
 have aR:(0:Int)<2^j:=by have:=CG j;exact_mod_cast this
 refine(Fe hi hx).bind λa6 bh p h9 fV ⟨hp,ep,_,_⟩=>?_;refine(Fe aR (hx.agree fV h9)).bind λcd fF q fX eI ⟨an,eq,_,_⟩=>aE.pure ?_;rw[I.cq fV hx.1]at eq;have Ik:=hp.agree eI fX;have aco:p.l.den cd=x.l.den ρ/2^i:=by rw[I.cq eI hp.1,ep]
 obtain⟨X,cb⟩:=mr (show 0<=x.l.den ρ by have:=hx.2.1;omega);have e:((p.l.smul (2^i)).sub (q.l.smul (2^j))).den cd=((x.l.den ρ).toNat&&&(2^j-2^i):Nat):=by
  rw[I.l8,I.na,I.na,aco,eq,cb,hC,ayO X i j Ld];have h1:2^j*(X/2^j)<=2^i*(X/2^i):=by
   have ca:X/2^j=X/2^i/2^(j-i):=by rw[Sf,<-xS];congr 2;omega
   have ht:2^j=2^i*2^(j-i):=by rw[<-xS];congr 1;omega
   rw[ca]
   conv=>lhs;rw[ht,Yb]
   exact Nat.mul_le_mul_left _ (Nat.mul_div_le _ _)
  rw[awm h1];simp
 refine⟨⟨I.xE (I.xD Ik.1) (I.xD an.1),?_,?_⟩,e⟩
 ·cases hc:(q.lo==q.hi)with
  |true=>
   have hc:q.lo=q.hi:=by simpa using hc
   have h1:q.l.den cd=q.lo:=by have:=an.2;omega
   simp only[cond_true,I.l8,I.na,h1];have:=EI Ik.2.1 (qv hi);omega
  |false=>simp only[cond_false,e];omega
 ·cases hc:(q.lo==q.hi)with
  |true=>
   have hc:q.lo=q.hi:=by simpa using hc
   have h1:q.l.den cd=q.lo:=by have:=an.2;omega
   simp only[cond_true,I.l8,I.na,h1];have:=EI Ik.2.2 (qv hi);omega
  |false=>
   simp only[cond_false,e];have h2:(x.l.den ρ).toNat&&&(2^j-2^i)<=2^j-2^i:=Nat.and_le_right;have h3:2^i<=2^j:=MW (by omega) Ld;have h4:((2^j-2^i:Nat):Int)=2^j-2^i:=by rw[awm h3];simp
   omega
end
end Go.bX
namespace Go.bX
open M
def A.den (ρ:Env) (m:Nat->Nat):A->bf
 | .int k x=> .int k (x.l.den ρ)
 | .bool b=> .bool (b.den ρ)
 | .ptr b off=> .pointer (some ⟨m b,off,none⟩)
 | .q5 b off bA=> .pointer (some ⟨m b,off+(bA.l.den ρ).toNat,none⟩)
 | .gptr g off=> .pointer (some ⟨g,off,none⟩)
 | .KU g off bA=> .pointer (some ⟨g,off+(bA.l.den ρ).toNat,none⟩)
 | .slc b off len cap=> .slice (some ⟨m b,off,none⟩) len cap
 | .con v=>v
 | .str l=> .string (eS (bD (l.den ρ)))
 | .rows _ _ code _ _=> .int .u8 (code.den ρ)
 | .sl b bL o ro len cap=>if cap.den ρ<0 then .slice none 0 0 else .slice (some ⟨m b,(o.den ρ).toNat+(ro.den ρ).toNat*bL,none⟩) (len.den ρ).toNat (cap.den ρ).toNat
 | .ep b bL o i j=> .pointer (some ⟨m b,(o.den ρ).toNat+(i.den ρ).toNat*bL+j,none⟩)
def Jz (o ro len cap:Int):Prop:=(0<=o/\0<=ro/\0<=len/\len<=0x7fffffffffffffff)/\(-1<=cap/\ro+cap<=0x7fffffffffffffff)/\(cap<0->len=0)/\(0<=cap->len<=cap)
def A.ok (n nb:Nat) (ρ:Env):A->Prop
 | .int _ x=>x.ok n ρ
 | .bool b=>b.bU n
 | .ptr b _=>b<nb
 | .q5 b _ bA=>b<nb/\bA.ok n ρ/\0<=bA.lo
 | .gptr .. =>True
 | .KU _ _ bA=>bA.ok n ρ/\0<=bA.lo
 | .slc b .. =>b<nb
 | .con v=>v.oneCell'=true
 | .str l=>l.bU n/\0<=l.den ρ/\l.den ρ<=p3
 | .rows _ off code cap _=>(off.bU n/\code.bU n/\cap.bU n)/\(0<=code.den ρ/\code.den ρ<=cP)/\-1<=cap.den ρ/\cap.den ρ<=0x7fffffffffffffff
 | .sl b _ o ro len cap=>b<nb/\(o.bU n/\ro.bU n/\len.bU n/\cap.bU n)/\Jz (o.den ρ) (ro.den ρ) (len.den ρ) (cap.den ρ)
 | .ep b _ o i _=>b<nb/\(o.bU n/\i.bU n)/\0<=o.den ρ/\0<=i.den ρ
theorem A.ok.ext {n n' nb n9:Nat} {ρ ae:Env} {a:A} (h:a.ok n nb ρ) (ha:agree n ρ ae) (hn:n<=n') (hb:nb<=n9):a.ok n' n9 ae:=by
 cases a<;>simp only[A.ok]at h⊢
 ·exact h.agree ha hn
 ·exact bO.bU.mono hn h
 ·omega
 ·exact⟨by omega,h.2.1.agree ha hn,h.2.2⟩
 ·exact⟨h.1.agree ha hn,h.2⟩
 ·omega
 ·exact h
 ·exact⟨h.1.mono hn,by rw[I.cq ha h.1];exact h.2⟩
 ·obtain⟨⟨h1,h2,h3⟩,h4⟩:=h;exact⟨⟨h1.mono hn,h2.mono hn,h3.mono hn⟩,by rw[I.cq ha h2,I.cq ha h3];exact h4⟩
 ·obtain⟨h1,⟨h2,h3,h4,h5⟩,h6⟩:=h;exact⟨by omega,⟨h2.mono hn,h3.mono hn,h4.mono hn,h5.mono hn⟩,by rw[I.cq ha h2,I.cq ha h3,I.cq ha h4,I.cq ha h5];exact h6⟩
 ·obtain⟨h1,⟨h2,h3⟩,h4⟩:=h;exact⟨by omega,⟨h2.mono hn,h3.mono hn⟩,by rw[I.cq ha h2,I.cq ha h3];exact h4⟩
theorem A.oz {n nb:Nat} {ρ ae:Env} {m m':Nat->Nat} {a:A} (h:a.ok n nb ρ) (ha:agree n ρ ae) (hm:∀b,b<nb->m' b=m b):a.den ae m'=a.den ρ m:=by
 cases a<;>simp only[A.ok]at h<;>simp only[A.den]
 ·rw[I.cq ha h.1]
 ·rw[bO.cq ha h]
 ·rw[hm _ h]
 ·rw[hm _ h.1,I.cq ha h.2.1.1]
 ·rw[I.cq ha h.1.1]
 ·rw[hm _ h]
 ·rw[I.cq ha h.1]
 ·rw[I.cq ha h.1.2.1]
 ·obtain⟨h1,⟨h2,h3,h4,h5⟩,h6⟩:=h;rw[hm _ h1,I.cq ha h2,I.cq ha h3,I.cq ha h4,I.cq ha h5]
 ·rw[hm _ h.1,I.cq ha h.2.1.1,I.cq ha h.2.1.2]
theorem A.Wf {n nb:Nat} {ρ:Env} {m:Nat->Nat} {a:A} (h:a.ok n nb ρ):(a.den ρ m).oneCell'=true:=by
 cases a<;>first|rfl|exact h|(simp only[A.den];split<;>rfl)
def W.den (ρ:Env) (m:Nat->Nat):W->bf
 | .one a=>a.den ρ m
 | .agg l=> .agg (l.map (A.den ρ m)).toArray
def W.ok (n nb:Nat) (ρ:Env):W->Prop
 | .one a=>a.ok n nb ρ
 | .agg l=>∀a∈l,a.ok n nb ρ
theorem W.ok.ext {n n' nb n9:Nat} {ρ ae:Env} {x:W} (h:x.ok n nb ρ) (ha:agree n ρ ae) (hn:n<=n') (hb:nb<=n9):x.ok n' n9 ae:=by
 cases x with
 |one a=>exact A.ok.ext h ha hn hb
 |agg l=>exactλa aP=>(h a aP).ext ha hn hb
theorem yx {n nb:Nat} {ρ ae:Env} {m m':Nat->Nat} {l:List A} (h:∀a∈l,a.ok n nb ρ) (ha:agree n ρ ae) (hm:∀b,b<nb->m' b=m b):l.map (A.den ae m')=l.map (A.den ρ m):=
 j5 λa aP=>A.oz (h a aP) ha hm
theorem W.oz {n nb:Nat} {ρ ae:Env} {m m':Nat->Nat} {x:W} (h:x.ok n nb ρ) (ha:agree n ρ ae) (hm:∀b,b<nb->m' b=m b):x.den ae m'=x.den ρ m:=by
 cases x with
 |one a=>exact A.oz h ha hm
 |agg l=>simp only[W.den,yx h ha hm]
def V.rel (ρ:Env) (m:Nat->Nat):V->bf->Prop
 | .w x,v=>v=x.den ρ m
 | .jQ l,v=>v= .tuple (l.map (W.den ρ m)).toArray
 | .any,_=>True
 | .sK b len lo,v=>∃c:Nat,lo<=c/\v= .slice (some ⟨m b,0,none⟩) len c
 | .sZ f lC,v=>v= .func (.func f) #[] (lC.map (A.den ρ m)).toArray
def V.ok (n nb:Nat) (ρ:Env):V->Prop
 | .w x=>x.ok n nb ρ
 | .jQ l=>∀x∈l,x.ok n nb ρ
 | .any=>True
 | .sK b _ _=>b<nb
 | .sZ _ lC=>∀a∈lC,A.ok n nb ρ a
theorem V.ok.ext {n n' nb n9:Nat} {ρ ae:Env} {x:V} (h:x.ok n nb ρ) (ha:agree n ρ ae) (hn:n<=n') (hb:nb<=n9):x.ok n' n9 ae:=by
 cases x with
 |w x=>exact W.ok.ext h ha hn hb
 |jQ l=>exactλa aP=>(h a aP).ext ha hn hb
 |any=>trivial
 |sK b len lo=>exact JL h hb
 |sZ f lC=>exactλa aP=>(h a aP).ext ha hn hb
theorem V.rel.ext {n nb:Nat} {ρ ae:Env} {m m':Nat->Nat} {x:V} {v:bf} (hr:x.rel ρ m v) (h:x.ok n nb ρ) (ha:agree n ρ ae) (hm:∀b,b<nb->m' b=m b):x.rel ae m' v:=by
 cases x with
 |w x=>simp only[V.rel]at hr⊢;rw[W.oz h ha hm];exact hr
 |jQ l=>simp only[V.rel]at hr⊢;rw[hr];congr 2;exact(j5 λa aP=>W.oz (h a aP) ha hm).symm
 |any=>trivial
 |sK b len lo=>obtain⟨c,h1,h2⟩:=hr;exact⟨c,h1,by rw[hm b h];exact h2⟩
 |sZ f lC=>simp only[V.rel]at hr⊢;rw[hr];congr 2;exact(j5 λa aP=>A.oz (h a aP) ha hm).symm
section
variable {S:Nat->List Int->List Int->Prop} {L:V->Env->Prop} {n:Nat} {ρ:Env}
def S1 (s:Int):List (Int×Nat)->Bool
 |[]=>true
 |(k,_)::r=>k% s==0&&S1 s r
theorem alq {s:Int} (ρ:Env):∀{l},S1 s l=true->kR ρ l% s=0
 |[],_=>by simp[kR]
 |(k,i)::r,h=>by
  simp only[S1,bI,beq_iff_eq]at h;have h1:=alq ρ h.2;obtain⟨c,hc⟩:=JH h.1;obtain⟨d,hd⟩:=JH h1;simp only[kR,hc,hd,CD];rw[<-MX];exact awn _ _
def I.C2 (s:Int) (l:I):Bool:=l.c% s==0&&S1 s l.ts
theorem I.aaO {s:Int} (ρ:Env) {l:I} (h:l.C2 s=true):l.den ρ% s=0:=by
 simp only[C2,bI,beq_iff_eq]at h;have h1:=alq ρ h.2;obtain⟨c,hc⟩:=JH h.1;obtain⟨d,hd⟩:=JH h1;simp only[den,hc,hd];rw[<-MX];exact awn _ _
def EX (h:Int):Nat:=2^(rj h.toNat+1)
theorem ale {x h:Int} (hx:x<=h) (h0:0<=x):x<(EX h:Int):=by
 have:h.toNat<2^(rj h.toNat+1):=aWw;unfold EX;omega
theorem fe {c:Bool} {α:Type} {x:M α} {R:Env->Nat->α->Prop} (h:c=true->aE S L x n ρ R):aE S L (cond c x fail) n ρ R:=by
 cases c with
 |true=>exact h rfl
 |false=>exact aE.fail
def nv (k:eB):Int:=two k-half k
theorem Qv (k:eB):nv k<=two k:=by cases k<;>decide
theorem arz (k:eB):∃i:Nat,nv k=2^i/\i<=k.bits:=by cases k<;>first|exact⟨7,by decide,by decide⟩|exact⟨8,by decide,by decide⟩|exact⟨15,by decide,by decide⟩|exact⟨16,by decide,by decide⟩|exact⟨31,by decide,by decide⟩|exact⟨32,by decide,by decide⟩|exact⟨63,by decide,by decide⟩|exact⟨64,by decide,by decide⟩
def S0 (x:I):List Nat->Nat
 |[]=>1
 |i::r=>cond (x.C2 (2^i)) (2^i) (S0 x r)
def orM (k:eB) (x y:bZ):M bZ:=
 cond (!(decide (0<=x.lo)&&decide (0<=y.lo)&&decide (x.hi<nv k)&&decide (y.hi<nv k))) (cond (decide (0<=x.lo)&&decide (x.hi<nv k)) (
  let s:=S0 x.l [24,18,16,12,8,6,4]
  cond (x.l.C2 s&&decide (y.hi<nv k)&&decide (x.hi+s<nv k)) (bind (hK 30 [y.l,.const s]) λ_=>pure ⟨x.l.add y.l,x.lo,x.hi+s⟩) fail) fail) <|
 cond (x.l.C2 (EX y.hi)) (pure ⟨x.l.add y.l,x.lo+y.lo,cond (decide (x.hi+y.hi<two k)) (x.hi+y.hi) (two k-1)⟩) <|
 cond (y.l.C2 (EX x.hi)) (pure ⟨x.l.add y.l,x.lo+y.lo,cond (decide (x.hi+y.hi<two k)) (x.hi+y.hi) (two k-1)⟩) (Kh .or k x y)
theorem agy {X Y s:Nat} (hs:∃i,s=2^i) (hx:X% s=0) (hy:Y<s):X|||Y=X+Y:=by
 obtain⟨i,rfl⟩:=hs;have e:=X9 X (2^i);rw[hx,m3]at e;rw[<-e,<-Nat.two_pow_add_eq_or_of_lt hy]
theorem RU {k:eB} {z:Int} (h0:0<=z) (h1:z<nv k):k.wrap z=z:=by
 rw[XQ];have ah:0<=half k:=by cases k<;>decide
 unfold nv at h1;rw[lO (by omega) (by omega)];omega
theorem abf {k:eB} {x y:Int} (hx:0<=x) (hy:0<=y) (lI:x<nv k) (DA:y<nv k):br .or k x y=((x.toNat|||y.toNat:Nat):Int):=by
 have hl:=Qv k;have Pw:x<2^k.bits:=by rw[<-yW];omega
 have Pz:y<2^k.bits:=by rw[<-yW];omega
 obtain⟨i,hi,_⟩:=arz k;obtain⟨X,rfl⟩:=mr hx;obtain⟨Y,rfl⟩:=mr hy;have cb:X<2^i:=by rw[hi]at lI;exact_mod_cast lI
 have hY:Y<2^i:=by rw[hi]at DA;exact_mod_cast DA
 have h1:X|||Y<2^i:=aWy cb hY;unfold br;simp only;rw[azn,lO hx Pw,lO hy Pz];simp only[hC];exact RU (by omega) (by rw[hi];exact_mod_cast h1)
theorem Kg {k:eB} {x y:Int} (hx:0<=x) (hy:0<=y) (lI:x<nv k) (DA:y<two k):br .and k x y=((x.toNat&&&y.toNat:Nat):Int):=by
 have hl:=Qv k;have Pw:x<2^k.bits:=by rw[<-yW];omega
 have Pz:y<2^k.bits:=by rw[<-yW];omega
 obtain⟨X,rfl⟩:=mr hx;obtain⟨Y,rfl⟩:=mr hy;have h1:X&&&Y<=X:=Nat.and_le_left;unfold br;simp only;rw[bv_and,lO hx Pw,lO hy Pz];simp only[hC];exact RU (by omega) (by omega)
theorem toNat_mod {x:Int} {s:Nat} (hx:0<=x) (h:x% (s:Int)=0):x.toNat% s=0:=by
 obtain⟨X,rfl⟩:=mr hx;simp only[hC]
 exact_mod_cast h
theorem aLG {k:eB} {x y:bZ} (hx:x.ok n ρ) (hy:y.ok n ρ):aE S L (orM k x y) n ρ λae n' q=>q.ok n' ae/\q.l.den ae=br .or k (x.l.den ρ) (y.l.den ρ):=by
 unfold orM;cases hc:(!(decide (0<=x.lo)&&decide (0<=y.lo)&&decide (x.hi<nv k)&&decide (y.hi<nv k)))with
 |true=>
  simp only[cond_true];refine fe λh1=>fe λh2=>kb λh3=>aE.pure ?_;simp only[bI,decide_eq_true_eq]at h1 h2;simp only[df,gr,aj,I.bC]at h3;obtain⟨⟨h4,h6⟩,h5⟩:=h2;have Da:=hx.2;have NG:=hy.2
  generalize hs:S0 x.l [24,18,16,12,8,6,4]=s at*;have hm:=I.aaO ρ h4;have aFp:∃i,s=2^i:=by
   rw[<-hs];generalize [24,18,16,12,8,6,4]=l;induction l with
   |nil=>exact⟨0,rfl⟩
   |cons i r ih=>
    unfold S0;cases x.l.C2 (2^i)with
    |true=>exact⟨i,rfl⟩
    |false=>exact ih
  have e:x.l.den ρ+y.l.den ρ=br .or k (x.l.den ρ) (y.l.den ρ):=by
   rw[abf (by omega) h3.1 (by omega) (by omega),agy aFp (toNat_mod (by omega) hm) (by omega)];omega
  exact⟨⟨I.yT hx.1 hy.1,by simp only[I.den_add];omega,by simp only[I.den_add];omega⟩,by rw[I.den_add];exact e⟩
 |false=>
  simp only[dZ,bI,decide_eq_true_eq]at hc;obtain⟨⟨⟨h1,h2⟩,Ft⟩,aX3⟩:=hc;have adX:=Qv k;have h3:x.hi<two k:=by omega
  have h4:y.hi<two k:=by omega
  have Da:=hx.2;have NG:=hy.2
  have hb:=abf (k:=k) (x:=x.l.den ρ) (y:=y.l.den ρ) (by omega) (by omega) (by omega) (by omega);have hlt:br .or k (x.l.den ρ) (y.l.den ρ)<two k:=by
   have av:x.l.den ρ<2^k.bits:=by rw[<-yW];omega
   have aH:y.l.den ρ<2^k.bits:=by rw[<-yW];omega
   have h1:(x.l.den ρ).toNat|||(y.l.den ρ).toNat<2^k.bits:=aWy (by
    have:(x.l.den ρ).toNat=x.l.den ρ:=by omega
    exact_mod_cast (show((x.l.den ρ).toNat:Int)<2^k.bits by omega)) (by exact_mod_cast (show((y.l.den ρ).toNat:Int)<2^k.bits by omega))
   rw[hb,yW]
   exact_mod_cast h1
  have ok:∀q:Int,q=br .or k (x.l.den ρ) (y.l.den ρ)->x.l.den ρ+y.l.den ρ=q->(bZ.mk (x.l.add y.l) (x.lo+y.lo) (cond (decide (x.hi+y.hi<two k)) (x.hi+y.hi) (two k-1))).ok n ρ:=λq zU xd=>⟨I.yT hx.1 hy.1,by simp only[I.den_add];omega,by
   simp only[I.den_add];cases hd:decide (x.hi+y.hi<two k)with
   |true=>simp only[cond_true];omega
   |false=>simp only[cond_false];omega⟩
  simp only[cond_false];cases h5:x.l.C2 (EX y.hi)with
  |true=>
   have hm:=I.aaO ρ h5;have hl:=ale NG.2 (by omega);have hs:x.l.den ρ+y.l.den ρ=br .or k (x.l.den ρ) (y.l.den ρ):=by
    rw[hb,agy (s:=EX y.hi) ⟨_,rfl⟩ (toNat_mod (by omega) hm) (by omega)];omega
   exact aE.pure ⟨ok _ rfl hs,by rw[I.den_add];exact hs⟩
  |false=>
   simp only[cond_false];cases h6:y.l.C2 (EX x.hi)with
   |true=>
    have hm:=I.aaO ρ h6;have hl:=ale Da.2 (by omega);have hs:x.l.den ρ+y.l.den ρ=br .or k (x.l.den ρ) (y.l.den ρ):=by
     rw[hb,Nat.or_comm,agy (s:=EX x.hi) ⟨_,rfl⟩ (toNat_mod (by omega) hm) (by omega)];omega
    exact aE.pure ⟨ok _ rfl hs,by rw[I.den_add];exact hs⟩
   |false=>exact S9
def S5 (k:eB) (x:bZ) (c:Int):M bZ:=
 match VY c with
 |some (a,b)=>cond (!(decide (0<=x.lo)&&decide (x.hi<nv k)&&decide (c<two k)&&decide (0<=c))) fail (andM x a b)
 |none=>cond (c==0&&decide (0<=x.lo)&&decide (x.hi<nv k)) (pure (.const 0)) fail
theorem alu {k:eB} {x:bZ} {c:Int} (hx:x.ok n ρ):aE S L (S5 k x c) n ρ λae n' q=>q.ok n' ae/\q.l.den ae=br .and k (x.l.den ρ) c:=by
 unfold S5;have Da:=hx.2;cases hm:VY c with
 |some p=>
  obtain⟨a,b⟩:=p;simp only;cases hc:(!(decide (0<=x.lo)&&decide (x.hi<nv k)&&decide (c<two k)&&decide (0<=c)))with
  |true=>exact aE.fail
  |false=>
   simp only[dZ,bI,decide_eq_true_eq]at hc;obtain⟨⟨⟨h1,h2⟩,h3⟩,h4⟩:=hc;obtain⟨i,j,Ld,rfl,rfl,Ur,_,_⟩:=aIB hm;refine(ayN Ld hx h1).mono λae n' q _ _ ⟨aA,he⟩=>⟨aA,?_⟩;rw[he,Kg (by omega) h4 (by omega) h3]
   congr 2
   have h3:2^i<=2^j:=MW (by omega) Ld;have h5:((2^j-2^i:Nat):Int)=2^j-2^i:=by rw[awm h3];simp
   omega
 |none=>
  simp only;cases hc:(c==0&&decide (0<=x.lo)&&decide (x.hi<nv k))with
  |false=>exact aE.fail
  |true=>
   simp only[bI,beq_iff_eq,decide_eq_true_eq]at hc;obtain⟨⟨rfl,h1⟩,h2⟩:=hc;refine aE.pure ⟨bZ.qI _ _ _,?_⟩;rw[Kg (by omega) (cn _) (by omega) (by cases k<;>decide)];simp[bZ.const,I.bC]
theorem azf (k:eB) (x y:Int):br .and k x y=br .and k y x:=by simp only[br,BitVec.and_comm]
def aaT (k:eB) (x y:bZ):M bZ:=
 match y.l.fk,x.l.fk with
 |some c,_=>S5 k x c
 |none,some c=>S5 k y c
 |none,none=>Kh .and k x y
theorem ayM {k:eB} {x y:bZ} (hx:x.ok n ρ) (hy:y.ok n ρ):aE S L (aaT k x y) n ρ λae n' q=>q.ok n' ae/\q.l.den ae=br .and k (x.l.den ρ) (y.l.den ρ):=by
 unfold aaT;cases h1:y.l.fk with
 |some c=>simp only[I.ll h1];exact alu hx
 |none=>
  cases h2:x.l.fk with
  |some c=>simp only[I.ll h2];rw[azf];exact alu hy
  |none=>exact S9
def ahG (x y:bZ):M bZ:=λn k=> .shr n x.l y.l 0 x.hi (k ⟨.var n,0,x.hi⟩ (n+1))
theorem aQX {x y:bZ} (hx:x.ok n ρ) (h0:0<=x.lo):aE S L (ahG x y) n ρ λae n' q=>q.ok n' ae/\q.l.den ae=x.l.den ρ/2^(y.l.den ρ).toNat:=by
 intro A k ag;simp only[ahG,T.holds]at ag;have hp:(0:Int)<2^(y.l.den ρ).toNat:=by have:=CG (y.l.den ρ).toNat;exact_mod_cast this
 have dM:0<=x.l.den ρ:=by have:=hx.2;omega
 have bR:0<=x.l.den ρ/2^(y.l.den ρ).toNat:=Yi dM (qv hp);have a2:x.l.den ρ/2^(y.l.den ρ).toNat<=x.hi:=Int.le_trans (awo _ dM) hx.2.2;exact⟨_,n+1,_,tH _,agree.eg _ _ _,⟨⟨I.gU (AW n),by simp only[I.de,mL];exact bR,by simp only[I.de,mL];exact a2⟩,by simp only[I.de,mL]⟩,ag _ bR a2 rfl⟩
def isInt (k:eB) (x:M bZ):M A:=bind x λr=>pure (.int k r)
def Gf (x:bZ):M bZ:=cond (decide (0<=x.lo)) (pure x) (bind (hK 77 [x.l]) λ_=>pure ⟨x.l,0,x.hi⟩)
def eK (x y:bZ):M bZ:=match x.l.fk,y.l.fk with
 |none,none=>bind (Gf x) λx=>bind (Gf y) λy=>mulM x y
 |_,_=>mulM x y
def bZ.Kz (y:bZ):Option Int:=match y.l.fk with
 |some c=>some c
 |none=>cond (decide (y.lo=y.hi)) (some y.lo) none
theorem bZ.anc {n:Nat} {ρ:Env} {y:bZ} {c:Int} (hy:y.ok n ρ) (h:y.Kz=some c):y.l.den ρ=c:=by
 unfold bZ.Kz at h;cases hc:y.l.fk with
 |some d=>simp only[hc,bu]at h;rw[I.ll hc,h]
 |none=>
  simp only[hc]at h;cases hd:decide (y.lo=y.hi)with
  |false=>simp[hd]at h
  |true=>
   simp only[hd,cond_true,bu]at h;have h1:y.lo=y.hi:=by simpa using hd
   have:=hy.2.1;have:=hy.2.2
   omega
def abe (op:BinOp) (k:eB) (x:bZ) (bJ:eB) (y:bZ):M A:=
 match op with
 | .shl=>match y.Kz with
  |some c=>cond (decide (0<=c)) (let s:Int:=2^min c.toNat k.bits;isInt k (Cn k ⟨x.l.smul s,x.lo*s,x.hi*s⟩)) fail
  |none=>cond (decide (0<=x.lo)&&decide (0<=y.lo)&&decide (y.hi<=62)&&decide (x.hi*2^y.hi.toNat<nv k)) (isInt k (bind (gF 37 [x.l,y.l] 0 (x.hi*2^y.hi.toNat)) λl=>pure ⟨l,0,x.hi*2^y.hi.toNat⟩)) fail
 | .shr=>match y.Kz with
  |some c=>cond (decide (0<=c)) (isInt k (Bx x (2^min c.toNat k.bits))) fail
  |none=>cond (decide (0<=x.lo)&&decide (0<=y.lo)&&decide (y.hi<=(k.bits:Int))) (isInt k (ahG x y)) fail
 | .add=>cond (decide (k=bJ)) (isInt k (Cn k ⟨x.l.add y.l,x.lo+y.lo,x.hi+y.hi⟩)) fail
 | .sub=>cond (decide (k=bJ)) (isInt k (Cn k ⟨x.l.sub y.l,x.lo-y.hi,x.hi-y.lo⟩)) fail
 | .mul=>cond (decide (k=bJ)) (isInt k (bind (eK x y) (Cn k))) fail
 | .quo=>match y.l.fk with
  |some c=>cond (decide (k=bJ)&&decide (0<c)) (bind (Gf x) λx=>isInt k (bind (Bx x c) (Cn k))) fail
  |none=>cond (decide (k=bJ)) (bind (Gf x) λx=>bind (hK 36 [y.l]) λ_=>isInt k (bind (bind (gF 76 [x.l,y.l] 0 x.hi) λl=>pure ⟨l,0,x.hi⟩) (Cn k))) fail
 | .rem=>match y.l.fk with
  |some c=>cond (decide (k=bJ)&&decide (0<c)) (bind (Gf x) λx=>isInt k (af1 x c)) fail
  |none=>cond (decide (k=bJ)) (bind (Gf x) λx=>bind (hK 36 [y.l]) λ_=>isInt k (bind (gF 38 [x.l,y.l] 0 (cond (decide (y.hi-1<=x.hi)) (y.hi-1) x.hi)) λl=>pure ⟨l,0,cond (decide (y.hi-1<=x.hi)) (y.hi-1) x.hi⟩)) fail
 | .and=>cond (decide (k=bJ)) (isInt k (aaT k x y)) fail
 | .or=>cond (decide (k=bJ)) (isInt k (orM k x y)) fail
 | .xor=>cond (decide (k=bJ)) (isInt k (Kh .xor k x y)) fail
 | .andNot=>cond (decide (k=bJ)) (isInt k (Kh .andNot k x y)) fail
 | .eql=>cond (decide (k=bJ)) (pure (.bool (.mkEq x y))) fail
 | .neq=>cond (decide (k=bJ)) (pure (.bool (.mkNot (.mkEq x y)))) fail
 | .lss=>cond (decide (k=bJ)) (pure (.bool (.mkLt x y))) fail
 | .leq=>cond (decide (k=bJ)) (pure (.bool (.mkLe x y))) fail
 | .gtr=>cond (decide (k=bJ)) (pure (.bool (.mkLt y x))) fail
 | .geq=>cond (decide (k=bJ)) (pure (.bool (.mkLe y x))) fail
theorem uk {k:eB} {x:M bZ} {R:Env->Nat->A->Prop} {v:Int} (h:aE S L x n ρ λae n' q=>q.ok n' ae/\q.l.den ae=v)
 (hR:∀ae n' (q:bZ),n<=n'->agree n ρ ae->q.ok n' ae->q.l.den ae=v->R ae n' (.int k q)):aE S L (isInt k x) n ρ R:=
 h.bind λae n' q hn ha ⟨aA,he⟩=>aE.pure (hR ae n' q hn ha aA he)
theorem L3 {x:bZ} (hx:x.ok n ρ):aE S L (Gf x) n ρ λae n' q=>q.ok n' ae/\q.l=x.l/\q.hi=x.hi/\0<=q.lo/\x.l.den ae=x.l.den ρ:=by
 unfold Gf;cases h:decide (0<=x.lo)with
 |true=>exact aE.pure ⟨hx,rfl,rfl,of_decide_eq_true h,rfl⟩
 |false=>
  refine kb λag=>aE.pure ⟨⟨hx.1,?_,hx.2.2⟩,rfl,rfl,cn _,rfl⟩;simpa [aj,NY]using ag
theorem aII {x y:bZ} (hx:x.ok n ρ) (hy:y.ok n ρ):aE S L (eK x y) n ρ λae n' q=>q.ok n' ae/\q.l.den ae=x.l.den ρ*y.l.den ρ:=by
 unfold eK;split
 ·refine(L3 hx).bind λa6 bh hk h9 fV ⟨o5,ex,_,_,w5⟩=>(L3 (hy.agree fV h9)).bind λcd fF og fX eI ⟨aes,Ol,_,_,aBo⟩=>(af4 (o5.agree eI fX) aes).mono λjb sJ q _ _ ⟨h1,h2⟩=>⟨h1,?_⟩;rw[h2,Ol,aBo,I.cq fV hy.1,I.cq eI o5.1,ex,w5]
 ·exact af4 hx hy
theorem aze {nb:Nat} {m:Nat->Nat} (P:cc) {op:BinOp} {k bJ:eB} {x y:bZ} (t:bE) (hx:x.ok n ρ) (hy:y.ok n ρ):
 aE S L (abe op k x bJ y) n ρ λae n' a=>a.ok n' nb ae/\∀w,(binOp op t (.int k (x.l.den ρ)) (.int bJ (y.l.den ρ))).run P w= .ok (a.den ae m) w:=by
 have bz:∀s:Nat,(0:Int)<2^s:=λs=>by have:=CG s;exact_mod_cast this
 cases op<;>simp only[abe]
 case shl=>
  cases hc:y.Kz with
  |none=>
   refine fe λh0=>?_;simp only[bI,decide_eq_true_eq]at h0;obtain⟨⟨⟨h1,h2⟩,h3⟩,h4⟩:=h0;have Iv:=hx.2;have FK:=hy.2
   have hp:=bz (y.l.den ρ).toNat;have av:(0:Int)<=x.l.den ρ*2^(y.l.den ρ).toNat:=ai7 (by omega) (qv hp);have aH:x.l.den ρ*2^(y.l.den ρ).toNat<=x.hi*2^y.hi.toNat:=ai9 Iv.2 (by
    have:=MW (n:=2) (by decide) (show(y.l.den ρ).toNat<=y.hi.toNat by omega)
    exact_mod_cast this) (qv hp) (by omega)
   have hf:cu 37 ([x.l,y.l].map (·.den ρ))=x.l.den ρ*2^(y.l.den ρ).toNat:=rfl;refine uk (v:=x.l.den ρ*2^(y.l.den ρ).toNat) ((iR (by rw[hf];exact av) (by rw[hf];exact aH)).bind λa6 bh l _ _ ⟨g1,g2⟩=>aE.pure ⟨⟨g1,by simp only;rw[g2,hf];exact av,by simp only;rw[g2,hf];exact aH⟩,by simp only;rw[g2,hf]⟩) λae n' q _ _ aA he=>⟨aA,λw=>?_⟩;simp only[A.den,he,binOp,Op.shift];have aEi:(y.l.den ρ).toNat<=k.bits∨x.l.den ρ=0:=by
    rcases Nat.le_total (y.l.den ρ).toNat k.bits with h|h
    ·exact .inl h
    ·refine .inr ?_;have h5:x.l.den ρ*2^(y.l.den ρ).toNat<nv k:=by omega
     have h6:=Qv k;rw[yW]at h6;have h7:(2:Int)^k.bits<=2^(y.l.den ρ).toNat:=by
      have:=MW (n:=2) (by decide) h
      exact_mod_cast this
     rcases mw 0 (x.l.den ρ)with ch|ch
     ·have:(1:Int)*2^(y.l.den ρ).toNat<=x.l.den ρ*2^(y.l.den ρ).toNat:=Int.mul_le_mul_of_nonneg_right (by omega) (qv hp);omega
     ·omega
   rw[if_neg (by omega)];rcases aEi with h|h
   ·rw[show min (y.l.den ρ).toNat k.bits=(y.l.den ρ).toNat by omega];simp[RU av (show x.l.den ρ*2^(y.l.den ρ).toNat<nv k by omega)]
   ·have hw:k.wrap 0=0:=by cases k<;>decide
    simp[h,hw]
  |some c=>
   refine fe λh0=>?_;simp only[decide_eq_true_eq]at h0;have hp:=bz (min c.toNat k.bits);refine uk (Gz (x:=⟨x.l.smul (2^min c.toNat k.bits),x.lo*2^min c.toNat k.bits,x.hi*2^min c.toNat k.bits⟩) ⟨I.xD hx.1,?_,?_⟩) λae n' q _ _ aA he=>⟨aA,λw=>?_⟩
   ·simp only[I.na];rw[kL];exact EI hx.2.1 (qv hp)
   ·simp only[I.na];rw[kL x.hi];exact EI hx.2.2 (qv hp)
   ·simp only[A.den,he,I.na,bZ.anc hy hc,binOp,Op.shift];rw[if_neg (by omega)];simp[kL]
 case shr=>
  cases hc:y.Kz with
  |some c=>
   refine fe λh0=>?_;simp only[decide_eq_true_eq]at h0;have hp:=bz (min c.toNat k.bits);refine uk ((Fe hp hx).mono λ_ _ q _ _ h=>⟨h.1,h.2.1⟩) λae n' q _ _ aA he=>⟨aA,λw=>?_⟩;simp only[A.den,he,bZ.anc hy hc,binOp,Op.shift];rw[if_neg (by omega)];simp[aWA _ (qv hp)]
  |none=>
   refine fe λh0=>?_;simp only[bI,decide_eq_true_eq]at h0;refine uk (aQX hx h0.1.1) λae n' q _ _ aA he=>⟨aA,λw=>?_⟩;have FK:=hy.2;simp only[A.den,he,binOp,Op.shift];rw[if_neg (by omega),show min (y.l.den ρ).toNat k.bits=(y.l.den ρ).toNat by omega];simp[aWA _ (qv (bz _))]
 case add=>
  refine fe λh0=>?_;simp only[decide_eq_true_eq]at h0;subst h0;have Iv:=hx.2;have FK:=hy.2
  refine uk (Gz (x:=⟨x.l.add y.l,x.lo+y.lo,x.hi+y.hi⟩) ⟨I.yT hx.1 hy.1,by simp only[I.den_add];omega,by simp only[I.den_add];omega⟩) λae n' q _ _ aA he=>⟨aA,λw=>?_⟩;simp[A.den,he,I.den_add,binOp,Op.intArith]
 case sub=>
  refine fe λh0=>?_;simp only[decide_eq_true_eq]at h0;subst h0;have Iv:=hx.2;have FK:=hy.2
  refine uk (Gz (x:=⟨x.l.sub y.l,x.lo-y.hi,x.hi-y.lo⟩) ⟨I.xE hx.1 hy.1,by simp only[I.l8];omega,by simp only[I.l8];omega⟩) λae n' q _ _ aA he=>⟨aA,λw=>?_⟩;simp[A.den,he,I.l8,binOp,Op.intArith]
 case mul=>
  refine fe λh0=>?_;simp only[decide_eq_true_eq]at h0;subst h0;refine uk (v:=k.wrap (x.l.den ρ*y.l.den ρ)) ((aII hx hy).bind λa6 bh p _ _ ⟨hp,ep⟩=>by rw[<-ep];exact Gz hp) λae n' q _ _ aA he=>⟨aA,λw=>?_⟩;simp[A.den,he,binOp,Op.intArith]
 case quo=>
  cases hc:y.l.fk with
  |none=>
   refine fe λh0=>(L3 hx).bind λcM e9 hk ue Dh ⟨o5,ex,ack,zR,w5⟩=>kb λag=>?_;have h0:=of_decide_eq_true h0;subst h0;simp only[df,gr,aj]at ag;have PA:=I.cq Dh hy.1;have Iv:=o5.2;have av:=Yi (show 0<=hk.l.den cM by omega) (qv ag);have ca:hk.l.den cM/y.l.den cM<=hk.l.den cM:=by
    have h5:=awo (y.l.den cM) (show 0<=hk.l.den cM by omega);exact h5
   have ht:hk.l.den cM/y.l.den cM<=hk.hi:=by omega
   have hf:cu 76 ([hk.l,y.l].map (·.den cM))=hk.l.den cM/y.l.den cM:=rfl;refine uk (v:=k.wrap (hk.l.den cM/y.l.den cM)) (((iR (by rw[hf];exact av) (by rw[hf];exact ht)).bind λa6 bh l _ _ ⟨g1,g2⟩=>aE.pure (R:=λae n' (q:bZ)=>q.ok n' ae/\q.l.den ae=hk.l.den cM/y.l.den cM) ⟨⟨g1,by simp only;rw[g2,hf];exact av,by simp only;rw[g2,hf];exact ht⟩,by simp only;rw[g2,hf]⟩).bind λa6 bh p _ _ ⟨hp,ep⟩=>by rw[<-ep];exact Gz hp) λae n' q _ _ aA he=>⟨aA,λw=>?_⟩;simp only[A.den,he,binOp,Op.intDiv];have Py:0<y.l.den ρ:=PA▸ag;have Dy:0<=x.l.den ρ:=by rw[<-w5,<-ex];omega
   rw[PA,ex,w5,if_neg (by simp),if_neg (by omega),aWB Dy];simp
  |some c=>
   refine fe λh0=>(L3 hx).bind λcM e9 hk ue Dh ⟨o5,ex,ack,zR,w5⟩=>?_;simp only[bI,decide_eq_true_eq]at h0;obtain⟨h0,h1⟩:=h0;subst h0;have Iv:=o5.2;refine uk (v:=k.wrap (hk.l.den cM/c)) ((Fe h1 o5).bind λa6 bh p _ _ ⟨hp,ep,_⟩=>by rw[<-ep];exact Gz hp) λae n' q _ _ aA he=>⟨aA,λw=>?_⟩;have Dy:0<=x.l.den ρ:=by rw[<-w5,<-ex];omega
   simp only[A.den,he,I.ll hc,binOp,Op.intDiv];rw[ex,w5,if_neg (by simp),if_neg (by omega),aWB Dy];simp
 case rem=>
  cases hc:y.l.fk with
  |none=>
   refine fe λh0=>(L3 hx).bind λcM e9 hk ue Dh ⟨o5,ex,ack,zR,w5⟩=>kb λag=>?_;have h0:=of_decide_eq_true h0;subst h0;simp only[df,gr,aj]at ag;have PA:=I.cq Dh hy.1;have Iv:=o5.2;have FK:=(hy.agree Dh ue).2
   have av:=sV (hk.l.den cM) (show y.l.den cM≠0 by omega);have aH:=ri (hk.l.den cM) ag;have ca:hk.l.den cM% y.l.den cM<=hk.l.den cM:=by
    have h5:=awk (hk.l.den cM) (y.l.den cM);have h6:=ai7 (qv ag) (Yi (show 0<=hk.l.den cM by omega) (qv ag));omega
   have hf:cu 38 ([hk.l,y.l].map (·.den cM))=hk.l.den cM% y.l.den cM:=rfl;have ht:hk.l.den cM% y.l.den cM<=cond (decide (y.hi-1<=hk.hi)) (y.hi-1) hk.hi:=by
    cases decide (y.hi-1<=hk.hi)with
    |true=>simp only[cond_true];omega
    |false=>simp only[cond_false];omega
   refine uk (v:=hk.l.den cM% y.l.den cM) ((iR (by rw[hf];exact av) (by rw[hf];exact ht)).bind λa6 bh l _ _ ⟨g1,g2⟩=>aE.pure ⟨⟨g1,by simp only;rw[g2,hf];exact av,by simp only;rw[g2,hf];exact ht⟩,by simp only;rw[g2,hf]⟩) λae n' q _ _ aA he=>⟨aA,λw=>?_⟩;simp only[A.den,he,binOp,Op.intDiv];have Py:0<y.l.den ρ:=PA▸ag;have Dy:0<=x.l.den ρ:=by rw[<-w5,<-ex];omega
   rw[PA,ex,w5,if_neg (by simp),if_neg (by omega),aWC Dy];simp
  |some c=>
   refine fe λh0=>(L3 hx).bind λcM e9 hk ue Dh ⟨o5,ex,ack,zR,w5⟩=>?_;simp only[bI,decide_eq_true_eq]at h0;obtain⟨h0,h1⟩:=h0;subst h0;have Iv:=o5.2;refine uk (ar8 h1 o5) λae n' q _ _ aA he=>⟨aA,λw=>?_⟩;have Dy:0<=x.l.den ρ:=by rw[<-w5,<-ex];omega
   simp only[A.den,he,I.ll hc,binOp,Op.intDiv];rw[ex,w5,if_neg (by simp),if_neg (by omega),aWC Dy];simp
 case and=>
  refine fe λh0=>?_;simp only[decide_eq_true_eq]at h0;subst h0;refine uk (ayM hx hy) λae n' q _ _ aA he=>⟨aA,λw=>?_⟩;simp[A.den,he,binOp,Yj,br]
 case or=>
  refine fe λh0=>?_;simp only[decide_eq_true_eq]at h0;subst h0;refine uk (aLG hx hy) λae n' q _ _ aA he=>⟨aA,λw=>?_⟩;simp[A.den,he,binOp,Yj,br]
 case xor=>
  refine fe λh0=>?_;simp only[decide_eq_true_eq]at h0;subst h0;refine uk S9 λae n' q _ _ aA he=>⟨aA,λw=>?_⟩;simp[A.den,he,binOp,Yj,br]
 case andNot=>
  refine fe λh0=>?_;simp only[decide_eq_true_eq]at h0;subst h0;refine uk S9 λae n' q _ _ aA he=>⟨aA,λw=>?_⟩;simp[A.den,he,binOp,Yj,br]
 all_goals
  refine fe λh0=>?_;simp only[decide_eq_true_eq]at h0;subst h0;have av:=bO.x7 hx hy;have aH:=bO.TA hx hy;have ca:=bO.ane hx hy;have ht:=bO.TA hy hx;have gX:=bO.ane hy hx;refine aE.pure ⟨?_,λw=>?_⟩
  ·first|exact av.2|exact bO.Cf av.2|exact aH.2|exact ca.2|exact ht.2|exact gX.2
  ·simp[A.den,bO.Bv,av.1,aH.1,ca.1,ht.1,gX.1,binOp,Op.intCmp]
   try rfl
end
end Go.bX
namespace Go.bX
open M
abbrev aM:=List A×(bE×Bool)
abbrev fK:=List (Nat×List (eB×Int))
structure fg where
 b:aC
 r:aC
 ex:Nat->Prop
 ro:Nat->Prop
 ds:List Deferred
def cy:List A->Bool
 |[.rows _ _ _ _ _]=>false
 |_=>true
noncomputable def b2 (ρ:Env):List A->Nat
 |[.rows _ _ _ cap k]=>if cap.den ρ<0 then 0 else k
 |_=>2
def cX:List a8->List Int->Prop
 |[],[]=>True
 |c::sh,z::r=>(c.gu.1<=z/\z<=c.gu.2)/\cX sh r
 |_,_=>False
def eA:List a8->List Int->List bf
 |c::sh,z::r=>c.val z::eA sh r
 |_,_=>[]
def ct (sh:List a8) (rows:List (List Int)):List bf:=rows.flatMap (eA sh)
def pz (cells:Array bf) (off:Nat) (sh:List a8) (rows:List (List Int)):Prop:=(∀row∈rows,cX sh row)/\∃pre post,cells.toList=pre++ct sh rows++post/\pre.length=off
theorem cX.len:∀{sh:List a8} {row:List Int},cX sh row->row.length=sh.length
 |[],[],_=>rfl
 |_::_,_::_,h=>by simp[cX.len h.2]
 |[],_::_,h=>h.elim
 |_::_,[],h=>h.elim
theorem cX.get:∀{sh:List a8} {row:List Int} {j:Nat} {c:a8},cX sh row->sh[j]?=some c->∃z,row[j]?=some z/\c.gu.1<=z/\z<=c.gu.2/\(eA sh row)[j]?=some (c.val z)
 |ek::sh,z::r,0,c,h,hc=>by
  simp only[xU,bu]at hc;subst hc;exact⟨z,rfl,h.1.1,h.1.2,rfl⟩
 |ek::sh,z::r,j+1,c,h,hc=>cX.get (sh:=sh) (row:=r) (j:=j) h.2 (by simpa using hc)
 |[],_,_,_,_,hc=>by simp at hc
 |_::_,[],_,_,h,_=>h.elim
theorem Js:∀{sh:List a8} {row:List Int},cX sh row->(eA sh row).length=sh.length
 |[],[],_=>rfl
 |_::_,_::_,h=>by simp[eA,Js h.2]
 |[],_::_,h=>h.elim
 |_::_,[],h=>h.elim
theorem qK {sh:List a8}:∀{rows:List (List Int)},(∀row∈rows,cX sh row)->(ct sh rows).length=rows.length*sh.length
 |[],_=>by simp[ct]
 |r::rs,h=>by
  have ih:=qK (rows:=rs) λrow hr=>h row (e5 _ hr);have h1:=Js (h r (by simp));simp only[ct,wH,fq,kx]at ih⊢;rw[ih,h1,AX];omega
theorem acD {sh:List a8}:∀{rows:List (List Int)} {i j:Nat} {row:List Int} {v:bf},(∀row∈rows,cX sh row)->rows[i]?=some row->(eA sh row)[j]?=some v->(ct sh rows)[i*sh.length+j]?=some v
 |r::rs,0,j,row,v,h,hi,aR=>by
  simp only[xU,bu]at hi;subst hi;have hlt:=(List.getElem?_eq_some_iff.1 aR).1;simp only[ct,wH,Nat.zero_mul,y4];rw[wG hlt];exact aR
 |r::rs,i+1,j,row,v,h,hi,aR=>by
  have ih:=acD (rows:=rs) (i:=i) (λrow hr=>h row (e5 _ hr)) (by simpa using hi) aR;have h1:=Js (h r (by simp));simp only[ct,wH]at ih⊢;rw[MY (by rw[h1,AX];omega),h1,AX];rw[show i*sh.length+sh.length+j-sh.length=i*sh.length+j by omega];exact ih
 |[],i,_,_,_,_,hi,_=>by simp at hi
theorem zI (sh:List a8) (a b:List (List Int)):ct sh (a++b)=ct sh a++ct sh b:=by simp[ct]
def CS (kind:Nat) (fz:Nat×Nat) (n:Nat):Prop:=(kind=2/\fz=(0,0))∨(kind≠2/\fz=(n,n+1))
theorem CS.two {fz:Nat×Nat} {n:Nat} (h:CS 2 fz n):fz=(0,0):=by
 rcases h with h|h
 ·exact h.2
 ·exact absurd rfl h.1
theorem CS.QA {n:Nat}:CS 2 (0,0) n:= .inl ⟨rfl,rfl⟩
def wL (w0:fg) (ρ:Env) (g:Nat) (sh:List a8) (off code cap:I) (kind:Nat) (t:bE) (w:aC):Prop:=kind≠0->(cap.den ρ<0->af (code.den ρ)=[])/\(0<=cap.den ρ->(w0.ex g∨w0.ro g∨w0.r.heap.size<=g)/\∃cells t' fz,w.heap[g]?=some (.cells cells t' fz)/\(0<=off.den ρ/\pz cells (off.den ρ).toNat sh (af (code.den ρ)))/\(2<=kind->t'=t/\off.den ρ=0/\CS kind fz cells.size/\cells.size=(cap.den ρ).toNat*sh.length/\w0.b.heap.size<=g/\(w0.ex g∨w0.r.heap.size<=g)))
structure Mem (w0:fg) (ρ:Env) (m:Nat->Nat) (bl:List aM) (w:aC):Prop where
 ext:w0.b.Extends w
 kE:w.os=w0.r.os
 mE:w.tape=w0.r.tape
 lq:w.output=w0.r.output
 ia:w0.r.heap.size<=w.heap.size
 kp:∀i:Nat,i<w0.r.heap.size->¬w0.ex i->w.heap[i]?=w0.r.heap[i]?
 gP:∀(i:Nat) (cs:List A) (t:bE×Bool),bl[i]?=some (cs,t)->cy cs=true->w0.b.heap.size<=m i/\(w0.ex (m i)∨w0.r.heap.size<=m i)/\∃r:List bf,(t.2=false->r=[])/\w.heap[m i]?=some (.cells (cs.map (A.den ρ m)++r).toArray t.1 (0,0))
 rws:∀(i:Nat) (sh:List a8) (off code cap:I) (kind:Nat) (t:bE×Bool),bl[i]?=some ([.rows sh off code cap kind],t)->wL w0 ρ (m i) sh off code cap kind t.1 w
 inj:∀(i j:Nat) (p q:aM),bl[i]?=some p->bl[j]?=some q->m i=m j->i=j∨(b2 ρ p.1<=1/\b2 ρ q.1<=1)∨b2 ρ p.1=0∨b2 ρ q.1=0
theorem Mem.lt {w0:fg} {ρ:Env} {m:Nat->Nat} {bl:List aM} {w:aC} (h:Mem w0 ρ m bl w) {i:Nat} {p:aM} (hi:bl[i]?=some p) (ag:b2 ρ p.1≠0):m i<w.heap.size:=by
 obtain⟨cs,t⟩:=p;by_cases aA:cy cs=true
 ·obtain⟨_,_,r,_,h2⟩:=h.gP i cs t hi aA;exact(Array.getElem?_eq_some_iff.1 h2).1
 ·unfold cy at aA;split at aA
  ·rename_i sh off code cap k;simp only[b2]at ag;split at ag
   ·exact absurd rfl ag
   ·rename_i dR;obtain⟨_,cells,t',fz,h2,_⟩:=(h.rws i _ _ _ _ _ t hi ag).2 (by omega);exact(Array.getElem?_eq_some_iff.1 h2).1
  ·exact absurd rfl aA
theorem n5 {ρ:Env} {cs:List A} (h:cy cs=true):b2 ρ cs=2:=by
 unfold cy at h;unfold b2;split<;>simp_all
def dr (n nb:Nat) (ρ:Env) (bl:List aM):Prop:=∀p∈bl,∀a∈p.1,A.ok n nb ρ a
def fJ (gl:fK) (w0:fg):Prop:=∀g cs,(g,cs)∈gl->g<w0.b.heap.size/\∃t Fl,w0.b.heap[g]?=some (.cells (cs.map λp=>Value.int p.1 p.2).toArray t Fl)
theorem dr.ext {n n' nb n9:Nat} {ρ ae:Env} {bl:List aM} (h:dr n nb ρ bl) (ha:agree n ρ ae) (hn:n<=n') (hb:nb<=n9):dr n' n9 ae bl:=
 λp hp a aP=>(h p hp a aP).ext ha hn hb
theorem wL.sP {w0:fg} {n nb:Nat} {ρ ae:Env} {g:Nat} {sh:List a8} {off code cap:I} {kind:Nat} {t:bE} {w:aC} (h:wL w0 ρ g sh off code cap kind t w) (cm:(A.rows sh off code cap kind).ok n nb ρ) (ha:agree n ρ ae):wL w0 ae g sh off code cap kind t w:=by
 unfold wL at*;rw[I.cq ha cm.1.1,I.cq ha cm.1.2.1,I.cq ha cm.1.2.2];exact h
theorem yt {n nb:Nat} {ρ ae:Env} {cs:List A} (cm:∀a∈cs,A.ok n nb ρ a) (ha:agree n ρ ae):b2 ae cs=b2 ρ cs:=by
 unfold b2;split
 ·rename_i sh off code cap k;have h1:A.ok n nb ρ (.rows sh off code cap k):=cm _ (by simp);rw[I.cq ha h1.1.2.2]
 ·rfl
theorem agree.sym {n:Nat} {ρ ae:Env} (h:agree n ρ ae):agree n ae ρ:=λi hi=>(h i hi).symm
theorem Mem.sP {w0:fg} {n:Nat} {ρ ae:Env} {m:Nat->Nat} {bl:List aM} {w:aC} (h:Mem w0 ρ m bl w) (hb:dr n bl.length ρ bl) (ha:agree n ρ ae):Mem w0 ae m bl w:=
 ⟨h.ext,h.kE,h.mE,h.lq,h.ia,h.kp,λi cs t hi aA=>by
  obtain⟨h1,h2,r,hr,h3⟩:=h.gP i cs t hi aA;exact⟨h1,h2,r,hr,by rw[yx (hb _ (fw hi)) ha (λ_ _=>rfl)];exact h3⟩,
  λi sh off code cap kind t hi=>(h.rws i sh off code cap kind t hi).sP (hb _ (fw hi) _ (by simp)) ha,λi j p q hi aR he=>by
   rw[yt (hb _ (fw hi)) ha,yt (hb _ (fw aR)) ha];exact h.inj i j p q hi aR he⟩
theorem wL.grow {w0:fg} {ρ:Env} {g:Nat} {sh:List a8} {off code cap:I} {kind:Nat} {t:bE} {w w':aC} (h:wL w0 ρ g sh off code cap kind t w) (he:kind≠0->0<=cap.den ρ->w'.heap[g]?=w.heap[g]?):wL w0 ρ g sh off code cap kind t w':=by
 intro ag;obtain⟨h1,h2⟩:=h ag;refine⟨h1,λhc=>?_⟩;rw[he ag hc];exact h2 hc
theorem vF {ρ:Env} {sh:List a8} {off code cap:I} {k:Nat} (ag:k≠0) (hc:0<=cap.den ρ):b2 ρ [.rows sh off code cap k]=k:=by
 simp only[b2];rw[if_neg (by omega)]
theorem Mem.grow {w0:fg} {ρ:Env} {m:Nat->Nat} {bl:List aM} {w w':aC} (h:Mem w0 ρ m bl w) (he:w.Extends w'):Mem w0 ρ m bl w':=
 ⟨h.ext.trans he,he.os.trans h.kE,he.tape.trans h.mE,he.output.trans h.lq,nJ h.ia he.size,λi hi hx=>(he.block i (JL hi h.ia)).trans (h.kp i hi hx),λi cs t hi aA=>by
  obtain⟨h1,h2,r,hr,h3⟩:=h.gP i cs t hi aA;exact⟨h1,h2,r,hr,by rw[he.block _ (h.lt hi (by rw[n5 aA];decide))];exact h3⟩,λi sh off code cap kind t hi=>(h.rws i sh off code cap kind t hi).grow λag hc=>he.block _ (h.lt hi (by simp only[vF ag hc];exact ag)),h.inj⟩
theorem Mem.ne {w0:fg} {ρ:Env} {m:Nat->Nat} {bl:List aM} {w:aC} (h:Mem w0 ρ m bl w) {i j:Nat} {p q:aM} (hi:bl[i]?=some p) (aR:bl[j]?=some q) (hp:2<=b2 ρ p.1) (an:b2 ρ q.1≠0) (dE:i≠j):m i≠m j:=λe=>by
 rcases h.inj i j p q hi aR e with h|h|h|h
 ·exact dE h
 ·omega
 ·omega
 ·exact an h
def fo (n nb:Nat) (ρ:Env) (m:Nat->Nat) (tm:List V) (tmps:Array bf):Prop:=tm.length=tmps.size/\∀(i:Nat) (v:V),tm[i]?=some v->v.ok n nb ρ/\∃x,tmps[i]?=some x/\v.rel ρ m x
theorem fo.ext {n n' nb n9:Nat} {ρ ae:Env} {m m':Nat->Nat} {tm:List V} {tmps:Array bf} (h:fo n nb ρ m tm tmps) (ha:agree n ρ ae) (hn:n<=n') (hb:nb<=n9) (hm:∀b,b<nb->m' b=m b):fo n' n9 ae m' tm tmps:=
 ⟨h.1,λi v hv=>by obtain⟨h1,x,h2,h3⟩:=h.2 i v hv;exact⟨h1.ext ha hn hb,x,h2,h3.ext h1 ha hm⟩⟩
def xF:List V->Nat->V->List V
 |[],_,_=>[]
 |_::r,0,v=>v::r
 |x::r,i+1,v=>x::xF r i v
theorem ahE:∀(l:List V) (i:Nat) (v:V),xF l i v=l.set i v
 |[],_,_=>rfl
 |_::_,0,_=>rfl
 |_::r,i+1,v=>by simp[xF,ahE r i v]
def hj (tm:List V) (d:Option Tmp) (v:V):List V:=match d with|some d=>xF tm d v|none=>tm
theorem fo.put {n nb:Nat} {ρ:Env} {m:Nat->Nat} {tm:List V} {a:Act} {v:V} {x:bf} (h:fo n nb ρ m tm a.tmps) (d:Option Tmp) (hv:v.ok n nb ρ) (hx:v.rel ρ m x):fo n nb ρ m (hj tm d v) (a.put d x).tmps:=by
 cases d with
 |none=>exact h
 |some d=>
  simp only[hj,M3,ahE];refine⟨by simp[h.1],λi u hu=>?_⟩;rw[List.getElem?_set]at hu;by_cases hd:d=i
  ·subst hd;simp only[if_true]at hu;split at hu
   ·rename_i hlt;simp only[bu]at hu;subst hu;exact⟨hv,x,by simp[<-h.1,hlt],hx⟩
   ·cases hu
  ·rw[if_neg hd]at hu;obtain⟨h1,y,h2,h3⟩:=h.2 i u hu;exact⟨h1,y,by rw[aWD (by omega)];exact h2,h3⟩
def Ky:bf->Option A
 | .int k n=>some (.int k (.const n))
 | .bool b=>some (.bool (.lit b))
 | .string s=>cond (cV s.size 1000000) (some (.str (.const (k5 s.data.toList)))) none
 |v=>cond v.oneCell' (some (.con v)) none
theorem am0 {v:bf} {a:A} (h:Ky v=some a) (n nb:Nat) (ρ:Env) (m:Nat->Nat):a.ok n nb ρ/\a.den ρ m=v:=by
 unfold Ky at h;split at h
 ·simp only[bu]at h;subst h;exact⟨bZ.qI _ _ _,by simp[A.den,bZ.const,I.bC]⟩
 ·simp only[bu]at h;subst h;exact⟨trivial,rfl⟩
 ·rename_i s;cases hc:cV s.size 1000000 with
  |false=>simp[hc]at h
  |true=>
   simp only[hc,cond_true,bu]at h;subst h;have hl:s.data.toList.length<=nw:=by
    have:=gq hc;have h2:s.data.toList.length=s.size:=by simp
    unfold nw;omega
   refine⟨⟨I.dX _ _,by rw[I.bC];exact zz _,by rw[I.bC];exact x1 hl⟩,?_⟩;simp[A.den,I.bC,Ce,eS]
 ·cases hc:v.oneCell' with
  |false=>simp[hc]at h
  |true=>simp only[hc,cond_true,bu]at h;subst h;exact⟨hc,rfl⟩
def Dc:List bf->Option (List A)
 |[]=>some []
 |v::r=>match Ky v,Dc r with|some a,some l=>some (a::l)|_,_=>none
theorem Dd:∀{vs:List bf} {l:List A},Dc vs=some l->∀(n nb:Nat) (ρ:Env) (m:Nat->Nat),(∀a∈l,A.ok n nb ρ a)/\l.map (A.den ρ m)=vs
 |[],l,h,n,nb,ρ,m=>by simp[Dc]at h;subst h;simp
 |v::r,l,h,n,nb,ρ,m=>by
  simp only[Dc]at h;cases h1:Ky v with
  |none=>simp[h1]at h
  |some a=>
   cases h2:Dc r with
   |none=>simp[h1,h2]at h
   |some l'=>
    simp only[h1,h2,bu]at h;subst h;have av:=am0 h1 n nb ρ m;have aH:=Dd h2 n nb ρ m;exact⟨λa ha=>by rcases List.mem_cons.1 ha with rfl|ha;exact av.1;exact aH.1 a ha,by simp[av.2,aH.2]⟩
def Tx:bf->V
 | .agg cs=>match Dc cs.toList with|some l=> .w (.agg l)|none=> .any
 | .tuple _=> .any
 |v=>match Ky v with|some a=> .w (.one a)|none=> .any
theorem aAz (v:bf) (n nb:Nat) (ρ:Env) (m:Nat->Nat):(Tx v).ok n nb ρ/\(Tx v).rel ρ m v:=by
 unfold Tx;split
 ·rename_i cs;cases h:Dc cs.toList with
  |none=>exact⟨trivial,trivial⟩
  |some l=>have e:=Dd h n nb ρ m;exact⟨e.1,by simp[V.rel,W.den,e.2]⟩
 ·exact⟨trivial,trivial⟩
 ·cases h:Ky v with
  |none=>exact⟨trivial,trivial⟩
  |some a=>have e:=am0 h n nb ρ m;exact⟨e.1,by simp[V.rel,W.den,e.2]⟩
def cB (tm:List V):rl->V
 | .tmp t=>(tm[t]?).getD .any
 | .const v=>Tx v
 | .global g=> .w (.one (.gptr g 0))
 | .func f=> .w (.one (.con (.func (.func f) #[] #[])))
theorem c4 {n nb:Nat} {ρ:Env} {m:Nat->Nat} {tm:List V} {a:Act} (h:fo n nb ρ m tm a.tmps) (x:rl):(cB tm x).ok n nb ρ/\(cB tm x).rel ρ m (a.eval x):=by
 cases x with
 |tmp t=>
  simp only[cB,Act.eval];cases aB:tm[t]? with
  |none=>exact⟨trivial,trivial⟩
  |some v=>
   obtain⟨h1,y,h2,h3⟩:=h.2 t v aB;exact⟨h1,by simp only[EF];rw[show a.tmps.getD t undef=y by simp[h2]];exact h3⟩
 |const v=>exact aAz v n nb ρ m
 |global g=>exact⟨trivial,rfl⟩
 |func f=>exact⟨rfl,rfl⟩
def lu (P:cc) (t:bE):Option Bool:=
 match P.underlying t with|some (.struct _)=>some true|some (.array _ _)=>some true|some _=>some false|none=>none
def gI (P:cc) (t:bE):Option Nat:=match P.info? t with|some i=>some i.size|none=>none
theorem tr {P:cc} {t:bE} {b:Bool} (h:lu P t=some b) (w:aC):(isAgg t).run P w= .ok b w:=by
 unfold lu at h;cases hu:P.underlying t with
 |none=>simp[hu]at h
 |some d=>cases d<;>simp[hu]at h<;>subst h<;>simp[isAgg,gz hu]
theorem kW {P:cc} {t:bE} {k:Nat} (h:gI P t=some k) (w:aC):(sizeOf t).run P w= .ok k w:=by
 unfold gI at h;cases hi:P.info? t with
 |none=>simp[hi]at h
 |some i=>simp[hi]at h;subst h;simp[sizeOf,typeInfo,hi]
def Kt (bl:List aM) (gl:fK):A->Option (List A)
 | .ptr b off=>match bl[b]? with|some (cs,_)=>cond (cy cs) (some (cs.drop off)) none|none=>none
 | .gptr g off=>match gl.find? (λp=>aU p.1 g)with|some (_,cs)=>some ((cs.drop off).map λp=> .int p.1 (.const p.2))|none=>none
 |_=>none
theorem lk (g o j:Nat):(⟨g,o,none⟩:Addr).add j=⟨g,o+j,none⟩:=by unfold Addr.add;split<;>simp_all
theorem abE {w0:fg} {w:aC} {n:Nat} {ρ:Env} {m:Nat->Nat} {bl:List aM} {gl:fK} {p:A} {cs:List A} (hm:Mem w0 ρ m bl w) (hb:dr n bl.length ρ bl) (hg:fJ gl w0) (h:Kt bl gl p=some cs):
 ∃g o,p.den ρ m= .pointer (some ⟨g,o,none⟩)/\(∀a∈cs,A.ok n bl.length ρ a)/\∀j a,cs[j]?=some a->w.cell? ⟨g,o+j,none⟩=some (a.den ρ m):=by
 unfold Kt at h;split at h
 ·rename_i b off;cases bd:bl[b]? with
  |none=>simp[bd]at h
  |some q=>
   obtain⟨C,t⟩:=q;simp only[bd]at h;cases o2:cy C with
   |false=>simp[o2]at h
   |true=>
   simp only[o2,cond_true,bu]at h;subst h;obtain⟨h1,_,r,_,h2⟩:=hm.gP b C t bd o2;refine⟨m b,off,rfl,λa ha=>hb _ (fw bd) a (qx ha),λj a aR=>?_⟩;rw[EJ]at aR;have hlt:off+j<C.length:=(List.getElem?_eq_some_iff.1 aR).1;simp only[oq,h2,xW,xX,if_false,Sr];rw[wG (by simpa using hlt),qw,aR];rfl
 ·rename_i g off;cases hf:gl.find? (λp=>aU p.1 g)with
  |none=>simp[hf]at h
  |some q=>
   obtain⟨kq,C⟩:=q;simp only[hf,bu]at h;subst h;have BL:kq=g:=by have:=Yd hf;exact b8 this
   subst BL;obtain⟨h1,t,Fl,h2⟩:=hg kq C (JN hf);refine⟨kq,off,rfl,λa ha=>?_,λj a aR=>?_⟩
   ·obtain⟨p,_,rfl⟩:=List.mem_map.1 ha;exact bZ.qI _ _ _
   ·rw[qw,EJ]at aR;cases an:C[off+j]? with
    |none=>simp[an]at aR
    |some q=>
     simp only[an,AT,bu]at aR;subst aR;have:=hm.ext.cell ⟨kq,off+j,none⟩ h1;rw[this];simp[oq,h2,an,A.den,bZ.const,I.bC]
 ·cases h
def afT (P:cc) (bl:List aM) (gl:fK) (ty:bE) (p:A):M V:=
 match Kt bl gl p,lu P ty,gI P ty with
 |some cs,some true,some k=>cond (cV k cs.length) (pure (.w (.agg (cs.take k)))) fail
 |some (a::_),some false,_=>pure (.w (.one a))
 |_,_,_=>fail
section
variable {S:Nat->List Int->List Int->Prop} {L:V->Env->Prop} {n:Nat} {ρ:Env} {m:Nat->Nat} {bl:List aM} {gl:fK} {w0:fg} {P:cc}
def py (w0:fg) (m:Nat->Nat) (bl:List aM) (n:Nat) (ρ:Env) (run:aC->Result bf) (ae:Env) (n':Nat) (v:V):Prop:=v.ok n' bl.length ae/\∃val,v.rel ae m val/\∀w,Mem w0 ρ m bl w->run w= .ok val w
theorem aIh (hb:dr n bl.length ρ bl) (hg:fJ gl w0) (hex:∃w,Mem w0 ρ m bl w) (ty:bE) (p:A):aE S L (afT P bl gl ty p) n ρ (py w0 m bl n ρ λw=>(pZ ty (p.den ρ m)).run P w):=by
 obtain⟨Co,hx⟩:=hex;unfold afT;cases hc:Kt bl gl p with
 |none=>exact aE.fail
 |some cs=>
  obtain⟨g,o,hp,cm,_⟩:=abE hx hb hg hc;have hcell:∀w,Mem w0 ρ m bl w->∀j a,cs[j]?=some a->w.cell? ⟨g,o+j,none⟩=some (a.den ρ m):=λw hw=>by
   obtain⟨kq,cT,FI,_,aP⟩:=abE hw hb hg hc;rw[hp]at FI;simp only[aZy,bu,Addr.mk.injEq,and_true]at FI;obtain⟨rfl,rfl⟩:=FI;exact aP
  cases ha:lu P ty with
  |none=>exact aE.fail
  |some b=>
   cases b with
   |true=>
    cases hs:gI P ty with
    |none=>exact aE.fail
    |some k=>
     refine fe λag=>aE.pure ⟨λa h=>cm a (mv h),_,rfl,λw hw=>?_⟩;have ag:k<=cs.length:=gq ag;have hl:=Sl (P:=P) w ⟨g,o,none⟩ ((cs.take k).map (A.den ρ m)) λj v aR=>by
      rw[lk];rw[qw]at aR;cases an:(cs.take k)[j]? with
      |none=>simp[an]at aR
      |some a=>
       simp only[an,AT,bu]at aR;subst aR;refine hcell w hw j a ?_;rw[tF]at an;split at an
       ·exact an
       ·cases an
     simp only[ps,m4,CI ag]at hl;simp[pZ,pt,hp,loadVar,tr ha,kW hs,hl,W.den]
   |false=>
    cases cs with
    |nil=>exact aE.fail
    |cons a r=>
     refine aE.pure ⟨cm a (by simp),_,rfl,λw hw=>?_⟩;have:=hcell w hw 0 a rfl;simp only[m3]at this;simp[pZ,pt,hp,loadVar,tr ha,this,W.den]
def sD (k:eB):List A->Option (List bZ)
 |[]=>some []
 | .int bJ x::r=>cond (decide (k=bJ)) (match sD k r with|some l=>some (x::l)|none=>none) none
 |_::_=>none
theorem aqx {k:eB}:∀{cs:List A} {l:List bZ},sD k cs=some l->cs=l.map (.int k)
 |[],l,h=>by simp[sD]at h;subst h;rfl
 | .int bJ x::r,l,h=>by
  simp only[sD]at h;by_cases ag:k=bJ
  ·subst ag;simp only[decide_true,cond_true]at h;cases h1:sD k r with
   |none=>simp[h1]at h
   |some l'=>simp only[h1,bu]at h;subst h;simp[aqx h1]
  ·simp[ag]at h
 | .bool _::_,_,h=>by simp[sD]at h
 | .ptr .. ::_,_,h=>by simp[sD]at h
 | .q5 .. ::_,_,h=>by simp[sD]at h
 | .gptr .. ::_,_,h=>by simp[sD]at h
 | .slc .. ::_,_,h=>by simp[sD]at h
 | .con _::_,_,h=>by simp[sD]at h
 | .str _::_,_,h=>by simp[sD]at h
 | .rows .. ::_,_,h=>by simp[sD]at h
 | .sl .. ::_,_,h=>by simp[sD]at h
 | .ep .. ::_,_,h=>by simp[sD]at h
def LQ:List bZ->Int
 |[]=>0
 |[x]=>x.lo
 |x::r=>min x.lo (LQ r)
def LP:List bZ->Int
 |[]=>0
 |[x]=>x.hi
 |x::r=>max x.hi (LP r)
theorem ar5 {n:Nat} {ρ:Env}:∀{l:List bZ},(∀x∈l,x.ok n ρ)->∀x∈l,LQ l<=x.l.den ρ/\x.l.den ρ<=LP l
 |[],_,x,hx=>by simp at hx
 |[y],h,x,hx=>by
  simp at hx;subst hx;have:=(h x (by simp)).2;exact this
 |y::z::r,h,x,hx=>by
  have ih:=ar5 (l:=z::r) (λx hx=>h x (e5 _ hx));simp only[LQ,LP];rcases List.mem_cons.1 hx with rfl|hx
  ·have:=(h x (by simp)).2;omega
  ·have:=ih x hx;omega
def kindOf (P:cc) (ty:bE):Option eB:=match P.underlying ty with|some (.int k)=>some k|_=>none
def B0:List Int->Int
 |[]=>0
 |[x]=>x
 |x::r=>cond (decide (x<=B0 r)) x (B0 r)
def BY:List Int->Int
 |[]=>0
 |[x]=>x
 |x::r=>cond (decide (BY r<=x)) x (BY r)
theorem ar6:∀(l:List Int),∀z∈l,B0 l<=z/\z<=BY l
 |[],_,h=>by cases h
 |[x],z,h=>by simp at h;subst h;simp[B0,BY]
 |x::y::r,z,h=>by
  unfold B0 BY;have ih:=ar6 (y::r);rcases List.mem_cons.1 h with rfl|h
  ·refine⟨?_,?_⟩
   ·cases hc:decide (z<=B0 (y::r))with
    |true=>simp
    |false=>simp at hc⊢;omega
   ·cases hc:decide (BY (y::r)<=z)with
    |true=>simp
    |false=>simp at hc⊢;omega
  ·have:=ih z h;refine⟨?_,?_⟩
   ·cases hc:decide (x<=B0 (y::r))with
    |true=>simp at hc⊢;omega
    |false=>simp;exact this.1
   ·cases hc:decide (BY (y::r)<=x)with
    |true=>simp at hc⊢;omega
    |false=>simp;exact this.2
def ahD (P:cc) (bl:List aM) (ty:bE) (b off:Nat) (bA:bZ):M V:=λn c=>
 match bl[b]?,kindOf P ty with
 |some (cs,_),some k=>match sD k ((cs.drop off).take (bA.hi.toNat+1))with
  |some l=>cond (aU l.length (bA.hi.toNat+1)&&decide (0<=bA.lo)&&cy cs) (.Ci n (l.map (·.l)) bA.l (LQ l) (LP l) (c (.w (.one (.int k ⟨.var n,LQ l,LP l⟩))) (n+1))) .stuck
  |none=> .stuck
 |_,_=> .stuck
theorem aQT (hb:dr n bl.length ρ bl) (ty:bE) (b off:Nat) {bA:bZ} (O7:bA.ok n ρ):aE S L (ahD P bl ty b off bA) n ρ (py w0 m bl n ρ λw=>(pZ ty ((A.q5 b off bA).den ρ m)).run P w):=by
 intro YD c ag;unfold ahD at ag;cases bd:bl[b]? with
 |none=>simp[bd,T.holds]at ag
 |some q=>
  obtain⟨cs,t⟩:=q;cases jX:kindOf P ty with
  |none=>simp[bd,jX,T.holds]at ag
  |some k=>
   cases hi:sD k ((cs.drop off).take (bA.hi.toNat+1))with
   |none=>simp[bd,jX,hi,T.holds]at ag
   |some l=>
    cases hc:(aU l.length (bA.hi.toNat+1)&&decide (0<=bA.lo)&&cy cs)with
    |false=>simp[bd,jX,hi,hc,T.holds]at ag
    |true=>
     simp only[bd,jX,hi,hc,cond_true,T.holds]at ag;simp only[bI,decide_eq_true_eq]at hc;obtain⟨hc,an⟩:=hc;have hlen:=b8 hc.1;have e:=aqx hi;have Da:=O7.2;have hlt:(bA.l.den ρ).toNat<l.length:=by omega
     have aFg:∀x∈l,x.ok n ρ:=λx hx=>by
      have:A.int k x∈(cs.drop off).take (bA.hi.toNat+1):=by rw[e];exact aWE hx
      exact hb _ (fw bd) _ (qx (mv this))
     have hz:((l.map (·.l)).map (·.den ρ)).getD (bA.l.den ρ).toNat 0=(l[(bA.l.den ρ).toNat]).l.den ρ:=by
      simp[U,hlt]
     have nm:=ar5 aFg _ (CL hlt);refine⟨_,n+1,_,tH _,agree.eg _ _ _,(show py w0 m bl n ρ _ (eg ρ n (((l.map (·.l)).map (·.den ρ)).getD (bA.l.den ρ).toNat 0)) (n+1) (.w (.one (.int k ⟨.var n,LQ l,LP l⟩))) from⟨⟨I.gU (AW n),?_,?_⟩,_,rfl,?_⟩),ag _ (by rw[hz];exact nm.1) (by rw[hz];exact nm.2) rfl⟩
     ·simp only[I.de,mL,hz];exact nm.1
     ·simp only[I.de,mL,hz];exact nm.2
     ·intro w hw;obtain⟨_,_,r,_,h2⟩:=hw.gP b cs t bd an;have hu:lu P ty=some false:=by
       unfold kindOf at jX;unfold lu;cases an:P.underlying ty with
       |none=>simp[an]at jX
       |some d=>cases d<;>simp[an]at jX<;>rfl
      have dS:cs[off+(bA.l.den ρ).toNat]?=some (.int k (l[(bA.l.den ρ).toNat])):=by
       have h3:((cs.drop off).take (bA.hi.toNat+1))[(bA.l.den ρ).toNat]?=some (.int k (l[(bA.l.den ρ).toNat])):=by rw[e];simp[hlt]
       rw[tF,if_pos (by omega),EJ]at h3;exact h3
      have hcell:w.cell? ⟨m b,off+(bA.l.den ρ).toNat,none⟩=some (.int k ((l[(bA.l.den ρ).toNat]).l.den ρ)):=by
       have aE2:off+(bA.l.den ρ).toNat<cs.length:=(List.getElem?_eq_some_iff.1 dS).1;simp only[oq,h2,xW,xX,if_false,Sr];rw[wG (by simpa using aE2),qw,dS];rfl
      simp only[W.den,A.den,I.de,mL,hz];simp[pZ,pt,loadVar,tr hu,hcell]
def ahC (P:cc) (gl:fK) (ty:bE) (g off:Nat) (bA:bZ):M V:=λn c=>
 match gl.find? (λp=>aU p.1 g),kindOf P ty with
 |some (_,cs),some k=>cond (((cs.drop off).take (bA.hi.toNat+1)).all (λp=>decide (p.1=k))&&aU ((cs.drop off).take (bA.hi.toNat+1)).length (bA.hi.toNat+1)&&decide (0<=bA.lo))
  (.Ci n (((cs.drop off).take (bA.hi.toNat+1)).map λp=> .const p.2) bA.l (B0 (((cs.drop off).take (bA.hi.toNat+1)).map (·.2))) (BY (((cs.drop off).take (bA.hi.toNat+1)).map (·.2)))
    (c (.w (.one (.int k ⟨.var n,B0 (((cs.drop off).take (bA.hi.toNat+1)).map (·.2)),BY (((cs.drop off).take (bA.hi.toNat+1)).map (·.2))⟩))) (n+1))) .stuck
 |_,_=> .stuck
theorem aQS (hg:fJ gl w0) (ty:bE) (g off:Nat) {bA:bZ} (O7:bA.ok n ρ):aE S L (ahC P gl ty g off bA) n ρ (py w0 m bl n ρ λw=>(pZ ty ((A.KU g off bA).den ρ m)).run P w):=by
 intro YD c ag;unfold ahC at ag;cases hf:gl.find? (λp=>aU p.1 g)with
 |none=>simp[hf,T.holds]at ag
 |some q=>
  obtain⟨kq,cs⟩:=q;have BL:kq=g:=by have:=Yd hf;exact b8 this
  subst BL;cases jX:kindOf P ty with
  |none=>simp[hf,jX,T.holds]at ag
  |some k=>
   simp only[hf,jX]at ag;generalize kc:(cs.drop off).take (bA.hi.toNat+1)=C at ag;cases hc:(C.all (λp=>decide (p.1=k))&&aU C.length (bA.hi.toNat+1)&&decide (0<=bA.lo))with
   |false=>simp[hc,T.holds]at ag
   |true=>
    simp only[hc,cond_true,T.holds]at ag;simp only[bI,decide_eq_true_eq]at hc;obtain⟨⟨c1,bQ⟩,cD⟩:=hc;have bQ:=b8 bQ;have Da:=O7.2;have hlt:(bA.l.den ρ).toNat<C.length:=by omega
    have hz:((C.map λp=>I.const p.2).map (·.den ρ)).getD (bA.l.den ρ).toNat 0=(C[(bA.l.den ρ).toNat]).2:=by
     simp[U,hlt,I.bC]
    have nm:=ar6 (C.map (·.2)) _ (aWE (CL hlt));refine⟨_,n+1,_,tH _,agree.eg _ _ _,(show py w0 m bl n ρ _ (eg ρ n (((C.map λp=>I.const p.2).map (·.den ρ)).getD (bA.l.den ρ).toNat 0)) (n+1) (.w (.one (.int k ⟨.var n,B0 (C.map (·.2)),BY (C.map (·.2))⟩))) from⟨⟨I.gU (AW n),?_,?_⟩,_,rfl,?_⟩),ag _ (by rw[hz];exact nm.1) (by rw[hz];exact nm.2) rfl⟩
    ·simp only[I.de,mL,hz];exact nm.1
    ·simp only[I.de,mL,hz];exact nm.2
    ·intro w hw;have hu:lu P ty=some false:=by
      unfold kindOf at jX;unfold lu;cases an:P.underlying ty with
      |none=>simp[an]at jX
      |some d=>cases d<;>simp[an]at jX<;>rfl
     have ni:(C[(bA.l.den ρ).toNat]).1=k:=by simpa using List.all_eq_true.1 c1 _ (CL hlt)
     have dS:cs[off+(bA.l.den ρ).toNat]?=some (C[(bA.l.den ρ).toNat]):=by
      have h3:C[(bA.l.den ρ).toNat]?=some (C[(bA.l.den ρ).toNat]):=lA hlt;have h4:C[(bA.l.den ρ).toNat]?=cs[off+(bA.l.den ρ).toNat]?:=by rw[<-kc,tF,if_pos (by omega),EJ]
      rw[<-h4,h3]
     obtain⟨Uv,t,Fl,aEn⟩:=hg kq cs (JN hf);have hcell:w.cell? ⟨kq,off+(bA.l.den ρ).toNat,none⟩=some (.int k (C[(bA.l.den ρ).toNat]).2):=by
      rw[hw.ext.cell _ Uv];simp only[oq,aEn,xW,xX,if_false,Sr];rw[qw,dS,AT,ni]
     simp only[W.den,A.den,I.de,mL,hz];simp[pZ,pt,loadVar,tr hu,hcell]
end
end Go.bX
namespace Go.bX
open M
abbrev gb:=dv->Option (List aM->List V->M V)
def G5 (P:cc) (o:Oper) (a:Act) (w:aC) (val:bf):Prop:=(execOp a.eval o).run P w= .ok (.value val) w∨∃f args,(execOp a.eval o).run P w= .ok (.enter f args) w/\Calls P f args w λe sR=>e= .returned val/\w.Extends sR
def x0 (P:cc) (f:dv) (args:Array bf) (w:aC) (val:bf):Prop:=(callFunc f args).run P w= .ok (.value val) w∨((callFunc f args).run P w= .ok (.enter f args) w/\Calls P f args w λe sR=>e= .returned val/\w.Extends sR)
def fN (ρ:Env) (m:Nat->Nat):List V->List bf->Prop
 |[],[]=>True
 |v::r,x::s=>v.rel ρ m x/\fN ρ m r s
 |_,_=>False
def im (S:Nat->List Int->List Int->Prop) (P:cc) (gl:fK) (w0:fg) (cal:gb):Prop:=∀f g,cal f=some g->∀(L:V->Env->Prop) (n:Nat) (ρ:Env) (m:Nat->Nat) (bl:List aM) (vs:List V) (xs:List bf),dr n bl.length ρ bl->(∃w,Mem w0 ρ m bl w)->(∀v∈vs,v.ok n bl.length ρ)->fN ρ m vs xs->aE S L (g bl vs) n ρ λae n' v=>v.ok n' bl.length ae/\∃val,v.rel ae m val/\∀w,Mem w0 ρ m bl w->x0 P f xs.toArray w val
def Om (P:cc) (s:bE) (f:Nat):Option Field:=match P.underlying s with|some (.struct fs)=>fs[f]?|_=>none
def wR (P:cc) (t:bE):Option (Nat×bE):=match P.underlying t with|some (.array n e)=>some (n,e)|_=>none
def kX (P:cc) (t:bE):Option bE:=match P.underlying t with|some (.slice e)=>some e|_=>none
def Wr (P:cc) (t:bE) (l:List A) (off:Nat):M V:=
 match lu P t,gI P t with
 |some true,some k=>pure (.w (.agg ((l.drop off).take k)))
 |some false,_=>match l[off]? with|some a=>pure (.w (.one a))|none=>fail
 |_,_=>fail
def aex (P:cc) (t:bE) (x:V) (bA:bZ):M V:=
 match x with
 | .w (.one (.ptr b off))=>match wR P t with
  |some (len,e)=>match gI P e with
   |some s=>match bA.l.fk with
    |some i=>cond (decide (0<=i)&&decide (i<len)) (pure (.w (.one (.ptr b (off+i.toNat*s))))) fail
    |none=>cond (aU s 1&&decide (0<=bA.lo)&&decide (bA.hi<len)) (pure (.w (.one (.q5 b off bA)))) fail
   |none=>fail
  |none=>fail
 | .w (.one (.gptr g off))=>match wR P t with
  |some (len,e)=>match gI P e with
   |some s=>match bA.l.fk with
    |some i=>cond (decide (0<=i)&&decide (i<len)) (pure (.w (.one (.gptr g (off+i.toNat*s))))) fail
    |none=>cond (aU s 1) (bind (hK 74 [bA.l,.const len]) λ_=>pure (.w (.one (.KU g off ⟨bA.l,0,(len:Int)-1⟩)))) fail
   |none=>fail
  |none=>fail
 | .w (.one (.slc b off len _))=>match kX P t with
  |some e=>match gI P e with
   |some s=>match bA.l.fk with
    |some i=>cond (decide (0<=i)&&decide (i<len)) (pure (.w (.one (.ptr b (off+i.toNat*s))))) fail
    |none=>cond (aU s 1&&decide (0<=bA.lo)&&decide (bA.hi<len)) (pure (.w (.one (.q5 b off bA)))) fail
   |none=>fail
  |none=>fail
 | .sK b len _=>match kX P t with
  |some e=>match gI P e with
   |some s=>match bA.l.fk with
    |some i=>cond (decide (0<=i)&&decide (i<len)) (pure (.w (.one (.ptr b (i.toNat*s))))) fail
    |none=>fail
   |none=>fail
  |none=>fail
 |_=>fail
def D3:List V->Option (List A)
 |[]=>some []
 | .w (.one a)::r=>match D3 r with|some l=>some (a::l)|none=>none
 |_::_=>none
def Fi:List A->List A->Option bO
 |[],[]=>some (.lit true)
 | .int k x::r,.int bJ y::r'=>cond (decide (k=bJ)) (match Fi r r' with|some b=>some (.mkAnd (.mkEq x y) b)|none=>none) none
 |_,_=>none
def acr (P:cc) (t:bE) (x y:List A):Option bO:=
 match wR P t with
 |some (len,e)=>match kindOf P e,gI P e with
  |some _,some 1=>cond (aU x.length len&&aU y.length len&& !P.eqGuardType P.depth t) (Fi x y) none
  |_,_=>none
 |none=>none
def KO (P:cc):Nat->List Field->Bool
 |_,[]=>true
 |i,f::r=>(f.name != "_")&&aU f.offset i&&KO P (i+1) r
noncomputable def w3 (P:cc):List Field->List A->List A->M bO
 |[],[],[]=>pure (.lit true)
 |f::fs,.int k a::xs,.int bJ b::iG=>match kindOf P f.type with
  |some k2=>cond (decide (k=bJ)) (bind (w3 P fs xs iG) λr=>pure (.mkAnd (.mkEq a b) r)) fail
  |none=>fail
 |f::fs,.str a::xs,.str b::iG=>match P.underlying f.type with
  |some .string=>bind (gF 4 [a,b] 0 1) λl=>bind (w3 P fs xs iG) λr=>pure (.mkAnd (.mkEq ⟨l,0,1⟩ (.const 1)) r)
  |_=>fail
 |_,_,_=>fail
noncomputable def TX (P:cc) (g:bE->List A->List A->M bO):Nat->List Field->List A->List A->M bO
 |_,[],_,_=>pure (.lit true)
 |o,f::fs,x,y=>match gI P f.type with
  |some s=>cond ((f.name != "_")&&aU f.offset o) (bind (g f.type (x.take s) (y.take s)) λb=>bind (TX P g (o+s) fs (x.drop s) (y.drop s)) λr=>pure (.mkAnd b r)) fail
  |none=>fail
noncomputable def KM (P:cc):Nat->bE->List A->List A->M bO
 |0,_,_,_=>fail
 |d+1,t,x,y=>match P.underlying t with
  |some (.int k)=>match x,y with
   |[.int k1 a],[.int k2 b]=>cond (decide (k1=k2)) (pure (.mkEq a b)) fail
   |_,_=>fail
  |some .string=>match x,y with
   |[.str a],[.str b]=>bind (gF 4 [a,b] 0 1) λl=>pure (.mkEq ⟨l,0,1⟩ (.const 1))
   |_,_=>fail
  |some .bool=>match x,y with
   |[.bool a],[.bool b]=>pure (.mkIff a b)
   |_,_=>fail
  |some (.struct fs)=>cond (!P.stoodInHeld t) (TX P (KM P d) 0 fs.toList x y) fail
  |_=>fail
noncomputable def TY (P:cc) (t:bE) (x y:List A):M bO:=
 match P.underlying t with
 |some (.struct fs)=>cond (KO P 0 fs.toList&& !P.stoodInHeld t&& !P.eqGuardType P.depth t) (cond (fs.toList.all λf=>match P.underlying f.type with|some (.int _)=>true|some .string=>true|_=>false) (w3 P fs.toList x y) (KM P 8 t x y))
  (cond (!P.eqGuardType P.depth t) (KM P 8 t x y) fail)
 |_=>fail
noncomputable def ahZ (op:BinOp) (a b:I):M V:=
 match op with
 | .add=>bind (hK 3 [a,b]) λ_=>bind (gF 3 [a,b] 0 p3) λl=>pure (.w (.one (.str l)))
 | .eql=>bind (gF 4 [a,b] 0 1) λl=>pure (.w (.one (.bool (.mkEq ⟨l,0,1⟩ (.const 1)))))
 | .neq=>bind (gF 4 [a,b] 0 1) λl=>pure (.w (.one (.bool (.mkNot (.mkEq ⟨l,0,1⟩ (.const 1))))))
 | .lss=>bind (gF 5 [a,b] 0 1) λl=>pure (.w (.one (.bool (.mkEq ⟨l,0,1⟩ (.const 1)))))
 | .geq=>bind (gF 5 [a,b] 0 1) λl=>pure (.w (.one (.bool (.mkNot (.mkEq ⟨l,0,1⟩ (.const 1))))))
 |_=>fail
def aue (s:I):M V:=bind (gF 0 [s] 0 0x7fffffffffffffff) λl=>pure (.w (.one (.int .i64 ⟨l,0,0x7fffffffffffffff⟩)))
def aud (s i:I):M V:=bind (hK 1 [s,i]) λ_=>bind (gF 1 [s,i] 0 255) λl=>pure (.w (.one (.int .u8 ⟨l,0,255⟩)))
noncomputable def Xf (s a b:I):M V:=bind (hK 2 [s,a,b]) λ_=>bind (gF 2 [s,a,b] 0 p3) λl=>pure (.w (.one (.str l)))
def uj (v:V):Option I:=match v with| .w (.one (.int _ a))=>some a.l|_=>none
noncomputable def ah0 (tm:List V) (s:I) (lo hi:Option rl):M V:=
 match(match lo with|none=>some (I.const 0)|some x=>uj (cB tm x))with
 |none=>fail
 |some a=>match hi with
  |none=>bind (gF 0 [s] 0 0x7fffffffffffffff) λb=>Xf s a b
  |some y=>match uj (cB tm y)with
   |some b=>Xf s a b
   |none=>fail
noncomputable def amo (P:cc) (op:BinOp) (t:bE) (x y:V):M V:=
 match x,y with
 | .w (.one (.int k a)),.w (.one (.int bJ b))=>bind (abe op k a bJ b) λr=>pure (.w (.one r))
 | .w (.agg a),.w (.agg b)=>match op,acr P t a b with
  | .eql,some e=>pure (.w (.one (.bool e)))
  | .neq,some e=>pure (.w (.one (.bool (.mkNot e))))
  | .eql,none=>bind (TY P t a b) λe=>pure (.w (.one (.bool e)))
  | .neq,none=>bind (TY P t a b) λe=>pure (.w (.one (.bool (.mkNot e))))
  |_,_=>fail
 | .w (.one (.str a)),.w (.one (.str b))=>ahZ op a b
 | .w (.one (.bool a)),.w (.one (.bool b))=>match op,P.underlying t with
  | .eql,some .bool=>pure (.w (.one (.bool (.mkIff a b))))
  | .neq,some .bool=>pure (.w (.one (.bool (.mkNot (.mkIff a b)))))
  |_,_=>fail
 |_,_=>fail
def auT (op:UnOp) (x:V):M V:=
 match op,x with
 | .not,.w (.one (.bool b))=>pure (.w (.one (.bool (.mkNot b))))
 | .xor,.w (.one (.int k a))=>cond (!k.signed&&decide (0<=a.lo)&&decide (a.hi<two k)) (pure (.w (.one (.int k ⟨(I.const (two k-1)).sub a.l,two k-1-a.hi,two k-1-a.lo⟩)))) fail
 | .neg,.w (.one (.int k a))=>bind (Cn k ⟨a.l.smul (-1),-a.hi,-a.lo⟩) λr=>pure (.w (.one (.int k r)))
 |_,_=>fail
def am1 (P:cc) (src dst:bE) (x:V):M V:=
 match P.underlying src,P.underlying dst,x with
 |some _,some .string,.w (.one (.int _ a))=>match a.l.fk with
  |some c=>cond (cV (Yk c).size 1000) (pure (.w (.one (.str (.const (k5 (Yk c).data.toList)))))) fail
  |none=>fail
 |_,_,_=>match P.underlying src,kindOf P dst,x with
 |some _,some k,.w (.one (.int _ a))=>bind (Cn k a) λr=>pure (.w (.one (.int k r)))
 |_,_,_=>fail
def Tw (v:V):Option Int:=match v with| .w (.one (.int _ a))=>a.l.fk|_=>none
def Wk (tm:List V):Option rl->Option (Option Int)
 |none=>some none
 |some x=>match Tw (cB tm x)with|some c=>some (some c)|none=>none
def at0 (P:cc) (t:bE) (x:V) (lo hi:Option Int):M V:=
 match x,wR P t with
 | .w (.one (.ptr b off)),some (n,e)=>match gI P e with
  |some s=>cond (decide (0<=lo.getD 0)&&decide (lo.getD 0<=hi.getD n)&&decide (hi.getD n<=n)&&decide (lo.getD 0<n)) (pure (.w (.one (.slc b (off+(lo.getD 0).toNat*s) ((hi.getD n).toNat-(lo.getD 0).toNat) (n-(lo.getD 0).toNat))))) fail
  |none=>fail
 | .w (.one (.slc b off len cap)),none=>match kX P t with
  |some e=>match gI P e with
   |some s=>cond (decide (0<=lo.getD 0)&&decide (lo.getD 0<=hi.getD len)&&decide (hi.getD len<=cap)&&decide (lo.getD 0<cap)) (pure (.w (.one (.slc b (off+(lo.getD 0).toNat*s) ((hi.getD len).toNat-(lo.getD 0).toNat) (cap-(lo.getD 0).toNat))))) fail
   |none=>fail
  |none=>fail
 |_,_=>fail
def asq (x:V):M V:=
 match x with
 | .w (.one (.ptr b o))=>pure (.w (.one (.ptr b o)))
 | .w (.one (.q5 b o i))=>pure (.w (.one (.q5 b o i)))
 | .w (.one (.gptr g o))=>pure (.w (.one (.gptr g o)))
 |_=>fail
def W.cells:W->List A
 | .one a=>[a]
 | .agg l=>l
def qu (P:cc) (t:bE):Option (List A):=
 match P.info? t with
 |some i=>match i.zero with
  |some z=>Dc z.cells.toList
  |none=>none
 |none=>none
def BC (place:Nat->Option (Nat×Nat)):List A->List (Nat×V)->Option (List A)
 |cells,[]=>some cells
 |cells,(i,.w u)::r=>match place i with
  |some (off,size)=>cond (aU u.cells.length size&&cV (off+size) cells.length) (BC place (cells.take off++u.cells++cells.drop (off+size)) r) none
  |none=>none
 |_,_::_=>none
def abl (P:cc) (t:bE) (parts:List (Nat×V)):Option (List A):=
 match qu P t,P.underlying t with
 |some z,some (.array _ e)=>match gI P e with
  |some s=>BC (λi=>some (i*s,s)) z parts
  |none=>none
 |some z,some (.struct fields)=>match fields.toList.mapM (λf=>(P.info? f.type).map λi=>(f.offset,i.size))with
  |some places=>BC (places.toArray[·]?) z parts
  |none=>none
 |_,_=>none
noncomputable def ag4 (P:cc) (cal:gb) (gl:fK) (bl:List aM) (tm:List V) (o:Oper):M V:=
 match o.op with
 | .move x| .assign x=>pure (cB tm x)
 | .load t x=>match cB tm x with
  | .w (.one (.q5 b off bA))=>ahD P bl t b off bA
  | .w (.one (.KU g off bA))=>ahC P gl t g off bA
  | .w (.one p)=>afT P bl gl t p
  |_=>fail
 | .nilCheck x=>asq (cB tm x)
 | .pick c x y=>match cB tm c with
  | .w (.one (.bool (.lit v)))=>pure (cond v (cB tm x) (cB tm y))
  |_=>fail
 | .binOp op t x y _=>amo P op t (cB tm x) (cB tm y)
 | .unOp op _ x=>auT op (cB tm x)
 | .convert s d x=>am1 P s d (cB tm x)
 | .indexAddr t x bA=>match cB tm bA with
  | .w (.one (.int _ i))=>aex P t (cB tm x) i
  |_=>fail
 | .index t x bA=>match cB tm x with
  | .w (.one (.str s))=>match P.underlying t,uj (cB tm bA)with
   |some .string,some i=>aud s i
   |_,_=>fail
  |_=>match cB tm x,Tw (cB tm bA),wR P t with
   | .w (.agg l),some i,some (len,e)=>match gI P e with
    |some s=>cond (decide (0<=i)&&decide (i<len)) (Wr P e l (i.toNat*s)) fail
    |none=>fail
   |_,_,_=>fail
 | .fieldAddr s x f=>match cB tm x,Om P s f with
  | .w (.one (.ptr b off)),some fd=>match gI P fd.type with
   |some (_+1)=>pure (.w (.one (.ptr b (off+fd.offset))))
   |_=>fail
  |_,_=>fail
 | .field s x f=>match cB tm x,Om P s f with
  | .w (.agg l),some fd=>Wr P fd.type l fd.offset
  |_,_=>fail
 | .extract x i=>match cB tm x with
  | .jQ l=>match l[i]? with|some u=>pure (.w u)|none=>fail
  |_=>fail
 | .slice t x lo hi none=>match cB tm x,P.underlying t with
  | .w (.one (.str s)),some .string=>ah0 tm s lo hi
  |_,_=>match Wk tm lo,Wk tm hi with
   |some l,some h=>at0 P t (cB tm x) l h
   |_,_=>fail
 | .call c=>match c.callee with
  | .value (.func f)=>match cal f with
   |some g=>g bl (c.args.toList.map (cB tm))
   |none=>fail
  | .builtin .len=>match c.args.toList,c.argTypes.toList with
   |[x],[t]=>match cB tm x,P.underlying t with
    | .w (.one (.str s)),some .string=>aue s
    |_,_=>match cB tm x,kX P t with
     | .w (.one (.slc _ _ len _)),some _=>pure (.w (.one (.int .i64 (.const len))))
     | .sK _ len _,some _=>pure (.w (.one (.int .i64 (.const len))))
     |_,_=>fail
   |_,_=>fail
  |_=>fail
 | .makeFunc (.func f) first lC=>match first.toList,D3 (lC.toList.map (cB tm))with
  |[],some l=>pure (.sZ f l)
  |_,_=>fail
 | .build t parts=>match abl P t (parts.toList.map λp=>(p.1,cB tm p.2))with
  |some l=>pure (.w (.agg l))
  |none=>fail
 | .sliceToArrayPointer t x=>match cB tm x,wR P t with
  | .sK b len _,some (k,_)=>cond (cV k len) (pure (.w (.one (.ptr b 0)))) fail
  | .w (.one (.slc b off len _)),some (k,_)=>cond (cV k len) (pure (.w (.one (.ptr b off)))) fail
  |_,_=>fail
 |_=>fail
section
variable {S:Nat->List Int->List Int->Prop} {L:V->Env->Prop} {n:Nat} {ρ:Env} {m:Nat->Nat} {bl:List aM} {gl:fK} {w0:fg} {P:cc} {tm:List V} {a:Act}
def px (w0:fg) (m:Nat->Nat) (bl:List aM) (n:Nat) (ρ:Env) (P:cc) (o:Oper) (a:Act) (ae:Env) (n':Nat) (v:V):Prop:=v.ok n' bl.length ae/\∃val,v.rel ae m val/\∀w,Mem w0 ρ m bl w->G5 P o a w val
theorem px.of_run {o:Oper} {s:Sem bf} {ae:Env} {n':Nat} {v:V} (he:execOp a.eval o=(do pure (mx (<-s)))) (h:py w0 m bl n ρ (λw=>s.run P w) ae n' v):px w0 m bl n ρ P o a ae n' v:=by
 obtain⟨h1,val,h2,h3⟩:=h;exact⟨h1,val,h2,λw hw=> .inl (by rw[he];simp[h3 w hw])⟩
theorem W.Tt {n nb:Nat} {ρ:Env} {m:Nat->Nat} (u:W) (hu:u.ok n nb ρ):(u.den ρ m).cells=(u.cells.map (A.den ρ m)).toArray:=by
 cases u with
 |one a=>
  have:=A.Wf (m:=m) hu;simp only[W.den,W.cells,df,gr];generalize A.den ρ m a=v at*;cases v<;>first|rfl|simp[Value.oneCell']at this
 |agg l=>simp[W.den,W.cells,Value.cells]
theorem W.Ku {n nb:Nat} {ρ:Env} {u:W} (hu:u.ok n nb ρ):∀a∈u.cells,A.ok n nb ρ a:=by
 cases u with
 |one a=>intro x hx;simp[W.cells]at hx;subst hx;exact hu
 |agg l=>exact hu
def SP (n nb:Nat) (ρ:Env) (m:Nat->Nat):List (Nat×V)->List (Nat×bf)->Prop
 |[],[]=>True
 |p::r,q::s=>(p.1=q.1/\V.ok n nb ρ p.2/\V.rel ρ m p.2 q.2)/\SP n nb ρ m r s
 |_,_=>False
theorem aok (off:Nat):∀(src:List bf) (dst:Array bf) (k:Nat),off+k+src.length<=dst.size->
 ((src.zipIdx k).foldl (λcs (c,j)=>cs.setIfInBounds (off+j) c) dst)=(dst.toList.take (off+k)++src++dst.toList.drop (off+k+src.length)).toArray
 |[],dst,k,h=>by simp
 |c::src,dst,k,h=>by
  simp only[kx]at h;rw[List.zipIdx_cons,List.foldl_cons,aok off src _ (k+1) (by simp;omega)]
  congr 1
  simp only[Array.toList_setIfInBounds,kx];have h1:off+k<dst.toList.length:=by simp;omega
  rw[List.take_set,show off+(k+1)=off+k+1 by omega,List.drop_set_of_lt (by omega),List.take_add_one,lA h1];rw[show off+k+1+src.length=off+k+(src.length+1) by omega];simp only[Option.toList_some];rw[List.set_append_right _ _ (by simp;omega)];have hm:min (off+k) dst.size=off+k:=CI (by omega);simp[hm]
theorem T2 {n nb:Nat} {ρ:Env} {m:Nat->Nat} {place:Nat->Option (Nat×Nat)}:∀{parts:List (Nat×V)} {vals:List (Nat×bf)} {cells l:List A},BC place cells parts=some l->(∀a∈cells,A.ok n nb ρ a)->
 SP n nb ρ m parts vals->(∀a∈l,A.ok n nb ρ a)/\awp place (cells.map (A.den ρ m)).toArray vals=some (l.map (A.den ρ m)).toArray
 |[],[],cells,l,h,hc,_=>by simp[BC]at h;subst h;exact⟨hc,rfl⟩
 |(i,.w u)::r,(FM,x)::s,cells,l,h,hc,⟨⟨av,aH,ca⟩,hr⟩=>by
  simp only at av;subst av;simp only[V.rel]at ca;have ca:x=u.den ρ m:=ca;subst ca;simp only[BC]at h;cases hp:place i with
  |none=>simp[hp]at h
  |some q=>
   obtain⟨off,size⟩:=q;simp only[hp]at h;cases an:(aU u.cells.length size&&cV (off+size) cells.length)with
   |false=>simp[an]at h
   |true=>
    simp only[an,cond_true]at h;simp only[bI]at an;have aQ:=b8 an.1;have bn:=gq an.2;have ady:=W.Tt (m:=m) u aH;obtain⟨g1,g2⟩:=T2 (m:=m) h (λa ha=>by
     rcases List.mem_append.1 ha with ha|ha
     ·rcases List.mem_append.1 ha with ha|ha
      ·exact hc a (mv ha)
      ·exact W.Ku aH a ha
     ·exact hc a (qx ha)) hr
    refine⟨g1,?_⟩;simp only[awp,hp,ady,List.size_toArray,ps,aQ];rw[if_neg (by simp;omega)];rw[<-g2]
    congr 1
    have:=aok off (u.cells.map (A.den ρ m)) (cells.map (A.den ρ m)).toArray 0 (by simp;omega);simp only[m3]at this;rw[<-Array.foldl_toList];simp only[Array.toList_zipIdx];rw[this];simp[M0,M1,aQ]
 |(_,.jQ _)::_,_,_,_,h,_,_=>by simp[BC]at h
 |(_,.any)::_,_,_,_,h,_,_=>by simp[BC]at h
 |[],_::_,_,_,_,_,hr=>hr.elim
 |(_,.w _)::_,[],_,_,_,_,hr=>hr.elim
theorem azm {n nb:Nat} {ρ:Env} {m:Nat->Nat} {t:bE} {parts:List (Nat×V)} {vals:List (Nat×bf)} {l:List A} (h:abl P t parts=some l)
 (hr:SP n nb ρ m parts vals):(∀a∈l,A.ok n nb ρ a)/\P.built t vals=some (l.map (A.den ρ m)).toArray:=by
 unfold abl at h;unfold Program.built;cases hz:qu P t with
 |none=>simp[hz]at h
 |some z=>
  unfold qu at hz;cases hi:P.info? t with
  |none=>simp[hi]at hz
  |some it=>
   simp only[hi]at hz;cases FL:it.zero with
   |none=>simp[FL]at hz
   |some z0=>
    simp only[FL]at hz;have Ll:=Dd hz n nb ρ m;have hz1:z0.cells=(z.map (A.den ρ m)).toArray:=by rw[Ll.2]
    cases hu:P.underlying t with
    |none=>simp[qu,hi,FL,hz,hu]at h
    |some d=>
     cases d<;>try(simp[qu,hi,FL,hz,hu]at h;done)
     case array len e=>
      simp only[qu,hi,FL,hz,hu,gI]at h;cases adN:P.info? e with
      |none=>simp[adN]at h
      |some aYy=>
       simp only[adN]at h;simp only[FL,adN,hz1];exact T2 h Ll.1 hr
     case struct fields=>
      simp only[qu,hi,FL,hz,hu]at h;cases hp:fields.toList.mapM (λf=>(P.info? f.type).map λi=>(f.offset,i.size))with
      |none=>simp[hp]at h
      |some places=>
       simp only[hp]at h;simp only[FL,hp,hz1];exact T2 h Ll.1 hr
theorem asP {t:bE} {l:List A} {off:Nat} (hl:∀x∈l,A.ok n bl.length ρ x):aE S L (Wr P t l off) n ρ (py w0 m bl n ρ λw=>(part t (l.map (A.den ρ m)).toArray off).run P w):=by
 unfold Wr;cases h1:lu P t with
 |none=>exact aE.fail
 |some b=>
  cases b with
  |true=>
   cases h2:gI P t with
   |none=>exact aE.fail
   |some k=>
    refine aE.pure ⟨λx hx=>hl x (qx (mv hx)),_,rfl,λw _=>?_⟩;simp[part,tr h1,kW h2,W.den,M0,M1,aWK]
    try congr 1
  |false=>
   cases h3:l[off]? with
   |none=>exact aE.fail
   |some x=>
    refine aE.pure ⟨hl x (fw h3),_,rfl,λw _=>?_⟩;simp[part,tr h1,h3,W.den]
theorem zm {t:bE} {len:Nat} {e:bE} (h:wR P t=some (len,e)):P.underlying t=some (.array len e):=by
 unfold wR at h;cases hu:P.underlying t with
 |none=>simp[hu]at h
 |some d=>cases d<;>simp[hu]at h<;>simp[h]
theorem jP {t e:bE} (h:kX P t=some e):P.underlying t=some (.slice e):=by
 unfold kX at h;cases hu:P.underlying t with
 |none=>simp[hu]at h
 |some d=>cases d<;>simp[hu]at h<;>simp[h]
theorem afg {t:bE} {k:eB} (h:kindOf P t=some k):P.underlying t=some (.int k):=by
 unfold kindOf at h;cases hu:P.underlying t with
 |none=>simp[hu]at h
 |some d=>cases d<;>simp[hu]at h<;>simp[h]
theorem acx {s:bE} {f:Nat} {fd:Field} (h:Om P s f=some fd):∃fs,P.underlying s=some (.struct fs)/\fs[f]?=some fd:=by
 unfold Om at h;cases hu:P.underlying s with
 |none=>simp[hu]at h
 |some d=>cases d<;>simp[hu]at h<;>exact⟨_,rfl,h⟩
theorem aGH {t:bE} {x:V} {k:eB} {bA:bZ} {X:bf} (hx:x.ok n bl.length ρ) (cb:x.rel ρ m X) (hi:bA.ok n ρ):
 aE S L (aex P t x bA) n ρ (py w0 m bl n ρ λw=>(xV t X (.int k (bA.l.den ρ))).run P w):=by
 unfold aex;split
 ·rename_i b off;simp only[V.rel,W.den,A.den]at cb;subst cb;cases h1:wR P t with
  |none=>exact aE.fail
  |some q=>
   obtain⟨len,e⟩:=q;cases h2:gI P e with
   |none=>simp only[h2];exact aE.fail
   |some s=>
    simp only[h2];cases h3:bA.l.fk with
    |some i=>
     refine fe λhc=>aE.pure ⟨hx,_,rfl,λw _=>?_⟩;simp only[bI,decide_eq_true_eq]at hc;simp[xV,asIntOf,gz (zm h1),pt,I.ll h3,hc,kW h2,lk,W.den,A.den]
    |none=>
     refine fe λhc=>aE.pure ⟨?_,_,rfl,λw _=>?_⟩
     ·simp only[bI,decide_eq_true_eq]at hc;exact⟨hx,hi,hc.1.2⟩
     ·simp only[bI,decide_eq_true_eq]at hc;have hs:=b8 hc.1.1;subst hs;have b4:=hi.2;have c1:0<=bA.l.den ρ:=by omega
      have bQ:bA.l.den ρ<len:=by omega
      simp[xV,asIntOf,gz (zm h1),pt,c1,bQ,kW h2,lk,W.den,A.den]
 ·rename_i g off;simp only[V.rel,W.den,A.den]at cb;subst cb;cases h1:wR P t with
  |none=>exact aE.fail
  |some q=>
   obtain⟨len,e⟩:=q;cases h2:gI P e with
   |none=>simp only[h2];exact aE.fail
   |some s=>
    simp only[h2];cases h3:bA.l.fk with
    |some i=>
     refine fe λhc=>aE.pure ⟨trivial,_,rfl,λw _=>?_⟩;simp only[bI,decide_eq_true_eq]at hc;simp[xV,asIntOf,gz (zm h1),pt,I.ll h3,hc,kW h2,lk,W.den,A.den]
    |none=>
     refine fe λhc=>kb λan=>aE.pure ⟨?_,_,rfl,λw _=>?_⟩
     ·simp only[df,gr,I.bC,aj,NY]at an;exact⟨⟨hi.1,by show(0:Int)<=_;exact an.1,by show _<=((len:Int)-1);have:=an.2;simp only;omega⟩,cn _⟩
     ·simp only[df,gr,I.bC,aj,NY]at an;have hs:=b8 hc;subst hs;simp[xV,asIntOf,gz (zm h1),pt,an.1,an.2,kW h2,lk,W.den,A.den]
 ·rename_i b off len cap;simp only[V.rel,W.den,A.den]at cb;subst cb;cases h1:kX P t with
  |none=>exact aE.fail
  |some e=>
   cases h2:gI P e with
   |none=>simp only[h2];exact aE.fail
   |some s=>
    simp only[h2];cases h3:bA.l.fk with
    |some i=>
     refine fe λhc=>aE.pure ⟨hx,_,rfl,λw _=>?_⟩;simp only[bI,decide_eq_true_eq]at hc;simp[xV,asIntOf,gz (jP h1),pt,I.ll h3,hc,kW h2,lk,W.den,A.den]
    |none=>
     refine fe λhc=>aE.pure ⟨?_,_,rfl,λw _=>?_⟩
     ·simp only[bI,decide_eq_true_eq]at hc;exact⟨hx,hi,hc.1.2⟩
     ·simp only[bI,decide_eq_true_eq]at hc;have hs:=b8 hc.1.1;subst hs;have b4:=hi.2;have c1:0<=bA.l.den ρ:=by omega
      have bQ:bA.l.den ρ<len:=by omega
      simp[xV,asIntOf,gz (jP h1),pt,c1,bQ,kW h2,lk,W.den,A.den]
 ·rename_i b len lo;obtain⟨c,_,cb⟩:=cb;subst cb;cases h1:kX P t with
  |none=>exact aE.fail
  |some e=>
   cases h2:gI P e with
   |none=>simp only[h2];exact aE.fail
   |some s=>
    simp only[h2];cases h3:bA.l.fk with
    |some i=>
     refine fe λhc=>aE.pure ⟨hx,_,rfl,λw _=>?_⟩;simp only[bI,decide_eq_true_eq]at hc;simp[xV,asIntOf,gz (jP h1),pt,I.ll h3,hc,kW h2,lk,W.den,A.den]
    |none=>exact aE.fail
 ·exact aE.fail
theorem aLB {vs:List V}:∀{l:List A} {xs:List bf},D3 vs=some l->(∀v∈vs,V.ok n bl.length ρ v)->fN ρ m vs xs->(∀a∈l,A.ok n bl.length ρ a)/\xs=l.map (A.den ρ m):=by
 induction vs with
 |nil=>
  intro l xs h _ hr;simp[D3]at h;subst h;cases xs with
  |nil=>exact⟨λ_ h=>by simp at h,rfl⟩
  |cons _ _=>exact hr.elim
 |cons v r ih=>
  intro l xs h cm hr;cases xs with
  |nil=>cases v<;>exact hr.elim
  |cons x s=>
   cases v with
   |w y=>
    cases y with
    |agg q=>simp[D3]at h
    |one a=>
     cases h1:D3 r with
     |none=>simp[D3,h1]at h
     |some l'=>
      simp only[D3,h1,bu]at h;subst h;obtain⟨av,aH⟩:=ih h1 (λv hv=>cm v (e5 _ hv)) hr.2;have h0:x=a.den ρ m:=hr.1;exact⟨λb hb=>by rcases List.mem_cons.1 hb with rfl|hb;exact cm (.w (.one b)) (by simp);exact av b hb,by rw[h0,aH];rfl⟩
   |_=>simp[D3]at h
theorem aBm {e:bE} {k:eB} (he:P.underlying e=some (.int k)) (d:Nat) (xs iG:Array bf) (w:aC):∀(l l':List A) (i:Nat) (b:bO),Fi l l'=some b->(∀x∈l,A.ok n bl.length ρ x)->(∀x∈l',A.ok n bl.length ρ x)->
 xs.toList.drop i=l.map (A.den ρ m)->iG.toList.drop i=l'.map (A.den ρ m)->b.bU n/\(Op.eqItems (d+1) e 1 xs iG (List.range' i l.length)).run P w= .ok (b.den ρ) w:=by
 intro l;induction l with
 |nil=>
  intro l' i b h _ _ _ _;cases l' with
  |nil=>simp[Fi]at h;subst h;exact⟨trivial,by simp[Op.eqItems,bO.den]⟩
  |cons y r'=>simp[Fi]at h
 |cons x r ih=>
  intro l' i b h hl FE hx hy;cases l' with
  |nil=>cases x<;>simp[Fi]at h
  |cons y r'=>
   cases x<;>cases y<;>simp only[Fi]at h<;>try(cases h;done)
   rename_i k1 x k2 y;by_cases ag:k1=k2
   ·subst ag;simp only[decide_true,cond_true]at h;cases hr:Fi r r' with
    |none=>simp[hr]at h
    |some b'=>
     simp only[hr,bu]at h;subst h;have aFj:x.ok n ρ:=hl (.int k1 x) (by simp);have aFk:y.ok n ρ:=FE (.int k1 y) (by simp);have av:=bO.x7 aFj aFk;have Ow:xs[i]?=some (.int k1 (x.l.den ρ)):=by
      have:=congrArg M4 hx;simpa [A.den]using this
     have Ox:iG[i]?=some (.int k1 (y.l.den ρ)):=by
      have:=congrArg M4 hy;simpa [A.den]using this
     have HB:xs.toList.drop (i+1)=r.map (A.den ρ m):=by
      have:=congrArg Ss hx;simpa using this
     have bo:iG.toList.drop (i+1)=r'.map (A.den ρ m):=by
      have:=congrArg Ss hy;simpa using this
     obtain⟨s2,r2⟩:=ih r' (i+1) b' hr (λz hz=>hl z (e5 _ hz)) (λz hz=>FE z (e5 _ hz)) HB bo;refine⟨bO.W1 av.2 s2,?_⟩;simp only[kx,List.range'_succ,Op.eqItems,jS];have D6:(part e xs (i*1)).run P w= .ok (.int k1 (x.l.den ρ)) w:=by simp[part,isAgg,gz he,Ow]
     have D7:(part e iG (i*1)).run P w= .ok (.int k1 (y.l.den ρ)) w:=by simp[part,isAgg,gz he,Ox]
     simp only[D6,D7,j6,run_equalIn_int w d e k1 k _ _ he,bO.Tz,av.1];by_cases an:x.l.den ρ=y.l.den ρ
     ·simp[an,r2]
     ·simp[an]
   ·simp[ag]at h
theorem anU {t:bE} {x y:List A} {b:bO} (h:acr P t x y=some b) (hx:∀z∈x,A.ok n bl.length ρ z) (hy:∀z∈y,A.ok n bl.length ρ z):
 b.bU n/\P.eqGuardType P.depth t=false/\∀w,(Yl 10000 t (.agg (x.map (A.den ρ m)).toArray) (.agg (y.map (A.den ρ m)).toArray)).run P w= .ok (b.den ρ) w:=by
 unfold acr at h;cases h1:wR P t with
 |none=>simp[h1]at h
 |some q=>
  obtain⟨len,e⟩:=q;simp only[h1]at h;cases h2:kindOf P e with
  |none=>simp[h2]at h
  |some k=>
   cases h3:gI P e with
   |none=>simp[h2,h3]at h
   |some s=>
    match s,h3 with
    |0,h3=>simp[h2,h3]at h
    |s+2,h3=>simp[h2,h3]at h
    |1,h3=>
     simp only[h2,h3]at h;cases hc:(aU x.length len&&aU y.length len&& !P.eqGuardType P.depth t)with
     |false=>simp[hc]at h
     |true=>
      simp only[hc,cond_true]at h;simp only[bI,c6]at hc;have hl:=b8 hc.1.1;have aES:∃i,P.info? e=some i/\P.cellsOf e=1:=by
       unfold gI at h3;cases an:P.info? e with
       |none=>simp[an]at h3
       |some i=>simp[an]at h3;exact⟨i,rfl,by simp[Program.cellsOf,an,h3]⟩
      obtain⟨i,Dq,eT⟩:=aES;have xe:=λw=>aBm (P:=P) (bl:=bl) (n:=n) (ρ:=ρ) (m:=m) (afg h2) 9998 (x.map (A.den ρ m)).toArray (y.map (A.den ρ m)).toArray w x y 0 b h hx hy (by simp) (by simp);refine⟨(xe default).1,hc.2,λw=>?_⟩;rw[show(10000:Nat)=9999+1 from rfl,run_equalIn_array w 9999 _ _ (zm h1) Dq,eT,List.range_eq_range',<-hl];exact(xe w).2
theorem Hu (l:List UInt8):(eS l).toList=l:=aZL l
theorem C8 (l:List UInt8):(eS l).size=l.length:=by simp[eS,aZM]
theorem amn (l l':List UInt8):(l==l')=decide ((if l=l' then(1:Int)else 0)=1):=by
 by_cases h:l=l'
 ·subst h;simp
 ·rw[if_neg h];simp[h]
theorem NB (p:Prop) [Decidable p]:(0:Int)<=(if p then 1 else 0)/\(if p then(1:Int)else 0)<=1:=by split<;>decide
theorem arw (b:Bool):b=decide ((if b=true then(1:Int)else 0)=1):=by cases b<;>rfl
theorem aRq {op:BinOp} {t:bE} {x y:rl} {p q:I} (hp:(A.str p).ok n bl.length ρ) (an:(A.str q).ok n bl.length ρ):
 aE S L (ahZ op p q) n ρ (py w0 m bl n ρ λw=>(do eqGuard op t x y (.string (eS (bD (p.den ρ)))) (.string (eS (bD (q.den ρ))));binOp op t (.string (eS (bD (p.den ρ)))) (.string (eS (bD (q.den ρ)))):Sem bf).run P w):=by
 have b4:=NB (bD (p.den ρ)=bD (q.den ρ));have cg:=NB (Op.bytesLess (bD (p.den ρ)) (bD (q.den ρ))=true);unfold ahZ;split
 ·refine kb λhc=>?_;have hc:(bD (p.den ρ)).length+(bD (q.den ρ)).length<=nw:=hc;have hl:(bD (p.den ρ)++bD (q.den ρ)).length<=nw:=by simpa using hc
  refine(iR (op:=3) (args:=[p,q]) (zz _) (x1 hl)).bind λa6 bh l _ _ ⟨h1,h2⟩=>?_;have h2:l.den a6=k5 (bD (p.den ρ)++bD (q.den ρ)):=h2;refine aE.pure ⟨⟨h1,by rw[h2];exact zz _,by rw[h2];exact x1 hl⟩,_,rfl,λw _=>?_⟩;have hr:=run_string_add_sum (P:=P) w (eS (bD (p.den ρ))) (eS (bD (q.den ρ))) (by rw[C8,C8];unfold nw at hc;omega);simp only[eqGuard,binOp_string_add,W.den,A.den,h2,Ce];simp[hr];exact aZN _ _
 ·refine(iR (op:=4) (args:=[p,q]) b4.1 b4.2).bind λa6 bh l _ _ ⟨h1,h2⟩=>?_;have h2:l.den a6=if bD (p.den ρ)=bD (q.den ρ)then 1 else 0:=h2
  have e:=bO.x7 (n:=bh) (ρ:=a6) (a:=⟨l,0,1⟩) (b:= .const 1) ⟨h1,by simp only[h2];exact b4.1,by simp only[h2];exact b4.2⟩ (bZ.qI _ _ _);refine aE.pure ⟨e.2,_,rfl,λw _=>?_⟩;simp only[W.den,A.den,binOp_string_eql,Hu];rw[e.1];simp only[h2,bZ.const,I.bC,amn];simp[eqGuard]
 ·refine(iR (op:=4) (args:=[p,q]) b4.1 b4.2).bind λa6 bh l _ _ ⟨h1,h2⟩=>?_;have h2:l.den a6=if bD (p.den ρ)=bD (q.den ρ)then 1 else 0:=h2
  have e:=bO.x7 (n:=bh) (ρ:=a6) (a:=⟨l,0,1⟩) (b:= .const 1) ⟨h1,by simp only[h2];exact b4.1,by simp only[h2];exact b4.2⟩ (bZ.qI _ _ _);refine aE.pure ⟨bO.Cf e.2,_,rfl,λw _=>?_⟩;simp only[W.den,A.den,bO.Bv,binOp_string_neq,Hu];rw[e.1];simp only[h2,bZ.const,I.bC,amn];simp[eqGuard]
 ·refine(iR (op:=5) (args:=[p,q]) cg.1 cg.2).bind λa6 bh l _ _ ⟨h1,h2⟩=>?_;have h2:l.den a6=if Op.bytesLess (bD (p.den ρ)) (bD (q.den ρ))=true then 1 else 0:=h2
  have e:=bO.x7 (n:=bh) (ρ:=a6) (a:=⟨l,0,1⟩) (b:= .const 1) ⟨h1,by simp only[h2];exact cg.1,by simp only[h2];exact cg.2⟩ (bZ.qI _ _ _);refine aE.pure ⟨e.2,_,rfl,λw _=>?_⟩;simp only[W.den,A.den,binOp_string_lss,Hu];rw[e.1];simp only[h2,bZ.const,I.bC];rw[<-arw];simp[eqGuard]
 ·refine(iR (op:=5) (args:=[p,q]) cg.1 cg.2).bind λa6 bh l _ _ ⟨h1,h2⟩=>?_;have h2:l.den a6=if Op.bytesLess (bD (p.den ρ)) (bD (q.den ρ))=true then 1 else 0:=h2
  have e:=bO.x7 (n:=bh) (ρ:=a6) (a:=⟨l,0,1⟩) (b:= .const 1) ⟨h1,by simp only[h2];exact cg.1,by simp only[h2];exact cg.2⟩ (bZ.qI _ _ _);refine aE.pure ⟨bO.Cf e.2,_,rfl,λw _=>?_⟩;simp only[W.den,A.den,bO.Bv,binOp_string_geq,Hu];rw[e.1];simp only[h2,bZ.const,I.bC];rw[<-arw];simp[eqGuard]
 ·exact aE.fail
theorem aRs {t ty:bE} {p:I} (hu:P.underlying t=some .string) (hp:(A.str p).ok n bl.length ρ):
 aE S L (aue p) n ρ (py w0 m bl n ρ λw=>(M5 #[t] ty #[.string (eS (bD (p.den ρ)))]).run P w):=by
 have hl:=Nh hp.2.2;unfold nw at hl;refine(iR (op:=0) (args:=[p]) (JK _) (by show((bD (p.den ρ)).length:Int)<=_;omega)).bind λa6 bh l _ _ ⟨h1,h2⟩=>?_;have h2:l.den a6=((bD (p.den ρ)).length:Int):=h2;refine aE.pure ⟨⟨h1,by simp only[h2];omega,by simp only[h2];omega⟩,_,rfl,λw _=>?_⟩;simp[M5,gz hu,goInt,W.den,A.den,h2,C8]
theorem aRr {t:bE} {k:eB} {p i:I} (hu:P.underlying t=some .string) (hp:(A.str p).ok n bl.length ρ):
 aE S L (aud p i) n ρ (py w0 m bl n ρ λw=>(aja t (.string (eS (bD (p.den ρ)))) (.int k (i.den ρ))).run P w):=by
 refine kb λhc=>?_;have hc:0<=i.den ρ/\i.den ρ<((bD (p.den ρ)).length:Int):=hc;have hlt:(i.den ρ).toNat<(bD (p.den ρ)).length:=by omega
 have hb:=((bD (p.den ρ)).getD (i.den ρ).toNat 0).toNat_lt;refine(iR (op:=1) (args:=[p,i]) (JK _) (by show(((bD (p.den ρ)).getD (i.den ρ).toNat 0).toNat:Int)<=_;omega)).bind λa6 bh l _ _ ⟨h1,h2⟩=>?_;have h2:l.den a6=(((bD (p.den ρ)).getD (i.den ρ).toNat 0).toNat:Int):=h2;refine aE.pure ⟨⟨h1,by simp only[h2];omega,by simp only[h2];omega⟩,_,rfl,λw _=>?_⟩;have e:(eS (bD (p.den ρ)))[(i.den ρ).toNat]?=some ((bD (p.den ρ)).getD (i.den ρ).toNat 0):=by
  rw[aZO _ _ (by rw[C8];exact hlt)];simp[eS,U,hlt];rfl
 simp[aja,asIntOf,gz hu,hc.1,e,W.den,A.den,h2]
theorem aRu {p a b:I} (hp:(A.str p).ok n bl.length ρ):aE S L (Xf p a b) n ρ λae n' v=>v.ok n' bl.length ae/\v.rel ae m (.string ((eS (bD (p.den ρ))).extract (a.den ρ).toNat (b.den ρ).toNat))/\0<=a.den ρ/\a.den ρ<=b.den ρ/\b.den ρ<=((bD (p.den ρ)).length:Int):=by
 refine kb λhc=>?_;have hc:0<=a.den ρ/\a.den ρ<=b.den ρ/\b.den ρ<=((bD (p.den ρ)).length:Int):=hc;have hl:=Nh hp.2.2;have Dr:(((bD (p.den ρ)).drop (a.den ρ).toNat).take ((b.den ρ).toNat-(a.den ρ).toNat)).length<=nw:=by simp;omega
 refine(iR (op:=2) (args:=[p,a,b]) (zz _) (x1 Dr)).bind λa6 bh l _ _ ⟨h1,h2⟩=>?_;have h2:l.den a6=k5 (((bD (p.den ρ)).drop (a.den ρ).toNat).take ((b.den ρ).toNat-(a.den ρ).toNat)):=h2;refine aE.pure ⟨⟨h1,by rw[h2];exact zz _,by rw[h2];exact x1 Dr⟩,?_,hc⟩;show _=_;simp only[W.den,A.den,h2,Ce]
 congr 1
 exact aZP _ _ _
theorem ID {v:V} {l:I} {x:bf} (h:uj v=some l) (hr:v.rel ρ m x) (cm:v.ok n bl.length ρ):∃k,x= .int k (l.den ρ)/\l.bU n:=by
 unfold uj at h;split at h
 ·rename_i k a;simp only[bu]at h;subst h;exact⟨k,hr,cm.1⟩
 ·cases h
theorem xJ {k:eB} {i:Int} {y:Nat} {dQ:BoundsCode} (bw:0<=i) (bz:i<=y) (w:aC):(St (.int k i) y dQ).run P w= .ok i.toNat w:=by
 simp[St,asIntOf,bw,bz]
theorem aRt {t:bE} {p:I} {lo hi:Option rl} (hu:P.underlying t=some .string) (hp:(A.str p).ok n bl.length ρ) (aB:fo n bl.length ρ m tm a.tmps):
 aE S L (ah0 tm p lo hi) n ρ (py w0 m bl n ρ λw=>(uW t (.string (eS (bD (p.den ρ)))) (lo.map a.eval) (hi.map a.eval) none).run P w):=by
 unfold ah0;split
 ·exact aE.fail
 ·rename_i gZ Lf;have zR:∃f:Option bf,lo.map a.eval=f/\(f=none/\gZ.den ρ=0∨∃k,f=some (.int k (gZ.den ρ))):=by
   cases lo with
   |none=>simp only[bu]at Lf;subst Lf;exact⟨none,rfl,.inl ⟨rfl,I.bC _ _⟩⟩
   |some x=>
    obtain⟨k,ag,_⟩:=ID (m:=m) (bl:=bl) Lf (c4 aB x).2 (c4 aB x).1;exact⟨_,rfl,.inr ⟨k,by rw[<-ag];rfl⟩⟩
  obtain⟨an7,av,lP⟩:=zR;have key:∀(gy:I) (a6:Env) (bh:Nat),n<=bh->agree n ρ a6->(hi.map a.eval=none/\gy.den a6=((bD (p.den ρ)).length:Int)∨∃k,hi.map a.eval=some (.int k (gy.den a6)))->gZ.bU n->
   aE S L (Xf p gZ gy) bh a6 (py w0 m bl n ρ λw=>(uW t (.string (eS (bD (p.den ρ)))) (lo.map a.eval) (hi.map a.eval) none).run P w):=λgy a6 bh hn ha ah aef=>by
   have aFl:(A.str p).ok bh bl.length a6:=hp.ext ha hn (b1 _);have ep:p.den a6=p.den ρ:=I.cq ha hp.1;have Fh:gZ.den a6=gZ.den ρ:=I.cq ha aef;refine(aRu (m:=m) (bl:=bl) (a:=gZ) (b:=gy) aFl).mono λcd fF v _ _ ⟨aQ,bn,cj,dU,jv⟩=>⟨aQ,_,bn,λw _=>?_⟩;rw[ep,Fh]at*;have tZ:(pv false (eS (bD (p.den ρ))).size (eS (bD (p.den ρ))).size an7 (hi.map a.eval) none).run P w= .ok ((gZ.den ρ).toNat,(gy.den a6).toNat,(eS (bD (p.den ρ))).size) w:=by
    rw[C8];rcases lP with⟨rfl,hz⟩|⟨k,rfl⟩<;>rcases ah with⟨h1,h2⟩|⟨k2,h1⟩
    ·rw[h1,hz,h2];simp[pv]
    ·rw[h1,hz];simp[pv,xJ (P:=P) (by omega:0<=gy.den a6) jv]
    ·rw[h1,h2];simp[pv,xJ (P:=P) (y:=(bD (p.den ρ)).length) cj (by omega)]
    ·rw[h1];simp[pv,xJ (P:=P) (by omega:0<=gy.den a6) jv,xJ (P:=P) (y:=(gy.den a6).toNat) cj (by omega)]
   rw[av];simp[uW,ajb,gz hu,tZ]
  have Lg:gZ.bU n:=by
   cases lo with
   |none=>simp only[bu]at Lf;subst Lf;exact I.dX _ _
   |some x=>exact(ID (m:=m) (bl:=bl) Lf (c4 aB x).2 (c4 aB x).1).choose_spec.2
  cases hi with
  |none=>
   have hl:=Nh hp.2.2;unfold nw at hl;exact(iR (op:=0) (args:=[p]) (JK _) (by show((bD (p.den ρ)).length:Int)<=_;omega)).bind λa6 bh l hn ha ⟨h1,h2⟩=>key l a6 bh hn ha (.inl ⟨rfl,h2⟩) Lg
  |some y=>
   simp only;cases hy:uj (cB tm y)with
   |none=>exact aE.fail
   |some b=>
    obtain⟨k,ag,_⟩:=ID (m:=m) (bl:=bl) hy (c4 aB y).2 (c4 aB y).1;exact key b ρ n (b1 _) (agree.refl _ _) (.inr ⟨k,by rw[<-ag];rfl⟩) Lg
theorem SO {xs:List rl} (h:fo n bl.length ρ m tm a.tmps):fN ρ m (xs.map (cB tm)) (xs.map a.eval):=by
 induction xs with
 |nil=>trivial
 |cons x r ih=>exact⟨(c4 h x).2,ih⟩
theorem aho {c:Call} {f:dv} (hc:c.callee= .value (.func f)) (o:Oper) (aA:o.op= .call c):execOp a.eval o=callFunc f (c.args.map a.eval):=by
 simp only[execOp,aA,resolve,hc,Act.eval,awq];simp[invoke,bind_pure_comp]
theorem acq {nb:Nat} {m:Nat->Nat}:∀(fs:List Field) (x y:List A) (i n:Nat) (ρ:Env),KO P i fs=true->(∀a∈x,A.ok n nb ρ a)->(∀a∈y,A.ok n nb ρ a)->
 aE S L (w3 P fs x y) n ρ λae n' b=>b.bU n'/\∀(w:aC) (d:Nat) (xs iG:Array bf),xs.toList.drop i=x.map (A.den ρ m)->iG.toList.drop i=y.map (A.den ρ m)->(M6 (d+1) xs iG fs).run P w= .ok (b.den ae) w
 |[],[],[],i,n,ρ,_,_,_=>aE.pure ⟨trivial,λw d xs iG _ _=>by simp[M6,bO.den]⟩
 |f::fs,x::xs,y::iG,i,n,ρ,hf,hx,hy=>by
  cases x with
  |int k a=>
   cases y with
   |int bJ b=>
    unfold KO at hf;simp only[bI,bne_iff_ne,ne_eq]at hf;obtain⟨⟨hn,aA⟩,hf⟩:=hf;have aA:=b8 aA;unfold w3;split
    ·rename_i k2 rE;have hu:=afg rE;refine fe λag=>?_;have ag:k=bJ:=by simpa using ag
     subst ag;have QI:a.ok n ρ:=hx (.int k a) (by simp);have ob:b.ok n ρ:=hy (.int k b) (by simp);refine(acq (nb:=nb) (m:=m) fs xs iG (i+1) n ρ hf (λz hz=>hx z (e5 _ hz)) (λz hz=>hy z (e5 _ hz))).bind λae n' r UG iS ⟨r1,r2⟩=>aE.pure ?_;have av:=bO.x7 (QI.agree iS UG) (ob.agree iS UG);refine⟨bO.W1 av.2 r1,λw d sb sc Pu Pv=>?_⟩;have Ow:sb[i]?=some (.int k (a.l.den ρ)):=by
      have:=congrArg M4 Pu;simpa [A.den]using this
     have Ox:sc[i]?=some (.int k (b.l.den ρ)):=by
      have:=congrArg M4 Pv;simpa [A.den]using this
     have HB:sb.toList.drop (i+1)=xs.map (A.den ρ m):=by
      have:=congrArg Ss Pu;simpa using this
     have bo:sc.toList.drop (i+1)=iG.map (A.den ρ m):=by
      have:=congrArg Ss Pv;simpa using this
     have D6:(part f.type sb f.offset).run P w= .ok (.int k (a.l.den ρ)) w:=by simp[part,isAgg,gz hu,aA,Ow]
     have D7:(part f.type sc f.offset).run P w= .ok (.int k (b.l.den ρ)) w:=by simp[part,isAgg,gz hu,aA,Ox]
     have Fh:a.l.den ae=a.l.den ρ:=by
      have:=A.oz (m:=m) (m':=m) (hx (.int k a) (by simp)) iS (λ_ _=>rfl);simpa [A.den]using this
     have w2:b.l.den ae=b.l.den ρ:=by
      have:=A.oz (m:=m) (m':=m) (hy (.int k b) (by simp)) iS (λ_ _=>rfl);simpa [A.den]using this
     simp only[M6,ne_eq,hn,not_false_eq_true,if_true,jS,D6,D7,j6,run_equalIn_int w d f.type k k2 _ _ hu,bO.Tz,av.1,Fh,w2];by_cases an:a.l.den ρ=b.l.den ρ
     ·simp[an,r2 w d sb sc HB bo]
     ·simp[an]
    ·exact aE.fail
   |_=>unfold w3;exact aE.fail
  |str a=>
   cases y with
   |str b=>
    unfold KO at hf;simp only[bI,bne_iff_ne,ne_eq]at hf;obtain⟨⟨hn,aA⟩,hf⟩:=hf;have aA:=b8 aA;unfold w3;split
    ·rename_i hu;have b4:=NB (bD (a.den ρ)=bD (b.den ρ));refine(iR (op:=4) (args:=[a,b]) b4.1 b4.2).bind λa6 bh l h9 HZ ⟨h1,h2⟩=>?_;have h2:l.den a6=if bD (a.den ρ)=bD (b.den ρ)then 1 else 0:=h2
     have s9:∀z∈xs,A.ok bh nb a6 z:=λz hz=>(hx z (e5 _ hz)).ext HZ h9 (b1 _);have aet:∀z∈iG,A.ok bh nb a6 z:=λz hz=>(hy z (e5 _ hz)).ext HZ h9 (b1 _);have ol:(⟨l,0,1⟩:bZ).ok bh a6:=⟨h1,by simp only[h2];exact b4.1,by simp only[h2];exact b4.2⟩;refine(acq (nb:=nb) (m:=m) fs xs iG (i+1) bh a6 hf s9 aet).bind λae n' r UG iS ⟨r1,r2⟩=>aE.pure ?_;have av:=bO.x7 (n:=n') (ρ:=ae) (a:=⟨l,0,1⟩) (b:= .const 1) (ol.agree iS UG) (bZ.qI _ _ _);refine⟨bO.W1 av.2 r1,λw d sb sc Pu Pv=>?_⟩;have Ow:sb[i]?=some (.string (eS (bD (a.den ρ)))):=by
      have:=congrArg M4 Pu;simpa [A.den]using this
     have Ox:sc[i]?=some (.string (eS (bD (b.den ρ)))):=by
      have:=congrArg M4 Pv;simpa [A.den]using this
     have HB:sb.toList.drop (i+1)=xs.map (A.den a6 m):=by
      have:=congrArg Ss Pu;rw[j5 (g:=A.den ρ m) λz hz=>A.oz (hx z (e5 _ hz)) HZ (λ_ _=>rfl)];simpa using this
     have bo:sc.toList.drop (i+1)=iG.map (A.den a6 m):=by
      have:=congrArg Ss Pv;rw[j5 (g:=A.den ρ m) λz hz=>A.oz (hy z (e5 _ hz)) HZ (λ_ _=>rfl)];simpa using this
     have D6:(part f.type sb f.offset).run P w= .ok (.string (eS (bD (a.den ρ)))) w:=by simp[part,isAgg,gz hu,aA,Ow]
     have D7:(part f.type sc f.offset).run P w= .ok (.string (eS (bD (b.den ρ)))) w:=by simp[part,isAgg,gz hu,aA,Ox]
     have el:l.den ae=l.den a6:=I.cq iS h1;have aH:(bO.mkEq ⟨l,0,1⟩ (.const 1)).den ae=decide (bD (a.den ρ)=bD (b.den ρ)):=by
      rw[av.1];simp only[bZ.const,I.bC,el,h2];by_cases an:bD (a.den ρ)=bD (b.den ρ)<;>simp[an]
     simp only[M6,ne_eq,hn,not_false_eq_true,if_true,jS,D6,D7,j6,run_equalIn_string w d f.type _ _ hu,bO.Tz,aH,Hu];by_cases an:bD (a.den ρ)=bD (b.den ρ)
     ·simp[an,r2 w d sb sc HB bo]
     ·simp[an]
    ·exact aE.fail
   |_=>unfold w3;exact aE.fail
  |_=>unfold w3;exact aE.fail
 |[],_::_,_,_,_,_,_,_,_=>by unfold w3;exact aE.fail
 |[],[],y::_,_,_,_,_,_,_=>by cases y<;>(unfold w3;exact aE.fail)
 |_::_,[],_,_,_,_,_,_,_=>by unfold w3;exact aE.fail
 |_::_,x::_,[],_,_,_,_,_,_=>by cases x<;>(unfold w3;exact aE.fail)
def Np (P:cc) (t:bE) (l:List bf) (v:bf):Prop:=(lu P t=some true/\v= .agg l.toArray)∨(lu P t=some false/\l=[v])
theorem asQ {t:bE} {xs:Array bf} {o s:Nat} (hs:gI P t=some s) {v:bf} (h:Np P t ((xs.toList.drop o).take s) v) (w:aC):(part t xs o).run P w= .ok v w:=by
 obtain⟨l⟩:=xs;rcases h with⟨h1,rfl⟩|⟨h1,h2⟩
 ·simp[part,tr h1,kW hs,aWK]
 ·have h3:(⟨l⟩:Array bf)[o]?=some v:=by
   have h4:=congrArg M4 h2;rw[<-Su];cases s with
   |zero=>simp at h2
   |succ s=>simpa [List.head?_take,List.head?_drop]using h4
  simp[part,tr h1,h3]
theorem anS {nb:Nat} {m:Nat->Nat} {g:bE->List A->List A->M bO} {D:Nat}
 (hg:∀(t:bE) (x y:List A) (n:Nat) (ρ:Env),(∀a∈x,A.ok n nb ρ a)->(∀a∈y,A.ok n nb ρ a)->aE S L (g t x y) n ρ λae n' b=>b.bU n'/\∃sb sc,Np P t (x.map (A.den ρ m)) sb/\Np P t (y.map (A.den ρ m)) sc/\∀w,(Yl D t sb sc).run P w= .ok (b.den ae) w):
 ∀(fs:List Field) (x y:List A) (o n:Nat) (ρ:Env),(∀a∈x,A.ok n nb ρ a)->(∀a∈y,A.ok n nb ρ a)->
 aE S L (TX P g o fs x y) n ρ λae n' b=>b.bU n'/\∀(w:aC) (xs iG:Array bf),xs.toList.drop o=x.map (A.den ρ m)->iG.toList.drop o=y.map (A.den ρ m)->(M6 D xs iG fs).run P w= .ok (b.den ae) w
 |[],x,y,o,n,ρ,_,_=>aE.pure ⟨trivial,λw xs iG _ _=>by simp[M6,bO.den]⟩
 |f::fs,x,y,o,n,ρ,hx,hy=>by
  unfold TX;cases hs:gI P f.type with
  |none=>exact aE.fail
  |some s=>
   simp only;refine fe λhc=>?_;simp only[bI,bne_iff_ne,ne_eq]at hc;obtain⟨hn,aA⟩:=hc;have aA:=b8 aA;refine(hg f.type (x.take s) (y.take s) n ρ (λa ha=>hx a (mv ha)) (λa ha=>hy a (mv ha))).bind λa6 bh b h9 fV ⟨b4,sb,sc,cg,dh,ox⟩=>?_;refine(anS hg fs (x.drop s) (y.drop s) (o+s) bh a6 (λa ha=>(hx a (qx ha)).ext fV h9 (b1 _)) (λa ha=>(hy a (qx ha)).ext fV h9 (b1 _))).bind λcd fF r fX eI ⟨r1,r2⟩=>aE.pure ⟨bO.W1 (b4.mono fX) r1,λw xs iG gY Iw=>?_⟩;have D6:(part f.type xs f.offset).run P w= .ok sb w:=asQ hs (by rw[aA,gY,<-M0];exact cg) w;have D7:(part f.type iG f.offset).run P w= .ok sc w:=asQ hs (by rw[aA,Iw,<-M0];exact dh) w;have HB:xs.toList.drop (o+s)=(x.drop s).map (A.den a6 m):=by
    rw[<-CF,gY,<-M1];exact(yx (λa ha=>hx a (qx ha)) fV (λ_ _=>rfl)).symm
   have bo:iG.toList.drop (o+s)=(y.drop s).map (A.den a6 m):=by
    rw[<-CF,Iw,<-M1];exact(yx (λa ha=>hy a (qx ha)) fV (λ_ _=>rfl)).symm
   have w2:b.den cd=b.den a6:=bO.cq eI b4;simp only[M6,ne_eq,hn,not_false_eq_true,if_true,jS,D6,D7,j6,ox w,bO.Tz,w2];cases an:b.den a6 with
   |true=>simp[r2 w xs iG HB bo]
   |false=>simp
theorem anT {nb:Nat} {m:Nat->Nat}:∀(d:Nat) (t:bE) (x y:List A) (n:Nat) (ρ:Env),(∀a∈x,A.ok n nb ρ a)->(∀a∈y,A.ok n nb ρ a)->∀D,d<=D->
 aE S L (KM P d t x y) n ρ λae n' b=>b.bU n'/\∃sb sc,Np P t (x.map (A.den ρ m)) sb/\Np P t (y.map (A.den ρ m)) sc/\∀w,(Yl D t sb sc).run P w= .ok (b.den ae) w
 |0,t,x,y,n,ρ,_,_,_,_=>aE.fail
 |d+1,t,x,y,n,ρ,hx,hy,D,nR=>by
  obtain⟨E,rfl⟩:∃E,D=E+1:=⟨D-1,by omega⟩;unfold KM;split
  ·rename_i k hu;split
   ·rename_i k1 a k2 b;refine fe λag=>?_;have ag:k1=k2:=by simpa using ag
    subst ag;have QI:a.ok n ρ:=hx (.int k1 a) (by simp);have ob:b.ok n ρ:=hy (.int k1 b) (by simp);have av:=bO.x7 QI ob;have iS:lu P t=some false:=by simp[lu,hu]
    refine aE.pure ⟨av.2,_,_,.inr ⟨iS,rfl⟩,.inr ⟨iS,rfl⟩,λw=>?_⟩;simp only[A.den];rw[run_equalIn_int w E t k1 k _ _ hu,av.1];rfl
   ·exact aE.fail
  ·rename_i hu;split
   ·rename_i a b;have b4:=NB (bD (a.den ρ)=bD (b.den ρ));have iS:lu P t=some false:=by simp[lu,hu]
    refine(iR (op:=4) (args:=[a,b]) b4.1 b4.2).bind λa6 bh l h9 HZ ⟨h1,h2⟩=>aE.pure ?_;have h2:l.den a6=if bD (a.den ρ)=bD (b.den ρ)then 1 else 0:=h2
    have ol:(⟨l,0,1⟩:bZ).ok bh a6:=⟨h1,by simp only[h2];exact b4.1,by simp only[h2];exact b4.2⟩;have av:=bO.x7 (n:=bh) (ρ:=a6) (a:=⟨l,0,1⟩) (b:= .const 1) ol (bZ.qI _ _ _);refine⟨av.2,_,_,.inr ⟨iS,rfl⟩,.inr ⟨iS,rfl⟩,λw=>?_⟩;simp only[A.den];rw[run_equalIn_string w E t _ _ hu,av.1,Hu,Hu];simp only[bZ.const,I.bC,h2];by_cases an:bD (a.den ρ)=bD (b.den ρ)
    ·simp[an]
    ·simp[an]
   ·exact aE.fail
  ·rename_i hu;split
   ·rename_i a b;have iS:lu P t=some false:=by simp[lu,hu]
    have QI:a.bU n:=hx (.bool a) (by simp);have ob:b.bU n:=hy (.bool b) (by simp);refine aE.pure ⟨bO.ahz QI ob,_,_,.inr ⟨iS,rfl⟩,.inr ⟨iS,rfl⟩,λw=>?_⟩;simp only[A.den];rw[run_equalIn_bool w E t _ _ hu,bO.abX]
   ·exact aE.fail
  ·rename_i fs hu;refine fe λhg=>?_;have hg:P.stoodInHeld t=false:=by simpa using hg
   have iS:lu P t=some true:=by simp[lu,hu]
   refine(anS (m:=m) (D:=E) (λt x y n ρ h1 h2=>anT d t x y n ρ h1 h2 E (by omega)) fs.toList x y 0 n ρ hx hy).mono λae n' b _ _ ⟨h1,h2⟩=>⟨h1,_,_,.inl ⟨iS,rfl⟩,.inl ⟨iS,rfl⟩,λw=>?_⟩;have hf:P.fieldsOf t=fs:=by simp[aWL,hu]
   rw[run_equalIn_struct w E t _ _ (by rw[hf];exact hu) hg,hf];exact h2 w _ _ (by simp) (by simp)
  ·exact aE.fail
theorem anV {nb:Nat} {m:Nat->Nat} {t:bE} {x y:List A} (hx:∀a∈x,A.ok n nb ρ a) (hy:∀a∈y,A.ok n nb ρ a):
 aE S L (TY P t x y) n ρ λae n' b=>b.bU n'/\P.eqGuardType P.depth t=false/\∀w,(Yl 10000 t (.agg (x.map (A.den ρ m)).toArray) (.agg (y.map (A.den ρ m)).toArray)).run P w= .ok (b.den ae) w:=by
 unfold TY;split
 ·rename_i fs hu;have rD:lu P t=some true:=by simp[lu,hu]
  have deep:P.eqGuardType P.depth t=false->aE S L (KM P 8 t x y) n ρ λae n' b=>b.bU n'/\P.eqGuardType P.depth t=false/\∀w,(Yl 10000 t (.agg (x.map (A.den ρ m)).toArray) (.agg (y.map (A.den ρ m)).toArray)).run P w= .ok (b.den ae) w:=λhg=>
   (anT (m:=m) 8 t x y n ρ hx hy 10000 (by decide)).mono λae n' b _ _ ⟨h1,sb,sc,h2,h3,h4⟩=>⟨h1,hg,λw=>by
     rcases h2 with⟨_,rfl⟩|⟨h2,_⟩
     ·rcases h3 with⟨_,rfl⟩|⟨h3,_⟩
      ·exact h4 w
      ·rw[rD]at h3;cases h3
     ·rw[rD]at h2;cases h2⟩
  cases hg:(KO P 0 fs.toList&& !P.stoodInHeld t&& !P.eqGuardType P.depth t)with
  |true=>
   simp only[cond_true];simp only[bI,c6]at hg;generalize (fs.toList.all λf=>match P.underlying f.type with|some (.int _)=>true|some .string=>true|_=>false)=flat;cases flat with
   |true=>
    simp only[cond_true];refine(acq (nb:=nb) (m:=m) fs.toList x y 0 n ρ hg.1.1 hx hy).mono λae n' b _ _ ⟨h1,h2⟩=>⟨h1,hg.2,λw=>?_⟩;have hf:P.fieldsOf t=fs:=by simp[aWL,hu]
    rw[run_equalIn_struct w 9999 t _ _ (by rw[hf];exact hu) hg.1.2,hf];exact h2 w 9998 _ _ (by simp) (by simp)
   |false=>exact deep hg.2
  |false=>
   simp only[cond_false];refine fe λDn=>deep (by simpa using Dn)
 ·exact aE.fail
theorem aO9 {cal:gb} (di:im S P gl w0 cal) (hb:dr n bl.length ρ bl) (hg:fJ gl w0) (hex:∃w,Mem w0 ρ m bl w) (aB:fo n bl.length ρ m tm a.tmps) (o:Oper):
 aE S L (ag4 P cal gl bl tm o) n ρ (px w0 m bl n ρ P o a):=by
 unfold ag4;split
 case h_1 x h=>
  exact aE.pure ⟨(c4 aB x).1,_,(c4 aB x).2,λw _=> .inl (by simp[execOp,h])⟩
 case h_2 x h=>
  exact aE.pure ⟨(c4 aB x).1,_,(c4 aB x).2,λw _=> .inl (by simp[execOp,h])⟩
 case h_3 t x h=>
  have hx:=c4 aB x;have he:execOp a.eval o=(do pure (mx (<-pZ t (a.eval x)))):=by simp only[execOp,h]
  split
  ·rename_i b off bA hv;rw[hv]at hx;have et:a.eval x=(A.q5 b off bA).den ρ m:=hx.2;rw[et]at he;exact(aQT hb t b off hx.1.2.1).mono λ_ _ _ _ _ an=>px.of_run he an
  ·rename_i g off bA hv;rw[hv]at hx;have et:a.eval x=(A.KU g off bA).den ρ m:=hx.2;rw[et]at he;exact(aQS hg t g off hx.1.1).mono λ_ _ _ _ _ an=>px.of_run he an
  ·rename_i p _ _ hv;rw[hv]at hx;have et:a.eval x=p.den ρ m:=hx.2;rw[et]at he;exact(aIh hb hg hex t p).mono λ_ _ _ _ _ an=>px.of_run he an
  ·exact aE.fail
 case h_4 x h=>
  have hx:=c4 aB x;unfold asq;split<;>first
   |exact aE.fail
   |(rename_i hv
     rw[hv]at hx;refine aE.pure ⟨hx.1,_,rfl,λw _=> .inl ?_⟩;have et:=hx.2;simp only[V.rel,W.den,A.den]at et;simp[execOp,h,et,W.den,A.den])
 case h_5 c x y h=>
  have hc:=c4 aB c;split
  ·rename_i v hv;rw[hv]at hc;have av:a.eval c= .bool v:=hc.2;cases v with
   |true=>exact aE.pure ⟨(c4 aB x).1,_,(c4 aB x).2,λw _=> .inl (by simp[execOp,h,av,asBool])⟩
   |false=>exact aE.pure ⟨(c4 aB y).1,_,(c4 aB y).2,λw _=> .inl (by simp[execOp,h,av,asBool])⟩
  ·exact aE.fail
 case h_6 op t x y t' h=>
  have hx:=c4 aB x;have hy:=c4 aB y;unfold amo;split
  ·rename_i k p bJ q ui np;rw[ui]at hx;rw[np]at hy;have av:a.eval x= .int k (p.l.den ρ):=hx.2;have aH:a.eval y= .int bJ (q.l.den ρ):=hy.2;refine(aze (nb:=bl.length) (m:=m) P t hx.1 hy.1).bind λa6 bh r _ _ ⟨h1,h2⟩=>aE.pure ⟨h1,_,rfl,λw _=> .inl ?_⟩;have jW:(eqGuard op t x y (.int k (p.l.den ρ)) (.int bJ (q.l.den ρ))).run P w= .ok () w:=by cases op<;>simp[eqGuard]
   simp only[execOp,h,av,aH];simp[jW,h2,W.den]
  ·rename_i p q ui np;rw[ui]at hx;rw[np]at hy;have av:a.eval x= .agg (p.map (A.den ρ m)).toArray:=hx.2;have aH:a.eval y= .agg (q.map (A.den ρ m)).toArray:=hy.2;split
   ·rename_i b heq;obtain⟨s1,g1,r1⟩:=anU (m:=m) heq hx.1 hy.1;refine aE.pure ⟨s1,_,rfl,λw _=> .inl ?_⟩;simp only[execOp,h,av,aH];simp[run_eqGuard_agg w .eql t x y _ _ g1,run_eql_struct,r1,W.den,A.den]
   ·rename_i b heq;obtain⟨s1,g1,r1⟩:=anU (m:=m) heq hx.1 hy.1;refine aE.pure ⟨bO.Cf s1,_,rfl,λw _=> .inl ?_⟩;simp only[execOp,h,av,aH];simp[run_eqGuard_agg w .neq t x y _ _ g1,run_neq_struct,r1,W.den,A.den,bO.Bv]
   ·rename_i heq;refine(anV (m:=m) (t:=t) hx.1 hy.1).bind λae n' r _ _ ⟨r1,g1,r2⟩=>aE.pure ⟨r1,_,rfl,λw _=> .inl ?_⟩;simp only[execOp,h,av,aH];simp[run_eqGuard_agg w .eql t x y _ _ g1,run_eql_struct,r2,W.den,A.den]
   ·rename_i heq;refine(anV (m:=m) (t:=t) hx.1 hy.1).bind λae n' r _ _ ⟨r1,g1,r2⟩=>aE.pure ⟨bO.Cf r1,_,rfl,λw _=> .inl ?_⟩;simp only[execOp,h,av,aH];simp[run_eqGuard_agg w .neq t x y _ _ g1,run_neq_struct,r2,W.den,A.den,bO.Bv]
   ·exact aE.fail
  ·rename_i p q ui np;rw[ui]at hx;rw[np]at hy;have av:a.eval x= .string (eS (bD (p.den ρ))):=hx.2;have aH:a.eval y= .string (eS (bD (q.den ρ))):=hy.2;have he:execOp a.eval o=(do pure (mx (<-(do eqGuard op t x y (.string (eS (bD (p.den ρ)))) (.string (eS (bD (q.den ρ))));binOp op t (.string (eS (bD (p.den ρ)))) (.string (eS (bD (q.den ρ)))):Sem bf)))):=by simp only[execOp,h,av,aH]
   exact(aRq (op:=op) (t:=t) (x:=x) (y:=y) (w0:=w0) (m:=m) hx.1 hy.1).mono λ_ _ _ _ _ an=>px.of_run he an
  ·rename_i p q ui np;rw[ui]at hx;rw[np]at hy;have av:a.eval x= .bool (p.den ρ):=hx.2;have aH:a.eval y= .bool (q.den ρ):=hy.2;have jW:(eqGuard op t x y (.bool (p.den ρ)) (.bool (q.den ρ))).run P=λw=> .ok () w:=by funext w;cases op<;>simp[eqGuard]
   split
   ·rename_i hu;refine aE.pure ⟨bO.ahz hx.1 hy.1,_,rfl,λw _=> .inl ?_⟩;simp only[execOp,h,av,aH];simp[jW,run_eql_bool w t _ _ hu,W.den,A.den,bO.abX]
   ·rename_i hu;refine aE.pure ⟨bO.Cf (bO.ahz hx.1 hy.1),_,rfl,λw _=> .inl ?_⟩;simp only[execOp,h,av,aH];simp[jW,run_neq_bool w t _ _ hu,W.den,A.den,bO.abX,bO.Bv]
   ·exact aE.fail
  ·exact aE.fail
 case h_7 op t x h=>
  have hx:=c4 aB x;unfold auT;split
  ·rename_i b hv;rw[hv]at hx;have av:a.eval x= .bool (b.den ρ):=hx.2;refine aE.pure ⟨bO.Cf hx.1,_,rfl,λw _=> .inl ?_⟩;simp[execOp,h,av,Op.unary,W.den,A.den,bO.Bv]
  ·rename_i k p hv;rw[hv]at hx;have av:a.eval x= .int k (p.l.den ρ):=hx.2;refine fe λhc=>?_;simp only[bI,c6,decide_eq_true_eq]at hc;have hp:=hx.1;have amx:=bZ.ok.agree (n':=n) hp (agree.refl n ρ) (b1 _);have cg:=amx.2;have aH:((I.const (two k-1)).sub p.l).den ρ=two k-1-p.l.den ρ:=by rw[I.l8,I.bC]
   refine aE.pure ⟨⟨I.xE (I.dX _ _) amx.1,by simp only[aH];omega,by simp only[aH];omega⟩,_,rfl,λw _=> .inl ?_⟩;have key:k.wrap (rk k.bits (if k.signed=true then-1 else k.max)^^^rk k.bits (p.l.den ρ)).toNat=two k-1-p.l.den ρ:=by
    have ag:=hc.1.1;obtain⟨X,cb⟩:=mr (show 0<=p.l.den ρ by omega);have hlt:X<2^k.bits:=by
     have:(X:Int)<2^k.bits:=by rw[<-yW,<-cb];omega
     exact_mod_cast this
    have jL:(rk k.bits (if k.signed=true then-1 else k.max))=BitVec.allOnes k.bits:=by
     cases k<;>simp[Sp]at ag<;>rfl
    rw[jL,BitVec.allOnes_xor,BitVec.toNat_not,cb,JJ];have ca:((X:Int)% ((2^k.bits:Nat):Int)).toNat=X:=by
     rw[lO (by omega) (by exact_mod_cast hlt)];rfl
    rw[ca,XQ];have ah:half k=0:=by simp[half,ag]
    have h2:two k=((2^k.bits:Nat):Int):=by rw[yW];simp
    rw[ah,h2,Int.add_zero,Int.sub_zero,lO (by omega) (by omega)];omega
   simp only[execOp,h,av,Op.unary,Yj,W.den,A.den,aH];simp at key;simp[key]
  ·rename_i k p hv;rw[hv]at hx;have av:a.eval x= .int k (p.l.den ρ):=hx.2;have cg:=bZ.ok.agree (n':=n) hx.1 (agree.refl n ρ) (b1 _);have dh:=cg.2;have aH:(p.l.smul (-1)).den ρ=-p.l.den ρ:=by rw[I.na];omega
   refine(Gz (k:=k) (x:=⟨p.l.smul (-1),-p.hi,-p.lo⟩) ⟨I.xD cg.1,by simp only[aH];omega,by simp only[aH];omega⟩).bind λa6 bh r _ _ ⟨h1,h2⟩=>aE.pure ⟨h1,_,rfl,λw _=> .inl ?_⟩;simp only[aH]at h2;simp[execOp,h,av,Op.unary,Op.intArith,W.den,A.den,h2]
  ·exact aE.fail
 case h_8 s d x h=>
  have hx:=c4 aB x;unfold am1;split
  ·rename_i bJ p hu ag hv;rw[hv]at hx;have av:a.eval x= .int bJ (p.l.den ρ):=hx.2;split
   ·rename_i c hc;refine fe λhsz=>?_;have hl:(Yk c).data.toList.length<=nw:=by
     have:=gq hsz;have h2:(Yk c).data.toList.length=(Yk c).size:=by simp
     unfold nw;omega
    refine aE.pure ⟨⟨I.dX _ _,by rw[I.bC];exact zz _,by rw[I.bC];exact x1 hl⟩,_,rfl,λw _=> .inl ?_⟩;simp[execOp,h,av,convert,gz hu,gz ag,Conv.intToString,W.den,A.den,I.bC,Ce,eS,I.ll hc]
   ·exact aE.fail
  ·split
   rotate_left
   ·exact aE.fail
   rename_i k bJ p hu ag hv;rw[hv]at hx;have av:a.eval x= .int bJ (p.l.den ρ):=hx.2;refine(Gz (k:=k) hx.1).bind λa6 bh r _ _ ⟨h1,h2⟩=>aE.pure ⟨h1,_,rfl,λw _=> .inl ?_⟩;simp[execOp,h,av,convert,gz hu,gz (afg ag),Conv.intToInt,W.den,A.den,h2]
 case h_9 t x bA h=>
  have hx:=c4 aB x;have hi:=c4 aB bA;split
  ·rename_i k i hv;rw[hv]at hi;have av:a.eval bA= .int k (i.l.den ρ):=hi.2;have he:execOp a.eval o=(do pure (mx (<-xV t (a.eval x) (.int k (i.l.den ρ))))):=by simp only[execOp,h,av]
   exact(aGH hx.1 hx.2 hi.1).mono λ_ _ _ _ _ an=>px.of_run he an
  ·exact aE.fail
 case h_10 t x bA h=>
  have hx:=c4 aB x;have hi:=c4 aB bA;split
  ·rename_i s hv;rw[hv]at hx;have av:a.eval x= .string (eS (bD (s.den ρ))):=hx.2;split
   ·rename_i i hu Fy;obtain⟨k,ag,_⟩:=ID (m:=m) (bl:=bl) Fy hi.2 hi.1;have he:execOp a.eval o=(do pure (mx (<-aja t (.string (eS (bD (s.den ρ)))) (.int k (i.den ρ))))):=by simp only[execOp,h,av,ag]
    exact(aRr (w0:=w0) (m:=m) hu hx.1).mono λ_ _ _ _ _ an=>px.of_run he an
   ·exact aE.fail
  split
  ·rename_i l i len e hv Fy K1;rw[hv]at hx;have av:a.eval x= .agg (l.map (A.den ρ m)).toArray:=hx.2;have aH:∃k,a.eval bA= .int k i:=by
    unfold Tw at Fy;split at Fy
    ·rename_i k p np;rw[np]at hi;have:a.eval bA= .int k (p.l.den ρ):=hi.2;exact⟨k,by rw[this,I.ll Fy]⟩
    ·cases Fy
   obtain⟨k,aH⟩:=aH;split
   ·rename_i s hs;refine fe λhc=>?_;simp only[bI,decide_eq_true_eq]at hc;refine(asP (w0:=w0) (m:=m) (bl:=bl) hx.1).mono λa6 bh v _ _ ⟨aQ,val,bn,cj⟩=>⟨aQ,val,bn,λw hw=> .inl ?_⟩;have:=cj w hw;simp[execOp,h,av,aH,aja,asIntOf,gz (zm K1),hc,kW hs,this]
   ·exact aE.fail
  ·exact aE.fail
 case h_11 s x f h=>
  have hx:=c4 aB x;split
  ·rename_i b off fd hv hf;rw[hv]at hx;have av:a.eval x= .pointer (some ⟨m b,off,none⟩):=hx.2;obtain⟨fs,hu,OY⟩:=acx hf;split
   ·rename_i k hs;refine aE.pure ⟨hx.1,_,rfl,λw _=> .inl ?_⟩;simp[execOp,h,av,awh,gz hu,OY,pt,fieldPlace,kW hs,lk,W.den,A.den]
   ·exact aE.fail
  ·exact aE.fail
 case h_12 s x f h=>
  have hx:=c4 aB x;split
  ·rename_i l fd hv hf;rw[hv]at hx;have av:a.eval x= .agg (l.map (A.den ρ m)).toArray:=hx.2;obtain⟨fs,hu,OY⟩:=acx hf;refine(asP (w0:=w0) (m:=m) (bl:=bl) hx.1).mono λa6 bh v _ _ ⟨aQ,val,bn,cj⟩=>⟨aQ,val,bn,λw hw=> .inl ?_⟩;have:=cj w hw;simp[execOp,h,av,Instr.field,asAgg,gz hu,OY,this]
  ·exact aE.fail
 case h_13 x i h=>
  have hx:=c4 aB x;split
  ·rename_i l hv;rw[hv]at hx;have av:a.eval x= .tuple (l.map (W.den ρ m)).toArray:=hx.2;split
   ·rename_i u hu;refine aE.pure ⟨hx.1 u (fw hu),_,rfl,λw _=> .inl ?_⟩;simp[execOp,h,av,awg,hu]
   ·exact aE.fail
  ·exact aE.fail
 case h_14 t x lo hi h=>
  have hx:=c4 aB x;split
  ·rename_i s hv hu;rw[hv]at hx;have av:a.eval x= .string (eS (bD (s.den ρ))):=hx.2;have he:execOp a.eval o=(do pure (mx (<-uW t (.string (eS (bD (s.den ρ)))) (lo.map a.eval) (hi.map a.eval) none))):=by simp only[execOp,h,av];rfl
   exact(aRt (w0:=w0) (m:=m) hu hx.1 aB).mono λ_ _ _ _ _ an=>px.of_run he an
  have key:∀(y:Option rl) (c:Option Int),Wk tm y=some c->∃f:Int->bf,(∀c,∃k,f c= .int k c)/\y.map a.eval=c.map f:=by
   intro y c hy;unfold Wk at hy;cases y with
   |none=>simp at hy;subst hy;exact⟨λc=> .int .i64 c,λc=>⟨_,rfl⟩,rfl⟩
   |some y=>
    simp only at hy;have hi:=c4 aB y;unfold Tw at hy;split at hy
    ·rename_i ek an;split at an
     ·rename_i k p np;simp only[bu]at hy;subst hy;rw[np]at hi;have:a.eval y= .int k (p.l.den ρ):=hi.2;exact⟨λc=> .int k c,λc=>⟨_,rfl⟩,by simp[this,I.ll an]⟩
     ·cases an
    ·cases hy
  split
  ·rename_i l ah h1 h2;obtain⟨an7,an8,an9⟩:=key lo l h1;obtain⟨aXY,T1,anZ⟩:=key hi ah h2;unfold at0;split
   ·rename_i b off IX e hv K1;rw[hv]at hx;have av:a.eval x= .pointer (some ⟨m b,off,none⟩):=hx.2;split
    ·rename_i s hs;refine fe λhc=>?_;simp only[bI,decide_eq_true_eq]at hc;refine aE.pure ⟨hx.1,_,rfl,λw _=> .inl ?_⟩;have qd:(pv false IX IX (lo.map a.eval) (hi.map a.eval) none).run P w= .ok ((l.getD 0).toNat,(ah.getD IX).toNat,IX) w:=by
      rw[an9,anZ];have c1:∀(k:eB) (i:Int) (y:Nat) (dQ:BoundsCode),0<=i->i<=y->(St (.int k i) y dQ).run P w= .ok i.toNat w:=λk i y dQ bw bz=>by
       simp[St,asIntOf,bw,bz]
      cases l with
      |none=>
       cases ah with
       |none=>simp[pv]
       |some aP=>
        obtain⟨bJ,nW⟩:=T1 aP;simp only[ajc,EF]at hc;simp[pv,nW,c1 bJ aP IX _ (by omega) (by omega)]
      |some l'=>
       obtain⟨k1,ni⟩:=an8 l';cases ah with
       |none=>
        simp only[ajc,EF]at hc;simp[pv,ni,c1 k1 l' IX _ (by omega) (by omega)]
       |some aP=>
        obtain⟨bJ,nW⟩:=T1 aP;simp only[EF]at hc;simp[pv,nW,ni,c1 bJ aP IX _ (by omega) (by omega),c1 k1 l' aP.toNat _ (by omega) (by omega)]
     simp only[execOp,h,av,aWM,uW];simp[gz (zm K1),pt,qd,kW hs,lk,W.den,A.den];intro an;have h3:=hc.2;omega
    ·exact aE.fail
   ·rename_i b off len cap hv K1;rw[hv]at hx;have av:a.eval x= .slice (some ⟨m b,off,none⟩) len cap:=hx.2;split
    ·rename_i e yl;split
     ·rename_i s hs;refine fe λhc=>?_;simp only[bI,decide_eq_true_eq]at hc;refine aE.pure ⟨hx.1,_,rfl,λw _=> .inl ?_⟩;have qd:(pv true len cap (lo.map a.eval) (hi.map a.eval) none).run P w= .ok ((l.getD 0).toNat,(ah.getD len).toNat,cap) w:=by
       rw[an9,anZ];have c1:∀(k:eB) (i:Int) (y:Nat) (dQ:BoundsCode),0<=i->i<=y->(St (.int k i) y dQ).run P w= .ok i.toNat w:=λk i y dQ bw bz=>by
        simp[St,asIntOf,bw,bz]
       cases l with
       |none=>
        cases ah with
        |none=>simp[pv]
        |some aP=>
         obtain⟨bJ,nW⟩:=T1 aP;simp only[ajc,EF]at hc;simp[pv,nW,c1 bJ aP cap _ (by omega) (by omega)]
       |some l'=>
        obtain⟨k1,ni⟩:=an8 l';cases ah with
        |none=>
         simp only[ajc,EF]at hc;simp[pv,ni,c1 k1 l' len _ (by omega) (by omega)]
        |some aP=>
         obtain⟨bJ,nW⟩:=T1 aP;simp only[EF]at hc;simp[pv,nW,ni,c1 bJ aP cap _ (by omega) (by omega),c1 k1 l' aP.toNat _ (by omega) (by omega)]
      simp only[execOp,h,av,aWM,uW];simp[gz (jP yl),ajb,qd,kW hs,lk,W.den,A.den];intro an;have h3:=hc.2;omega
     ·exact aE.fail
    ·exact aE.fail
   ·exact aE.fail
  ·exact aE.fail
 case h_15 c h=>
  split
  ·rename_i f hc;split
   ·rename_i g adL;have s4:∀v∈c.args.toList.map (cB tm),V.ok n bl.length ρ v:=λv hv=>by
     obtain⟨x,_,rfl⟩:=List.mem_map.1 hv;exact(c4 aB x).1
    refine(di f g adL L n ρ m bl _ _ hb hex s4 (SO (xs:=c.args.toList) aB)).mono λa6 bh v _ _ ⟨aQ,val,bn,cj⟩=>⟨aQ,val,bn,λw hw=>?_⟩;have he:=aho (a:=a) hc o h;have ha:(c.args.toList.map a.eval).toArray=c.args.map a.eval:=by
     rw[<-AY]
    have dU:=cj w hw;rw[ha]at dU;rcases dU with dU|⟨dU,jv⟩
    ·exact .inl (by rw[he];exact dU)
    ·exact .inr ⟨f,_,by rw[he];exact dU,jv⟩
   ·exact aE.fail
  ·rename_i hc;split
   ·rename_i x t gY o4;have hx:=c4 aB x;split
    ·rename_i s hv hu;rw[hv]at hx;have av:a.eval x= .string (eS (bD (s.den ρ))):=hx.2;have bR:c.args=#[x]:=by rw[<-l4 (xs:=c.args),gY]
     have a2:c.argTypes=#[t]:=by rw[<-l4 (xs:=c.argTypes),o4]
     have he:execOp a.eval o=(do pure (mx (<-M5 #[t] o.type #[.string (eS (bD (s.den ρ)))]))):=by
      simp[execOp,h,resolve,hc,bR,a2,av,invoke,builtin]
     exact(aRs (w0:=w0) (m:=m) hu hx.1).mono λ_ _ _ _ _ an=>px.of_run he an
    split
    ·rename_i b off len cap e hv hs;rw[hv]at hx;have av:a.eval x= .slice (some ⟨m b,off,none⟩) len cap:=hx.2;refine aE.pure ⟨bZ.qI _ _ _,_,rfl,λw _=> .inl ?_⟩;have bR:c.args=#[x]:=by rw[<-l4 (xs:=c.args),gY]
     have a2:c.argTypes=#[t]:=by rw[<-l4 (xs:=c.argTypes),o4]
     simp[execOp,h,resolve,hc,bR,a2,av,invoke,builtin,M5,gz (jP hs),goInt,W.den,A.den,bZ.const,I.bC]
    ·rename_i b len lo e hv hs;rw[hv]at hx;obtain⟨oy,_,av⟩:=hx.2;refine aE.pure ⟨bZ.qI _ _ _,_,rfl,λw _=> .inl ?_⟩;have bR:c.args=#[x]:=by rw[<-l4 (xs:=c.args),gY]
     have a2:c.argTypes=#[t]:=by rw[<-l4 (xs:=c.argTypes),o4]
     simp[execOp,h,resolve,hc,bR,a2,av,invoke,builtin,M5,gz (jP hs),goInt,W.den,A.den,bZ.const,I.bC]
    ·exact aE.fail
   ·exact aE.fail
  ·exact aE.fail
 case h_16 f first lC h=>
  split
  ·rename_i l hf hl;obtain⟨g1,g2⟩:=aLB (m:=m) hl (λv hv=>by obtain⟨x,_,rfl⟩:=List.mem_map.1 hv;exact(c4 aB x).1) (SO (xs:=lC.toList) aB);have apy:first=#[]:=by rw[<-l4 (xs:=first),hf]
   have Fx:lC.map a.eval=(l.map (A.den ρ m)).toArray:=by rw[<-g2,<-AY]
   refine aE.pure ⟨g1,_,rfl,λw _=> .inl ?_⟩;simp only[execOp,h,Fx,apy];simp[Instr.makeFunc]
  ·exact aE.fail
 case h_17 t parts h=>
  split
  ·rename_i l hl;obtain⟨g1,g2⟩:=azm (n:=n) (nb:=bl.length) (ρ:=ρ) (m:=m) (vals:=(parts.map λ(i,x)=>(i,a.eval x)).toList) hl (by
    rw[AY];generalize parts.toList=lx;induction lx with
    |nil=>exact trivial
    |cons p r ih=>exact⟨⟨rfl,c4 aB p.2⟩,ih⟩)
   refine aE.pure ⟨g1,_,rfl,λw _=> .inl ?_⟩;simp only[execOp,h];simp[run_build w t _ _ g2,W.den]
  ·exact aE.fail
 case h_18 t x h=>
  have hx:=c4 aB x;split
  ·rename_i b len lo k e hv ha;rw[hv]at hx;refine fe λhc=>aE.pure ⟨hx.1,_,rfl,λw _=> .inl ?_⟩;obtain⟨c,iD,hc2⟩:=hx.2;have hle:¬len<k:=by have:=gq hc;omega
   simp only[execOp,h];rw[hc2];simp[awr,gz (zm ha),hle,W.den,A.den]
  ·rename_i b off len cap k e hv ha;rw[hv]at hx;refine fe λhc=>aE.pure ⟨by simpa [V.ok,W.ok,A.ok]using hx.1,_,rfl,λw _=> .inl ?_⟩;have hle:¬len<k:=by have:=gq hc;omega
   have av:a.eval x=_:=hx.2;simp only[execOp,h];rw[av];simp[awr,gz (zm ha),hle,W.den,A.den]
  ·exact aE.fail
 case h_19=>exact aE.fail
end
end Go.bX
namespace Go.bX
open M
noncomputable def Tr (c:a8) (code i:I) (j:Nat):M A:=
 match c with
 | .int k lo hi=>bind (gF 21 [code,i,.const j] lo hi) λl=>pure (.int k ⟨l,lo,hi⟩)
 | .str=>bind (gF 21 [code,i,.const j] 0 p3) λl=>pure (.str l)
 | .bool=>bind (gF 21 [code,i,.const j] 0 1) λl=>pure (.bool (.mkEq ⟨l,0,1⟩ (.const 1)))
noncomputable def Ts (code i:I):Nat->List a8->M (List A)
 |_,[]=>pure []
 |j,c::r=>bind (Tr c code i j) λa=>bind (Ts code i (j+1) r) λl=>pure (a::l)
noncomputable def ahi (c:a8) (code:I):Nat->I->M (List A)
 |0,_=>pure []
 |q+1,i=>bind (hK 21 [code,i]) λ_=>bind (Tr c code i 0) λa=>bind (ahi c code q (i.add (.const 1))) λl=>pure (a::l)
noncomputable def acp (P:cc) (bl:List aM) (t:bE) (b bL:Nat) (o i:I) (j:Nat):M V:=
 match bl[b]? with
 |some ([.rows sh off code cap kind],_)=>cond (eC 0 kind&&aU bL sh.length&&I.beq o off) (bind (hK 21 [code,i]) λ_=>match lu P t,gI P t with
  |some true,some k=>cond (cV (j+k) sh.length) (bind (Ts code i j ((sh.drop j).take k)) λl=>pure (.w (.agg l))) (match sh,j with
   |[c],0=>bind (ahi c code k i) λl=>pure (.w (.agg l))
   |_,_=>fail)
  |some false,_=>match sh[j]? with
   |some c=>bind (Tr c code i j) λa=>pure (.w (.one a))
   |none=>fail
  |_,_=>fail) fail
 |_=>fail
def ahH (P:cc) (t:bE) (b bL:Nat) (o ro len:I) (bA:I):M V:=
 match kX P t with
 |some e=>match gI P e with
  |some s=>cond (aU s bL) (bind (hK 30 [bA,len]) λ_=>pure (.w (.one (.ep b bL o (ro.add bA) 0)))) fail
  |none=>fail
 |none=>fail
def Ka (op:Nat) (ls:List I):M Unit:=λn k=> .wS op ls (k () n)
def ahJ (P:cc) (t:bE) (b bL:Nat) (o ro len cap:I) (x y:I):M V:=
 match kX P t with
 |some e=>match gI P e with
  |some s=>cond (aU s bL) (bind (hK 32 [x,y,len]) λ_=>match x.fk with
   |some 0=>pure (.w (.one (.sl b bL o ro y cap)))
   |_=>bind (Ka 68 [len,cap]) λ_=>bind (gF 33 [ro,x,cap] 0 0x8000000000000000) λr=>pure (.w (.one (.sl b bL o r (y.sub x) (cap.sub x))))) fail
  |none=>fail
 |none=>fail
def Fa (tm:List V) (d:I):Option rl->Option I
 |none=>some d
 |some x=>uj (cB tm x)
def Th:List a8->Bool
 |[.int .u8 lo hi]=>decide (lo=0)&&decide (hi=255)
 |_=>false
noncomputable def ahI (bl:List aM) (b bL:Nat) (o ro len:I):M V:=
 match bl[b]? with
 |some ([.rows sh off code cap kind],_)=>cond (eC 0 kind&&aU bL 1&&I.beq o off&&Th sh) (bind (hK 35 [code,ro,ro.add len]) λ_=>bind (gF 34 [code,ro,ro.add len] 0 p3) λl=>pure (.w (.one (.str l)))) fail
 |_=>fail
def Td {α:Type} (b:bO) (x y:M α):M α:=λn k=>match b with
 | .lit v=>cond v (x n k) (y n k)
 |b=> .vj b (x n k) (y n k)
def ar4 (k:eB) (x y:bZ):M V:=Td (.mkLt y x) (pure (.w (.one (.int k y)))) (pure (.w (.one (.int k x))))
def ar1 (k:eB) (x y:bZ):M V:=Td (.mkLt x y) (pure (.w (.one (.int k y)))) (pure (.w (.one (.int k x))))
def rv:List A->Option (List Bool)
 |[]=>some []
 | .bool (.lit b)::r=>match rv r with|some l=>some (b::l)|none=>none
 |_::_=>none
def DB:Nat->List Bool->List UInt8
 |_,[]=>[]
 |i,b::r=>cond b (AR i::DB (i+1) r) (DB (i+1) r)
def ahB (bl:List aM) (b off:Nat) (bA:bZ):M V:=
 match bl[b]? with
 |some (cs,_)=>match rv ((cs.drop off).take (bA.hi.toNat+1))with
  |some l=>cond (aU l.length (bA.hi.toNat+1)&&cV bA.hi.toNat 255&&decide (0<=bA.lo)&&cy cs) (bind (gF 43 [.const (k5 (DB 0 l)),bA.l] 0 1) λr=>pure (.w (.one (.bool (.mkEq ⟨r,0,1⟩ (.const 1)))))) fail
  |none=>fail
 |none=>fail
noncomputable def ahj (P:cc) (bl:List aM) (tm:List V) (o:Oper):Option (M V):=
 match o.op with
 | .load t x=>match cB tm x with
  | .w (.one (.ep b bL o i j))=>some (acp P bl t b bL o i j)
  | .w (.one (.q5 b off bA))=>match P.underlying t with
   |some .bool=>some (ahB bl b off bA)
   |_=>none
  |_=>none
 | .nilCheck x=>match cB tm x with
  | .w (.one (.ep b bL o i j))=>some (pure (.w (.one (.ep b bL o i j))))
  |_=>none
 | .indexAddr t x bA=>match cB tm x,cB tm bA with
  | .w (.one (.sl b bL o ro len cap)),.w (.one (.int _ i))=>some (ahH P t b bL o ro len i.l)
  |_,_=>none
 | .sliceToArrayPointer t x=>match cB tm x,wR P t with
  | .w (.one (.sl b bL o ro len cap)),some (k,_)=>some (cond (eC 0 k) (bind (hK 30 [.const ((k:Int)-1),len]) λ_=>pure (.w (.one (.ep b bL o ro 0)))) fail)
  |_,_=>none
 | .fieldAddr s x f=>match cB tm x,Om P s f with
  | .w (.one (.ep b bL o i j)),some fd=>match gI P fd.type with
   |some (_+1)=>some (pure (.w (.one (.ep b bL o i (j+fd.offset)))))
   |_=>none
  |_,_=>none
 | .slice t x lo hi none=>match cB tm x with
  | .w (.one (.sl b bL o ro len cap))=>match Fa tm (.const 0) lo,Fa tm len hi with
   |some p,some q=>some (ahJ P t b bL o ro len cap p q)
   |_,_=>none
  |_=>none
 | .convert s d x=>match cB tm x,kX P s,P.underlying d with
  | .w (.one (.sl b bL o ro len cap)),some e,some .string=>match P.underlying e with
   |some (.int .u8)=>some (ahI bl b bL o ro len)
   |_=>none
  |_,_,_=>none
 | .call c=>match c.callee with
  | .builtin .len=>match c.args.toList,c.argTypes.toList with
   |[x],[t]=>match cB tm x,kX P t with
    | .w (.one (.sl b bL o ro len cap)),some _=>some (pure (.w (.one (.int .i64 ⟨len,0,0x7fffffffffffffff⟩))))
    |_,_=>none
   |_,_=>none
  | .builtin .min=>match c.args.toList with
   |[x,y]=>match cB tm x,cB tm y with
    | .w (.one (.int k p)),.w (.one (.int bJ q))=>cond (decide (k=bJ)) (some (ar4 k p q)) none
    |_,_=>none
   |_=>none
  | .builtin .max=>match c.args.toList with
   |[x,y]=>match cB tm x,cB tm y with
    | .w (.one (.int k p)),.w (.one (.int bJ q))=>cond (decide (k=bJ)) (some (ar1 k p q)) none
    |_,_=>none
   |_=>none
  |_=>none
 | .binOp op t x y _=>match kX P t,cB tm x,cB tm y with
  |some _,.w (.one (.sl b bL o ro len cap)),.w (.one (.con (.slice none 0 0)))=>match op with
   | .eql=>some (bind (Ka 53 [cap,len]) λ_=>pure (.w (.one (.bool (.lt cap (.const 0))))))
   | .neq=>some (bind (Ka 53 [cap,len]) λ_=>pure (.w (.one (.bool (.mkNot (.lt cap (.const 0)))))))
   |_=>none
  |_,_,_=>none
 |_=>none
def S6 (bl:List aM) (b off:Nat):Option (List a8×I×Nat):=
 match bl[b]? with
 |some ([.rows sh o code cap kind],_)=>match cap.fk with
  |some c=>cond (aU off 0&&eC 0 kind&&I.beq o (.const 0)&&decide (0<=c)) (some (sh,code,c.toNat)) none
  |none=>none
 |_=>none
noncomputable def S3 (code:I) (sh:List a8):Nat->Nat->M (List A)
 |_,0=>pure []
 |i,k+1=>bind (Ts code (.const i) 0 sh) λa=>bind (S3 code sh (i+1) k) λl=>pure (a++l)
def ahK (P:cc) (t:bE) (b bL:Nat) (o ro len cap:I) (x y z:I):M V:=
 match kX P t with
 |some e=>match gI P e with
  |some s=>cond (aU s bL) (bind (cond (I.beq z len) (hK 78 [x,y,z,cap]) (hK 64 [x,y,z,len])) λ_=>bind (gF 33 [ro,x,z] 0 0x8000000000000000) λr=>pure (.w (.one (.sl b bL o r (y.sub x) (z.sub x))))) fail
  |none=>fail
 |none=>fail
noncomputable def WQ (P:cc) (bl:List aM) (tm:List V) (o:Oper):Option (M V):=
 match o.op with
 | .indexAddr t x bA=>match cB tm x,cB tm bA with
  | .w (.one (.ptr b off)),.w (.one (.int _ i))=>match S6 bl b off,wR P t with
   |some (sh,code,c),some (len,e)=>match gI P e with
    |some s=>cond (aU s sh.length&&aU len c) (some (bind (hK 30 [i.l,.const len]) λ_=>pure (.w (.one (.ep b s (.const 0) i.l 0))))) none
    |none=>none
   |_,_=>none
  |_,_=>none
 | .load t x=>match cB tm x with
  | .w (.one (.ptr b off))=>match S6 bl b off,lu P t,gI P t with
   |some (sh,code,c),some true,some k=>cond (aU k (c*sh.length)) (some (bind (hK 31 [code,.const c]) λ_=>bind (S3 code sh 0 c) λl=>pure (.w (.agg l)))) none
   |_,_,_=>none
  |_=>none
 | .slice t x lo (some hi) (some fE)=>match cB tm x with
  | .w (.one (.sl b bL cT ro len cap))=>match Fa tm (.const 0) lo,uj (cB tm hi),uj (cB tm fE)with
   |some p,some q,some r=>some (ahK P t b bL cT ro len cap p q r)
   |_,_,_=>none
  |_=>none
 | .call c=>match c.callee with
  | .builtin .len=>match c.args.toList,c.argTypes.toList with
   |[x],[t]=>match cB tm x,kX P t with
    | .w (.one (.con (.slice none 0 0))),some _=>some (pure (.w (.one (.int .i64 (.const 0)))))
    |_,_=>none
   |_,_=>none
  |_=>none
 |_=>none
noncomputable def TG (cal:gb) (bl:List aM) (tm:List V) (o:Oper):Option (M V):=
 match o.op with
 | .call c=>match c.callee with
  | .value (.tmp x)=>match cB tm (.tmp x)with
   | .w (.one (.con (.func (.func f) TZ T0)))=>cond (aU TZ.size 0&&aU T0.size 0) ((cal f).map λg=>g bl (c.args.toList.map (cB tm))) none
   |_=>none
  |_=>none
 |_=>none
noncomputable def Eb (P:cc) (cal:gb) (gl:fK) (bl:List aM) (tm:List V) (o:Oper):M V:=
 match ahj P bl tm o with
 |some x=>x
 |none=>match WQ P bl tm o with
  |some x=>x
  |none=>match TG cal bl tm o with
   |some x=>x
   |none=>ag4 P cal gl bl tm o
theorem pz.get {cells:Array bf} {off:Nat} {sh:List a8} {rows:List (List Int)} (h:pz cells off sh rows) {i j:Nat} {row:List Int} {v:bf} (hi:rows[i]?=some row) (aR:(eA sh row)[j]?=some v):cells[off+i*sh.length+j]?=some v:=by
 obtain⟨h1,pre,post,h2,h3⟩:=h;have h4:=acD h1 hi aR;rw[<-Su,h2,List.append_assoc,MY (by omega),wG]
 ·rw[show off+i*sh.length+j-pre.length=i*sh.length+j by omega];exact h4
 ·have:=(List.getElem?_eq_some_iff.1 h4).1;omega
section
variable {S:Nat->List Int->List Int->Prop} {L:V->Env->Prop} {n:Nat} {ρ:Env} {m:Nat->Nat} {bl:List aM} {gl:fK} {w0:fg} {P:cc} {tm:List V} {a:Act}
theorem amy {α:Type} {b:bO} {x y:M α} {R:Env->Nat->α->Prop} (h1:b.den ρ=true->aE S L x n ρ R) (h2:b.den ρ=false->aE S L y n ρ R):aE S L (Td b x y) n ρ R:=by
 intro A k ag;unfold Td at ag;cases hb:b.den ρ with
 |true=>
  cases b with
  |lit v=>simp only[bO.den]at hb;subst hb;exact h1 rfl A k ag
  |_=>exact h1 hb A k (ag.1 hb)
 |false=>
  cases b with
  |lit v=>simp only[bO.den]at hb;subst hb;exact h2 rfl A k ag
  |_=>exact h2 hb A k (ag.2 hb)
theorem abC {nb:Nat} {c:a8} {code i:I} {j:Nat} {z:Int} {row:List Int} (k9:(af (code.den ρ))[(i.den ρ).toNat]?=some row) (hz:row[j]?=some z) (h1:c.gu.1<=z) (h2:z<=c.gu.2):
 aE S L (Tr c code i j) n ρ λae n' x=>x.ok n' nb ae/\x.den ae m=c.val z:=by
 have hf:cu 21 ([code,i,I.const (j:Nat)].map (·.den ρ))=z:=by
  simp only[df,gr,I.bC,cu,hC];simp[U,k9,hz]
 cases c with
 |int k lo hi=>
  refine(iR (by rw[hf];exact h1) (by rw[hf];exact h2)).bind λa6 bh l _ _ ⟨g1,g2⟩=>aE.pure ⟨⟨g1,?_,?_⟩,?_⟩
  ·rw[g2,hf];exact h1
  ·rw[g2,hf];exact h2
  ·simp only[A.den,a8.val];rw[g2,hf]
 |str=>
  refine(iR (by rw[hf];exact h1) (by rw[hf];exact h2)).bind λa6 bh l _ _ ⟨g1,g2⟩=>aE.pure ⟨⟨g1,?_,?_⟩,?_⟩
  ·rw[g2,hf];exact h1
  ·rw[g2,hf];exact h2
  ·simp only[A.den,a8.val];rw[g2,hf]
 |bool=>
  refine(iR (by rw[hf];exact h1) (by rw[hf];exact h2)).bind λa6 bh l _ _ ⟨g1,g2⟩=>aE.pure ?_;have cm:bZ.ok bh a6 ⟨l,0,1⟩:=⟨g1,by simp only;rw[g2,hf];exact h1,by simp only;rw[g2,hf];exact h2⟩;have e:=bO.x7 cm (bZ.qI bh a6 1);refine⟨e.2,?_⟩;simp only[A.den,a8.val];rw[e.1];simp only[bZ.const,I.bC];rw[g2,hf]
theorem abF {nb:Nat} {sh:List a8} {row:List Int} (cm:cX sh row):∀{r:List a8} {n:Nat} {ρ:Env} {code i:I} {j:Nat},code.bU n->i.bU n->(af (code.den ρ))[(i.den ρ).toNat]?=some row->(∀(x:Nat) (c:a8),r[x]?=some c->sh[j+x]?=some c)->
 aE S L (Ts code i j r) n ρ λae n' l=>(∀a∈l,A.ok n' nb ae a)/\l.length=r.length/\∀(x:Nat) (a:A),l[x]?=some a->(eA sh row)[j+x]?=some (a.den ae m)
 |[],n,ρ,code,i,j,_,_,_,_=>aE.pure ⟨λ_ h=>by simp at h,rfl,λx a h=>by simp at h⟩
 |c::r,n,ρ,code,i,j,Dv,zX,k9,hr=>by
  have h0:=hr 0 c rfl;obtain⟨z,h1,h2,h3,h4⟩:=cm.get h0;refine(abC (nb:=nb) (m:=m) k9 h1 h2 h3).bind λa6 bh y hn ha ⟨g1,g2⟩=>?_;refine(abF (nb:=nb) (r:=r) (n:=bh) (ρ:=a6) (code:=code) (i:=i) (j:=j+1) cm (Dv.mono hn) (zX.mono hn) (by rw[I.cq ha Dv,I.cq ha zX];exact k9) (λx c hx=>by
   have:=hr (x+1) c (by simpa using hx);rw[show j+1+x=j+(x+1) by omega];exact this)).bind λcd fF l fX eI ⟨k1,k2,k3⟩=>aE.pure ⟨λb hb=>?_,by simp[k2],λx b hb=>?_⟩
  ·rcases List.mem_cons.1 hb with rfl|hb
   ·exact g1.ext eI fX (b1 _)
   ·exact k1 b hb
  ·cases x with
   |zero=>
    simp only[xU,bu]at hb;subst hb;rw[A.oz g1 eI (λ_ _=>rfl),g2];exact h4
   |succ x=>
    have:=k3 x b (by simpa using hb);rw[show j+(x+1)=j+1+x by omega];exact this
theorem atm {nb:Nat} {c:a8} {code:I}:∀{q n:Nat} {ρ:Env} {i:I},(∀row∈af (code.den ρ),cX [c] row)->code.bU n->i.bU n->
 aE S L (ahi c code q i) n ρ λae n' l=>(∀a∈l,A.ok n' nb ae a)/\l.length=q/\∀(x:Nat) (a:A),l[x]?=some a->∃row,(af (code.den ρ))[(i.den ρ).toNat+x]?=some row/\(eA [c] row)[0]?=some (a.den ae m)
 |0,n,ρ,i,_,_,_=>aE.pure ⟨λ_ h=>by simp at h,rfl,λx a h=>by simp at h⟩
 |q+1,n,ρ,i,lQ,Dv,zX=>by
  refine kb λag=>?_;simp only[df,gr,aj]at ag;have hlt:(i.den ρ).toNat<(af (code.den ρ)).length:=by omega
  have k9:(af (code.den ρ))[(i.den ρ).toNat]?=some (af (code.den ρ))[(i.den ρ).toNat]:=lA hlt;have cm:=lQ _ (CL hlt);generalize (af (code.den ρ))[(i.den ρ).toNat]=row at k9 cm;obtain⟨z,h1,h2,h3,h4⟩:=cm.get (show([c]:List a8)[0]?=some c from rfl);refine(abC (nb:=nb) (m:=m) k9 h1 h2 h3).bind λa6 bh y hn ha ⟨g1,g2⟩=>?_;have kD:=I.cq ha Dv;have hid:=I.cq ha zX;refine(atm (nb:=nb) (q:=q) (n:=bh) (ρ:=a6) (i:=i.add (.const 1)) (by rw[kD];exact lQ) (Dv.mono hn) (I.yT (zX.mono hn) (I.dX _ _))).bind λcd fF l fX eI ⟨k1,k2,k3⟩=>aE.pure ⟨λb hb=>?_,by simp[k2],λx b hb=>?_⟩
  ·rcases List.mem_cons.1 hb with rfl|hb
   ·exact g1.ext eI fX (b1 _)
   ·exact k1 b hb
  ·cases x with
   |zero=>
    simp only[xU,bu]at hb;subst hb;exact⟨row,by simpa using k9,by rw[A.oz g1 eI (λ_ _=>rfl),g2];exact h4⟩
   |succ x=>
    obtain⟨Jr,r1,r2⟩:=k3 x b (by simpa using hb);rw[kD,I.den_add,I.bC,hid]at r1;exact⟨Jr,by rw[<-r1];congr 1;omega,r2⟩
theorem aBl (hb:dr n bl.length ρ bl) (hex:∃w,Mem w0 ρ m bl w) (t:bE) {b bL:Nat} {o i:I} {j:Nat} (hx:(A.ep b bL o i j).ok n bl.length ρ):
 aE S L (acp P bl t b bL o i j) n ρ (py w0 m bl n ρ λw=>(pZ t ((A.ep b bL o i j).den ρ m)).run P w):=by
 obtain⟨Co,yn⟩:=hex;unfold acp;split
 ·rename_i sh off code cap kind t' bd;refine fe λhc=>kb λag=>?_;simp only[bI]at hc;obtain⟨⟨c1,bQ⟩,cD⟩:=hc;have c1:0<kind:=gq c1;have bQ:=b8 bQ;have cD:=I.beq_eq cD;subst cD;have Iq:(A.rows sh o code cap kind).ok n bl.length ρ:=hb _ (fw bd) _ (by simp);simp only[df,gr,aj]at ag;have hlt:(i.den ρ).toNat<(af (code.den ρ)).length:=by omega
  have k9:(af (code.den ρ))[(i.den ρ).toNat]?=some (af (code.den ρ))[(i.den ρ).toNat]:=lA hlt;generalize (af (code.den ρ))[(i.den ρ).toNat]=row at k9;have dR:0<=cap.den ρ:=by
   rcases mw (cap.den ρ) 0 with h|h
   ·have:=(yn.rws b sh o code cap kind t' bd (by omega)).1 h;rw[this]at hlt;simp at hlt
   ·exact h
  have nk:∀w,Mem w0 ρ m bl w->cX sh row/\∀(x:Nat) (v:bf),(eA sh row)[x]?=some v->w.cell? ⟨m b,(o.den ρ).toNat+(i.den ρ).toNat*bL+x,none⟩=some v:=λw hw=>by
   obtain⟨_,cells,lM,fz,g1,⟨g2,g3⟩,_⟩:=(hw.rws b sh o code cap kind t' bd (by omega)).2 dR;refine⟨g3.1 _ (fw k9),λx v hv=>?_⟩;have:=g3.get k9 hv;simp only[oq,g1,xW,xX,if_false];rw[bQ];exact this
  have lQ:=(nk Co yn).1;cases rD:lu P t with
  |none=>exact aE.fail
  |some ayB=>
   cases ayB with
   |true=>
    cases hs:gI P t with
    |none=>exact aE.fail
    |some k=>
     simp only;cases rE:cV (j+k) sh.length with
     |false=>
      simp only[cond_false];split
      ·rename_i c _;have jL:∀row∈af (code.den ρ),cX [c] row:=by
        obtain⟨_,cells,lM,fz,g1,⟨g2,g3⟩,_⟩:=(yn.rws b [c] o code cap kind t' bd (by omega)).2 dR;exact g3.1
       refine(atm (nb:=bl.length) (m:=m) (q:=k) (i:=i) jL Iq.1.2.1 hx.2.1.2).bind λa6 bh l hn ha ⟨g1,g2,g3⟩=>aE.pure ⟨g1,_,rfl,λw hw=>?_⟩;have hl:=Sl (P:=P) w ⟨m b,(o.den ρ).toNat+(i.den ρ).toNat*bL+0,none⟩ (l.map (A.den a6 m)) λx v aR=>by
        rw[lk];rw[qw]at aR;cases an:l[x]? with
        |none=>simp[an]at aR
        |some y=>
         simp only[an,AT,bu]at aR;subst aR;obtain⟨Jr,r1,r2⟩:=g3 x y an;obtain⟨_,cells,lM,fz,av,⟨aH,ca⟩,_⟩:=(hw.rws b [c] o code cap kind t' bd (by omega)).2 dR;have:=ca.get r1 r2;simp only[oq,av,xW,xX,if_false];simp only[kx,pr]at bQ this;rw[bQ];rw[<-this];congr 1;omega
       simp only[ps,g2,m3]at hl;simp[pZ,pt,A.den,loadVar,tr rD,kW hs,hl,W.den]
      ·exact aE.fail
     |true=>
     simp only[cond_true];have rE:=gq rE;refine(abF (nb:=bl.length) (m:=m) (r:=(sh.drop j).take k) lQ Iq.1.2.1 hx.2.1.2 k9 (λx c Px=>by
      rw[tF]at Px;split at Px
      ·rw[EJ]at Px;exact Px
      ·cases Px)).bind λa6 bh l hn ha ⟨g1,g2,g3⟩=>aE.pure ⟨g1,_,rfl,λw hw=>?_⟩
     have hl:=Sl (P:=P) w ⟨m b,(o.den ρ).toNat+(i.den ρ).toNat*bL+j,none⟩ (l.map (A.den a6 m)) λx v aR=>by
      rw[lk];rw[qw]at aR;cases an:l[x]? with
      |none=>simp[an]at aR
      |some y=>
       simp only[an,AT,bu]at aR;subst aR;rw[JI];exact(nk w hw).2 (j+x) _ (g3 x y an)
     simp only[ps,g2,m4,List.length_drop,CI (show k<=sh.length-j by omega)]at hl;simp[pZ,pt,A.den,loadVar,tr rD,kW hs,hl,W.den]
   |false=>
    cases hc:sh[j]? with
    |none=>simp only;exact aE.fail
    |some c=>
     simp only;obtain⟨z,h1,h2,h3,h4⟩:=lQ.get hc;refine(abC (nb:=bl.length) (m:=m) k9 h1 h2 h3).bind λa6 bh y hn ha ⟨g1,g2⟩=>aE.pure ⟨g1,_,rfl,λw hw=>?_⟩;have:=(nk w hw).2 j _ h4;have ad8:(A.ep b bL o i j).den ρ m= .pointer (some ⟨m b,(o.den ρ).toNat+(i.den ρ).toNat*bL+j,none⟩):=rfl;simp[pZ,pt,ad8,loadVar,tr rD,this,W.den,g2]
 ·exact aE.fail
theorem xI {b bL:Nat} {o ro len cap:I} (hx:(A.sl b bL o ro len cap).ok n bl.length ρ):∃p,(A.sl b bL o ro len cap).den ρ m= .slice p (len.den ρ).toNat (if cap.den ρ<0 then 0 else(cap.den ρ).toNat)/\(cap.den ρ<0->p=none)/\(0<=cap.den ρ->p=some ⟨m b,(o.den ρ).toNat+(ro.den ρ).toNat*bL,none⟩):=by
 obtain⟨_,_,_,_,h3,_⟩:=hx;simp only[A.den];by_cases hc:cap.den ρ<0
 ·rw[if_pos hc,if_pos hc,h3 hc];exact⟨none,rfl,λ_=>rfl,λh=>by omega⟩
 ·rw[if_neg hc,if_neg hc];exact⟨_,rfl,λh=>absurd h hc,λ_=>rfl⟩
theorem aQ4 {t:bE} {b bL:Nat} {o ro len cap bA:I} {k:eB} (hx:(A.sl b bL o ro len cap).ok n bl.length ρ) (hi:bA.bU n):
 aE S L (ahH P t b bL o ro len bA) n ρ (py w0 m bl n ρ λw=>(xV t ((A.sl b bL o ro len cap).den ρ m) (.int k (bA.den ρ))).run P w):=by
 unfold ahH;cases h1:kX P t with
 |none=>exact aE.fail
 |some e=>
  cases h2:gI P e with
  |none=>simp only[h2];exact aE.fail
  |some s=>
   simp only[h2];refine fe λhs=>kb λag=>aE.pure ?_;have hs:=b8 hs;subst hs;simp only[df,gr,aj]at ag;obtain⟨ak,⟨ai,aw,dk,jz⟩,⟨jR,lW,mW,mX⟩,nE,ik,ki⟩:=hx;have dR:¬(cap.den ρ<0):=λh=>by have:=ik h;omega
   refine⟨⟨ak,⟨ai,I.yT aw hi⟩,jR,by rw[I.den_add];omega⟩,_,rfl,λw _=>?_⟩;have bQ:bA.den ρ<((len.den ρ).toNat:Int):=by omega
   have av:(ro.den ρ+bA.den ρ).toNat=(ro.den ρ).toNat+(bA.den ρ).toNat:=by omega
   simp only[A.den,if_neg dR,W.den,I.den_add,av];simp[-aWY,xV,asIntOf,gz (jP h1),ag.1,bQ,kW h2,lk,y6,JI]
theorem abh {d:I} {y:Option rl} {l:I} (h:Fa tm d y=some l) (aB:fo n bl.length ρ m tm a.tmps):(y=none/\l=d)∨∃k,y.map a.eval=some (.int k (l.den ρ))/\l.bU n:=by
 cases y with
 |none=>exact .inl ⟨rfl,by simpa [Fa]using h.symm⟩
 |some x=>
  obtain⟨k,ag,h2⟩:=ID (m:=m) (bl:=bl) h (c4 aB x).2 (c4 aB x).1;exact .inr ⟨k,by rw[<-ag];rfl,h2⟩
theorem S7 {op:Nat} {ls:List I} (h:aj op (ls.map (·.den ρ))):aE S L (Ka op ls) n ρ λae n' _=>ae=ρ/\n'=n:=λA k ag=>⟨ρ,n,(),b1 _,agree.refl _ _,⟨rfl,rfl⟩,ag h⟩
theorem aQ7 {t:bE} {b bL:Nat} {o ro len cap p q:I} {lo hi:Option rl} (hx:(A.sl b bL o ro len cap).ok n bl.length ρ) (aB:fo n bl.length ρ m tm a.tmps) (hp:Fa tm (.const 0) lo=some p) (an:Fa tm len hi=some q):
 aE S L (ahJ P t b bL o ro len cap p q) n ρ (py w0 m bl n ρ λw=>(uW t ((A.sl b bL o ro len cap).den ρ m) (lo.map a.eval) (hi.map a.eval) none).run P w):=by
 unfold ahJ;cases h1:kX P t with
 |none=>exact aE.fail
 |some e=>
  cases h2:gI P e with
  |none=>simp only[h2];exact aE.fail
  |some s=>
   simp only[h2];refine fe λhs=>kb λag=>?_;have hs:=b8 hs;subst hs;simp only[df,gr,aj]at ag;obtain⟨k1,k2,k3⟩:=ag;have o5:=hx;obtain⟨ak,⟨ai,aw,dk,jz⟩,⟨jR,lW,mW,mX⟩,⟨nE,mP⟩,ik,ki⟩:=hx;have xe:=abh hp aB;have UM:=abh an aB;have Jy:p.bU n:=by rcases xe with⟨_,rfl⟩|⟨_,_,h⟩;exact I.dX _ _;exact h
   have Mt:q.bU n:=by rcases UM with⟨_,rfl⟩|⟨_,_,h⟩;exact dk;exact h
   obtain⟨ptr,av,aH,ca⟩:=xI (m:=m) o5;have tZ:∀w,(pv true (len.den ρ).toNat (if cap.den ρ<0 then 0 else(cap.den ρ).toNat) (lo.map a.eval) (hi.map a.eval) none).run P w= .ok ((p.den ρ).toNat,(q.den ρ).toNat,(if cap.den ρ<0 then 0 else(cap.den ρ).toNat)) w:=λw=>by
    have hle:(len.den ρ)<=((if cap.den ρ<0 then 0 else(cap.den ρ).toNat:Nat):Int):=by
     split
     ·rename_i h;rw[ik h];simp
     ·rename_i h;have:=ki (by omega);omega
    generalize (if cap.den ρ<0 then 0 else(cap.den ρ).toNat)=C at hle;rcases xe with⟨rfl,rfl⟩|⟨aHn,FI,_⟩<;>rcases UM with⟨rfl,rfl⟩|⟨aHo,zS,_⟩
    ·simp[pv,I.bC]
    ·rw[zS];simp[pv,I.bC,xJ (P:=P) (by omega:0<=q.den ρ) (by omega:q.den ρ<=(C:Int))]
    ·rw[FI];simp[pv,xJ (P:=P) (y:=(q.den ρ).toNat) k1 (by omega)]
    ·rw[FI,zS];simp[pv,xJ (P:=P) (by omega:0<=q.den ρ) (by omega:q.den ρ<=(C:Int)),xJ (P:=P) (y:=(q.den ρ).toNat) k1 (by omega)]
   have jZ:∀(w:aC) (r:Int),r=(if p.den ρ=cap.den ρ then ro.den ρ else ro.den ρ+p.den ρ)->
    (uW t ((A.sl b s o ro len cap).den ρ m) (lo.map a.eval) (hi.map a.eval) none).run P w= .ok (if cap.den ρ-p.den ρ<0 then .slice none 0 0 else .slice (some ⟨m b,(o.den ρ).toNat+r.toNat*s,none⟩) (q.den ρ-p.den ρ).toNat (cap.den ρ-p.den ρ).toNat) w:=λw r hr=>by
    rw[av];have ht:(q.den ρ).toNat-(p.den ρ).toNat=(q.den ρ-p.den ρ).toNat:=by omega
    simp only[uW,jS,gz (jP h1),j6,ajb,tZ w,kW h2,kZ,ht];by_cases hc:cap.den ρ<0
    ·have hl:=ik hc;have UI:p.den ρ=0:=by omega
     rw[if_pos hc,aH hc,if_pos (by omega)];have:q.den ρ=0:=by omega
     simp[UI,this,hc]
    ·rw[if_neg hc,ca (by omega)];have gj:=ki (by omega);have FA:¬(cap.den ρ-p.den ρ<0):=by omega
     rw[if_neg FA];have gX:(cap.den ρ).toNat-(p.den ρ).toNat=(cap.den ρ-p.den ρ).toNat:=by omega
     rw[gX];by_cases Ph:p.den ρ=cap.den ρ
     ·rw[if_pos Ph]at hr;have h7:(cap.den ρ).toNat=(p.den ρ).toNat:=by omega
      rw[if_pos h7,hr]
     ·rw[if_neg Ph]at hr;have h7:¬(cap.den ρ).toNat=(p.den ρ).toNat:=by omega
      rw[if_neg h7,hr];have pF:(ro.den ρ+p.den ρ).toNat=(ro.den ρ).toNat+(p.den ρ).toNat:=by omega
      rw[pF,y6,<-JI];simp[lk]
   split
   ·rename_i h0;have UI:=I.ll h0 (ρ:=ρ);refine aE.pure ⟨⟨ak,⟨ai,aw,Mt,jz⟩,⟨jR,lW,by omega,by omega⟩,⟨nE,mP⟩,λh=>?_,λh=>?_⟩,_,rfl,λw _=>?_⟩
    ·have:=ik h;omega
    ·have:=ki h;omega
    ·have hr:=jZ w (ro.den ρ) (by rw[UI];split<;>omega);rw[UI]at hr;simp only[Int.sub_zero]at hr;simp only[W.den,A.den]at hr⊢;exact hr
   ·have qd:(0:Int)<=cu 33 ([ro,p,cap].map (·.den ρ)):=by
     simp only[df,gr,cu];split<;>omega
    have qM:cu 33 ([ro,p,cap].map (·.den ρ))<=0x8000000000000000:=by
     simp only[df,gr,cu];by_cases hc:cap.den ρ<0
     ·have:=ik hc;split<;>omega
     ·have:=ki (by omega);split<;>omega
    refine(S7 (op:=68) (ls:=[len,cap]) (show len.den ρ<=cap.den ρ∨len.den ρ=0 from by
     by_cases hc:cap.den ρ<0
     ·exact .inr (ik hc)
     ·exact .inl (ki (by omega)))).bind λcM e9 _ _ _ ⟨Ix,ue⟩=>?_
    have Ix:=Ix.symm;have ue:=ue.symm
    subst Ix;subst ue;refine(iR qd qM).bind λa6 bh r hn ha ⟨g1,g2⟩=>aE.pure ?_;simp only[df,gr,cu]at g2;have bR:=I.cq ha ai;have a2:=I.cq ha Mt;have a3:=I.cq ha Jy;have a4:=I.cq ha jz
    refine⟨⟨ak,⟨ai.mono hn,g1,I.xE (Mt.mono hn) (Jy.mono hn),I.xE (jz.mono hn) (Jy.mono hn)⟩,?_⟩,_,rfl,λw _=>?_⟩
    ·rw[I.l8,I.l8,bR,a2,a3,a4,g2];refine⟨⟨jR,?_,by omega,by omega⟩,⟨?_,?_⟩,λh=>?_,λh=>?_⟩
     ·split<;>omega
     ·by_cases hc:cap.den ρ<0
      ·have:=ik hc;omega
      ·have:=ki (by omega);omega
     ·split<;>omega
     ·by_cases hc:cap.den ρ<0
      ·have:=ik hc;omega
      ·have:=ki (by omega);omega
     ·by_cases hc:cap.den ρ<0
      ·have:=ik hc;omega
      ·have:=ki (by omega);omega
    ·refine(jZ w (r.den a6) g2).trans ?_;simp only[W.den,A.den,I.l8,bR,a2,a3,a4]
theorem aQ5 (hb:dr n bl.length ρ bl) (hex:∃w,Mem w0 ρ m bl w) {src dst e:bE} (hs:P.underlying src=some (.slice e)) (he:P.underlying e=some (.int .u8)) (hd:P.underlying dst=some .string) {b bL:Nat} {o ro len cap:I} (hx:(A.sl b bL o ro len cap).ok n bl.length ρ):
 aE S L (ahI bl b bL o ro len) n ρ (py w0 m bl n ρ λw=>(convert src dst ((A.sl b bL o ro len cap).den ρ m)).run P w):=by
 obtain⟨Co,yn⟩:=hex;unfold ahI;split
 ·rename_i sh off code k6 kind t' bd;refine fe λhc=>kb λag=>?_;simp only[bI]at hc;obtain⟨⟨⟨c1,bQ⟩,cD⟩,dq⟩:=hc;have c1:0<kind:=gq c1;have bQ:=b8 bQ;have cD:=I.beq_eq cD;subst cD;subst bQ;simp only[df,gr,aj,I.den_add]at ag;obtain⟨ptr,av,aH,ca⟩:=xI (m:=m) hx;obtain⟨ak,⟨ai,aw,dk,jz⟩,⟨jR,lW,mW,mX⟩,⟨nE,mP⟩,ik,ki⟩:=hx;generalize hR:af (code.den ρ)=rows at ag;have rF:k6.den ρ<0->rows=[]:=λh=>by rw[<-hR];exact(yn.rws b sh o code k6 kind t' bd (by omega)).1 h
  have gY:(((rows.drop (ro.den ρ).toNat).take (len.den ρ).toNat).map λrow=>row.getD 0 0).length=(len.den ρ).toNat:=by
   simp;omega
  have hf:cu 34 ([code,ro,ro.add len].map (·.den ρ))=k5 ((((rows.drop (ro.den ρ).toNat).take (len.den ρ).toNat).map λrow=>row.getD 0 0).map λz=>AR z.toNat):=by
   simp only[df,gr,cu,I.den_add,hR];have:(ro.den ρ+len.den ρ).toNat-(ro.den ρ).toNat=(len.den ρ).toNat:=by omega
   rw[this,lz];rfl
  generalize cb:(((rows.drop (ro.den ρ).toNat).take (len.den ρ).toNat).map λrow=>row.getD 0 0)=xs at gY hf;have hl:(xs.map λz=>AR z.toNat).length<=nw:=by
   have:(xs.map λz=>AR z.toNat).length=(len.den ρ).toNat:=by simp[gY]
   unfold nw;omega
  refine(iR (by rw[hf];exact zz _) (by rw[hf];exact x1 hl)).bind λa6 bh l _ _ ⟨g1,g2⟩=>aE.pure ⟨⟨g1,by rw[g2,hf];exact zz _,by rw[g2,hf];exact x1 hl⟩,_,rfl,λw hw=>?_⟩;have qS:(W.one (A.str l)).den a6 m= .string (strOfNums xs):=by
   simp only[W.den,A.den,g2,hf,Ce];rfl
  rw[qS];show(convert src dst ((A.sl b 1 o ro len cap).den ρ m)).run P w=_;rw[av];by_cases dR:cap.den ρ<0
  ·have o0:=ik dR;rw[aH dR,if_pos dR];have ap8:xs=[]:=uV (by rw[gY,o0];rfl);rw[ap8,run_convert_bytes_nil w src e hs he _ _ dst hd];rfl
  ·rw[ca (by omega),if_neg dR];by_cases OP:k6.den ρ<0
   ·have jY:=rF OP;have o0:len.den ρ=0:=by rw[jY]at ag;simp at ag;omega
    have ap8:xs=[]:=uV (by rw[gY,o0];rfl);exact run_convert_bytes_arg w src e hs he (m b) _ _ _ xs gY (λi hi=>by rw[o0]at hi;simp at hi) dst hd
   ·obtain⟨_,cells,lM,fz,k1,⟨k2,k3⟩,_⟩:=(hw.rws b sh o code k6 kind t' bd (by omega)).2 (by omega);refine run_convert_bytes_arg w src e hs he (m b) _ _ _ xs gY (λi hi=>?_) dst hd;have hlt:(ro.den ρ).toNat+i<rows.length:=by omega
    have k9:(af (code.den ρ))[(ro.den ρ).toNat+i]?=some rows[(ro.den ρ).toNat+i]:=by rw[hR];exact lA hlt
    have mc:∃lo hi,sh=[.int .u8 lo hi]:=by
     unfold Th at dq;split at dq
     ·exact⟨_,_,rfl⟩
     ·cases dq
    obtain⟨lo,eT,rfl⟩:=mc;have Iq:=k3.1 _ (fw k9);obtain⟨z,aQ,_,_,dU⟩:=Iq.get (j:=0) (c:= .int .u8 lo eT) rfl;have:=k3.get k9 dU;have hz:xs.getD i 0=z:=by
     rw[<-cb];have:i<(len.den ρ).toNat:=hi;simp[U,tF,this,hlt,aQ]
    simp only[oq,k1,xW,xX,if_false,hz];simp only[kx,pr,m3,y4,CH]at this;rw[show(o.den ρ).toNat+(ro.den ρ).toNat*1+i=(o.den ρ).toNat+((ro.den ρ).toNat+i) by omega];exact this
 ·exact aE.fail
theorem aID {k:eB} {x y:bZ} {t:bE} {ts:Array bE} (hx:x.ok n ρ) (hy:y.ok n ρ):aE S L (ar4 k x y) n ρ (py w0 m bl n ρ λw=>(ajh ts t #[.int k (x.l.den ρ),.int k (y.l.den ρ)]).run P w):=by
 have e:=bO.TA hy hx;have hr:∀w,(ajh ts t #[.int k (x.l.den ρ),.int k (y.l.den ρ)]).run P w= .ok (.int k (if y.l.den ρ<x.l.den ρ then y.l.den ρ else x.l.den ρ)) w:=λw=>by
  simp[ajh,Builtin.min2]
 refine amy (λhb=>aE.pure ⟨hy,_,rfl,λw _=>?_⟩) λhb=>aE.pure ⟨hx,_,rfl,λw _=>?_⟩
 ·rw[e.1]at hb;simp only[hr,if_pos (of_decide_eq_true hb)];rfl
 ·rw[e.1]at hb;simp only[hr,if_neg (of_decide_eq_false hb)];rfl
theorem aIC {k:eB} {x y:bZ} {t:bE} {ts:Array bE} (hx:x.ok n ρ) (hy:y.ok n ρ):aE S L (ar1 k x y) n ρ (py w0 m bl n ρ λw=>(aji ts t #[.int k (x.l.den ρ),.int k (y.l.den ρ)]).run P w):=by
 have e:=bO.TA hx hy;have hr:∀w,(aji ts t #[.int k (x.l.den ρ),.int k (y.l.den ρ)]).run P w= .ok (.int k (if x.l.den ρ<y.l.den ρ then y.l.den ρ else x.l.den ρ)) w:=λw=>by
  simp[aji,Builtin.max2]
 refine amy (λhb=>aE.pure ⟨hy,_,rfl,λw _=>?_⟩) λhb=>aE.pure ⟨hx,_,rfl,λw _=>?_⟩
 ·rw[e.1]at hb;simp only[hr,if_pos (of_decide_eq_true hb)];rfl
 ·rw[e.1]at hb;simp only[hr,if_neg (of_decide_eq_false hb)];rfl
theorem amw:∀{cs:List A} {l:List Bool},rv cs=some l->cs=l.map λb=>A.bool (.lit b)
 |[],l,h=>by simp[rv]at h;subst h;rfl
 | .bool (.lit b)::r,l,h=>by
  simp only[rv]at h;cases hr:rv r with
  |none=>simp[hr]at h
  |some l'=>
   simp only[hr,bu]at h;subst h;simp[amw hr]
 | .bool (.eq ..)::_,_,h| .bool (.lt ..)::_,_,h| .bool (.le ..)::_,_,h| .bool (.not ..)::_,_,h| .bool (.and ..)::_,_,h| .bool (.iff ..)::_,_,h=>by simp[rv]at h
 | .int .. ::_,_,h=>by simp[rv]at h
 | .ptr .. ::_,_,h=>by simp[rv]at h
 | .q5 .. ::_,_,h=>by simp[rv]at h
 | .gptr .. ::_,_,h=>by simp[rv]at h
 | .slc .. ::_,_,h=>by simp[rv]at h
 | .con _::_,_,h=>by simp[rv]at h
 | .str _::_,_,h=>by simp[rv]at h
 | .rows .. ::_,_,h=>by simp[rv]at h
 | .sl .. ::_,_,h=>by simp[rv]at h
 | .ep .. ::_,_,h=>by simp[rv]at h
theorem aql:∀(l:List Bool) (s:Nat),s+l.length<=256->∀i:Nat,i<256->(AR i∈DB s l↔s<=i/\l[i-s]?=some true)
 |[],s,_,i,_=>by simp[DB]
 |b::r,s,h,i,hi=>by
  simp only[kx]at h;have ih:=aql r (s+1) (by omega) i hi;have dE:s≠i->AR i≠AR s:=λdE he=>by
   have:=congrArg UInt8.toNat he;simp at this;omega
  have key:(s+1<=i/\r[i-(s+1)]?=some true)↔(s<i/\(b::r)[i-s]?=some true):=by
   constructor
   ·rintro⟨h1,h2⟩
    refine⟨h1,?_⟩;rw[show i-s=(i-(s+1))+1 by omega];simpa using h2
   ·rintro⟨h1,h2⟩
    refine⟨h1,?_⟩;rw[show i-s=(i-(s+1))+1 by omega]at h2;simpa using h2
  unfold DB;cases b with
  |true=>
   simp only[cond_true,m2,ih,key];by_cases he:s=i
   ·subst he;simp
   ·constructor
    ·rintro(h1|h1)
     ·exact absurd h1 (dE he)
     ·exact⟨by omega,h1.2⟩
    ·rintro⟨h1,h2⟩;exact .inr ⟨by omega,h2⟩
  |false=>
   simp only[cond_false,ih,key];by_cases he:s=i
   ·subst he;simp
   ·constructor
    ·rintro⟨h1,h2⟩;exact⟨by omega,h2⟩
    ·rintro⟨h1,h2⟩;exact⟨by omega,h2⟩
theorem aQR (hb:dr n bl.length ρ bl) {ty:bE} (hu:P.underlying ty=some .bool) (b off:Nat) {bA:bZ} (O7:bA.ok n ρ):aE S L (ahB bl b off bA) n ρ (py w0 m bl n ρ λw=>(pZ ty ((A.q5 b off bA).den ρ m)).run P w):=by
 unfold ahB;cases bd:bl[b]? with
 |none=>exact aE.fail
 |some q=>
  obtain⟨cs,t⟩:=q;simp only;cases hi:rv ((cs.drop off).take (bA.hi.toNat+1))with
  |none=>exact aE.fail
  |some l=>
   refine fe λhc=>?_;simp only[bI,decide_eq_true_eq]at hc;obtain⟨⟨⟨iD,hc2⟩,apf⟩,an⟩:=hc;have hlen:=b8 iD;have aX2:=gq hc2;have e:=amw hi;have Da:=O7.2;have hlt:(bA.l.den ρ).toNat<l.length:=by omega
   have lF:k5 (DB 0 l)=(I.const (k5 (DB 0 l))).den ρ:=(I.bC _ _).symm;have hf:cu 43 ([I.const (k5 (DB 0 l)),bA.l].map (·.den ρ))=if l[(bA.l.den ρ).toNat]=true then 1 else 0:=by
    simp only[df,gr,cu,I.bC,Ce];have:=aql l 0 (by omega) (bA.l.den ρ).toNat (by omega);simp only[Nat.sub_zero,AS,true_and,lA hlt,bu]at this;simp only[this]
   have b4:=NB (l[(bA.l.den ρ).toNat]=true);refine(iR (by rw[hf];exact b4.1) (by rw[hf];exact b4.2)).bind λa6 bh r hn ha ⟨g1,g2⟩=>?_;rw[hf]at g2;have aH:=bO.x7 (n:=bh) (ρ:=a6) (a:=⟨r,0,1⟩) (b:= .const 1) ⟨g1,by simp only[g2];exact b4.1,by simp only[g2];exact b4.2⟩ (bZ.qI _ _ _);refine aE.pure ⟨aH.2,_,rfl,λw hw=>?_⟩;obtain⟨_,_,Mo,_,h2⟩:=hw.gP b cs t bd an;have dS:cs[off+(bA.l.den ρ).toNat]?=some (.bool (.lit l[(bA.l.den ρ).toNat])):=by
    have h1:((cs.drop off).take (bA.hi.toNat+1))[(bA.l.den ρ).toNat]?=some (.bool (.lit l[(bA.l.den ρ).toNat])):=by rw[e];simp[hlt]
    rw[tF]at h1;split at h1
    ·rw[EJ]at h1;exact h1
    ·cases h1
   have aEo:=(List.getElem?_eq_some_iff.1 dS).1;have hcell:w.cell? ⟨m b,off+(bA.l.den ρ).toNat,none⟩=some (.bool l[(bA.l.den ρ).toNat]):=by
    simp only[oq,h2,xW,xX,if_false,Sr];rw[wG (by simpa using aEo),qw,dS];rfl
   have rD:lu P ty=some false:=by unfold lu;rw[hu]
   have ad8:(A.q5 b off bA).den ρ m= .pointer (some ⟨m b,off+(bA.l.den ρ).toNat,none⟩):=rfl;simp only[W.den,A.den];rw[aH.1];simp only[g2,bZ.const,I.bC];have aEh:decide ((if l[(bA.l.den ρ).toNat]=true then(1:Int)else 0)=1)=l[(bA.l.den ρ).toNat]:=by
    cases l[(bA.l.den ρ).toNat]<;>rfl
   rw[aEh];have aFm:=ad8;simp only[A.den]at aFm;simp[pZ,pt,loadVar,tr rD,hcell]
theorem aQk (w:aC) {t e:bE} (hu:P.underlying t=some (.slice e)) (p:Option Addr) (l c:Nat):(binOp .eql t (.slice p l c) (.slice none 0 0)).run P w= .ok (.bool p.isNone) w:=by
 have h:binOp .eql t (.slice p l c) (.slice none 0 0)=(do pure (.bool (<-Op.equal t (.slice p l c) (.slice none 0 0)))):=rfl;rw[h];simp only[jS,run_equal_slice_nil w t e p l c hu,j6,kZ]
theorem aQm (w:aC) {t e:bE} (hu:P.underlying t=some (.slice e)) (p:Option Addr) (l c:Nat):(binOp .neq t (.slice p l c) (.slice none 0 0)).run P w= .ok (.bool !p.isNone) w:=by
 have h:binOp .neq t (.slice p l c) (.slice none 0 0)=(do pure (.bool (!(<-Op.equal t (.slice p l c) (.slice none 0 0))))):=rfl;rw[h];simp only[jS,run_equal_slice_nil w t e p l c hu,j6,kZ]
theorem alx {b off:Nat} {sh:List a8} {code:I} {c:Nat} (h:S6 bl b off=some (sh,code,c)):off=0/\∃cap kind t,bl[b]?=some ([.rows sh (.const 0) code cap kind],t)/\0<kind/\∀ρ,cap.den ρ=(c:Int):=by
 unfold S6 at h;split at h
 ·rename_i gC o code' cap kind t bd;split at h
  ·rename_i q an;cases hc:(aU off 0&&eC 0 kind&&I.beq o (.const 0)&&decide (0<=q))with
   |false=>rw[hc]at h;cases h
   |true=>
    rw[hc]at h;simp only[cond_true,bu,fi]at h;obtain⟨rfl,rfl,rfl⟩:=h;simp only[bI,decide_eq_true_eq]at hc;obtain⟨⟨⟨c1,bQ⟩,cD⟩,dq⟩:=hc;have cD:=I.beq_eq cD;subst cD;exact⟨b8 c1,cap,kind,t,bd,gq bQ,λρ=>by rw[I.ll an];omega⟩
  ·cases h
 ·cases h
theorem als {nb:Nat} {sh:List a8}:∀{k i:Nat} {n:Nat} {ρ:Env} {code:I},code.bU n->(∀row∈af (code.den ρ),cX sh row)->(af (code.den ρ)).length=i+k->
 aE S L (S3 code sh i k) n ρ λae n' l=>(∀a∈l,A.ok n' nb ae a)/\l.length=k*sh.length/\∀(x:Nat) (a:A),l[x]?=some a->(ct sh (af (code.den ρ)))[i*sh.length+x]?=some (a.den ae m)
 |0,i,n,ρ,code,_,_,_=>aE.pure ⟨λ_ h=>by simp at h,by simp,λx a h=>by simp at h⟩
 |k+1,i,n,ρ,code,hs,lQ,hl=>by
  unfold S3;have hlt:i<(af (code.den ρ)).length:=by omega
  have k9:(af (code.den ρ))[i]?=some (af (code.den ρ))[i]:=lA hlt;generalize (af (code.den ρ))[i]=row at k9;refine(abF (nb:=nb) (m:=m) (r:=sh) (j:=0) (i:= .const (i:Nat)) (code:=code) (lQ row (fw k9)) hs (I.dX _ _) (by rw[I.bC,hC];exact k9) (λx c hx=>by rw[y4];exact hx)).bind λa6 bh l1 h9 fV ⟨g1,g2,g3⟩=>?_;have av:code.den a6=code.den ρ:=I.cq fV hs;refine(als (nb:=nb) (k:=k) (i:=i+1) (code:=code) (hs.mono h9) (by rw[av];exact lQ) (by rw[av];omega)).bind λcd fF l2 fX eI ⟨k1,k2,k3⟩=>aE.pure ⟨λa ha=>?_,by rw[fq,g2,k2,AX];omega,λx a hx=>?_⟩
  ·rcases List.mem_append.1 ha with ha|ha
   ·exact(g1 a ha).ext eI fX (b1 _)
   ·exact k1 a ha
  ·rw[List.getElem?_append]at hx;split at hx
   ·rename_i hlt;have:=g3 x a hx;rw[y4]at this;rw[A.oz (g1 a (fw hx)) eI (λ_ _=>rfl)];exact acD lQ k9 this
   ·rename_i ng;have:=k3 (x-l1.length) a hx;rw[av,g2]at this;rw[g2]at ng;rw[show i*sh.length+x=(i+1)*sh.length+(x-sh.length) by rw[AX];omega];exact this
theorem aAr {α:Type} {p q r len cap:I} {f:Unit->M α} {R:Env->Nat->α->Prop} (jK:cap.den ρ<0->len.den ρ=0) (gj:0<=cap.den ρ->len.den ρ<=cap.den ρ) (h:(0<=p.den ρ/\p.den ρ<=q.den ρ/\q.den ρ<=r.den ρ/\r.den ρ<=cap.den ρ)->aE S L (f ()) n ρ R):
 aE S L (bind (cond (I.beq r len) (hK 78 [p,q,r,cap]) (hK 64 [p,q,r,len])) f) n ρ R:=by
 cases I.beq r len with
 |true=>exact kb λag=>h ag
 |false=>
  refine kb λag=>h ?_;have ag:0<=p.den ρ/\p.den ρ<=q.den ρ/\q.den ρ<=r.den ρ/\r.den ρ<=len.den ρ/\0<len.den ρ:=ag;have hc:0<=cap.den ρ:=by
   rcases mw (cap.den ρ) 0 with h|h
   ·have:=jK h;omega
   ·exact h
  have:=gj hc;omega
theorem aQ6 {t:bE} {b bL:Nat} {o ro len cap p q r:I} {lo:Option rl} {hi fE:rl} (hx:(A.sl b bL o ro len cap).ok n bl.length ρ) (aB:fo n bl.length ρ m tm a.tmps) (hp:Fa tm (.const 0) lo=some p) (an:uj (cB tm hi)=some q) (hr:uj (cB tm fE)=some r):
 aE S L (ahK P t b bL o ro len cap p q r) n ρ (py w0 m bl n ρ λw=>(uW t ((A.sl b bL o ro len cap).den ρ m) (lo.map a.eval) (some (a.eval hi)) (some (a.eval fE))).run P w):=by
 unfold ahK;cases h1:kX P t with
 |none=>exact aE.fail
 |some e=>
  cases h2:gI P e with
  |none=>simp only[h2];exact aE.fail
  |some s=>
   simp only[h2];refine fe λhs=>aAr (λh=>hx.2.2.2.2.1 h) (λh=>hx.2.2.2.2.2 h) λag=>?_;have hs:=b8 hs;subst hs;obtain⟨k1,k2,k3,k4⟩:=ag;have o5:=hx;obtain⟨ak,⟨ai,aw,dk,jz⟩,⟨jR,lW,mW,mX⟩,⟨nE,mP⟩,ik,ki⟩:=hx;have xe:=abh hp aB;have Jy:p.bU n:=by rcases xe with⟨_,rfl⟩|⟨_,_,h⟩;exact I.dX _ _;exact h
   obtain⟨aHo,zS,Mt⟩:=ID (m:=m) (bl:=bl) an (c4 aB hi).2 (c4 aB hi).1;obtain⟨aYz,zV,atV⟩:=ID (m:=m) (bl:=bl) hr (c4 aB fE).2 (c4 aB fE).1;obtain⟨ptr,av,aH,ca⟩:=xI (m:=m) o5;have hc:¬(cap.den ρ<0):=by omega
   have gj:=ki (by omega);have KC:=av;rw[if_neg hc,ca (by omega)]at KC;have hf:cu 33 ([ro,p,r].map (·.den ρ))=(if p.den ρ=r.den ρ then ro.den ρ else ro.den ρ+p.den ρ):=rfl;refine(iR (by rw[hf];split<;>omega) (by rw[hf];split<;>omega)).bind λa6 bh Mo hn ha ⟨g1,g2⟩=>aE.pure ?_;rw[hf]at g2;have bR:=I.cq ha ai;have a2:=I.cq ha Mt;have a3:=I.cq ha Jy;have a4:=I.cq ha atV
   refine⟨⟨ak,⟨ai.mono hn,g1,I.xE (Mt.mono hn) (Jy.mono hn),I.xE (atV.mono hn) (Jy.mono hn)⟩,?_⟩,_,rfl,λw _=>?_⟩
   ·rw[I.l8,I.l8,bR,a2,a3,a4,g2];refine⟨⟨jR,?_,by omega,by omega⟩,⟨by omega,?_⟩,λh=>by omega,λh=>by omega⟩
    ·split<;>omega
    ·split<;>omega
   ·rw[KC];have tZ:(pv true (len.den ρ).toNat (cap.den ρ).toNat (lo.map a.eval) (some (a.eval hi)) (some (a.eval fE))).run P w= .ok ((p.den ρ).toNat,(q.den ρ).toNat,(r.den ρ).toNat) w:=by
     rw[zS,zV];rcases xe with⟨rfl,rfl⟩|⟨aHn,FI,_⟩
     ·simp[pv,I.bC,xJ (P:=P) (y:=(cap.den ρ).toNat) (by omega:0<=r.den ρ) (by omega),xJ (P:=P) (y:=(r.den ρ).toNat) (by omega:0<=q.den ρ) (by omega)]
     ·rw[FI];simp[pv,xJ (P:=P) (y:=(cap.den ρ).toNat) (by omega:0<=r.den ρ) (by omega),xJ (P:=P) (y:=(r.den ρ).toNat) (by omega:0<=q.den ρ) (by omega),xJ (P:=P) (y:=(q.den ρ).toNat) k1 (by omega)]
    have ht:(q.den ρ).toNat-(p.den ρ).toNat=(q.den ρ-p.den ρ).toNat:=by omega
    have gX:(r.den ρ).toNat-(p.den ρ).toNat=(r.den ρ-p.den ρ).toNat:=by omega
    simp only[uW,jS,gz (jP h1),j6,ajb,tZ,kW h2,kZ,ht,gX,W.den,A.den,I.l8,bR,a2,a3,a4,g2];rw[if_neg (show ¬(r.den ρ-p.den ρ<0) by omega)];by_cases Ph:p.den ρ=r.den ρ
    ·rw[if_pos Ph,if_pos (by omega)]
    ·rw[if_neg Ph,if_neg (by omega)];have pF:(ro.den ρ+p.den ρ).toNat=(ro.den ρ).toNat+(p.den ρ).toNat:=by omega
     rw[pF,y6,<-JI];simp[lk]
theorem aPK (hb:dr n bl.length ρ bl) (hex:∃w,Mem w0 ρ m bl w) (aB:fo n bl.length ρ m tm a.tmps) (o:Oper) {q:M V} (an:WQ P bl tm o=some q):aE S L q n ρ (px w0 m bl n ρ P o a):=by
 obtain⟨Co,yn⟩:=hex;unfold WQ at an;split at an
 ·rename_i t x bA h;have hx:=c4 aB x;have hi:=c4 aB bA;split at an
  ·rename_i b off k i hv aeo;rw[hv]at hx;rw[aeo]at hi;split at an
   ·rename_i sh code c len e H2 K1;split at an
    ·rename_i s hs;cases hc:(aU s sh.length&&aU len c)with
     |false=>rw[hc]at an;cases an
     |true=>
      rw[hc]at an;simp only[cond_true,bu]at an;subst an;simp only[bI]at hc;have bQ:=b8 hc.2;subst bQ;obtain⟨rfl,cap,kind,ez,bd,ag,dR⟩:=alx H2;refine kb λUx=>aE.pure ?_;simp only[df,gr,aj,I.bC]at Ux;have et:a.eval x= .pointer (some ⟨m b,0,none⟩):=hx.2;have qO:a.eval bA= .int k (i.l.den ρ):=hi.2;have adQ:bZ.ok n ρ i:=hi.1;have rI:b<bl.length:=hx.1;refine⟨⟨rI,⟨I.dX _ _,adQ.1⟩,by rw[I.bC];omega,Ux.1⟩,_,rfl,λw _=> .inl ?_⟩;have c1:i.l.den ρ<((len:Nat):Int):=Ux.2;simp[execOp,h,et,qO,xV,asIntOf,gz (zm K1),pt,Ux.1,c1,kW hs,lk,W.den,A.den,I.bC]
    ·cases an
   ·cases an
  ·cases an
 ·rename_i t x h;have hx:=c4 aB x;split at an
  ·rename_i b off hv;rw[hv]at hx;split at an
   ·rename_i sh code c k H2 rD hs;cases hc:(aU k (c*sh.length))with
    |false=>rw[hc]at an;cases an
    |true=>
     rw[hc]at an;simp only[cond_true,bu]at an;subst an;have hc:=b8 hc;subst hc;obtain⟨rfl,cap,kind,ez,bd,ag,dR⟩:=alx H2;refine kb λUy=>?_;simp only[df,gr,aj,I.bC]at Uy;have gG:(A.rows sh (.const 0) code cap kind).ok n bl.length ρ:=hb _ (fw bd) _ (by simp);have nk:∀w,Mem w0 ρ m bl w->∃cells t' fz,w.heap[m b]?=some (.cells cells t' fz)/\pz cells 0 sh (af (code.den ρ)):=λw hw=>by
      obtain⟨_,cells,lM,fz,g1,⟨g2,g3⟩,_⟩:=(hw.rws b sh (.const 0) code cap kind ez bd (by omega)).2 (by rw[dR];omega);rw[I.bC]at g3;exact⟨cells,lM,fz,g1,g3⟩
     obtain⟨_,_,_,_,aFv⟩:=nk Co yn;refine(als (nb:=bl.length) (m:=m) (k:=c) (i:=0) gG.1.2.1 aFv.1 (by omega)).bind λa6 bh l hn ha ⟨g1,g2,g3⟩=>aE.pure ⟨g1,_,rfl,λw hw=> .inl ?_⟩;obtain⟨cells,lM,fz,aQ,bn⟩:=nk w hw;have hl:=Sl (P:=P) w ⟨m b,0,none⟩ (l.map (A.den a6 m)) λx v aR=>by
      rw[lk];rw[qw]at aR;cases an:l[x]? with
      |none=>simp[an]at aR
      |some y=>
       simp only[an,AT,bu]at aR;subst aR;have h3:=g3 x y an;rw[Nat.zero_mul,y4]at h3;simp only[oq,aQ,xW,xX,if_false];obtain⟨_,pre,post,bw,bz⟩:=bn;have rH:pre=[]:=uV bz;subst rH;have hlt:=(List.getElem?_eq_some_iff.1 h3).1;rw[<-Su,bw,List.nil_append,wG (by omega),y4];exact h3
     simp only[ps,g2]at hl;have et:a.eval x= .pointer (some ⟨m b,0,none⟩):=hx.2;simp[execOp,h,et,pZ,pt,loadVar,tr rD,kW hs,hl,W.den]
   ·cases an
  ·cases an
 ·rename_i t x lo hi fE h;have hx:=c4 aB x;split at an
  ·rename_i b bL off ro len cap hv;rw[hv]at hx;have et:a.eval x=(A.sl b bL off ro len cap).den ρ m:=hx.2;have he:execOp a.eval o=(do pure (mx (<-uW t ((A.sl b bL off ro len cap).den ρ m) (lo.map a.eval) (some (a.eval hi)) (some (a.eval fE))))):=by simp only[execOp,h,et];rfl
   split at an
   ·rename_i p fG r hp zS hr;cases an;exact(aQ6 hx.1 aB hp zS hr).mono λ_ _ _ _ _ an=>px.of_run he an
   ·cases an
  ·cases an
 ·rename_i c h;split at an
  ·rename_i hc;split at an
   ·rename_i x t gY o4;have hx:=c4 aB x;split at an
    ·rename_i e hv hs;cases an;rw[hv]at hx;have et:a.eval x= .slice none 0 0:=hx.2;have bR:c.args=#[x]:=by rw[<-l4 (xs:=c.args),gY]
     have a2:c.argTypes=#[t]:=by rw[<-l4 (xs:=c.argTypes),o4]
     refine aE.pure ⟨bZ.qI _ _ _,_,rfl,λw _=> .inl ?_⟩;simp[execOp,h,resolve,hc,bR,a2,et,invoke,builtin,M5,gz (jP hs),goInt,W.den,A.den,bZ.const,I.bC]
    ·cases an
   ·cases an
  ·cases an
 ·cases an
theorem ag5 {cal:gb} (di:im S P gl w0 cal) (hb:dr n bl.length ρ bl) (hg:fJ gl w0) (hex:∃w,Mem w0 ρ m bl w) (aB:fo n bl.length ρ m tm a.tmps) (o:Oper):
 aE S L (Eb P cal gl bl tm o) n ρ (px w0 m bl n ρ P o a):=by
 unfold Eb;cases an:ahj P bl tm o with
 |none=>
  simp only;cases xd:WQ P bl tm o with
  |some q=>exact aPK hb hex aB o xd
  |none=>
  simp only;cases hd:TG cal bl tm o with
  |none=>exact aO9 di hb hg hex aB o
  |some q=>
   simp only;unfold TG at hd;split at hd
   ·rename_i c aA;split at hd
    ·rename_i x hc;split at hd
     ·rename_i f TZ T0 hv;cases hz:(aU TZ.size 0&&aU T0.size 0)with
      |false=>rw[hz]at hd;cases hd
      |true=>
       rw[hz]at hd;simp only[cond_true,Option.map_eq_some_iff]at hd;obtain⟨g,adL,rfl⟩:=hd;simp only[bI,Nat.beq_eq]at hz;have cv:TZ=#[]:=EL hz.1;have av:T0=#[]:=EL hz.2;subst cv av;have hx:=c4 aB (.tmp x);rw[hv]at hx;have et:a.eval (.tmp x)= .func (.func f) #[] #[]:=hx.2;have s4:∀v∈c.args.toList.map (cB tm),V.ok n bl.length ρ v:=λv hv=>by
        obtain⟨x,_,rfl⟩:=List.mem_map.1 hv;exact(c4 aB x).1
       have he:execOp a.eval o=callFunc f (c.args.map a.eval):=by
        simp only[execOp,aA,resolve,hc,et,awq];simp[invoke,bind_pure_comp]
       refine(di f g adL L n ρ m bl _ _ hb hex s4 (SO (xs:=c.args.toList) aB)).mono λa6 bh v _ _ ⟨aQ,val,bn,cj⟩=>⟨aQ,val,bn,λw hw=>?_⟩;have ha:(c.args.toList.map a.eval).toArray=c.args.map a.eval:=by
        rw[<-AY]
       have dU:=cj w hw;rw[ha]at dU;rcases dU with dU|⟨dU,jv⟩
       ·exact .inl (by rw[he];exact dU)
       ·exact .inr ⟨f,_,by rw[he];exact dU,jv⟩
     ·cases hd
    ·cases hd
   ·cases hd
 |some q=>
  simp only;unfold ahj at an;split at an
  case h_1 t x h=>
   have hx:=c4 aB x;split at an
   ·rename_i b bL off i j hv;cases an;rw[hv]at hx;have et:a.eval x=(A.ep b bL off i j).den ρ m:=hx.2;have he:execOp a.eval o=(do pure (mx (<-pZ t ((A.ep b bL off i j).den ρ m)))):=by simp only[execOp,h,et]
    exact(aBl hb hex t hx.1).mono λ_ _ _ _ _ an=>px.of_run he an
   ·rename_i b off bA hv;split at an
    ·rename_i hu;cases an;rw[hv]at hx;have et:a.eval x=(A.q5 b off bA).den ρ m:=hx.2;have he:execOp a.eval o=(do pure (mx (<-pZ t ((A.q5 b off bA).den ρ m)))):=by simp only[execOp,h,et]
     exact(aQR hb hu b off hx.1.2.1).mono λ_ _ _ _ _ an=>px.of_run he an
    ·cases an
   ·cases an
  case h_2 x h=>
   have hx:=c4 aB x;split at an
   ·rename_i b bL off i j hv;cases an;rw[hv]at hx;refine aE.pure ⟨hx.1,_,rfl,λw _=> .inl ?_⟩;have et:=hx.2;simp only[V.rel,W.den,A.den]at et;simp[execOp,h,et,W.den,A.den]
   ·cases an
  case h_3 t x bA h=>
   have hx:=c4 aB x;have hi:=c4 aB bA;split at an
   ·rename_i b bL off ro len cap k i hv aeo;cases an;rw[hv]at hx;rw[aeo]at hi;have et:a.eval x=(A.sl b bL off ro len cap).den ρ m:=hx.2;have qO:a.eval bA= .int k (i.l.den ρ):=hi.2;have he:execOp a.eval o=(do pure (mx (<-xV t ((A.sl b bL off ro len cap).den ρ m) (.int k (i.l.den ρ))))):=by simp only[execOp,h,et,qO]
    have adQ:bZ.ok n ρ i:=hi.1;exact(aQ4 hx.1 adQ.1).mono λ_ _ _ _ _ an=>px.of_run he an
   ·cases an
  case h_4 t x h=>
   have hx:=c4 aB x;split at an
   ·rename_i b bL off ro len cap k e hv ha;cases an;rw[hv]at hx;refine fe λhc=>kb λag=>?_;have hc:0<k:=gq hc;simp only[df,gr,I.bC,aj]at ag;have cm:A.ok n bl.length ρ (.sl b bL off ro len cap):=hx.1;obtain⟨h1,⟨h2,h3,h4,h5⟩,h6⟩:=cm;have dR:¬cap.den ρ<0:=λUF=>by have:=h6.2.2.1 UF;omega
    refine aE.pure ⟨⟨h1,⟨h2,h3⟩,h6.1.1,h6.1.2.1⟩,_,rfl,λw _=> .inl ?_⟩;have et:a.eval x=(A.sl b bL off ro len cap).den ρ m:=hx.2;have hle:¬(len.den ρ).toNat<k:=by omega
    simp only[execOp,h];rw[et];simp only[A.den,if_neg dR];simp[awr,gz (zm ha),hle,W.den,A.den]
   ·cases an
  case h_5 s x f h=>
   have hx:=c4 aB x;split at an
   ·rename_i b bL off i j fd hv hf;rw[hv]at hx;obtain⟨fs,hu,OY⟩:=acx hf;split at an
    ·rename_i k hs;cases an;refine aE.pure ⟨hx.1,_,rfl,λw _=> .inl ?_⟩;have et:=hx.2;simp only[V.rel,W.den,A.den]at et;simp[execOp,h,et,awh,gz hu,OY,pt,fieldPlace,kW hs,lk,W.den,A.den,JI]
    ·cases an
   ·cases an
  case h_6 t x lo hi h=>
   have hx:=c4 aB x;split at an
   ·rename_i b bL off ro len cap hv;rw[hv]at hx;have et:a.eval x=(A.sl b bL off ro len cap).den ρ m:=hx.2;have he:execOp a.eval o=(do pure (mx (<-uW t ((A.sl b bL off ro len cap).den ρ m) (lo.map a.eval) (hi.map a.eval) none))):=by simp only[execOp,h,et];rfl
    split at an
    ·rename_i p fG hp zS;cases an;exact(aQ7 hx.1 aB hp zS).mono λ_ _ _ _ _ an=>px.of_run he an
    ·cases an
   ·cases an
  case h_7 s d x h=>
   have hx:=c4 aB x;split at an
   ·rename_i b bL off ro len cap e hv hs hd;split at an
    ·rename_i aEy;cases an;rw[hv]at hx;have et:a.eval x=(A.sl b bL off ro len cap).den ρ m:=hx.2;have he:execOp a.eval o=(do pure (mx (<-convert s d ((A.sl b bL off ro len cap).den ρ m)))):=by simp only[execOp,h,et]
     exact(aQ5 hb hex (jP hs) aEy hd hx.1).mono λ_ _ _ _ _ an=>px.of_run he an
    ·cases an
   ·cases an
  case h_8 c h=>
   split at an
   ·rename_i hc;split at an
    ·rename_i x t gY o4;have hx:=c4 aB x;split at an
     ·rename_i b bL off ro len cap e hv hs;cases an;rw[hv]at hx;have et:a.eval x=(A.sl b bL off ro len cap).den ρ m:=hx.2;have rI:(A.sl b bL off ro len cap).ok n bl.length ρ:=hx.1;obtain⟨ptr,av,_,_⟩:=xI (m:=m) rI;rw[av]at et;obtain⟨ak,⟨ai,aw,dk,jz⟩,⟨jR,lW,mW,mX⟩,_⟩:=rI;have bR:c.args=#[x]:=by rw[<-l4 (xs:=c.args),gY]
      have a2:c.argTypes=#[t]:=by rw[<-l4 (xs:=c.argTypes),o4]
      refine aE.pure ⟨⟨dk,mW,mX⟩,_,rfl,λw _=> .inl ?_⟩;have ht:((len.den ρ).toNat:Int)=len.den ρ:=by omega
      simp[-aWY,execOp,h,resolve,hc,bR,a2,et,invoke,builtin,M5,gz (jP hs),goInt,W.den,A.den,ht]
     ·cases an
    ·cases an
   ·rename_i hc;split at an
    ·rename_i x y gY;have hx:=c4 aB x;have hy:=c4 aB y;split at an
     ·rename_i k p bJ fG ui np;by_cases qP:k=bJ
      ·subst qP;simp only[decide_true,cond_true]at an;cases an;rw[ui]at hx;rw[np]at hy;have av:a.eval x= .int k (p.l.den ρ):=hx.2;have aH:a.eval y= .int k (fG.l.den ρ):=hy.2;have bR:c.args=#[x,y]:=by rw[<-l4 (xs:=c.args),gY]
       have he:execOp a.eval o=(do pure (mx (<-ajh c.argTypes o.type #[.int k (p.l.den ρ),.int k (fG.l.den ρ)]))):=by
        simp[execOp,h,resolve,hc,bR,av,aH,invoke,builtin]
       exact(aID hx.1 hy.1).mono λ_ _ _ _ _ an=>px.of_run he an
      ·simp[qP]at an
     ·cases an
    ·cases an
   ·rename_i hc;split at an
    ·rename_i x y gY;have hx:=c4 aB x;have hy:=c4 aB y;split at an
     ·rename_i k p bJ fG ui np;by_cases qP:k=bJ
      ·subst qP;simp only[decide_true,cond_true]at an;cases an;rw[ui]at hx;rw[np]at hy;have av:a.eval x= .int k (p.l.den ρ):=hx.2;have aH:a.eval y= .int k (fG.l.den ρ):=hy.2;have bR:c.args=#[x,y]:=by rw[<-l4 (xs:=c.args),gY]
       have he:execOp a.eval o=(do pure (mx (<-aji c.argTypes o.type #[.int k (p.l.den ρ),.int k (fG.l.den ρ)]))):=by
        simp[execOp,h,resolve,hc,bR,av,aH,invoke,builtin]
       exact(aIC hx.1 hy.1).mono λ_ _ _ _ _ an=>px.of_run he an
      ·simp[qP]at an
     ·cases an
    ·cases an
   ·cases an
  case h_9 op t x y eu h=>
   have hx:=c4 aB x;have hy:=c4 aB y;split at an
   ·rename_i e b bL cT ro len cap hs ui np;rw[ui]at hx;rw[np]at hy;have et:a.eval x=(A.sl b bL cT ro len cap).den ρ m:=hx.2;have zY:a.eval y= .slice none 0 0:=hy.2;have rI:(A.sl b bL cT ro len cap).ok n bl.length ρ:=hx.1;obtain⟨ptr,av,aH,ca⟩:=xI (m:=m) rI;rw[av]at et;obtain⟨ak,⟨ai,aw,dk,jz⟩,_,_,ik,_⟩:=rI;have has:aj 53 ([cap,len].map (·.den ρ)):=ik;have hp:ptr.isNone=decide (cap.den ρ<0):=by
     rcases mw (cap.den ρ) 0 with h0|h0
     ·rw[aH h0,decide_eq_true h0];rfl
     ·rw[ca h0,decide_eq_false (by omega)];rfl
    split at an
    ·cases an;refine(S7 has).bind λa6 bh _ _ _ ⟨ta,hn⟩=>?_;have ta:=ta.symm;have hn:=hn.symm;subst ta hn;refine aE.pure ⟨⟨jz,I.dX _ _⟩,_,rfl,λw _=> .inl ?_⟩;have O0:eqGuard .eql t x y (.slice ptr (len.den ρ).toNat (if cap.den ρ<0 then 0 else(cap.den ρ).toNat)) (.slice none 0 0)=Yf ():=rfl;have he:execOp a.eval o=(do pure (mx (<-binOp .eql t (.slice ptr (len.den ρ).toNat (if cap.den ρ<0 then 0 else(cap.den ρ).toNat)) (.slice none 0 0)))):=by
      simp only[execOp,h,et,zY,O0,pure_bind]
     simp only[he,jS,aQk w (jP hs),j6,kZ,hp];simp[W.den,A.den,bO.den,I.bC]
    ·cases an;refine(S7 has).bind λa6 bh _ _ _ ⟨ta,hn⟩=>?_;have ta:=ta.symm;have hn:=hn.symm;subst ta hn;refine aE.pure ⟨bO.Cf ⟨jz,I.dX _ _⟩,_,rfl,λw _=> .inl ?_⟩;have O0:eqGuard .neq t x y (.slice ptr (len.den ρ).toNat (if cap.den ρ<0 then 0 else(cap.den ρ).toNat)) (.slice none 0 0)=Yf ():=rfl;have he:execOp a.eval o=(do pure (mx (<-binOp .neq t (.slice ptr (len.den ρ).toNat (if cap.den ρ<0 then 0 else(cap.den ρ).toNat)) (.slice none 0 0)))):=by
      simp only[execOp,h,et,zY,O0,pure_bind]
     simp only[he,jS,aQm w (jP hs),j6,kZ,hp];simp[W.den,A.den,bO.den,bO.Bv,I.bC]
    ·cases an
   ·cases an
  case h_10=>cases an
end
end Go.bX
namespace Go.bX
def anf (ops:Array Oper) (n:Nat):Bool:=
 (dP n).all λi=>match ops[i]? with
   |none=>false
   |some nx=>(nx.after.all λe=> !ajd .any e||eC e.on i)&&(match nx.op with| .select .. =>false|_=>true)&&
    (dP n).all λj=>aU i j||match ops[j]? with
      |none=>false
      |some fp=>match fp.dst with
       |none=>true
       |some d=>(!(nx.looksAt ops).contains d||EK .any ops i j||EK .any ops j i)&& !(match nx.dst with|some tQ=>aU tQ d|none=>false)
def adE (size n:Nat):Array Bool:=((dP size).map λi=>eC i n).toArray
def KP (o:Oper):Bool:=match o.op with| .move _| .assign _| .extract _ _=>true|_=>false
def zJ (ops:Array Oper) (i:Nat):Bool:=match ops[i]? with|some o=>KP o|none=>false
def iO (o:Oper):Bool:=match o.op,o.guard,o.dst with| .alloc _,none,some _=>true|_,_,_=>false
def wP (ops:Array Oper) (i:Nat):Bool:=match ops[i]? with|some o=>iO o|none=>false
def asp (ops:Array Oper) (n:Nat):Bool:=
 (dP n).all λi=> !wP ops i||match ops[i]? with
   |some nx=>match nx.dst with
    |some d=>(dP n).all λj=>match ops[j]? with|some fp=> !(fp.looksAt ops).contains d|none=>true
    |none=>false
   |none=>false
def atZ (ops:Array Oper) (n:Nat):Bool:=(dP n).all λi=>zJ ops i||(dP (n+1)).any λj=>eC i j&&EK .any ops j i&&(aU j n|| !zJ ops j)
def aCg (ops:Array Oper) (n:Nat):Bool:=
 (dP n).all λi=> !zJ ops i||(dP ops.size).all λj=>eC j n||EK .any ops j i||(match ops[i]?,ops[j]? with|some nx,some fp=>nx.apart ops fp|_,_=>false)
def My (ops:Array Oper) (n:Nat):Bool:=Yc ops&&aCg ops n&&asp ops n&&anf ops n&&cV n ops.size&&(aU n ops.size||(atZ ops n&&aWN .any ops n))&&aWO .any ops (ops.size-n) n (adE ops.size n)
def calm (Q:Exit->Act->aC->Prop):Exit->Act->aC->Prop
 | .panic _,_,_=>False
 |e,a,w=>Q e a w
theorem vg {a b:Nat} (h:eC a b=true):a<b:=gq h
theorem aIs {a b:Nat} (h:a<b):eC a b=true:=Nat.ble_eq_true_of_le h
section
variable {P:cc} {ops:Array Oper} {C:aC->Prop}
def A5 (P:cc) (ops:Array Oper) (C:aC->Prop) (o:Oper) (v:bf) (a:Act):Prop:=(CN o (yielded ops a.tmps)=true/\∀w,C w->G5 P o a w v)∨(CN o (yielded ops a.tmps)=false/\v=undef)
def G2 (P:cc) (ops:Array Oper) (C:aC->Prop) (F:Act->Prop):List Oper->Act->Prop
 |[],a=>F a
 |o::r,a=>cond (iO o) (G2 P ops C F r a) (∃v,A5 P ops C o v a/\G2 P ops C F r (a.put o.dst v))
theorem ag6 {Q:Act->Prop}:∀(l:List Oper) (a:Act),G2 P ops C Q l a->∃(as:Nat->Act) (vs:Nat->bf),as 0=a/\(∀i o,l[i]?=some o->(iO o=false->A5 P ops C o (vs i) (as i)/\as (i+1)=(as i).put o.dst (vs i))/\(iO o=true->as (i+1)=as i))/\Q (as l.length)
 |[],a,h=>⟨λ_=>a,λ_=>undef,rfl,λi o hi=>by simp at hi,h⟩
 |o::r,a,h=>by
  unfold G2 at h;cases gx:iO o with
  |true=>
   simp only[gx,cond_true]at h;obtain⟨as,vs,cv,hs,tW⟩:=ag6 r _ h;refine⟨λi=>match i with|0=>a|i+1=>as i,λi=>match i with|0=>undef|i+1=>vs i,rfl,λi cT hi=>?_,tW⟩;cases i with
   |zero=>
    simp at hi;subst hi;exact⟨λh1=>by(rw[gx]at h1;cases h1),λ_=>cv⟩
   |succ i=>
    simp at hi;exact hs i cT hi
  |false=>
   simp only[gx,cond_false]at h;obtain⟨v,hy,h2⟩:=h;obtain⟨as,vs,cv,hs,tW⟩:=ag6 r _ h2;refine⟨λi=>match i with|0=>a|i+1=>as i,λi=>match i with|0=>v|i+1=>vs i,rfl,λi cT hi=>?_,tW⟩;cases i with
   |zero=>
    simp at hi;subst hi;exact⟨λ_=>⟨hy,cv⟩,λh1=>by(rw[gx]at h1;cases h1)⟩
   |succ i=>
    simp at hi;exact hs i cT hi
theorem au2 {Q:Exit->Act->aC->Prop} {md:aws}:∀(f:Nat) (listed:Array Bool) (a:Act) (w:aC),wpAny P md ops Q f listed a w->wpAny P md ops Q (f+1) listed a w
 |0,_,_,_,h=>⟨λ_=>h.2,λi hi=>by rw[h.1]at hi;cases hi⟩
 |f+1,_,_,_,h=>⟨h.1,λi hi=>wpOp_mono (λeE w' aP=>au2 f _ eE w' aP) (h.2 i hi)⟩
theorem au1 {Q:Exit->Act->aC->Prop} {md:aws} {listed:Array Bool} {a:Act} {w:aC} {f nQ:Nat} (h:wpAny P md ops Q f listed a w) (hle:f<=nQ):wpAny P md ops Q nQ listed a w:=by
 induction hle with
 |refl=>exact h
 |step _ ih=>exact au2 _ _ _ _ ih
theorem am3 {α:Type} {p q:α->Bool}:∀{l:List α},(∀x∈l,q x=true->p x=true)->(∃x∈l,p x=true/\q x=false)->l.countP q<l.countP p
 |[],_,⟨x,hx,_⟩=>by simp at hx
 |y::r,h1,⟨x,hx,h2,h3⟩=>by
  have hle:r.countP q<=r.countP p:=List.countP_mono_left λz hz=>h1 z (e5 _ hz);rw[aWP,aWP];rcases List.mem_cons.1 hx with rfl|hx
  ·simp[h2,h3];omega
  ·have ih:=am3 (l:=r) (λz hz=>h1 z (e5 _ hz)) ⟨x,hx,h2,h3⟩;have:=h1 y (by simp);cases an:q y<;>cases hp:p y<;>simp[an,hp]at this⊢<;>omega
theorem Bw {n i:Nat} {nx:Oper} (h:anf ops n=true) (hi:i<n) (aA:ops[i]?=some nx):
 (∀e∈nx.after,ajd .any e=true->e.on<i)/\(∀cs b,nx.op≠ .select cs b)/\
 ∀j fp d,j<n->j≠i->ops[j]?=some fp->fp.dst=some d->nx.dst≠some d/\(d∈nx.looksAt ops->EK .any ops i j=true∨EK .any ops j i=true):=by
 have h1:=List.all_eq_true.1 h i (List.mem_range.2 hi);simp only[aA,bI]at h1;obtain⟨⟨h1,h2⟩,h3⟩:=h1;refine⟨λe he hb=>?_,λcs b hc=>by simp[hc]at h2,λj fp d aR dE yi hd=>?_⟩
 ·have:=Array.all_eq_true_iff_forall_mem.1 h1 e he;simp only[hb,dD,JQ]at this;exact vg this
 ·have h4:=List.all_eq_true.1 h3 j (List.mem_range.2 aR);have h5:aU i j=false:=by cases hb:aU i j with|false=>rfl|true=>exact absurd (b8 hb).symm dE
  simp only[h5,JQ,yi,hd,bI]at h4;refine⟨λaEv=>?_,λnk=>?_⟩
  ·have:=h4.2;simp[aEv]at this
  ·have:=h4.1;have hc:(nx.looksAt ops).contains d=true:=by simpa using nk
   simp only[hc,dD,JQ,EG]at this;exact this
theorem ayo {a b:Act} (h1:a.defers=b.defers) (h2:∀t:Nat,a.tmps[t]?=b.tmps[t]?):a=b:=by
 cases a;cases b;simp only at h1 h2;rw[h1,aWQ h2]
theorem B4 {a:Act} {o:Option Tmp} {v:bf} {t:Nat} (h:o≠some t):(a.put o v).tmps[t]?=a.tmps[t]?:=by
 cases o with
 |none=>rfl
 |some d=>simp only[M3];rw[aWD (λe=>h (by rw[e]))]
theorem put_defers (a:Act) (o:Option Tmp) (v:bf):(a.put o v).defers=a.defers:=by cases o<;>rfl
theorem I5 (a:Act) (o:Option Tmp) (v:bf):(a.put o v).tmps.size=a.tmps.size:=by cases o<;>simp[M3]
theorem aCe {o:Oper} {a:Act} {v:bf} {w:aC} (hf:KP o=true) (kc:C w) (h:A5 P ops C o v a):Yields P ops o v a:=by
 rcases h with⟨h1,h2⟩|h
 ·refine .inl ⟨h1,λw'=>?_⟩;have h3:=h2 w kc;unfold G5 at h3;unfold KP at hf;split at hf
  ·rename_i x aA;simp only[execOp,aA,kZ]at h3⊢;rcases h3 with h3|⟨f,args,h3,_⟩
   ·simp only[aWR,aWS,and_true]at h3;rw[h3]
   ·simp at h3
  ·rename_i x aA;simp only[execOp,aA,kZ]at h3⊢;rcases h3 with h3|⟨f,args,h3,_⟩
   ·simp only[aWR,aWS,and_true]at h3;rw[h3]
   ·simp at h3
  ·rename_i x i aA;simp only[execOp,aA,jS]at h3⊢;unfold awg at h3⊢;cases hx:a.eval x<;>simp only[hx]at h3⊢<;>try(simp[aWT]at h3;done)
   rename_i vs;cases hv:vs[i]? with
   |none=>simp[hv,aWT]at h3
   |some u=>simp[hv]at h3;simp[h3]
  ·cases hf
 ·exact .inr h
theorem aQZ {n:Nat} {listed:Array Bool} (hs:atZ ops n=true) (hc:aWN .any ops n=true) (hn:n<ops.size) (inv:HeadInv .any ops n listed):
 ∀(d i:Nat),n-i=d->i<n->zJ ops i=false->listed.getD i false=false->∀t,n<=t->t∉y5 .any ops listed:=by
 intro d;induction d using Nat.strongRecOn with
 |_ d ih=>
  intro i hd hi lP xf t aB hr;obtain⟨_,asI,ad7,jL⟩:=mem_ready.1 hr;have aFN:t<ops.size:=(Array.getElem?_eq_some_iff.1 ad7).1;by_cases aFO:t=n
  ·subst aFO;have h1:=List.all_eq_true.1 hs i (List.mem_range.2 hi);simp only[lP,JQ]at h1;obtain⟨j,aR,yg⟩:=List.any_eq_true.1 h1;simp only[bI,EG]at yg;obtain⟨⟨apF,O8⟩,adR⟩:=yg;have apF:=vg apF;obtain⟨fp,yi,e,he,hb,UH⟩:=JR O8;have aYg:j<=t:=by have:=List.mem_range.1 aR;omega
   by_cases apI:j=t
   ·subst apI;have:fp=asI:=iI (yi.symm.trans ad7);subst this;have h2:=jL e he hb;rw[UH,xf]at h2;cases h2
   ·cases hl:listed.getD j false with
    |true=>
     have h2:=inv.closed j fp yi hl e he hb;rw[UH,xf]at h2;cases h2
    |false=>
     have aEF:zJ ops j=false:=by
      rcases adR with h3|h3
      ·exact absurd (b8 h3) apI
      ·simpa using h3
     exact ih (t-j) (by omega) j rfl (by omega) aEF hl t (b1 _) hr
  ·have h1:=List.all_eq_true.1 hc t (List.mem_range.2 aFN);simp only[EG,decide_eq_true_eq]at h1;rcases h1 with h1|h1
   ·omega
   ·obtain⟨cT,kT,e,he,hb,UH⟩:=JR h1;have:cT=asI:=iI (kT.symm.trans ad7);subst this;have h2:=jL e he hb;rw[UH,JS (inv.tail (t-1) (by omega) (by omega))]at h2;cases h2
theorem aCd {o:Oper} (h:KP o=true):iO o=false:=by
 unfold KP at h;unfold iO;cases aA:o.op<;>simp only[aA]at h⊢<;>cases h
theorem aIZ {n i j:Nat} {nx fp:Oper} {d:Tmp} (h:asp ops n=true) (hi:i<n) (aA:ops[i]?=some nx) (gx:iO nx=true) (hd:nx.dst=some d) (aR:j<n) (yi:ops[j]?=some fp):d∉fp.looksAt ops:=by
 have h1:=List.all_eq_true.1 h i (List.mem_range.2 hi);have ha:wP ops i=true:=by simp[wP,aA,gx]
 simp only[ha,dD,JQ,aA,hd]at h1;have h2:=List.all_eq_true.1 h1 j (List.mem_range.2 aR);simp only[yi,c6]at h2;intro hm;have:(fp.looksAt ops).contains d=true:=by simpa using hm
 rw[this]at h2;cases h2
theorem aVH {Q:Exit->Act->aC->Prop} {o:Oper} {i:Nat} {v:bf} {a:Act} {w:aC} {K:Act->aC->Prop} (hi:ops[i]?=some o) (kc:C w) (hy:A5 P ops C o v a) (h:∀w',w.Extends w'->K (a.put o.dst v) w'):wpOp P ops Q i K a w:=by
 unfold wpOp;simp only[hi];rcases hy with⟨h1,h2⟩|⟨h1,h2⟩
 ·rw[if_pos h1];refine .inl ?_;unfold pw;rcases h2 w kc with h3|⟨f,args,h3,h4⟩
  ·rw[h3];exact h w (sd w)
  ·rw[h3];refine h4.mono λe sR ⟨he,hx⟩=>?_;subst he;exact h sR hx
 ·rw[if_neg (by simp[h1]),<-h2];exact h w (sd w)
theorem A5.of_same {o:Oper} {v:bf} {a eE:Act} (hy:A5 P ops C o v a) (he:execOp eE.eval o=execOp a.eval o) (hw:CN o (yielded ops eE.tmps)=CN o (yielded ops a.tmps)):A5 P ops C o v eE:=by
 unfold A5 G5 at*;rw[he,hw];exact hy
structure akM (ops:Array Oper) (n:Nat) (S:Nat->Prop) (a wQ b:Act) (il:Nat->Nat):Prop where
 d:b.defers=a.defers
 bL:b.tmps.size=a.tmps.size
 q:∀t:Nat,(∃j o,j<n/\S j/\ops[j]?=some o/\iO o=false/\o.dst=some t)->b.tmps[t]?=wQ.tmps[t]?
 al:∀(t:Nat) j o,j<n->S j->ops[j]?=some o->iO o=true->o.dst=some t->t<b.tmps.size->b.tmps[t]?=some (.pointer (some ⟨il j,0,none⟩))
 no:∀t:Nat,(∀j o,j<n->S j->ops[j]?=some o->o.dst≠some t)->b.tmps[t]?=a.tmps[t]?
structure Fin (ops:Array Oper) (n:Nat) (wQ b:Act) (il:Nat->Nat):Prop where
 d:b.defers=wQ.defers
 bL:b.tmps.size=wQ.tmps.size
 al:∀(t:Nat) j o,j<n->ops[j]?=some o->iO o=true->o.dst=some t->t<b.tmps.size->b.tmps[t]?=some (.pointer (some ⟨il j,0,none⟩))
 no:∀t:Nat,(∀j o,j<n->ops[j]?=some o->iO o=true->o.dst≠some t)->b.tmps[t]?=wQ.tmps[t]?
def ES (ops:Array Oper) (n:Nat) (S:Nat->Prop) (Z:Nat->Obj) (il:Nat->Nat) (bL:Nat) (w:aC):Prop:=(∀j,j<n->S j->wP ops j=true->bL<=il j/\w.heap[il j]?=some (Z j))/\∀i j,i<n->j<n->S i->S j->wP ops i=true->wP ops j=true->il i=il j->i=j
theorem ES.grow {n:Nat} {S:Nat->Prop} {Z:Nat->Obj} {il:Nat->Nat} {bL:Nat} {w w':aC} (h:ES ops n S Z il bL w) (he:w.Extends w'):ES ops n S Z il bL w':=
 ⟨λj h1 h2 h3=>by
  obtain⟨h4,h5⟩:=h.1 j h1 h2 h3;exact⟨h4,by rw[he.block _ (Array.getElem?_eq_some_iff.1 h5).1];exact h5⟩,h.2⟩
theorem aVI {Q:Exit->Act->aC->Prop} {a:Act} {w:aC} {l:List Oper} (n:Nat) (Z:Nat->Obj) (hm:P.follows .mixedOrders=true) (da:My l.toArray n=true) (kc:∀w',w.drew.Extends w'->C w')
 (HX:∀j o,j<n->l.toArray[j]?=some o->iO o=true->∀(b:Act) w',(execOp b.eval o).run P w'= .ok (.value (.pointer (some ⟨w'.heap.size,0,none⟩))) (w'.alloc (Z j)))
 (h:G2 P l.toArray C (λwQ=>∀il b w',Fin l.toArray n wQ b il->w.drew.Extends w'->ES l.toArray n (λ_=>True) Z il w.drew.heap.size w'->wpList P l.toArray (calm Q) (l.drop n) b w') (l.take n) a):wpAny P .any l.toArray (calm Q) l.toArray.size (CJ l.toArray.size false) a {w with drawn:=w.drawn+1}:=by
 simp only[My,bI]at da;obtain⟨⟨⟨⟨⟨⟨aFb,aEH⟩,vt⟩,BJ⟩,hle⟩,apZ⟩,aFA⟩:=da;have hle:n<=l.length:=by simpa using gq hle
 obtain⟨as,vs,cv,hs,bG⟩:=ag6 _ _ h;have hlen:(l.take n).length=n:=by simp;omega
 rw[hlen]at bG;have gH:∀i,i<n->∃o,l.toArray[i]?=some o/\(iO o=false->A5 P l.toArray C o (vs i) (as i)/\as (i+1)=(as i).put o.dst (vs i))/\(iO o=true->as (i+1)=as i):=λi hi=>by
  have hlt:i<l.length:=by omega
  have h1:(l.take n)[i]?=some l[i]:=by rw[tF,if_pos hi,lA hlt]
  have h2:=hs i _ h1;exact⟨l[i],by simp[hlt],h2⟩
 have OU:∀i,i<=n->(as i).defers=a.defers/\(as i).tmps.size=a.tmps.size:=by
  intro i;induction i with
  |zero=>intro _;rw[cv];exact⟨rfl,rfl⟩
  |succ i ih=>
   intro hi;obtain⟨o,aA,h1,h2⟩:=gH i (by omega);cases gx:iO o with
   |true=>rw[h2 gx];exact ih (by omega)
   |false=>rw[(h1 gx).2,put_defers,I5];exact ih (by omega)
 have aoT:∀i,i<=n->∀t:Nat,(∀j o,j<i->l.toArray[j]?=some o->iO o=false->o.dst≠some t)->(as i).tmps[t]?=a.tmps[t]?:=by
  intro i;induction i with
  |zero=>intro _ t _;rw[cv]
  |succ i ih=>
   intro hi t mD;obtain⟨o,aA,h1,h2⟩:=gH i (by omega);have aqm:=ih (by omega) t λj o aR=>mD j o (by omega);cases gx:iO o with
   |true=>rw[h2 gx];exact aqm
   |false=>rw[(h1 gx).2,B4 (mD i o (by omega) aA gx)];exact aqm
 have aoS:∀(d i:Nat),i+d=n->∀t:Nat,(∃j o,j<i/\l.toArray[j]?=some o/\o.dst=some t)->(as n).tmps[t]?=(as i).tmps[t]?:=by
  intro d;induction d with
  |zero=>intro i hi t _;rw[show i=n by omega]
  |succ d ih=>
   intro i hi t aR;obtain⟨o,aA,h1,h2⟩:=gH i (by omega);rw[ih (i+1) (by omega) t (by obtain⟨j,o,h1,h2⟩:=aR;exact⟨j,o,by omega,h2⟩)];cases gx:iO o with
   |true=>rw[h2 gx]
   |false=>
    rw[(h1 gx).2];obtain⟨j,fp,O8,yg,adR⟩:=aR;exact B4 ((Bw BJ (show i<n by omega) aA).2.2 j fp t (by omega) (by omega) yg adR).1
 have hsz:l.toArray.size=l.length:=by simp
 have main:∀(f:Nat) (listed:Array Bool) (b:Act) (eU:aC) (il:Nat->Nat),HeadInv .any l.toArray n listed->w.drew.Extends eU->
  akM l.toArray n (λj=>listed.getD j false=true) a (as n) b il->ES l.toArray n (λj=>listed.getD j false=true) Z il w.drew.heap.size eU->
  (dP n).countP (λi=> !listed.getD i false)+(l.length-n)<=f->wpAny P .any l.toArray (calm Q) f listed b eU:=by
  intro f;have done:∀(listed:Array Bool) (b:Act) (eU:aC) (il:Nat->Nat),HeadInv .any l.toArray n listed->w.drew.Extends eU->
   akM l.toArray n (λj=>listed.getD j false=true) a (as n) b il->ES l.toArray n (λj=>listed.getD j false=true) Z il w.drew.heap.size eU->(∀i,i<n->listed.getD i false=true)->
   wpAny P .any l.toArray (calm Q) (l.drop n).length listed b eU:=by
   intro listed b eU il inv yc oY zK jL;have hl:listed=adE l.toArray.size n:=by
    apply aWQ;intro i;unfold adE;simp only[Sr,qw];rcases CK i l.length with hi|hi
    ·rw[List.getElem?_range (by simpa using hi)];have eT:i<listed.size:=by rw[inv.size];simpa using hi
     rcases CK i n with fj|fj
     ·have:=jL i fj;simp[eT]at this;simp[eT,this,aIs fj]
     ·have:=inv.tail i fj (by simpa using hi);simp[eT]at this;have hb:eC i n=false:=by cases an:eC i n with|false=>rfl|true=>have:=vg an;omega
      simp[eT,this,hb]
    ·have h1:listed.size<=i:=by rw[inv.size];simpa using hi
     have h2:(dP l.toArray.size)[i]?=none:=by simp;omega
     rw[h2,Yn h1];rfl
   have UM:aWO .any l.toArray (l.drop n).length n listed=true:=by rw[hl];simpa using aFA
   refine wpAny_of_seq (P:=P) (md:= .any) (Q':=calm Q) (l.drop n) n listed b eU (λj=>by simp[EJ]) UM (bG il b eU ?_ yc ?_)
   ·refine⟨oY.d.trans (OU n (b1 _)).1.symm,oY.bL.trans (OU n (b1 _)).2.symm,λt j o h1 h3 h4 h5=>oY.al t j o h1 (jL j h1) h3 h4 h5,λt mD=>?_⟩;by_cases an:∃j o,j<n/\l.toArray[j]?=some o/\iO o=false/\o.dst=some t
    ·obtain⟨j,o,h1,h2,h3,h4⟩:=an;exact oY.q t ⟨j,o,h1,jL j h1,h2,h3,h4⟩
    ·have zS:∀j o,j<n->l.toArray[j]?=some o->iO o=false->o.dst≠some t:=λj o h1 h2 h3 h4=>an ⟨j,o,h1,h2,h3,h4⟩;rw[oY.no t λj o h1 _ h3=>(by
      cases gx:iO o with
      |true=>exact mD j o h1 h3 gx
      |false=>exact zS j o h1 h3 gx),aoT n (b1 _) t zS]
   ·exact⟨λj h1 _ h3=>zK.1 j h1 (jL j h1) h3,λi j h1 h2 _ _ h5 h6=>zK.2 i j h1 h2 (jL i h1) (jL j h2) h5 h6⟩
  have alr:∀(listed:Array Bool),(dP n).countP (λi=> !listed.getD i false)=0->∀i,i<n->listed.getD i false=true:=λlisted hc i hi=>by
   cases an:listed.getD i false with
   |true=>rfl
   |false=>
    have:0<(dP n).countP (λi=> !listed.getD i false):=List.countP_pos_iff.2 ⟨i,List.mem_range.2 hi,by simp[an]⟩;omega
  induction f with
  |zero=>
   intro listed b eU il inv yc oY zK hf;have:=done listed b eU il inv yc oY zK (alr listed (by omega));exact au1 this (by simp;omega)
  |succ f ih=>
   intro listed b eU il inv yc oY zK hf;by_cases aEp:(dP n).countP (λi=> !listed.getD i false)=0
   ·exact au1 (done listed b eU il inv yc oY zK (alr listed aEp)) (by simp;omega)
   ·
    have rG:∃i,i<n/\listed.getD i false=false:=by
     have h1:0<(dP n).countP (λi=> !listed.getD i false):=by omega
     obtain⟨i,hi,an⟩:=List.countP_pos_iff.1 h1;exact⟨i,List.mem_range.1 hi,by simpa using an⟩
    have dE:y5 .any l.toArray listed≠[]:=by
     have key:∀k,∀i,i<=k->i<n->listed.getD i false=false->y5 .any l.toArray listed≠[]:=by
      intro k;induction k with
      |zero=>
       intro i adO fj an rF;obtain⟨o,aA,_,_⟩:=gH i fj;have hlt:i<listed.size:=by rw[inv.size];exact(Array.getElem?_eq_some_iff.1 aA).1
       have:i∈y5 .any l.toArray listed:=mem_ready.2 ⟨getD_in hlt an,o,aA,λe he hb=>by have:=(Bw BJ fj aA).1 e he hb;omega⟩;rw[rF]at this;cases this
      |succ k aey=>
       intro i adO fj an rF;obtain⟨o,aA,_,_⟩:=gH i fj;have hlt:i<listed.size:=by rw[inv.size];exact(Array.getElem?_eq_some_iff.1 aA).1
       have:i∈y5 .any l.toArray listed:=mem_ready.2 ⟨getD_in hlt an,o,aA,λe he hb=>by
        have h1:=(Bw BJ fj aA).1 e he hb;cases xd:listed.getD e.on false with
        |true=>rfl
        |false=>exact absurd rF (aey e.on (by omega) (by omega) xd)⟩
       rw[rF]at this;cases this
     obtain⟨i,hi,an⟩:=rG;exact key i i (b1 _) hi an
    have eZ:∀i,i∈y5 .any l.toArray listed->∀j,(listed.setIfInBounds i true).getD j false=true↔(j=i∨listed.getD j false=true):=λi hi j=>by
     obtain⟨xf,nx,Ii,jL⟩:=mem_ready.1 hi;have hlt:i<listed.size:=by rw[inv.size];exact(Array.getElem?_eq_some_iff.1 Ii).1
     by_cases aR:i=j
     ·subst aR;simp[hlt]
     ·rw[getD_set_ne false aR];exact⟨.inr,λh=>h.resolve_left (λe=>aR e.symm)⟩
    have apL:∀i,i∈y5 .any l.toArray listed->i<n->(dP n).countP (λj=> !(listed.setIfInBounds i true).getD j false)+(l.length-n)<=f:=λi hi fj=>by
     obtain⟨xf,_⟩:=mem_ready.1 hi;have:(dP n).countP (λj=> !(listed.setIfInBounds i true).getD j false)<(dP n).countP (λj=> !listed.getD j false):=by
      refine am3 (λj _ aR=>?_) ⟨i,List.mem_range.2 fj,?_,?_⟩
      ·cases an:listed.getD j false with
       |false=>rfl
       |true=>rw[(eZ i hi j).2 (.inr an)]at aR;cases aR
      ·simp only[JS xf];rfl
      ·simp only[(eZ i hi i).2 (.inl rfl)];rfl
     omega
    have step:∀i,i∈y5 .any l.toArray listed->i<n->∀o,l.toArray[i]?=some o->iO o=false->A5 P l.toArray C o (vs i) b/\∀w',eU.Extends w'->wpAny P .any l.toArray (calm Q) f (listed.setIfInBounds i true) (b.put o.dst (vs i)) w':=by
     intro i hi fj o aA gx;obtain⟨xf,nx,Ii,jL⟩:=mem_ready.1 hi;have:o=nx:=iI (aA.symm.trans Ii);subst this;obtain⟨cT,kT,aes,_⟩:=gH i fj;have:cT=o:=iI (kT.symm.trans aA);subst this;obtain⟨hy,he⟩:=aes gx;have FC:=Bw BJ fj aA;have ap1:∀t:Nat,t∈cT.looksAt l.toArray->b.tmps[t]?=(as i).tmps[t]?:=λt aB=>by
      by_cases hw:∃j fp,j<i/\l.toArray[j]?=some fp/\iO fp=false/\fp.dst=some t
      ·obtain⟨j,fp,h1,h2,HR,h3⟩:=hw;rw[<-aoS (n-i) i (by omega) t ⟨j,fp,h1,h2,h3⟩];refine oY.q t ⟨j,fp,by omega,?_,h2,HR,h3⟩;rcases(FC.2.2 j fp t (by omega) (by omega) h2 h3).2 aB with h4|h4
       ·obtain⟨ago,ad5,e,zN,zO,Dk⟩:=JR h4;have:ago=cT:=iI (ad5.symm.trans aA);subst this;have:=jL e zN zO
        rwa [Dk]at this
       ·obtain⟨LY,Pf,e,zN,zO,Dk⟩:=JR h4;have:LY=fp:=iI (Pf.symm.trans h2);subst this;have:=(Bw BJ (show j<n by omega) h2).1 e zN zO;omega
      ·rw[aoT i (by omega) t λj fp h1 h2 HR h3=>hw ⟨j,fp,h1,h2,HR,h3⟩];refine oY.no t λj fp h1 hl h2 h3=>?_;cases ao6:iO fp with
       |true=>exact aIZ vt h1 h2 ao6 h3 fj aA aB
       |false=>
        by_cases qf:j=i
        ·subst qf;rw[JS xf]at hl;cases hl
        ·rcases(FC.2.2 j fp t h1 qf h2 h3).2 aB with h4|h4
         ·obtain⟨ago,ad5,e,zN,zO,Dk⟩:=JR h4;have:ago=cT:=iI (ad5.symm.trans aA);subst this;have:=FC.1 e zN zO;exact hw ⟨j,fp,by omega,h2,ao6,h3⟩
         ·obtain⟨LY,Pf,e,zN,zO,Dk⟩:=JR h4;have:LY=fp:=iI (Pf.symm.trans h2);subst this;have:=inv.closed j LY h2 hl e zN zO;rw[Dk,JS xf]at this;cases this
     have aED:∀x∈cT.op.operands,b.eval x=(as i).eval x:=λx hx=>by
      cases x with
      |tmp t=>
       have:=ap1 t (List.mem_append_left _ (List.mem_filterMap.2 ⟨.tmp t,by simpa using hx,rfl⟩));simp only[Act.eval];simp[this]
      |_=>rfl
     have hex:execOp b.eval cT=execOp (as i).eval cT:=execOp_congr cT FC.2.1 aED;have aF9:CN cT (yielded l.toArray b.tmps)=CN cT (yielded l.toArray (as i).tmps):=by
      unfold CN;cases hg:cT.guard with
      |none=>rfl
      |some acP=>
       obtain⟨g,want⟩:=acP;have:yielded l.toArray b.tmps g=yielded l.toArray (as i).tmps g:=by
        unfold yielded;cases aB:(l.toArray[g]?).bind (·.dst)with
        |none=>rfl
        |some t=>
         have:=ap1 t (List.mem_append_right _ (by simp only[hg,aB];simp));simp[this]
       simp only[this]
     refine⟨hy.of_same hex aF9,λw' ym=>?_⟩;refine ih _ _ _ il (inv.set hi fj) (yc.trans ym) ⟨(put_defers _ _ _).trans oY.d,(I5 _ _ _).trans oY.bL,?_,?_,?_⟩ (ES.grow (w:=eU) ⟨λj h1 h2 h3=>?_,λi1 dN h1 h2 h3 h4 h5 h6=>?_⟩ ym) (apL i hi fj)
     ·rintro t ⟨j,fp,h1,h2,h3,Ft,h4⟩
      by_cases aB:cT.dst=some t
      ·have av:(as n).tmps[t]?=(as (i+1)).tmps[t]?:=aoS (n-(i+1)) (i+1) (by omega) t ⟨i,cT,by omega,aA,aB⟩;rw[av,he,aB];simp only[M3];have apX:b.tmps.size=(as i).tmps.size:=oY.bL.trans (OU i (by omega)).2.symm;rcases CK t b.tmps.size with h5|h5
       ·simp[h5,apX▸h5]
       ·rw[Yn (by simpa using h5),Yn (by rw[Array.size_setIfInBounds,<-apX];exact h5)]
      ·rw[B4 aB];rcases(eZ i hi j).1 h2 with rfl|h5
       ·have:fp=cT:=iI (h3.symm.trans aA);subst this;exact absurd h4 aB
       ·exact oY.q t ⟨j,fp,h1,h5,h3,Ft,h4⟩
     ·intro t j fp h1 h2 h3 h4 h5 h6;rcases(eZ i hi j).1 h2 with rfl|h7
      ·have:fp=cT:=iI (h3.symm.trans aA);subst this;rw[gx]at h4;cases h4
      ·have qf:j≠i:=λe=>by subst e;rw[JS xf]at h7;cases h7
       have aB:cT.dst≠some t:=(FC.2.2 j fp t h1 qf h3 h5).1;rw[B4 aB];rw[I5]at h6;exact oY.al t j fp h1 h7 h3 h4 h5 h6
     ·intro t mD;have aB:cT.dst≠some t:=mD i cT fj ((eZ i hi i).2 (.inl rfl)) aA;rw[B4 aB];exact oY.no t λj fp h1 h2 h3=>mD j fp h1 ((eZ i hi j).2 (.inr h2)) h3
     ·rcases(eZ i hi j).1 h2 with rfl|h7
      ·simp[wP,aA,gx]at h3
      ·exact zK.1 j h1 h7 h3
     ·have k1:listed.getD i1 false=true:=by
       rcases(eZ i hi i1).1 h3 with rfl|h7
       ·simp[wP,aA,gx]at h5
       ·exact h7
      have k2:listed.getD dN false=true:=by
       rcases(eZ i hi dN).1 h4 with rfl|h7
       ·simp[wP,aA,gx]at h6
       ·exact h7
      exact zK.2 i1 dN h1 h2 k1 k2 h5 h6
    by_cases lP:∃i,i∈y5 .any l.toArray listed/\i<n/\zJ l.toArray i=true
    ·obtain⟨i,hi,fj,uc⟩:=lP;obtain⟨o,aA,_,_⟩:=gH i fj;obtain⟨xf,nx,Ii,jL⟩:=mem_ready.1 hi;have apz:KP o=true:=by unfold zJ at uc;simpa [aA]using uc
     have gx:iO o=false:=aCd apz;obtain⟨FK,ad2⟩:=step i hi fj o aA gx;refine wpAny_first aA (Region.noSelect_spec aFb) (λc eE w' an=>an.elim) f listed b eU (λj fp yi qf aEV aEU=>?_) hi (aCe apz (kc eU yc) FK) (ad2 eU (sd eU));have Pe:EK .any l.toArray j i=false:=by
      cases an:EK .any l.toArray j i with
      |false=>rfl
      |true=>
       obtain⟨LY,Pf,e,zN,zO,Dk⟩:=JR an;have:LY=fp:=iI (Pf.symm.trans yi);subst this;exact absurd Dk (aEU e zN zO)
     have apR:j<n->EK .any l.toArray i j=false:=λLe=>by
      cases an:EK .any l.toArray i j with
      |false=>rfl
      |true=>
       obtain⟨cT,kT,e,zN,zO,Dk⟩:=JR an;have:cT=nx:=iI (kT.symm.trans Ii);subst this;have:=jL e zN zO;rw[Dk,JS aEV]at this;cases this
     by_cases Le:j<n
     ·have d1:=(Bw BJ fj aA).2.2 j fp;have d2:=(Bw BJ Le yi).2.2 i o;simp only[Oper.apart,bI];constructor
      ·cases hd:o.dst with
       |none=>rfl
       |some d=>
        have:=d2 d fj (λe=>qf e.symm) aA hd;simp only[bI,c6,bne_iff_ne,ne_eq];refine⟨?_,this.1⟩;cases hc:(fp.looksAt l.toArray).contains d with
        |false=>rfl
        |true=>
         rcases this.2 (by simpa using hc)with h1|h1
         ·rw[Pe]at h1;cases h1
         ·rw[apR Le]at h1;cases h1
      ·cases hd:fp.dst with
       |none=>rfl
       |some d=>
        have:=d1 d Le qf yi hd;simp only[c6];cases hc:(o.looksAt l.toArray).contains d with
        |false=>rfl
        |true=>
         rcases this.2 (by simpa using hc)with h1|h1
         ·rw[apR Le]at h1;cases h1
         ·rw[Pe]at h1;cases h1
     ·have h1:=List.all_eq_true.1 aEH i (List.mem_range.2 fj);simp only[uc,dD,JQ]at h1;have h2:=List.all_eq_true.1 h1 j (List.mem_range.2 (Array.getElem?_eq_some_iff.1 yi).1);have hb:eC j n=false:=by cases an:eC j n with|false=>rfl|true=>exact absurd (vg an) Le
      simp only[hb,Pe,JQ,aA,yi]at h2;exact h2
    ·
     have aFa:∃i,i<n/\zJ l.toArray i=false/\listed.getD i false=false:=by
      have key:∀k,∀i,i<=k->i<n->listed.getD i false=false->∃i,i<n/\zJ l.toArray i=false/\listed.getD i false=false:=by
       intro k;induction k with
       |zero=>
        intro i adO fj an;cases mb:zJ l.toArray i with
        |false=>exact⟨i,fj,mb,an⟩
        |true=>
         obtain⟨o,aA,_,_⟩:=gH i fj;have hlt:i<listed.size:=by rw[inv.size];exact(Array.getElem?_eq_some_iff.1 aA).1
         exact absurd ⟨i,mem_ready.2 ⟨getD_in hlt an,o,aA,λe he hb=>by have:=(Bw BJ fj aA).1 e he hb;omega⟩,fj,mb⟩ lP
       |succ k aey=>
        intro i adO fj an;cases mb:zJ l.toArray i with
        |false=>exact⟨i,fj,mb,an⟩
        |true=>
         obtain⟨o,aA,_,_⟩:=gH i fj;have hlt:i<listed.size:=by rw[inv.size];exact(Array.getElem?_eq_some_iff.1 aA).1
         by_cases apo:∀e∈o.after,ajd .any e=true->listed.getD e.on false=true
         ·exact absurd ⟨i,mem_ready.2 ⟨getD_in hlt an,o,aA,apo⟩,fj,mb⟩ lP
         ·have hex:∃e,e∈o.after/\ajd .any e=true/\¬listed.getD e.on false=true:=by
           apply ai2;intro mD;exact apo λe he hb=>ai2 λxd=>mD ⟨e,he,hb,xd⟩
          obtain⟨e,he,hb,xd⟩:=hex;have h1:=(Bw BJ fj aA).1 e he hb;exact aey e.on (by omega) (by omega) (by simpa using xd)
      obtain⟨i,hi,an⟩:=rG;exact key i i (b1 _) hi an
     refine⟨λh0=>absurd h0 dE,λi hi=>?_⟩;have fj:i<n:=by
      rcases CK i n with h1|h1
      ·exact h1
      ·exfalso;obtain⟨_,nx,Ii,_⟩:=mem_ready.1 hi;have aYd:i<l.toArray.size:=(Array.getElem?_eq_some_iff.1 Ii).1;simp only[EG,bI]at apZ;rcases apZ with h2|⟨h2,h3⟩
       ·have:=b8 h2;omega
       ·obtain⟨i0,aEQ,K8,zT⟩:=aFa;exact aQZ h2 h3 (by omega) inv (n-i0) i0 rfl aEQ K8 zT i h1 hi
     obtain⟨o,aA,_,_⟩:=gH i fj;cases gx:iO o with
     |false=>
      obtain⟨FK,ad2⟩:=step i hi fj o aA gx;exact aVH aA (kc eU yc) FK ad2
     |true=>
      obtain⟨xf,_⟩:=mem_ready.1 hi;have jW:o.guard=none/\∃d,o.dst=some d:=by
       unfold iO at gx;split at gx
       ·rename_i h1 h2 h3;exact⟨h2,_,h3⟩
       ·cases gx
      obtain⟨jW,d,hd⟩:=jW;have FC:=Bw BJ fj aA;unfold wpOp;simp only[aA];rw[if_pos (by simp[CN,jW])];refine .inl ?_;unfold pw;rw[HX i o fj aA gx b eU];show wpAny P .any l.toArray (calm Q) f (listed.setIfInBounds i true) (b.put o.dst _) _;have aev:∀j,j<n->listed.getD j false=true->wP l.toArray j=true->il j<eU.heap.size:=λj h1 h2 h3=>(Array.getElem?_eq_some_iff.1 (zK.1 j h1 h2 h3).2).1;refine ih _ _ _ (λj=>if j=i then eU.heap.size else il j) (inv.set hi fj) (yc.alloc _) ⟨(put_defers _ _ _).trans oY.d,(I5 _ _ _).trans oY.bL,?_,?_,?_⟩ ⟨λj h1 h2 h3=>?_,λi1 dN h1 h2 h3 h4 h5 h6 h7=>?_⟩ (apL i hi fj)
      ·rintro t ⟨j,fp,h1,h2,h3,Ft,h4⟩
       rcases(eZ i hi j).1 h2 with rfl|h5
       ·have:fp=o:=iI (h3.symm.trans aA);subst this;rw[gx]at Ft;cases Ft
       ·have qf:j≠i:=λe=>by subst e;rw[JS xf]at h5;cases h5
        rw[B4 (FC.2.2 j fp t h1 qf h3 h4).1];exact oY.q t ⟨j,fp,h1,h5,h3,Ft,h4⟩
      ·intro t j fp h1 h2 h3 h4 h5 h6;rcases(eZ i hi j).1 h2 with rfl|h7
       ·have:fp=o:=iI (h3.symm.trans aA);subst this;rw[h5];simp only[if_true];rw[I5]at h6;simp[M3,h6]
       ·have qf:j≠i:=λe=>by subst e;rw[JS xf]at h7;cases h7
        rw[B4 (FC.2.2 j fp t h1 qf h3 h5).1];rw[I5]at h6;rw[if_neg qf];exact oY.al t j fp h1 h7 h3 h4 h5 h6
      ·intro t mD;rw[B4 (mD i o fj ((eZ i hi i).2 (.inl rfl)) aA)];exact oY.no t λj fp h1 h2 h3=>mD j fp h1 ((eZ i hi j).2 (.inr h2)) h3
      ·show w.drew.heap.size<=(if j=i then eU.heap.size else il j)/\(eU.alloc (Z i)).heap[(if j=i then eU.heap.size else il j)]?=some (Z j);by_cases qf:j=i
       ·subst qf;rw[if_pos rfl];exact⟨yc.size,heap_alloc_new eU (Z j)⟩
       ·rw[if_neg qf];have h7:=((eZ i hi j).1 h2).resolve_left qf;obtain⟨ch,cC⟩:=zK.1 j h1 h7 h3;exact⟨ch,by rw[heap_alloc_old eU _ (aev j h1 h7 h3)];exact cC⟩
      ·change (if i1=i then eU.heap.size else il i1)=(if dN=i then eU.heap.size else il dN)at h7;by_cases ch:i1=i<;>by_cases cC:dN=i
       ·rw[ch,cC]
       ·rw[if_pos ch,if_neg cC]at h7;have:=aev dN h2 (((eZ i hi dN).1 h4).resolve_left cC) h6;omega
       ·rw[if_neg ch,if_pos cC]at h7;have:=aev i1 h1 (((eZ i hi i1).1 h3).resolve_left ch) h5;omega
       ·rw[if_neg ch,if_neg cC]at h7;exact zK.2 i1 dN h1 h2 (((eZ i hi i1).1 h3).resolve_left ch) (((eZ i hi dN).1 h4).resolve_left cC) h5 h6 h7
 have aGP:HeadInv .any l.toArray n (CJ l.toArray.size false):=
  ⟨by simp,λj fp _ hl=>(by rw[getD_replicate_false]at hl;cases hl),λt _ aB=>getD_in (by simpa using aB) (getD_replicate_false _ _)⟩
 have V8:∀j,¬(CJ l.toArray.size false).getD j false=true:=λj h=>by rw[getD_replicate_false]at h;cases h
 refine main l.toArray.size _ a _ (λ_=>0) aGP (sd w.drew) ⟨rfl,rfl,λt ⟨j,o,_,h2,_⟩=>absurd h2 (V8 j),λt j o _ h2=>absurd h2 (V8 j),λ_ _=>rfl⟩ ⟨λj _ h2=>absurd h2 (V8 j),λi j _ _ h3=>absurd h3 (V8 i)⟩ ?_;have:(dP n).countP (λi=> !(CJ l.toArray.size false).getD i false)<=n:=by
  have:=List.countP_le_length (p:=λi=> !(CJ l.toArray.size false).getD i false) (l:=dP n);simpa using this
 omega
end
end Go.bX
namespace Go.bX
open M
inductive X where
 |normal
 |exit (id:Nat)
 |ret
def X.to:X->Exit
 |normal=> .normal
 |exit id=> .exit id
 |ret=> .ret
abbrev iK:=Nat->List V->List aM->T
abbrev xZ:=X->iK
abbrev RK:=Nat->V->List aM->T
abbrev my:=dv->Nat->List V->List aM->RK->T
structure fB where
 hL:List Nat
 ints:List (Nat×Int×Int)
 cells:List (Nat×Nat×Int×Int)
 vi:List Nat:=[]
 tN:List (Nat×List a8×bE):=[]
 RH:List (Nat×List a8×Nat):=[]
 pR:List (Nat×List a8):=[]
def eP:List aM->Nat->aM->List aM
 |[],_,_=>[]
 |_::r,0,b=>b::r
 |x::r,i+1,b=>x::eP r i b
theorem mK:∀(l:List aM) (i:Nat) (b:aM),eP l i b=l.set i b
 |[],_,_=>rfl
 |_::_,0,_=>rfl
 |_::r,i+1,b=>by simp[eP,mK r i b]
def aPe (cal:gb) (dyn:Bool) (o:Oper):Bool:=
 match o.op with
 | .alloc _| .box _ _| .store _ _ _| .buildSlice _ _ _| .makeSlice _ _ _=>false
 | .call c=>match c.callee with
  | .value (.func f)=>(cal f).isSome
  | .value (.tmp _)=>dyn
  | .builtin .append=>false
  | .builtin .clear=>false
  | .builtin .copy=>false
  |_=>true
 |_=>true
def RC (z:List A) (len:Nat):List A:=(dP (len*z.length)).map λi=>(z[i% z.length]?).getD (.con undef)
def abk (P:cc) (t:bE) (len:Nat) (parts:List (Nat×V)):Option (List A×bE):=
 match kX P t with
 |some e=>match gI P e,qu P e with
  |some s,some z=>cond (aU z.length s&&eC 0 s&&cV (len*s) 16777216) (match BC (λi=>some (i*s,s)) (RC z len) parts with|some cs=>some (cs,e)|none=>none) none
  |_,_=>none
 |none=>none
def yf (bl:List aM) (b off k:Nat):Option (List A):=
 match bl[b]? with
 |some (cs,_)=>cond (cV (off+k) cs.length&&cy cs) (some ((cs.drop off).take k)) none
 |none=>none
def T9 (i:TypeInfo) (e:bE) (z:List A) (d:Option Tmp) (ig tt len:Nat) (olds news:List A) (n:Nat) (tm:List V) (bl:List aM) (k:iK):T:=cond (cV (ig+len) 1000000&&cV (Builtin.nextslicecap (ig+len) tt*i.bytes) 281474976710656&&eC tt (ig+len)&&eC 0 len&&aU z.length i.size&&eC 0 i.size&&cy (olds++news)&&cy (olds++news++z)) (.both (k n (hj tm d (.w (.one (.slc bl.length 0 (ig+len) (ig+len))))) (bl++[(olds++news,(e,false))])) (k n (hj tm d (.sK bl.length (ig+len) (ig+len+1))) (bl++[(olds++news++z,(e,true))]))) .stuck
def aeE:V->Bool
 | .w (.one (.con (.slice none 0 0)))=>true
 |_=>false
def aaU (P:cc) (d:Option Tmp) (t t':bE) (s x:V) (n:Nat) (tm:List V) (bl:List aM) (k:iK):T:=
 match x,kX P t with
 | .w (.one (.slc b' ld q2 _)),some e=>match P.info? e,qu P e with
  |some i,some z=>match yf bl b' ld (q2*i.size)with
   |some news=>cond (!(aU t t')) .stuck <| cond (aeE s) (T9 i e z d 0 0 q2 [] news n tm bl k) <| match s with
    | .w (.one (.slc b off len cap))=>match yf bl b off (len*i.size)with
     |some olds=>T9 i e z d len cap q2 olds news n tm bl k
     |none=> .stuck
    | .sK b len lo=>match bl[b]? with
     |some (cs,ty)=>cond (cV (len+q2) lo&&cV ((len+q2)*i.size) cs.length&&eC 0 (q2*i.size)&&cy cs&&cy (cs.take (len*i.size)++news++cs.drop (len*i.size+news.length))) (k n (hj tm d (.sK b (len+q2) lo)) (eP bl b (cs.take (len*i.size)++news++cs.drop (len*i.size+news.length),ty))) .stuck
     |none=> .stuck
    |_=> .stuck
   |none=> .stuck
  |_,_=> .stuck
 |_,_=> .stuck
def qq (sh:List a8):Bool:=cV sh.length 100&&eC 0 sh.length&&sh.all λc=>match c with
 | .int _ lo hi=>decide (-0x10000000000000000<=lo)&&decide (hi<=0x10000000000000000)
 |_=>true
def IB (e:bO):M I:=λn k=> .ind n e (k (.var n) (n+1))
def abB (c:a8) (a:A):M I:=
 match c,a with
 | .int k lo hi,.int bJ x=>cond (decide (k=bJ)&&decide (lo<=x.lo)&&decide (x.hi<=hi)) (pure x.l) fail
 | .str,.str l=>pure l
 | .bool,.bool e=>match e with
  | .lit v=>pure (.const (cond v 1 0))
  |e=>IB e
 |_,_=>fail
def Ei:List a8->List A->M (List I)
 |[],[]=>pure []
 |c::sh,a::r=>bind (abB c a) λl=>bind (Ei sh r) λls=>pure (l::ls)
 |_,_=>fail
noncomputable def E1 (sh:List a8):List (List A)->I->M I
 |[],c=>pure c
 |row::rs,c=>bind (Ei sh row) λls=>bind (gF 23 (c::ls) 0 cP) λek=>E1 sh rs ek
def rA (w:Nat):Nat->List A->List (List A)
 |0,_=>[]
 |k+1,l=>l.take w::rA w k (l.drop w)
noncomputable def Xd (P:cc) (tv:bE) (sh:List a8) (bl:List aM) (x:V) (base:I):M (I×I):=
 match x with
 | .w (.one (.slc b off len _))=>match yf bl b off (len*sh.length),kX P tv with
  |some cs,some _=>bind (hK 23 [base,.const len]) λ_=>bind (E1 sh (rA sh.length len cs) base) λc=>pure (c,.const len)
  |_,_=>fail
 | .w (.one (.sl b bL o ro len _))=>match bl[b]?,kX P tv with
  |some ([.rows gC off code e8 kind],_),some _=>cond (eC 0 kind&&sQ sh gC&&I.beq o off&&aU bL sh.length) (bind (hK 22 [code,ro,ro.add len]) λ_=>bind (hK 23 [base,len]) λ_=>bind (gF 22 [code,ro,ro.add len] 0 cP) λs=>bind (gF 24 [base,s] 0 cP) λc=>pure (c,len)) fail
  |_,_=>fail
 | .w (.one (.str l))=>match P.underlying tv with
  |some .string=>cond (Th sh) (bind (gF 0 [l] 0 0x7fffffffffffffff) λlen=>bind (hK 23 [base,len]) λ_=>bind (gF 27 [l] 0 cP) λs=>bind (gF 24 [base,s] 0 cP) λc=>pure (c,len)) fail
  |_=>fail
 | .w (.one (.con (.slice none 0 0)))=>match kX P tv with
  |some _=>bind (hK 23 [base,.const 0]) λ_=>pure (base,.const 0)
  |none=>fail
 |_=>fail
def aQU (bl:List aM):V->Option (List a8)
 | .w (.one (.sl b _ _ _ _ _))=>match bl[b]? with
  |some ([.rows sh _ _ _ _],_)=>some sh
  |_=>none
 |_=>none
def W8:List A->Option (List a8)
 |[]=>some []
 | .int k _::r=>(W8 r).map (.int k k.min k.max::·)
 | .str _::r=>(W8 r).map (.str::·)
 | .bool _::r=>(W8 r).map (.bool::·)
 |_=>none
def aQV (bl:List aM) (s x:V) (z:List A):Option (List a8):=match aQU bl x with
 |some sh=>some sh
 |none=>match s,x with
  | .w (.one (.slc ..)),.w (.one (.slc ..))=>W8 z
  |_,_=>none
def aiU:V->Bool
 | .w (.one (.sl _ _ _ _ len cap))=>match len.fk,cap.fk with|some l,some c=>decide (l=0)&&decide (c=0)|_,_=>false
 | .w (.one (.slc _ _ len cap))=>aU len 0&&aU cap 0
 | .w (.one (.con (.slice none 0 0)))=>true
 |_=>false
noncomputable def Ou (kd:Nat) (e:bE) (d:Option Tmp) (sh:List a8) (code len:I) (n:Nat) (tm:List V) (bl:List aM) (k:iK):T:=.vU n (-1) 0x7fffffffffffffff (k (n+1) (hj tm d (.w (.one (.sl bl.length sh.length (.const 0) (.const 0) len (.var n))))) (bl++[([.rows sh (.const 0) code (.var n) kd],(e,false))]))
noncomputable def KV (e:bE) (d:Option Tmp) (sh:List a8) (code len:I) (n:Nat) (tm:List V) (bl:List aM) (k:iK):T:=.vU n (-1) 0x7fffffffffffffff (k (n+1) (hj tm d (.w (.one (.sl bl.length sh.length (.const 0) (.const 0) len (.var n))))) (bl++[([.rows sh (.const 0) code (.var n) 2],(e,false))]))
noncomputable def aom (P:cc) (tv e:bE) (d:Option Tmp) (sh:List a8) (s x:V) (n:Nat) (tm:List V) (bl:List aM) (k:iK):T:=
 Xd P tv sh bl x (.const 0) n λp n'=>match p.2.fk with
  |some 0=>k n' (hj tm d s) bl
  |some _=>KV e d sh p.1 p.2 n' tm bl k
  |none=> .vj (.le p.2 (.const 0)) (k n' (hj tm d s) bl) (KV e d sh p.1 p.2 n' tm bl k)
def KT (sh:List a8) (i:TypeInfo) (z:List A):Bool:=qq sh&&aU i.size sh.length&&aU z.length sh.length&&cV i.bytes 131072
noncomputable def aaV (P:cc) (d:Option Tmp) (t t':bE) (s x:V) (n:Nat) (tm:List V) (bl:List aM) (k:iK):Option T:=
 match kX P t with
 |none=>none
 |some e=>match P.info? e,qu P e with
  |some i,some z=>match aiU s with
   |true=>match aQV bl s x z with
    |some sh=>cond (KT sh i z) (some (aom P t' e d sh s x n tm bl k)) none
    |none=>none
   |false=>match s with
    | .w (.one (.sl b _ o ro len cap))=>match bl[b]? with
     |some ([.rows sh off code e8 kind],ez)=>cond (KT sh i z&&aU kind 2&&I.beq o (.const 0)&&I.beq off (.const 0)&&I.beq ro (.const 0)&&I.beq cap e8&&aU ez.1 e)
      (some (.sY 31 [code,len] (Xd P t' sh bl x code n λp n'=>KV e d sh p.1 (len.add p.2) n' tm (eP bl b ([.rows sh off code e8 0],ez)) k))) none
     |_=>none
    |_=>none
  |_,_=>none
noncomputable def ahV (P:cc) (o:Oper) (n:Nat) (tm:List V) (bl:List aM) (k:iK):Option T:=
 match o.op with
 | .call c=>match c.callee with
  | .builtin .append=>match c.args.toList,c.argTypes.toList with
   |[s,x],[t,t']=>aaV P o.dst t t' (cB tm s) (cB tm x) n tm bl k
   |_,_=>none
  |_=>none
 |_=>none
def kA:List a8:=[.int .u8 0 255]
def UX (fn:Func):Bool:=fn.name== "internal/bytealg.MakeNoZero" &&fn.body.isNone&&fn.origin== ""
noncomputable def Cl (P:cc) (o:Oper) (n:Nat) (tm:List V) (bl:List aM) (k:iK):Option T:=
 match o.op with
 | .store t p x=>match cB tm p,cB tm x with
  | .w (.one (.ep b bL cT i j)),.w u=>match bl[b]?,gI P t with
   |some ([.rows sh off code cap kind],ez),some s=>cond (cV 2 kind&&aU bL sh.length&&I.beq cT off&&aU u.cells.length s&&eC 0 s&&cV (j+s) sh.length&&qq sh)
    (some (hK 21 [code,i] n λ_ n=>Ka 67 [code,i,.const sh.length] n λ_ n=>Ei ((sh.drop j).take s) u.cells n λls n=>gF 42 (code::i:: .const j::ls) 0 cP n λcode' n=>k n (hj tm o.dst (.jQ [])) (eP bl b ([.rows sh off code' cap kind],ez)))) none
   |_,_=>none
  |_,_=>none
 | .convert s d x=>match cB tm x with
  | .w (.one (.str l))=>match P.underlying s,kX P d with
   |some .string,some e=>match P.underlying e with
    |some (.int .u8)=>some (gF 27 [l] 0 cP n λcode n=>gF 0 [l] 0 0x7fffffffffffffff n λlen n=>Ou 3 e o.dst kA code len n tm bl k)
    |_=>none
   |_,_=>none
  | .w (.one (.slc b 0 len cap))=>match bl[b]?,kX P d with
   |some (C,t),some e=>match P.underlying e with
    |some (.int .u8)=>cond (aU s d&&cy C&& !t.2&&aU C.length len&&aU cap len&&cV len 1000000)
     (some (E1 kA (rA 1 len C) (.const 0) n λcode n=>k n (hj tm o.dst (.w (.one (.sl b 1 (.const 0) (.const 0) (.const len) (.const len))))) (eP bl b ([.rows kA (.const 0) code (.const len) 3],t)))) none
    |_=>none
   |_,_=>none
  |_=>none
 | .makeSlice t x y=>match kX P t,uj (cB tm x),uj (cB tm y)with
  |some e,some q3,some qj=>match P.info? e with
   |some i=>match i.zero with
    |some (.int .u8 z)=>cond (aU i.size 1&&cV i.bytes 1024&&decide (z=0)) (some (.sY 49 [q3,qj] (gF 26 [q3,.const 0] 0 cP n λcode n=>Ou 2 e o.dst kA code q3 n tm bl k))) none
    |_=>none
   |none=>none
  |_,_,_=>none
 | .call c=>match c.callee with
  | .value (.func f)=>match P.funcs[f]?,c.args.toList with
   |some fn,[x]=>match cB tm x,fn.resultTypes.toList with
    | .w (.one (.int .i64 y)),[t]=>match kX P t with
     |some e=>match P.underlying e with
      |some (.int .u8)=>cond (UX fn) (some (.sY 26 [y.l] (.vU n 0 cP (.wS 31 [.var n,y.l] (.vU (n+1) 0 0x7fffffffffffffff (.wS 79 [y.l,.var (n+1)]
       (k (n+2) (hj tm o.dst (.w (.one (.sl bl.length 1 (.const 0) (.const 0) y.l (.var (n+1)))))) (bl++[([.rows kA (.const 0) (.var n) (.var (n+1)) 2],(e,false))]))))))))
       none
      |_=>none
     |none=>none
    |_,_=>none
   |_,_=>none
  |_=>none
 |_=>none
noncomputable def ahW (P:cc) (o:Oper) (n:Nat) (tm:List V) (bl:List aM) (k:iK):Option T:=
 match o.op with
 | .call c=>match c.callee with
  | .builtin .clear=>match c.args.toList,c.argTypes.toList with
   |[x],[t]=>match cB tm x,kX P t with
    | .w (.one (.sl b bL cT ro len cap)),some e=>match bl[b]?,qu P e with
     |some ([.rows sh off code e8 kind],ez),some z=>cond (cV 2 kind&&I.beq cT off&&aU bL sh.length&&qq sh&&aU z.length sh.length)
      (some (hK 65 [code,ro,len] n λ_ n=>Ei sh z n λls n=>gF 61 (code::ro::len::ls) 0 cP n λcode' n=>k n (hj tm o.dst (.jQ [])) (eP bl b ([.rows sh off code' e8 kind],ez)))) none
     |_,_=>none
    |_,_=>none
   |_,_=>none
  | .builtin .copy=>match c.args.toList,c.argTypes.toList with
   |[x,y],[t,t']=>match cB tm x,cB tm y,kX P t with
    | .w (.one (.sl b bL cT ro len cap)),.w (.one (.sl cg ah3 kG jw ju Bt)),some e=>match bl[b]?,bl[cg]?,gI P e with
     |some ([.rows sh off code e8 kind],ez),some ([.rows ahF D2 ko Db DU],_),some s=>cond (cV 2 kind&&eC 0 DU&&I.beq cT off&&I.beq kG D2&&sQ sh ahF&&aU bL sh.length&&aU ah3 sh.length&&aU s sh.length&&qq sh)
      (some (hK 80 [code,ro,len] n λ_ n=>hK 22 [ko,jw,jw.add ju] n λ_ n=>gF 62 [ju,len] 0 0x7fffffffffffffff n λq n=>gF 22 [ko,jw,jw.add q] 0 cP n λsrc n=>gF 63 [code,ro,src] 0 cP n λcode' n=>k n (hj tm o.dst (.w (.one (.int .i64 ⟨q,0,0x7fffffffffffffff⟩)))) (eP bl b ([.rows sh off code' e8 kind],ez)))) none
     |_,_,_=>none
    | .w (.one (.sl ..)),.w (.one (.con (.slice none 0 0))),some e=>match gI P e with
     |some _=>some (k n (hj tm o.dst (.w (.one (.int .i64 ⟨.const 0,0,0⟩)))) bl)
     |none=>none
    |_,_,_=>none
   |_,_=>none
  |_=>none
 |_=>none
noncomputable def ahX (P:cc) (o:Oper) (n:Nat) (tm:List V) (bl:List aM) (k:iK):Option T:=
 match o.op with
 | .call c=>match c.callee with
  | .builtin .copy=>match c.args.toList,c.argTypes.toList with
   |[x,y],[t,_]=>match cB tm x,cB tm y,kX P t with
    | .w (.one (.slc b off len _)),.w (.one (.slc cg D2 ju _)),some e=>match bl[b]?,yf bl cg D2 (M7 ju len),gI P e with
     |some (C,ez),some l,some s=>cond (aU s 1&&cV (off+l.length) C.length&&cy C&&cy (C.take off++l++C.drop (off+l.length)))
      (some (k n (hj tm o.dst (.w (.one (.int .i64 (bZ.const (M7 ju len:Nat)))))) (eP bl b (C.take off++l++C.drop (off+l.length),ez)))) none
     |_,_,_=>none
    |_,_,_=>none
   |_,_=>none
  |_=>none
 |_=>none
noncomputable def WL (code:I) (kd:eB) (lo hi:Int):Nat->Nat->M (List A)
 |0,_=>pure []
 |c+1,i=>bind (hK 21 [code,.const i]) λ_=>bind (gF 21 [code,.const i,.const 0] lo hi) λl=>bind (WL code kd lo hi c (i+1)) λr=>pure (.int kd ⟨l,lo,hi⟩::r)
noncomputable def ahY (P:cc) (o:Oper) (n:Nat) (tm:List V) (bl:List aM) (k:iK):Option T:=
 match o.op with
 | .load t p=>match cB tm p with
  | .w (.one (.ptr b 0))=>match bl[b]?,lu P t,gI P t with
   |some ([.rows [.int kd lo hi] off code cap kind],_),some true,some s=>cond (cV 2 kind&&eC 0 s)
    (some (WL code kd lo hi s 0 n λl n=>k n (hj tm o.dst (.w (.agg l))) bl)) none
   |_,_,_=>none
  |_=>none
 |_=>none
def abM:V->Option (Nat×List A)
 | .sZ f lC=>some (f,lC)
 | .w (.one (.con (.func (.func f) a b)))=>cond (aU a.size 0&&aU b.size 0) (some (f,[])) none
 |_=>none
noncomputable def ahU (P:cc) (gl:fK) (cal:gb) (inl:my) (o:Oper) (n:Nat) (tm:List V) (bl:List aM) (k:iK):T:=
 match o.op with
 | .alloc t=>match qu P t with
  |some cs=>cond (cy cs) (k n (hj tm o.dst (.w (.one (.ptr bl.length 0)))) (bl++[(cs,(t,false))])) .stuck
  |none=> .stuck
 | .box t x=>match cB tm x with
  | .w u=>cond (cy u.cells) (k n (hj tm o.dst (.w (.one (.ptr bl.length 0)))) (bl++[(u.cells,(t,false))])) .stuck
  |_=> .stuck
 | .buildSlice t len parts=>match abk P t len (parts.toList.map λp=>(p.1,cB tm p.2))with
  |some (cs,e)=>cond (cy cs) (k n (hj tm o.dst (.w (.one (.slc bl.length 0 len len)))) (bl++[(cs,(e,false))])) .stuck
  |none=> .stuck
 | .store t p x=>match cB tm p,cB tm x with
  | .w (.one (.ptr b off)),.w u=>match bl[b]?,gI P t with
   |some (cs,ez),some s=>cond (aU u.cells.length s&&cV (off+s) cs.length&&eC 0 s&&cy cs&&cy (cs.take off++u.cells++cs.drop (off+s))) (k n (hj tm o.dst (.jQ [])) (eP bl b (cs.take off++u.cells++cs.drop (off+s),ez))) .stuck
   |_,_=> .stuck
  |_,_=> .stuck
 | .call c=>match c.callee with
  | .value (.func f)=>match cal f with
   |some _=>Eb P cal gl bl tm o n λv n'=>k n' (hj tm o.dst v) bl
   |none=>inl f n (c.args.toList.map (cB tm)) bl λn' v bF=>k n' (hj tm o.dst v) bF
  | .value (.tmp x)=>match TG cal bl tm o with
   |some _=>Eb P cal gl bl tm o n λv n'=>k n' (hj tm o.dst v) bl
   |none=>match abM (cB tm (.tmp x))with
   |some (f,lC)=>inl f n (c.args.toList.map (cB tm)++lC.map λy=>V.w (.one y)) bl λn' v bF=>k n' (hj tm o.dst v) bF
   |none=> .stuck
  | .builtin .append=>match c.args.toList,c.argTypes.toList with
   |[s,x],[t,t']=>aaU P o.dst t t' (cB tm s) (cB tm x) n tm bl k
   |_,_=> .stuck
  |_=>Eb P cal gl bl tm o n λv n'=>k n' (hj tm o.dst v) bl
 |_=>Eb P cal gl bl tm o n λv n'=>k n' (hj tm o.dst v) bl
noncomputable def Xe (P:cc) (gl:fK) (cal:gb) (inl:my) (o:Oper) (n:Nat) (tm:List V) (bl:List aM) (k:iK):T:=
 match ahV P o n tm bl k with
 |some t=>t
 |none=>match Cl P o n tm bl k with
  |some t=>t
  |none=>match ahW P o n tm bl k with
   |some t=>t
   |none=>match ahX P o n tm bl k with
    |some t=>t
    |none=>match ahY P o n tm bl k with
     |some t=>t
     |none=>ahU P gl cal inl o n tm bl k
def x6:bO->Bool->Option (I×Option Int×Option Int)
 | .le p q,true=>match p.fk,q.fk with|some c,none=>some (q,some c,none)|none,some c=>some (p,none,some c)|_,_=>none
 | .le p q,false=>match p.fk,q.fk with|some c,none=>some (q,none,some (c-1))|none,some c=>some (p,some (c+1),none)|_,_=>none
 | .lt p q,true=>match p.fk,q.fk with|some c,none=>some (q,some (c+1),none)|none,some c=>some (p,none,some (c-1))|_,_=>none
 | .lt p q,false=>match p.fk,q.fk with|some c,none=>some (q,none,some c)|none,some c=>some (p,some c,none)|_,_=>none
 | .not b,v=>x6 b (!v)
 |_,_=>none
def LO (a:Int):Option Int->Int
 |some b=>cond (decide (a<=b)) b a
 |none=>a
def Qx (a:Int):Option Int->Int
 |some b=>cond (decide (b<=a)) b a
 |none=>a
def Ty (b:bO) (v:Bool) (r:Option (I×Option Int×Option Int)):V->V
 | .w (.one (.bool e))=> .w (.one (.bool (cond (bO.beq e b) (.lit v) e)))
 | .w (.one (.int k x))=>match r with
  |some (l,lo,hi)=> .w (.one (.int k (cond (I.beq x.l l) (cond (decide (LO x.lo lo=Qx x.hi hi)) (.const (LO x.lo lo)) ⟨x.l,LO x.lo lo,Qx x.hi hi⟩) x)))
  |none=> .w (.one (.int k x))
 |u=>u
def xL (b:bO) (v:Bool) (l:List V):List V:=l.map (Ty b v (x6 b v))
def HP (ops:Array Oper) (tm:List V) (o:Oper) (yes no:List V->T):T:=
 match o.guard with
 |none=>yes tm
 |some (g,want)=>match(ops[g]?).bind (·.dst)with
  |none=> .stuck
  |some d=>match tm[d]? with
   |some (.w (.one (.bool b)))=>match b with
    | .lit v=>cond (v==want) (yes tm) (no tm)
    |b=> .vj b (cond want (yes (xL b true tm)) (no (xL b true tm))) (cond want (no (xL b false tm)) (yes (xL b false tm)))
   |some (.jQ [])=>no tm
   |_=> .stuck
noncomputable def LZ (P:cc) (gl:fK) (cal:gb) (inl:my) (ops:Array Oper):List Oper->Nat->List V->List aM->iK->T
 |[],n,tm,bl,k=>k n tm bl
 |o::r,n,tm,bl,k=>HP ops tm o (λtm=>Xe P gl cal inl o n tm bl λn' cR bF=>LZ P gl cal inl ops r n' cR bF k) (λtm=>LZ P gl cal inl ops r n (hj tm o.dst (.jQ [])) bl k)
def aaR (g:Nat->T):List Nat->T
 |[]=> .stuck
 |[i]=>g i
 |i::r=> .both (g i) (aaR g r)
noncomputable def K5 (P:cc) (gl:fK) (cal:gb) (ops:Array Oper):List Oper->Nat->List V->List aM->(Nat->List V->T)->T
 |[],n,tm,bl,k=>k n tm
 |o::r,n,tm,bl,k=>cond (iO o) (K5 P gl cal ops r n tm bl k) (HP ops tm o (λtm=>Eb P cal gl bl tm o n λv n'=>K5 P gl cal ops r n' (hj tm o.dst v) bl k) (λtm=>K5 P gl cal ops r n (hj tm o.dst (.jQ [])) bl k))
def Nv (P:cc):List Oper->Nat->List V->List aM->iK->T
 |[],n,tm,bl,k=>k n tm bl
 |o::r,n,tm,bl,k=>cond (iO o) (match o.op with
  | .alloc t=>match qu P t with
   |some cs=>cond (cy cs) (Nv P r n (hj tm o.dst (.w (.one (.ptr bl.length 0)))) (bl++[(cs,(t,false))]) k) .stuck
   |none=> .stuck
  |_=> .stuck) (Nv P r n tm bl k)
def X4 (P:cc) (l:List Oper):Bool:=l.all λo=> !iO o||(match o.op with| .alloc t=>(qu P t).isSome|_=>false)
def K6 (cal:gb) (dyn:Bool) (ops:Array Oper):List Tmp->List Oper->Nat
 |_,[]=>0
 |ds,o::r=>cond ((o.looksAt ops).any ds.contains) 0 <| cond (iO o) (K6 cal dyn ops (match o.dst with|some d=>d::ds|none=>ds) r+1) <| cond (aPe cal dyn o) (K6 cal dyn ops ds r+1) 0
def OV (P:cc) (cal:gb) (ops:Array Oper):Nat:=cond (My ops (K6 cal false ops [] ops.toList)&&X4 P (ops.toList.take (K6 cal false ops [] ops.toList))) (K6 cal false ops [] ops.toList) (K6 cal true ops [] ops.toList)
def KN:Code->Option Nat
 | .region id _ _=>some id
 | .seq a b=>match KN a with|some i=>some i|none=>KN b
 | .block _ c| .loop c| .scope c=>KN c
 | .cond _ a b=>match KN a with|some i=>some i|none=>KN b
 |_=>none
def abN:bf->bf->Bool
 | .pointer none,.pointer none=>true
 | .slice none 0 0,.slice none 0 0=>true
 | .func (.func f) a b,.func (.func nQ) eE b'=>aU f nQ&&aU a.size 0&&aU b.size 0&&aU eE.size 0&&aU b'.size 0
 |_,_=>false
def A.beq:A->A->Bool
 | .int k x,.int bJ y=>decide (k=bJ)&&I.beq x.l y.l&&x.lo==y.lo&&x.hi==y.hi
 | .bool a,.bool b=>bO.beq a b
 | .con a,.con b=>abN a b
 | .ptr b o,.ptr b' cT=>aU b b'&&aU o cT
 | .gptr b o,.gptr b' cT=>aU b b'&&aU o cT
 | .slc b o l c,.slc b' cT l' ek=>aU b b'&&aU o cT&&aU l l'&&aU c ek
 | .str a,.str b=>I.beq a b
 | .rows sh o c q k,.rows gC cT ek fG bJ=>sQ sh gC&&I.beq o cT&&I.beq c ek&&I.beq q fG&&aU k bJ
 | .sl b z o r l c,.sl b' aiB cT r' l' ek=>aU b b'&&aU z aiB&&I.beq o cT&&I.beq r r'&&I.beq l l'&&I.beq c ek
 | .ep b z o i j,.ep b' aiB cT FM aeG=>aU b b'&&aU z aiB&&I.beq o cT&&I.beq i FM&&aU j aeG
 |_,_=>false
def rr:List A->List A->Bool
 |[],[]=>true
 |a::r,b::s=>A.beq a b&&rr r s
 |_,_=>false
def V.beq:V->V->Bool
 | .w (.one a),.w (.one b)=>A.beq a b
 | .w (.agg l),.w (.agg l')=>rr l l'
 | .jQ [],.jQ []=>true
 | .sZ f l,.sZ nQ l'=>aU f nQ&&rr l l'
 |_,_=>false
def Fk (i:Nat):List (Nat×Int×Int)->Option (Int×Int)
 |[]=>none
 |(j,lo,hi)::r=>cond (aU i j) (some (lo,hi)) (Fk i r)
noncomputable def hs (hL:List Nat) (ints:List (Nat×Int×Int)):Nat->Nat->List V->Option (List V×List I×List (Int×Int))
 |_,_,[]=>some ([],[],[])
 |i,s,v::r=>cond (hL.any (aU i)) (match hs hL ints (i+1) s r with|some (t,l,b)=>some (v::t,l,b)|none=>none)
  (match Fk i ints with
  |some (lo,hi)=>match v with
   | .w (.one (.int k x))=>cond (decide (lo<=x.lo)&&decide (x.hi<=hi)) (match hs hL ints (i+1) (s+1) r with|some (t,l,b)=>some (.w (.one (.int k ⟨.var s,lo,hi⟩))::t,x.l::l,(lo,hi)::b)|none=>none) none
   | .w (.one (.str x))=>(match hs hL ints (i+1) (s+1) r with|some (t,l,b)=>some (.w (.one (.str (.var s)))::t,x::l,(0,p3)::b)|none=>none)
   |_=>none
  |none=>match hs hL ints (i+1) s r with|some (t,l,b)=>some (.any::t,l,b)|none=>none)
noncomputable def m9 (lo hi:Int) (s:Nat):A->Option (A×I×(Int×Int))
 | .int k x=>cond (decide (lo<=x.lo)&&decide (x.hi<=hi)) (some (.int k ⟨.var s,lo,hi⟩,x.l,(lo,hi))) none
 | .str x=>some (.str (.var s),x,(0,p3))
 | .rows sh off code cap k=>some (.rows sh off (.var s) cap k,code,(0,cP))
 |_=>none
noncomputable def ha (ints:List (Nat×Int×Int)):Nat->Nat->List A->Option (List A×List I×List (Int×Int))
 |_,_,[]=>some ([],[],[])
 |i,s,v::r=>match Fk i ints with
  |some (lo,hi)=>match m9 lo hi s v with
   |some (a,x,gu)=>match ha ints (i+1) (s+1) r with|some (t,l,b)=>some (a::t,x::l,gu::b)|none=>none
   |none=>none
  |none=>match ha ints (i+1) s r with|some (t,l,b)=>some (v::t,l,b)|none=>none
def cellsOf (b:Nat):List (Nat×Nat×Int×Int)->List (Nat×Int×Int)
 |[]=>[]
 |(b',c,q)::r=>cond (aU b b') ((c,q)::cellsOf b r) (cellsOf b r)
noncomputable def hb (cells:List (Nat×Nat×Int×Int)):Nat->Nat->List aM->Option (List aM×List I×List (Int×Int))
 |_,_,[]=>some ([],[],[])
 |i,s,(cs,ty)::r=>match ha (cellsOf i cells) 0 s cs with
  |some (c,l,b)=>match hb cells (i+1) (s+l.length) r with
   |some (t,l',b')=>some ((c,ty)::t,l++l',b++b')
   |none=>none
  |none=>none
def qb:List V->List V->Bool
 |[],[]=>true
 | .any::r,_::s=>qb r s
 |v::r,u::s=>V.beq v u&&qb r s
 |_,_=>false
def qa:List aM->List aM->Bool
 |[],[]=>true
 |(c,t)::r,(ek,t')::s=>rr c ek&&aU t.1 t'.1&&(t.2==t'.2)&&qa r s
 |_,_=>false
def gW:aM:=([.rows [] (.const 0) (.const 0) (.const 0) 0],(0,false))
def BS:List A->Bool
 |[.rows _ _ _ _ k]=>aU k 1
 |_=>false
def kB (N:Nat):Nat->List aM->List aM
 |_,[]=>[]
 |i,p::r=>cond (eC i N&&(cy p.1||BS p.1)) p gW::kB N (i+1) r
def Ut (N:Nat) (tm:List V) (bl:List aM) (o:Oper):Bool:=match o.op with
 | .move _| .assign _| .extract _ _| .fieldAddr .. =>true
 | .load _ p=>match cB tm p with
  | .w (.one (.ptr b _))=>eC b N&&(match bl[b]? with|some p=>cy p.1|none=>false)
  |_=>false
 | .slice _ x _ _ _=>match cB tm x with| .w (.one (.sl ..))=>true|_=>false
 |_=>false
def Uu (N:Nat) (tm:List V) (bl:List aM) (o:Oper):Bool:=match o.op with
 | .binOp _ _ x y _=>match cB tm x,cB tm y with
  | .w (.one (.int ..)),.w (.one (.int ..))=>true
  |_,_=>false
 | .indexAddr _ x _=>match cB tm x with| .w (.one (.sl ..))=>true|_=>false
 | .slice _ x _ _ _=>match cB tm x with| .w (.one (.str _))=>true|_=>false
 | .load _ p=>match cB tm p with
  | .w (.one (.ep b ..))=>eC b N&&(match bl[b]? with|some p=>BS p.1|none=>false)
  |_=>false
 |_=>false
def UY (o:Oper):Bool:=match o.op with| .store .. =>true|_=>false
def afV (o:Oper):Bool:=match o.op with| .move _| .assign _| .extract _ _| .fieldAddr .. | .load .. | .slice .. =>true|_=>false
def aqy (o:Oper):Bool:=match o.op with| .call c=>(match c.callee with| .value _=>true|_=>false)|_=>false
def aGR (o:Oper):Bool:=match o.op with| .call c=>(match c.callee with| .builtin .copy=>true|_=>false)|_=>false
def aI0 (ops:List Oper) (p:rl):Bool:=match p with
 | .tmp d=>ops.any λo=>o.dst==some d&&(match o.op with| .alloc .. =>true|_=>false)
 |_=>false
def afW (ops:Array Oper):Bool:=(ops.toList.any (λo=>UY o||aqy o)&&cV 7 (ops.toList.filter λo=> !afV o).length)||(ops.toList.any aqy&&ops.toList.any UY&&ops.toList.all λo=>match o.op with| .store _ p _=>aI0 ops.toList p|_=>true)
def OX (tm:List V) (o:Oper):Bool:=match o.op with
 | .slice _ x _ _ _=>match cB tm x with| .w (.one (.ptr ..))=>true|_=>false
 |_=>false
def apw (N:Nat) (tm:List V) (bl:List aM) (ops:Array Oper) (listed:Array Bool):Option Nat:=
 cond (Yc ops) ((y5 .any ops listed).find? λi=>(match ops[i]? with|some o=>Ut N tm bl o||(afW ops&&(Uu N tm bl o||OX tm o))||(ops.toList.any aGR&&OX tm o)|none=>false)&&aWU .any ops listed i) none
def aJe (ops:Array Oper) (tm:List V) (o:Oper):Bool:=match o.guard with
 |some (g,want)=>match(ops[g]?).bind (·.dst)with
  |some d=>match tm[d]? with
   |some (.w (.one (.bool (.lit v))))=> !(v==want)
   |some (.jQ [])=>true
   |_=>false
  |none=>false
 |none=>false
def asB (tm:List V) (ops:Array Oper) (listed:Array Bool):Option Nat:=
 cond (Yc ops) ((y5 .any ops listed).find? λi=>(match ops[i]? with|some o=>aJe ops tm o|none=>false)&&aWU .any ops listed i) none
def preB:List aM->List aM->Bool
 |(c,t)::r,(ek,t')::s=>rr c ek&&aU t.1 t'.1&&(t.2==t'.2)&&preB r s
 |[],_=>true
 |_,_=>false
noncomputable def C3 (P:cc) (gl:fK) (cal:gb) (inl:my) (ops:Array Oper) (N:Nat) (Kj:List aM):Nat->Array Bool->Nat->List V->List aM->iK->T
 |0,listed,n,tm,bl,k=>match y5 .any ops listed with
  |[]=>k n tm bl
  |_=> .stuck
 |f+1,listed,n,tm,bl,k=>match y5 .any ops listed with
  |[]=>k n tm bl
  |l=>match apw N tm bl ops listed with
   |some i=>match ops[i]? with
    |none=> .stuck
    |some o=>HP ops tm o (λtm=>Eb P cal gl (kB N 0 bl) tm o n λv n'=>C3 P gl cal inl ops N Kj f (listed.setIfInBounds i true) n' (hj tm o.dst v) bl k) (λtm=>C3 P gl cal inl ops N Kj f (listed.setIfInBounds i true) n (hj tm o.dst (.jQ [])) bl k)
   |none=>match asB tm ops listed with
    |some i=>match ops[i]? with
     |none=> .stuck
     |some o=>HP ops tm o (λ_=> .stuck) (λtm=>C3 P gl cal inl ops N Kj f (listed.setIfInBounds i true) n (hj tm o.dst (.jQ [])) bl k)
    |none=>aaR (λi=>match ops[i]? with
    |none=> .stuck
    |some o=>HP ops tm o (λtm=>Xe P gl cal inl o n tm bl λn' cR bF=>cond (preB Kj (kB N 0 bF)) (C3 P gl cal inl ops N Kj f (listed.setIfInBounds i true) n' cR bF k) .stuck) (λtm=>C3 P gl cal inl ops N Kj f (listed.setIfInBounds i true) n (hj tm o.dst (.jQ [])) bl k)) l
def ayC (ops:List Oper) (tm:List V) (p:rl):Nat:=match p with
 | .tmp d=>match ops.find? λo=>o.dst==some d with
  |some o=>match o.op with
   | .fieldAddr _ x _=>match cB tm x with| .w (.one (.ptr b _))=>b|_=>0
   | .alloc .. =>1000000
   |_=>0
  |none=>match cB tm p with| .w (.one (.ptr b _))=>b|_=>0
 |_=>0
def alj (ops:List Oper) (tm:List V):List Oper->Nat->Nat
 |[],N=>N
 |o::r,N=>alj ops tm r (match o.op with| .store _ p _=>min N (ayC ops tm p)|_=>N)
def OW (ops:Array Oper) (tm:List V) (bl:List aM):Nat:=cond (afW ops) (min bl.length (alj ops.toList tm ops.toList bl.length)) (cond (ops.toList.any UY) 0 bl.length)
def ahf (body:Nat->List V->List aM->xZ->T):Nat->Nat->List V->List aM->xZ->T
 |0,_,_,_,_=> .stuck
 |r+1,n,tm,bl,k=>body n tm bl λx n' cR bF=>match x with
  | .normal=>ahf body r n' cR bF k
  |x=>k x n' cR bF
def Bd (lo:Nat):List (Nat×List a8×bE)->List V->List aM->List Nat->Option (List I×List Nat)
 |[],_,_,used=>some ([],used)
 |(s,sh,e)::r,tm,bl,used=>match tm[s]? with
  |some (.w (.one (.con (.slice none 0 0))))=>match Bd lo r tm bl used with
   |some (l,u)=>some (.const 0:: .const 0:: .const (-1)::l,u)
   |none=>none
  |some (.w (.one (.sl b bL o ro len cap)))=>match bl[b]? with
   |some ([.rows gC off code e8 kind],t)=>cond (sQ sh gC&&aU kind 2&&I.beq o (.const 0)&&I.beq off (.const 0)&&I.beq ro (.const 0)&&I.beq cap e8&&aU t.1 e&&aU bL sh.length&&cV lo b&& !(used.any (aU b)))
    (match Bd lo r tm bl (b::used)with
    |some (l,u)=>some (code::len::cap::l,u)
    |none=>none) none
   |_=>none
  |_=>none
def qi:List Nat->List aM->List aM
 |[],bl=>bl
 |b::r,bl=>match bl[b]? with
  |some ([.rows sh off code cap _],t)=>qi r (eP bl b ([.rows sh off code cap 0],t))
  |_=>qi r bl
def HM:List (Nat×Int×Int)->List V->M (List V)
 |[],tm=>pure tm
 |(s,lo,hi)::r,tm=>match tm[s]? with
  |some (.w (.one (.int k x)))=>cond (decide (lo<=x.lo)&&decide (x.hi<=hi)) (HM r tm) (bind (hK 39 [x.l,.const lo,.const hi]) λ_=>HM r (xF tm s (.w (.one (.int k ⟨x.l,lo,hi⟩)))))
  |_=>HM r tm
def NF (tm:List V):List Nat->M (List I)
 |[]=>pure []
 |s::r=>match tm[s]? with
  |some (.w (.one (.bool e)))=>bind (match e with| .lit v=>pure (.const (cond v 1 0))|e=>IB e) λl=>bind (NF tm r) λls=>pure (l::ls)
  |_=>fail
def zP:List Nat->Nat->List V->List V
 |[],_,tm=>tm
 |s::r,v,tm=>zP r (v+1) (xF tm s (.w (.one (.bool (.eq (.var v) (.const 1))))))
def xc:List (Nat×List a8×bE)->Nat->List V->List aM->List V×List aM
 |[],_,tm,bl=>(tm,bl)
 |(s,sh,e)::r,v,tm,bl=>xc r (v+3) (xF tm s (.w (.one (.sl bl.length sh.length (.const 0) (.const 0) (.var (v+1)) (.var (v+2)))))) (bl++[([.rows sh (.const 0) (.var v) (.var (v+2)) 2],(e,false))])
def Tc (l:List Nat):List (Int×Int):=l.map λ_=>(0,1)
noncomputable def Hj (l:List (Nat×List a8×bE)):List (Int×Int):=l.flatMap λ_=>[(0,cP),(0,0x7fffffffffffffff),(-1,0x7fffffffffffffff)]
noncomputable def RI:List (Nat×List a8×Nat)->List aM->M (List aM)
 |[],bl=>pure bl
 |(b,sh,c)::r,bl=>match bl[b]? with
  |some (C,t)=>cond (cy C) (cond (!t.2&&aU C.length (c*sh.length)&&qq sh&&cV c 1000000) (bind (E1 sh (rA sh.length c C) (.const 0)) λcode=>RI r (eP bl b ([.rows sh (.const 0) code (.const c) 2],t))) fail) (RI r bl)
  |none=>fail
def Jm:List (Nat×List a8)->List V->List aM->Option (List I)
 |[],_,_=>some []
 |(s,sh)::r,tm,bl=>match tm[s]? with
  |some (.w (.one (.con (.slice none 0 0))))=>match Jm r tm bl with
   |some l=>some (.const 0:: .const 0:: .const (-1)::l)
   |none=>none
  |some (.w (.one (.sl b bL o ro len cap)))=>match bl[b]? with
   |some ([.rows gC off code e8 kind],t)=>cond (sQ sh gC&&aU kind 1&&I.beq o off&&I.beq ro (.const 0)&&I.beq cap e8&&aU bL sh.length)
    (match Jm r tm bl with
    |some l=>some (code::len::cap::l)
    |none=>none) none
   |_=>none
  |_=>none
def V6:Nat->M Unit
 |0=>pure ()
 |k+1=>λn JV=> .nat n (V6 k (n+1) JV)
def headD:List (Nat×List a8)->Nat->Nat->List V->List aM->List V×List aM
 |[],_,_,tm,bl=>(tm,bl)
 |(s,sh)::r,v,u,tm,bl=>headD r (v+3) (u+1) (xF tm s (.w (.one (.sl bl.length sh.length (.var u) (.const 0) (.var (v+1)) (.var (v+2)))))) (bl++[([.rows sh (.var u) (.var v) (.var (v+2)) 1],(0,false))])
noncomputable def Jl (l:List (Nat×List a8)):List (Int×Int):=l.flatMap λ_=>[(0,cP),(0,0x7fffffffffffffff),(-1,0x7fffffffffffffff)]
noncomputable def afU (li:fB) (body:Nat->List V->List aM->xZ->T) (n:Nat) (tm:List V) (bl:List aM) (k:xZ):T:=
 RI li.RH bl n λbl n=>HM li.ints tm n λtm n=>NF tm li.vi n λgy n=>match hs li.hL li.ints 0 (n+1) tm,Bd 0 li.tN tm bl [],Jm li.pR tm bl with
 |some (pj,l1,b4),some (gZ,us),some fY=>match hb li.cells 0 (n+1+l1.length) (qi us bl)with
  |none=> .stuck
  |some (gd,l2,cg)=>cond (!(qb pj pj&&qa gd gd)) .stuck <| .loop n (l1++l2++(gy++gZ++fY)) (n+1) (b4++cg++(Tc li.vi++Hj li.tN++Jl li.pR))
   (V6 li.pR.length (n+1+l1.length+l2.length+(gy++gZ++fY).length) λ_ N=>
   let d:=headD li.pR (n+1+l1.length+l2.length+(gy++gZ).length) (n+1+l1.length+l2.length+(gy++gZ++fY).length) (zP li.vi (n+1+l1.length+l2.length) pj) gd;let e:=xc li.tN (n+1+l1.length+l2.length+gy.length) d.1 d.2
   body N e.1 e.2 λx n' cR bF=>match x with
   | .normal=>HM li.ints cR n' λcR n'=>NF cR li.vi n' λarq n'=>match hs li.hL li.ints 0 (n+1) cR,Bd bl.length li.tN cR bF [],Jm li.pR cR bF with
    |some (Em,v1,_),some (afG,_),some arD=>match hb li.cells 0 (n+1+v1.length) (bF.take bl.length)with
     |none=> .stuck
     |some (sr,v2,_)=>cond (qb pj Em&&qa gd sr) (.again n (v1++v2++(arq++afG++arD))) .stuck
    |_,_,_=> .stuck
   |x=>k x n' cR bF)
 |_,_,_=> .stuck
def ata (tm:List V) (b:Nat):Nat:=cond (cV 1000 b) (match tm[b-1000]? with|some (.w (.one (.ptr g _)))=>g|_=>b) b
def aQ8 (l:fB) (tm:List V):fB:={l with cells:=l.cells.map λc=>(ata tm c.1,c.2),RH:=l.RH.map λc=>(ata tm c.1,c.2)}
noncomputable def p8 (P:cc) (gl:fK) (cal:gb) (inl:my) (li:Nat->Option fB) (rounds:Nat):Code->Nat->List V->List aM->xZ->T
 | .skip,n,tm,bl,k=>k .normal n tm bl
 | .region _ ops draw,n,tm,bl,k=>cond draw
  (let h:=OV P cal ops
   cond (My ops h&&X4 P (ops.toList.take h)) (K5 P gl cal ops (ops.toList.take h) n tm bl λn' cR=>Nv P (ops.toList.take h) n' cR bl λn' cR bF=>LZ P gl cal inl ops (ops.toList.drop h) n' cR bF (k .normal)) (cond (cV (ops.toList.filter λo=> !afV o).length 12) (C3 P gl cal inl ops (OW ops tm bl) (kB (OW ops tm bl) 0 bl) ops.size (CJ ops.size false) n tm bl (k .normal)) .stuck))
  (LZ P gl cal inl ops ops.toList n tm bl (k .normal))
 | .seq a b,n,tm,bl,k=>p8 P gl cal inl li rounds a n tm bl λx n' cR bF=>match x with
  | .normal=>p8 P gl cal inl li rounds b n' cR bF k
  |x=>k x n' cR bF
 | .cond c a b,n,tm,bl,k=>match cB tm c with
  | .w (.one (.bool e))=>match e with
   | .lit v=>cond v (p8 P gl cal inl li rounds a n tm bl k) (p8 P gl cal inl li rounds b n tm bl k)
   |e=> .vj e (p8 P gl cal inl li rounds a n (xL e true tm) bl k) (p8 P gl cal inl li rounds b n (xL e false tm) bl k)
  |_=> .stuck
 | .block id c,n,tm,bl,k=>p8 P gl cal inl li rounds c n tm bl λx n' cR bF=>match x with
  | .exit FN=>cond (aU FN id) (k .normal n' cR bF) (k (.exit FN) n' cR bF)
  |x=>k x n' cR bF
 | .loop c,n,tm,bl,k=>match(KN c).bind li with
  |some l=>afU (aQ8 l tm) (λn tm bl k=>p8 P gl cal inl li rounds c n tm bl k) n tm bl k
  |none=>ahf (λn tm bl k=>p8 P gl cal inl li rounds c n tm bl k) rounds n tm bl k
 | .exit id,n,tm,bl,k=>k (.exit id) n tm bl
 | .ret,n,tm,bl,k=>k .ret n tm bl
 |_,_,_,_,_=> .stuck
def RF (P:cc) (gl:fK) (bl:List aM) (tm:List V):ResultVar->Option W
 | .tmp t=>match tm[t]? with|some (.w u)=>some u|_=>none
 | .cell a t=>match tm[a]? with
  |some (.w (.one p))=>match Kt bl gl p,lu P t,gI P t with
   |some cs,some true,some k=>cond (cV k cs.length) (some (.agg (cs.take k))) none
   |some (x::_),some false,_=>some (.one x)
   |_,_,_=>none
  |_=>none
def Jp (P:cc) (gl:fK) (bl:List aM) (tm:List V):List ResultVar->Option (List W)
 |[]=>some []
 |r::s=>match RF P gl bl tm r,Jp P gl bl tm s with|some u,some l=>some (u::l)|_,_=>none
def agv (tm:List V):List ResultVar->Option V
 |[.tmp t]=>match tm[t]? with
  |some (.sZ f c)=>some (.sZ f c)
  |some (.sK b l lo)=>some (.sK b l lo)
  |_=>none
 |_=>none
def RD (P:cc) (gl:fK) (fn:Func) (n:Nat) (tm:List V) (bl:List aM) (k:RK):T:=
 match Jp P gl bl tm fn.results.toList with
 |some [u]=>k n (.w u) bl
 |some l=>k n (.jQ l) bl
 |none=>match agv tm fn.results.toList with
  |some v=>k n v bl
  |none=> .stuck
def Ml:Nat->List V
 |0=>[]
 |n+1=> .jQ []::Ml n
noncomputable def Tb (P:cc) (gl:fK) (cal:gb) (inl:my) (li:dv->Nat->Option fB) (rounds:Nat):my:=
 λf n vs bl k=>match P.funcs[f]? with
  |none=> .stuck
  |some fn=>match fn.body with
   |none=> .stuck
   |some c=>cond (!(fn.name== "runtime.NumGoroutine")&&cV vs.length fn.ntmps) (p8 P gl cal inl (li f) rounds c n (vs++Ml (fn.ntmps-vs.length)) bl λx n' cR bF=>match x with
    | .exit _=> .stuck
    |_=>RD P gl fn n' cR bF k) .stuck
noncomputable def NW (P:cc) (gl:fK) (cal:gb) (li:dv->Nat->Option fB) (rounds:Nat):Nat->my
 |0=>λ_ _ _ _ _=> .stuck
 |d+1=>Tb P gl cal (NW P gl cal li rounds d) li rounds
abbrev qz:=dv->Option (Nat->List V->List aM->RK->T)
noncomputable def agx (bc:qz) (inl:my):my:=λf n vs bl k=>match bc f with
 |some g=>g n vs bl k
 |none=>inl f n vs bl k
noncomputable def Fc (bc:qz) (P:cc) (gl:fK) (cal:gb) (li:dv->Nat->Option fB) (rounds:Nat):Nat->my
 |0=>λ_ _ _ _ _=> .stuck
 |d+1=>Tb P gl cal (agx bc (Fc bc P gl cal li rounds d)) li rounds
end Go.bX
