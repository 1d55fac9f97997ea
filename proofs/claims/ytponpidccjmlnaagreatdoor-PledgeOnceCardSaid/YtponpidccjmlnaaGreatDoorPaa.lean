/- Texts as numbers. -/
import GoSem.ClaimData
import GoSem.Op.String
import Derived.WalkKit
import Derived.Laws.StructEq
import Derived.ChangeKeysEq
import Derived.Laws.Tables
import Derived.Laws.Strings2
import Derived.Laws.Concat
import Derived.Laws.Cover1
import Derived.Laws.Cover3
import Derived.Laws.BytesArg
import Derived.StillTail
import Derived.OrdersHeld
import Derived.Laws.CopyRow
import Derived.Deep.LoopGhost
open Array renaming toArray_toList->iJ,toList_map->r6,replicate->th,eq_empty_of_size_eq_zero->vb,getElem?_eq_none->FX,getElem?_toList->Gb,getElem?_setIfInBounds_ne->avh,ext_getElem?->avr
open BitVec renaming ofInt->oZ,toNat_ofInt->Kw
open Bool renaming and_eq_true->aK,not_eq_true'->js,false_eq_true->o3,or_eq_true->qL,false_or->va,true_and->Cv,not_eq_false'->Cy,not_true->CB
open ByteArray renaming size->azg
open Classical renaming choose_spec->Rz,choose->Z4,byContradiction->aau
open Function renaming comp->F0
open Go renaming World->ai,Value->az,TypeId->aN,Program->bm,FuncId->cy,IntKind->cS,run_underlying->ef,Operand->mx,getD_both->zB,run_loadCells_list->Kr
open Go.Act renaming put->CI
open Go.Builtin renaming len_->CK,min_->RS,max_->RT
open Go.ByteArray renaming toList_mk->azf,mk_append_mk->azh,getElem?_lt'->azi,extract_mk->azj
open Go.Deferred renaming ofValue->aao
open Go.Instr renaming sliceBounds->j7,sureAddr->kB,loadAt->mv,sliceAt->oY,indexAt->pX,sliceBound->Ga,index->RH,slice->RI,extract->aaa,fieldAt->aab,fill->aan,arrayAt->aaq
open Go.IntKind renaming max->eX,signed->F5,bits->aai,wrap->au8
open Go.Next renaming value->ju
open Go.Next.value renaming injEq->avt
open Go.Op renaming bytesLess->dj,eqFields->CL,intBits->Kz,equalIn->KB
open Go.Oper renaming wp->lf
open Go.Program renaming fieldsOf->avn
open Go.Region renaming ready->qQ,wanted->tl,waitsFor->u9,waitsFor_spec->zA,noSelect->Kp,binds->RL,Mode->aas,chainB->avo,seqB->avp,free->avv
open Go.Result renaming andThen_ok->fW,andThen->avu
open Go.Result.ok renaming injEq->avs
open Go.Sem renaming run_bind->fV,run_pure->gU
open Go.Utf8 renaming encode->KA
open Go.Value.pointer renaming injEq->ay2
open Go.World renaming cell?->iW
open Go.World.Extends renaming refl->na
open Int renaming le_refl->cn,lt_or_le->iX,toNat_natCast->k9,le_of_lt->pY,mul_comm->tj,natCast_nonneg->w5,emod_eq_of_lt->xa,mul_le_mul_of_nonneg_left->zy,eq_ofNat_of_zero_le->CH,mul_add->F1,mul_le_mul->Km,dvd_of_emod_eq_zero->RG,mul_nonneg->Z5,emod_nonneg->aaf,emod_lt_of_pos->aag,mul_ediv_add_emod->aah,ofNat_sub->aal,ediv_nonneg->aam,ediv_le_ediv->au7,mul_emod_right->avb,ediv_le_self->avd,fdiv_eq_ediv_of_nonneg->ave,tdiv_eq_ediv_of_nonneg->avf,tmod_eq_emod_of_nonneg->avg,ofNat_toNat->avA
open List renaming getD->af,map_cons->cr,range->cA,mem_cons_of_mem->cR,replicate->cV,length_cons->dv,mem_of_getElem?->dK,length_append->dQ,map_nil->dY,length_nil->gF,map_congr_left->gG,getElem?_eq_getElem->jt,mem_of_mem_take->jM,map_map->j5,length_map->j6,mem_cons->lR,getElem?_map->mu,length_take->mw,getElem?_take->m9,mem_of_mem_drop->nd,flatMap_cons->o0,getElem?_cons_zero->qO,getElem?_append_left->rZ,getElem?_drop->u7,eq_nil_of_length_eq_zero->vd,getElem?_append_right->zu,map_take->zw,map_drop->zx,map_id->Cx,mem_of_find?_eq_some->CC,head?->CJ,getElem?_toArray->F7,getElem_mem->F8,tail->F9,drop_drop->Gc,find?_some->RE,mem_map_of_mem->avi,take_drop->avm,countP_cons->avq
open Nat renaming beq->aA,le_refl->a6,eq_of_beq_eq_true->bk,ble->bw,blt->b7,le_of_ble_eq_true->eb,le_trans->hT,add_zero->ld,log2->lS,zero_le->mr,le_succ->nQ,zero_add->oE,lt_or_ge->qJ,lt_succ_self->r4,succ_mul->r5,add_mul->rU,lt_of_lt_of_le->u4,pow_succ->w6,mul_comm->w7,min_eq_left->w8,mul_one->CF,two_pow_pos->CG,add_assoc->CN,pow_le_pow_right->FZ,div_div_eq_div_mul->F6,pow_add->Kx,mul_div_cancel_left->RC,one_le_two_pow->Z7,div_add_mod->aak,testBit_mul_two_pow->au9,lt_log2_self->ava,or_lt_two_pow->avc
open Option renaming map_some->qM,getD_some->qN,isSome_none->qP,getD_none->RJ,map_none->aap
open Option.some renaming injEq->aG,inj->gE
open Prod.mk renaming injEq->cj
open Pure renaming pure->zv
open UInt8 renaming ofNat->k8
set_option linter.unusedVariables false
set_option linter.unusedSimpArgs false
namespace Go.bg
def lj:List UInt8->Nat
 |[]=>0
 |b::r=>(b.toNat+1)+257*lj r
def wO:Nat->Nat->List UInt8
 |0,_=>[]
 |f+1,n=>match n with
  |0=>[]
  |k+1=>k8 (k% 257)::wO f ((k+1)/257)
theorem LJ (b:UInt8) (r:List UInt8):lj (b::r)=(b.toNat+1)+257*lj r:=rfl
theorem ac9 (b:UInt8) (r:List UInt8):lj (b::r)=(b.toNat+257*lj r)+1:=by rw[LJ];omega
theorem YY:∀(l:List UInt8) (f:Nat),l.length<=f->wO f (lj l)=l
 |[],0,_=>rfl
 |[],f+1,_=>rfl
 |b::r,0,h=>by simp at h
 |b::r,f+1,h=>by
  have hb:=b.toNat_lt
  rw[ac9]
  show k8 ((b.toNat+257*lj r)% 257)::wO f ((b.toNat+257*lj r+1)/257)=b::r
  have e1:(b.toNat+257*lj r)% 257=b.toNat:=by omega
  have e2:(b.toNat+257*lj r+1)/257=lj r:=by omega
  rw[e1,e2,YY r f (by simpa using h)]
  simp
theorem YZ:∀(f n k:Nat),n<257^k->(wO f n).length<=k
 |0,_,_,_=>by simp[wO]
 |f+1,0,k,_=>by simp[wO]
 |f+1,n+1,0,h=>by simp at h
 |f+1,n+1,k+1,h=>by
  have:(n+1)/257<257^k:=by rw[Nat.div_lt_iff_lt_mul (by decide)];rw[w6]at h;exact h
  have ih:=YZ f ((n+1)/257) k this
  simp only[wO,dv]
  omega
theorem T3:∀(l:List UInt8),lj l<257^l.length
 |[]=>by simp[lj]
 |b::r=>by
  have ih:=T3 r
  have hb:=b.toNat_lt
  unfold lj
  rw[dv,w6]
  omega
theorem T2:∀(l:List UInt8),l.length<=lj l
 |[]=>by simp
 |b::r=>by
  have ih:=T2 r
  unfold lj
  rw[dv]
  omega
theorem T4:∀(l:List UInt8),0<l.length->2^(l.length-1)<=lj l
 |[b],_=>by rw[LJ];show 1<=_;omega
 |b::c::r,_=>by
  have ih:=T4 (c::r) (by simp)
  rw[LJ b]
  simp only[dv,Nat.add_sub_cancel]at ih⊢
  rw[w6]
  omega
def U (z:Int):List UInt8:=wO (lS z.toNat+1) z.toNat
def dP (l:List UInt8):Int:=lj l
theorem fS (l:List UInt8):U (dP l)=l:=by
 unfold U dP
 rw[k9]
 apply YY
 by_cases h:l.length=0
 ·omega
 ·have h1:=T4 l (by omega)
  have h2:lj l≠0:=by have:=T2 l;omega
  have h3:=(Nat.le_log2 h2).2 h1
  omega
theorem p9 (l:List UInt8):0<=dP l:=w5 _
theorem aa2 (k:Nat):∃H:Int,(∀l:List UInt8,l.length<=k->dP l<=H)/\∀z:Int,z<=H->(U z).length<=k:=by
 refine⟨(257^k:Nat)-1,λl h=>?_,λz h=>?_⟩
 ·have h1:=T3 l
  have h2:257^l.length<=257^k:=FZ (by decide) h
  unfold dP
  omega
 ·unfold U
  apply YZ
  have:=Nat.pow_pos (n:=k) (show 0<257 by decide)
  omega
def fQ:Nat:=140737488351232
theorem K1:∃H:Int,(∀l:List UInt8,l.length<=fQ->dP l<=H)/\∀z:Int,z<=H->(U z).length<=fQ:=aa2 fQ
noncomputable def ch:Int:=Z4 K1
theorem oG {l:List UInt8} (h:l.length<=fQ):dP l<=ch:=(Rz K1).1 l h
theorem tu {z:Int} (h:z<=ch):(U z).length<=fQ:=(Rz K1).2 z h
theorem jw:0<=ch:=by have:=oG (l:=[]) (by simp);exact this
def qk (l:List UInt8):List UInt8:=cond (bw l.length 1000000) l []
theorem akl (l:List UInt8):0<=dP (qk l)/\dP (qk l)<=ch:=by
 refine⟨p9 _,oG ?_⟩
 unfold qk
 cases h:bw l.length 1000000 with
 |true=>have:=eb h;simp only[cond_true];unfold fQ;omega
 |false=>simp
def bd (l:List UInt8):ByteArray:=⟨l.toArray⟩
def tr (z:Int):Nat:=if 0<=z then 2*z.toNat else 2*(-z).toNat-1
def wV (n:Nat):Int:=if n% 2=0 then((n/2:Nat):Int)else-(((n+1)/2:Nat):Int)
theorem atk (z:Int):wV (tr z)=z:=by
 unfold tr wV
 split
 ·rw[if_pos (by omega)];omega
 ·rw[if_neg (by omega)];omega
def lc:List Nat->Nat
 |[]=>0
 |x::r=>2^x*(2*lc r+1)
def nM:Nat->Nat->Nat
 |0,_=>0
 |f+1,n=>if n% 2=0 then nM f (n/2)+1 else 0
theorem ZC (k:Nat):∀(x f:Nat),x<f->nM f (2^x*(2*k+1))=x
 |0,f+1,_=>by
  unfold nM
  rw[if_neg (by rw[Nat.pow_zero,Nat.one_mul];omega)]
 |x+1,f+1,h=>by
  unfold nM
  have e:2^(x+1)*(2*k+1)=2*(2^x*(2*k+1)):=by rw[w6,w7 (2^x) 2,Nat.mul_assoc]
  rw[e,if_pos (by omega),RC _ (by decide),ZC k x f (by omega)]
def aF:Nat->Nat->List Nat
 |0,_=>[]
 |f+1,n=>if n=0 then []else nM n n::aF f (n/2^nM n n/2)
theorem alV (x:Nat):x<2^x:=Nat.lt_two_pow_self
theorem O7:∀l:List Nat,l.length<=lc l
 |[]=>a6 _
 |x::r=>by
  have ih:=O7 r
  unfold lc
  have h1:1<=2^x:=Z7
  have h2:2*lc r+1<=2^x*(2*lc r+1):=Nat.le_mul_of_pos_left _ h1
  rw[dv]
  omega
theorem O9:∀(l:List Nat) (f:Nat),l.length<=f->aF f (lc l)=l
 |[],0,_=>rfl
 |[],f+1,_=>by simp[aF,lc]
 |x::r,0,h=>by simp at h
 |x::r,f+1,h=>by
  have h1:1<=2^x:=Z7
  have h2:2^x<=2^x*(2*lc r+1):=Nat.le_mul_of_pos_right _ (by omega)
  have h3:=alV x
  have hz:lc (x::r)≠0:=by
   have hl:lc (x::r)=2^x*(2*lc r+1):=rfl
   omega
  have ht:nM (lc (x::r)) (lc (x::r))=x:=by
   show nM (2^x*(2*lc r+1)) (2^x*(2*lc r+1))=x
   exact ZC _ _ _ (by omega)
  unfold aF
  rw[if_neg hz,ht]
  have e:lc (x::r)/2^x/2=lc r:=by
   have hl:lc (x::r)=2^x*(2*lc r+1):=rfl
   rw[hl,RC _ (by omega)]
   omega
  rw[e,O9 r f (by simpa using h)]
theorem O6 (X:Nat):∀k:Nat,∃B,∀l:List Nat,l.length<=k->(∀x∈l,x<=X)->lc l<=B
 |0=>⟨0,λl h _=>by
  have:l=[]:=List.length_eq_zero_iff.1 (by omega)
  subst this;exact a6 _⟩
 |k+1=>by
  obtain⟨B,hB⟩:=O6 X k
  refine⟨2^X*(2*B+1),λl h hx=>?_⟩
  cases l with
  |nil=>exact mr _
  |cons x r=>
   unfold lc
   have h1:=hB r (by simpa using h) λy hy=>hx y (cR _ hy)
   exact Nat.mul_le_mul (FZ (by decide) (hx x (by simp))) (by omega)
def rc (l:List (List Int)):Int:=(lc (l.map λrow=>lc (row.map tr)):Nat)
def ab (z:Int):List (List Int):=(aF z.toNat z.toNat).map λn=>(aF n n).map wV
theorem al3 (l:List Int):(l.map tr).map wV=l:=by
 rw[j5]
 conv=>rhs;rw[<-Cx l]
 exact gG λz _=>atk z
theorem dW (l:List (List Int)):ab (rc l)=l:=by
 unfold ab rc
 rw[k9,O9 _ _ (O7 _),j5]
 conv=>rhs;rw[<-Cx l]
 refine gG λrow _=>?_
 simp only[F0,id]
 rw[O9 _ _ (O7 _),al3]
theorem fE (l:List (List Int)):0<=rc l:=w5 _
def P8 (row:List Int):Prop:=row.length<=100/\∀z∈row,-18446744073709551616-ch<=z/\z<=18446744073709551616+ch
theorem Ts:∃H:Int,∀l:List (List Int),l.length<=maxLen->(∀row∈l,P8 row)->rc l<=H:=by
 obtain⟨B,hB⟩:=O6 (2*(18446744073709551616+ch).toNat) 100
 obtain⟨C,hC⟩:=O6 B maxLen
 refine⟨(C:Nat),λl h hr=>?_⟩
 unfold rc
 have:=hC (l.map λrow=>lc (row.map tr)) (by simpa using h) λx hx=>by
  obtain⟨row,hrow,rfl⟩:=List.mem_map.1 hx
  refine hB _ (by simpa using(hr row hrow).1) λy hy=>?_
  obtain⟨z,hz,rfl⟩:=List.mem_map.1 hy
  have h1:=(hr row hrow).2 z hz
  have h2:=jw
  unfold tr
  split<;>omega
 omega
noncomputable def bZ:Int:=Z4 Ts
theorem nS {l:List (List Int)} (h:l.length<=maxLen) (hr:∀row∈l,P8 row):rc l<=bZ:=Rz Ts l h hr
inductive aw where
 |int (k:cS) (lo hi:Int)
 |str
 |bool
def aw.beq:aw->aw->Bool
 |int k lo hi,int aP XA mK=>decide (k=aP)&&decide (lo=XA)&&decide (hi=mK)
 |str,str=>true
 |bool,bool=>true
 |_,_=>false
theorem aw.beq_eq:∀{a b:aw},aw.beq a b=true->a=b
 |int k lo hi,int aP XA mK,h=>by
  simp only[aw.beq,aK,decide_eq_true_eq]at h
  rw[h.1.1,h.1.2,h.2]
 |str,str,_=>rfl
 |bool,bool,_=>rfl
 |int ..,str,h=>by cases h
 |int ..,bool,h=>by cases h
 |str,int ..,h=>by cases h
 |str,bool,h=>by cases h
 |bool,int ..,h=>by cases h
 |bool,str,h=>by cases h
def mc:List aw->List aw->Bool
 |[],[]=>true
 |a::r,b::s=>aw.beq a b&&mc r s
 |_,_=>false
theorem uR:∀{a b:List aw},mc a b=true->a=b
 |[],[],_=>rfl
 |a::r,b::s,h=>by
  simp only[mc,aK]at h
  rw[aw.beq_eq h.1,uR h.2]
 |[],_::_,h=>by cases h
 |_::_,[],h=>by cases h
noncomputable def aw.en:aw->Int×Int
 |int _ lo hi=>(lo,hi)
 |str=>(0,ch)
 |bool=>(0,1)
def aw.val:aw->Int->az
 |int k _ _,z=> .int k z
 |str,z=> .string (bd (U z))
 |bool,z=> .bool (decide (z=1))
def aB:Nat->List Int->Int
 |0,[s]=>(U s).length
 |1,[s,i]=>((U s).getD i.toNat 0).toNat
 |2,[s,a,b]=>dP (((U s).drop a.toNat).take (b.toNat-a.toNat))
 |3,[s,t]=>dP (U s++U t)
 |4,[s,t]=>if U s=U t then 1 else 0
 |5,[s,t]=>if dj (U s) (U t)=true then 1 else 0
 |20,[c]=>(ab c).length
 |21,[c,i,j]=>((ab c).getD i.toNat []).getD j.toNat 0
 |22,[c,a,b]=>rc (((ab c).drop a.toNat).take (b.toNat-a.toNat))
 |23,c::row=>rc (ab c++[row])
 |24,[c,e]=>rc (ab c++ab e)
 |25,c::i::row=>rc ((ab c).set i.toNat row)
 |26,n::row=>rc (cV n.toNat row)
 |27,[s]=>rc ((U s).map λb=>[(b.toNat:Int)])
 |34,[c,a,b]=>dP ((((ab c).drop a.toNat).take (b.toNat-a.toNat)).map λrow=>k8 (row.getD 0 0).toNat)
 |37,[x,y]=>x*2^y.toNat
 |38,[x,y]=>x% y
 |76,[x,y]=>x/y
 |33,[r,a,c]=>if a=c then r else r+a
 |29,[c,i,j,v]=>rc ((ab c).set i.toNat (((ab c).getD i.toNat []).set j.toNat v))
 |42,c::i::j::vs=>rc ((ab c).set i.toNat (((ab c).getD i.toNat []).take j.toNat++vs++((ab c).getD i.toNat []).drop (j.toNat+vs.length)))
 |43,[s,i]=>if k8 i.toNat∈U s then 1 else 0
 |61,c::a::k::row=>rc ((ab c).take a.toNat++cV k.toNat row++(ab c).drop (a.toNat+k.toNat))
 |62,[a,b]=>min a b
 |63,[c,a,s]=>rc ((ab c).take a.toNat++ab s++(ab c).drop (a.toNat+(ab s).length))
 |28,[c]=>dP ((ab c).map λrow=>k8 (row.getD 0 0).toNat)
 |_,_=>0
noncomputable def Dj:Nat->List Int->Prop
 |70,[l,c]=>c∣l
 |71,z::_=>(ab z).length<=1000000000
 |72,z::_=>64∣(ab z).length/\(ab z).length<=1000001000
 |73,z::_=>128∣(ab z).length/\(ab z).length<=1000001000
 |74,[i,l]=>0<=i/\i<l
 |78,[x,y,z,c]=>0<=x/\x<=y/\y<=z/\z<=c
 |79,[l,c]=>l<=c
 |75,l=>∀z∈l,(ab z).length<=100000000
 |77,[x]=>0<=x
 |80,[c,a,k]=>0<=a/\0<=k/\a+k<=(ab c).length
 |81,l=>(U (l.getD 5 0)).length<=1000000000
 |_,_=>False
def aa:Nat->List Int->Prop
 |1,[s,i]=>0<=i/\i<(U s).length
 |2,[s,a,b]=>0<=a/\a<=b/\b<=(U s).length
 |3,[s,t]=>(U s).length+(U t).length<=fQ
 |21,[c,i]=>0<=i/\i<(ab c).length
 |30,[i,n]=>0<=i/\i<n
 |31,[c,n]=>n=(ab c).length
 |32,[a,b,n]=>0<=a/\a<=b/\b<=n
 |22,[c,a,b]=>0<=a/\a<=b/\b<=(ab c).length
 |35,[c,a,b]=>(0<=a/\a<=b/\b<=(ab c).length)/\b-a<=140737488351232
 |36,[y]=>0<y
 |39,[x,l,h]=>l<=x/\x<=h
 |40,[a,b]=>0<=a->0<=b
 |41,[s]=>(U s).length<=4294967280
 |44,[w,s]=>U w=[]∨(U s).length<=4294967280
 |23,[c,k]=>(ab c).length+k<=1073741824
 |26,[n]=>0<=n/\n<=1073741824
 |48,r::_=>(ab r).length<=1099511627776
 |50,s::_=>(U s).length<=1073741824
 |49,[l,c]=>0<=l/\l<=c/\c<=1073741824
 |64,[p,q,r,l]=>0<=p/\p<=q/\q<=r/\r<=l/\0<l
 |65,[c,a,k]=>0<=a/\0<k/\a+k<=(ab c).length
 |66,r::_=>(ab r).length<=1000000
 |68,[l,c]=>l<=c∨l=0
 |67,[c,i,k]=>((ab c).getD i.toNat []).length=k.toNat
 |53,[c,l]=>c<0->l=0
 |52,[c,a,b]=>0<=a/\a<b/\b<=(ab c).length/\(ab c).length<=1073741824
 |51,[c,i,r]=>(0<=i/\i<=(ab c).length)/\(ab r).length=1/\(ab c).length+1<=1073741824
 |op,l=>Dj op l
end Go.bg
namespace Go.bg
abbrev Env:=Nat->Int
def cI (ρ:Env) (n:Nat) (z:Int):Env:=λi=>cond (aA i n) z (ρ i)
def bu (ρ:Env):Nat->List Int->Env
 |_,[]=>ρ
 |n,z::zs=>bu (cI ρ n z) (n+1) zs
def agree (n:Nat) (ρ ad:Env):Prop:=∀i,i<n->ad i=ρ i
theorem agree.refl (n:Nat) (ρ:Env):agree n ρ ρ:=λ_ _=>rfl
theorem agree.trans {n n':Nat} {ρ ad qS:Env} (h:agree n ρ ad) (h':agree n' ad qS) (hn:n<=n'):agree n ρ qS:=
 λi hi=>(h' i (by omega)).trans (h i hi)
theorem agree.mono {n n':Nat} {ρ ad:Env} (h:agree n' ρ ad) (hn:n<=n'):agree n ρ ad:=λi hi=>h i (by omega)
theorem iH (ρ:Env) (n:Nat) (z:Int):cI ρ n z n=z:=by simp[cI]
theorem QZ (ρ:Env) {n i:Nat} (z:Int) (h:i≠n):cI ρ n z i=ρ i:=by
 unfold cI
 cases hb:aA i n with
 |false=>rfl
 |true=>exact absurd (bk hb) h
theorem agree.cI (n:Nat) (ρ:Env) (z:Int):agree n ρ (cI ρ n z):=λi hi=>QZ ρ z (by omega)
theorem agree.bu:∀(zs:List Int) (n:Nat) (ρ:Env),agree n ρ (bu ρ n zs)
 |[],n,ρ=>agree.refl n ρ
 |z::zs,n,ρ=>(agree.cI n ρ z).trans (agree.bu zs (n+1) _) (by omega)
structure I where
 c:Int
 ts:List (Int×Nat)
def gq (ρ:Env):List (Int×Nat)->Int
 |[]=>0
 |(k,i)::r=>k*ρ i+gq ρ r
def I.den (ρ:Env) (l:I):Int:=gq ρ l.ts+l.c
def yv (k:Int) (i:Nat):List (Int×Nat)->List (Int×Nat)
 |[]=>[(k,i)]
 |(aP,j)::r=>cond (b7 i j) ((k,i)::(aP,j)::r) (cond (aA i j) (cond (k+aP==0) r ((k+aP,i)::r)) ((aP,j)::yv k i r))
def zN:List (Int×Nat)->List (Int×Nat)->List (Int×Nat)
 |[],l=>l
 |(k,i)::r,l=>yv k i (zN r l)
def wQ (m:Int):List (Int×Nat)->List (Int×Nat)
 |[]=>[]
 |(k,i)::r=>(m*k,i)::wQ m r
theorem Un (ρ:Env) (k:Int) (i:Nat):∀l,gq ρ (yv k i l)=k*ρ i+gq ρ l
 |[]=>rfl
 |(aP,j)::r=>by
  unfold yv
  cases h1:b7 i j with
  |true=>rfl
  |false=>
   cases h2:aA i j with
   |true=>
    have e:i=j:=bk h2
    subst e
    cases h3:(k+aP==0)with
    |true=>
     have h3:k+aP=0:=by simpa using h3
     simp only[cond_true,cond_false,gq]
     rw[<-Int.add_assoc,<-Int.add_mul,h3];simp
    |false=>simp only[cond_true,cond_false,gq];rw[Int.add_mul];omega
   |false=>simp only[cond_false,gq,Un ρ k i r];omega
theorem Ul (ρ:Env):∀l bp,gq ρ (zN l bp)=gq ρ l+gq ρ bp
 |[],bp=>by simp[zN,gq]
 |(k,i)::r,bp=>by simp only[zN,Un,gq,Ul ρ r bp];omega
theorem Uo (ρ:Env) (m:Int):∀l,gq ρ (wQ m l)=m*gq ρ l
 |[]=>by simp[wQ,gq]
 |(k,i)::r=>by simp only[wQ,gq,Uo ρ m r];rw[F1,Int.mul_assoc]
def oS (n:Nat) (l:List (Int×Nat)):Prop:=∀t∈l,t.2<n
theorem oS.mono {n n':Nat} {l} (h:oS n l) (hn:n<=n'):oS n' l:=λt ht=>u4 (h t ht) hn
theorem Y1 {n:Nat} {k:Int} {i:Nat} (hi:i<n):∀{l},oS n l->oS n (yv k i l)
 |[],_=>by intro t ht;simp[yv]at ht;subst ht;exact hi
 |(aP,j)::r,h=>by
  have hr:oS n r:=λt ht=>h t (cR _ ht)
  have hj:j<n:=h (aP,j) (by simp)
  have ih:=Y1 (k:=k) hi hr
  unfold yv
  intro t ht
  cases h1:b7 i j<;>cases h2:aA i j<;>cases h3:(k+aP==0)<;>simp only[h1,h2,h3,cond_true,cond_false,lR]at ht<;>
   first
   |(rcases ht with rfl|ht<;>first|exact hi|exact hj|(exact hr t ht)|(exact ih t ht)|(rcases ht with rfl|ht<;>first|exact hj|exact hr t ht))
   |exact hr t ht
theorem Y0 {n:Nat}:∀{l bp},oS n l->oS n bp->oS n (zN l bp)
 |[],_,_,h'=>h'
 |(k,i)::r,_,h,h'=>Y1 (k:=k) (i:=i) (h (k,i) (by simp)) (Y0 (l:=r) (λt ht=>h t (cR _ ht)) h')
theorem Y2 {n:Nat} {m:Int}:∀{l},oS n l->oS n (wQ m l)
 |[],_=>λt ht=>by simp[wQ]at ht
 |(k,i)::r,h=>by
  intro t ht
  simp only[wQ,lR]at ht
  rcases ht with rfl|ht
  ·exact h (k,i) (by simp)
  ·exact Y2 (λt ht=>h t (cR _ ht)) t ht
theorem Um {n:Nat} {ρ ad:Env} (h:agree n ρ ad):∀{l},oS n l->gq ad l=gq ρ l
 |[],_=>rfl
 |(k,i)::r,hs=>by
  simp only[gq,h i (hs (k,i) (by simp)),Um h (l:=r) (λt ht=>hs t (cR _ ht))]
namespace I
def const (c:Int):I:=⟨c,[]⟩
def var (n:Nat):I:=⟨0,[(1,n)]⟩
def add (a b:I):I:=⟨a.c+b.c,zN a.ts b.ts⟩
def smul (m:Int) (a:I):I:=cond (m==0) ⟨0,[]⟩ ⟨m*a.c,wQ m a.ts⟩
def sub (a b:I):I:=a.add (b.smul (-1))
def dp (a:I):Option Int:=match a.ts with|[]=>some a.c|_=>none
def aW (n:Nat) (a:I):Prop:=oS n a.ts
def zV:List (Int×Nat)->List (Int×Nat)->Bool
 |[],[]=>true
 |(k,i)::r,(aP,ys)::r'=>k==aP&&aA i ys&&zV r r'
 |_,_=>false
def beq (a b:I):Bool:=a.c==b.c&&zV a.ts b.ts
theorem TN:∀{a b},zV a b=true->a=b
 |[],[],_=>rfl
 |(k,i)::r,(aP,ys)::r',h=>by
  simp only[zV,aK,beq_iff_eq]at h
  obtain⟨⟨h1,h2⟩,h3⟩:=h
  rw[h1,bk h2,TN h3]
 |[],_::_,h=>by simp[zV]at h
 |_::_,[],h=>by simp[zV]at h
theorem beq_eq {a b:I} (h:beq a b=true):a=b:=by
 simp only[beq,aK,beq_iff_eq]at h
 cases a;cases b
 simp only at h
 rw[h.1,TN h.2]
theorem aM (ρ:Env) (c:Int):(const c).den ρ=c:=by simp[const,den,gq]
theorem cg (ρ:Env) (n:Nat):(var n).den ρ=ρ n:=by simp[var,den,gq]
theorem den_add (ρ:Env) (a b:I):(a.add b).den ρ=a.den ρ+b.den ρ:=by simp only[add,den,Ul];omega
theorem kh (ρ:Env) (m:Int) (a:I):(a.smul m).den ρ=m*a.den ρ:=by
 unfold smul
 cases h:(m==0)with
 |true=>have h:m=0:=by simpa using h
        subst h;simp[den,gq]
 |false=>simp only[cond_false,den,Uo,F1]
theorem ll (ρ:Env) (a b:I):(a.sub b).den ρ=a.den ρ-b.den ρ:=by simp only[sub,den_add,kh];omega
theorem gH {ρ:Env} {a:I} {c:Int} (h:a.dp=some c):a.den ρ=c:=by
 unfold dp at h
 cases ha:a.ts with
 |nil=>simp[ha]at h;simp[den,ha,gq,h]
 |cons x r=>simp[ha]at h
theorem cz (n:Nat) (c:Int):(const c).aW n:=λt ht=>by simp[const]at ht
theorem ez {n i:Nat} (h:i<n):(var i).aW n:=λt ht=>by simp[var]at ht;subst ht;exact h
theorem sZ {n:Nat} {a b:I} (ha:a.aW n) (hb:b.aW n):(a.add b).aW n:=Y0 ha hb
theorem uQ {n:Nat} {m:Int} {a:I} (ha:a.aW n):(a.smul m).aW n:=by
 unfold smul
 cases(m==0)with
 |true=>exactλt ht=>by simp at ht
 |false=>exact Y2 ha
theorem wP {n:Nat} {a b:I} (ha:a.aW n) (hb:b.aW n):(a.sub b).aW n:=sZ ha (uQ hb)
theorem aW.mono {n n':Nat} {a:I} (h:a.aW n) (hn:n<=n'):a.aW n':=oS.mono h hn
theorem bB {n:Nat} {ρ ad:Env} (h:agree n ρ ad) {a:I} (ha:a.aW n):a.den ad=a.den ρ:=by simp only[den,Um h ha]
end I
structure bj where
 l:I
 lo:Int
 hi:Int
def bj.ok (n:Nat) (ρ:Env) (x:bj):Prop:=x.l.aW n/\x.lo<=x.l.den ρ/\x.l.den ρ<=x.hi
theorem bj.ok.agree {n n':Nat} {ρ ad:Env} {x:bj} (h:x.ok n ρ) (ha:agree n ρ ad) (hn:n<=n'):x.ok n' ad:=
 ⟨h.1.mono hn,by rw[I.bB ha h.1];exact h.2.1,by rw[I.bB ha h.1];exact h.2.2⟩
def bj.const (c:Int):bj:=⟨.const c,c,c⟩
theorem bj.lX (n:Nat) (ρ:Env) (c:Int):(bj.const c).ok n ρ:=⟨I.cz n c,by simp[bj.const,I.aM],by simp[bj.const,I.aM]⟩
inductive aS where
 |lit (b:Bool)
 |eq (a b:I)
 |lt (a b:I)
 |le (a b:I)
 |not (a:aS)
 |and (a b:aS)
 |iff (a b:aS)
namespace aS
def den (ρ:Env):aS->Bool
 |lit b=>b
 |eq a b=>decide (a.den ρ=b.den ρ)
 |lt a b=>decide (a.den ρ<b.den ρ)
 |le a b=>decide (a.den ρ<=b.den ρ)
 |not a=> !a.den ρ
 |and a b=>a.den ρ&&b.den ρ
 |iff a b=>a.den ρ==b.den ρ
def aW (n:Nat):aS->Prop
 |lit _=>True
 |eq a b|lt a b|le a b=>a.aW n/\b.aW n
 |not a=>a.aW n
 |and a b=>a.aW n/\b.aW n
 |iff a b=>a.aW n/\b.aW n
theorem aW.mono {n n':Nat} (hn:n<=n'):∀{b:aS},b.aW n->b.aW n'
 |lit _,_=>trivial
 |eq _ _,h|lt _ _,h|le _ _,h=>⟨h.1.mono hn,h.2.mono hn⟩
 |not a,h=>aW.mono (b:=a) hn h
 |and a b,h=>⟨aW.mono (b:=a) hn h.1,aW.mono (b:=b) hn h.2⟩
 |iff a b,h=>⟨aW.mono (b:=a) hn h.1,aW.mono (b:=b) hn h.2⟩
theorem bB {n:Nat} {ρ ad:Env} (ha:agree n ρ ad):∀{b:aS},b.aW n->b.den ad=b.den ρ
 |lit _,_=>rfl
 |eq _ _,h|lt _ _,h|le _ _,h=>by simp only[den,I.bB ha h.1,I.bB ha h.2]
 |not a,h=>by simp only[den,bB (b:=a) ha h]
 |and a b,h=>by simp only[den,bB (b:=a) ha h.1,bB (b:=b) ha h.2]
 |iff a b,h=>by simp only[den,bB (b:=a) ha h.1,bB (b:=b) ha h.2]
def beq:aS->aS->Bool
 |lit a,lit b=>a==b
 |eq a b,eq c d|lt a b,lt c d|le a b,le c d=>I.beq a c&&I.beq b d
 |not a,not b=>beq a b
 |and a b,and c d|iff a b,iff c d=>beq a c&&beq b d
 |_,_=>false
theorem beq_eq:∀{a b:aS},beq a b=true->a=b
 |lit a,b,h=>by cases b<;>simp[beq]at h;rw[h]
 |eq a b,c,h=>by cases c<;>simp[beq]at h;rw[I.beq_eq h.1,I.beq_eq h.2]
 |lt a b,c,h=>by cases c<;>simp[beq]at h;rw[I.beq_eq h.1,I.beq_eq h.2]
 |le a b,c,h=>by cases c<;>simp[beq]at h;rw[I.beq_eq h.1,I.beq_eq h.2]
 |not a,c,h=>by cases c<;>simp[beq]at h;rw[beq_eq h]
 |and a b,c,h=>by cases c<;>simp[beq]at h;rw[beq_eq h.1,beq_eq h.2]
 |iff a b,c,h=>by cases c<;>simp[beq]at h;rw[beq_eq h.1,beq_eq h.2]
def mkNot:aS->aS
 |lit b=>lit (!b)
 |not a=>a
 |a=>not a
def mkAnd:aS->aS->aS
 |lit true,b=>b
 |lit false,_=>lit false
 |a,lit true=>a
 |a,lit false=>cond true (lit false) a
 |a,b=>and a b
def mkIff (a b:aS):aS:=
 match a with
 |lit true=>b
 |lit false=>mkNot b
 |_=>match b with
  |lit true=>a
  |lit false=>mkNot a
  |_=>cond (beq a b) (lit true) (iff a b)
theorem si (ρ:Env) (a:aS):(mkNot a).den ρ= !a.den ρ:=by cases a<;>simp[mkNot,den]
theorem s0 {n:Nat} {a:aS} (h:a.aW n):(mkNot a).aW n:=by cases a<;>exact h
theorem Hl (ρ:Env) (a b:aS):(mkAnd a b).den ρ=(a.den ρ&&b.den ρ):=by
 unfold mkAnd;split<;>simp[den]
theorem JD {n:Nat} {a b:aS} (ha:a.aW n) (hb:b.aW n):(mkAnd a b).aW n:=by
 unfold mkAnd;split<;>first|exact hb|exact ha|trivial|exact⟨ha,hb⟩
theorem L8 (ρ:Env) (a b:aS):(mkIff a b).den ρ=(a.den ρ==b.den ρ):=by
 unfold mkIff
 split
 ·simp[den]
 ·rw[si];simp[den]
 ·split
  ·simp[den]
  ·rw[si];simp[den]
  ·cases h:beq a b with
   |true=>have:=beq_eq h;subst this;simp[den]
   |false=>rfl
theorem Qk {n:Nat} {a b:aS} (ha:a.aW n) (hb:b.aW n):(mkIff a b).aW n:=by
 unfold mkIff
 split
 ·exact hb
 ·exact s0 hb
 ·split
  ·exact ha
  ·exact s0 ha
  ·cases beq a b with
   |true=>trivial
   |false=>exact⟨ha,hb⟩
def Ak (d:I) (f:Int->Bool) (e:aS):aS:=match d.dp with|some c=>lit (f c)|none=>e
def mkLt (a b:bj):aS:=cond (decide (a.hi<b.lo)) (lit true) (cond (decide (b.hi<=a.lo)) (lit false) (Ak (a.l.sub b.l) (λc=>decide (c<0)) (lt a.l b.l)))
def mkLe (a b:bj):aS:=cond (decide (a.hi<=b.lo)) (lit true) (cond (decide (b.hi<a.lo)) (lit false) (Ak (a.l.sub b.l) (λc=>decide (c<=0)) (le a.l b.l)))
def mkEq (a b:bj):aS:=cond (decide (a.hi<b.lo)) (lit false) (cond (decide (b.hi<a.lo)) (lit false) (cond (a.lo==a.hi&&b.lo==b.hi&&a.lo==b.lo) (lit true) (cond (I.beq a.l b.l) (lit true) (Ak (a.l.sub b.l) (λc=>decide (c=0)) (eq a.l b.l)))))
theorem L7 {n:Nat} {ρ:Env} {d:I} {f:Int->Bool} {e:aS} (h:e.den ρ=f (d.den ρ)) (hs:e.aW n):(Ak d f e).den ρ=e.den ρ/\(Ak d f e).aW n:=by
 unfold Ak
 split
 ·rename_i c hc
  exact⟨by rw[h,I.gH hc];rfl,trivial⟩
 ·exact⟨rfl,hs⟩
theorem Hm {n:Nat} {ρ:Env} {a b:bj} (ha:a.ok n ρ) (hb:b.ok n ρ):(mkLt a b).den ρ=decide (a.l.den ρ<b.l.den ρ)/\(mkLt a b).aW n:=by
 have h1:=ha.2;have h2:=hb.2
 unfold mkLt
 by_cases c1:a.hi<b.lo
 ·simp only[decide_eq_true c1,cond_true,den,aW,and_true];symm;simp;omega
 ·by_cases c2:b.hi<=a.lo
  ·simp only[decide_eq_false c1,decide_eq_true c2,cond_true,cond_false,den,aW,and_true];symm;simp;omega
  ·simp only[decide_eq_false c1,decide_eq_false c2,cond_false]
   have:=L7 (n:=n) (ρ:=ρ) (d:=a.l.sub b.l) (f:=λc=>decide (c<0)) (e:=lt a.l b.l) (by simp only[den,I.ll];congr 1;simp;omega) ⟨ha.1,hb.1⟩
   exact⟨this.1,this.2⟩
theorem Up {n:Nat} {ρ:Env} {a b:bj} (ha:a.ok n ρ) (hb:b.ok n ρ):(mkLe a b).den ρ=decide (a.l.den ρ<=b.l.den ρ)/\(mkLe a b).aW n:=by
 have h1:=ha.2;have h2:=hb.2
 unfold mkLe
 by_cases c1:a.hi<=b.lo
 ·simp only[decide_eq_true c1,cond_true,den,aW,and_true];symm;simp;omega
 ·by_cases c2:b.hi<a.lo
  ·simp only[decide_eq_false c1,decide_eq_true c2,cond_true,cond_false,den,aW,and_true];symm;simp;omega
  ·simp only[decide_eq_false c1,decide_eq_false c2,cond_false]
   have:=L7 (n:=n) (ρ:=ρ) (d:=a.l.sub b.l) (f:=λc=>decide (c<=0)) (e:=le a.l b.l) (by simp only[den,I.ll];congr 1;simp;omega) ⟨ha.1,hb.1⟩
   exact⟨this.1,this.2⟩
theorem qa {n:Nat} {ρ:Env} {a b:bj} (ha:a.ok n ρ) (hb:b.ok n ρ):(mkEq a b).den ρ=decide (a.l.den ρ=b.l.den ρ)/\(mkEq a b).aW n:=by
 have h1:=ha.2;have h2:=hb.2
 unfold mkEq
 by_cases c1:a.hi<b.lo
 ·simp only[decide_eq_true c1,cond_true,den,aW,and_true];symm;simp;omega
 ·by_cases c2:b.hi<a.lo
  ·simp only[decide_eq_false c1,decide_eq_true c2,cond_true,cond_false,den,aW,and_true];symm;simp;omega
  ·cases c3:(a.lo==a.hi&&b.lo==b.hi&&a.lo==b.lo)with
   |true=>
    simp only[aK,beq_iff_eq]at c3
    simp only[decide_eq_false c1,decide_eq_false c2,cond_false,cond_true,den,aW,and_true];symm;simp;omega
   |false=>
    cases c4:I.beq a.l b.l with
    |true=>simp only[decide_eq_false c1,decide_eq_false c2,cond_false,cond_true,den,aW,and_true,I.beq_eq c4];simp
    |false=>
     simp only[decide_eq_false c1,decide_eq_false c2,cond_false]
     have:=L7 (n:=n) (ρ:=ρ) (d:=a.l.sub b.l) (f:=λc=>decide (c=0)) (e:=eq a.l b.l) (by simp only[den,I.ll];congr 1;simp;omega) ⟨ha.1,hb.1⟩
     exact⟨this.1,this.2⟩
end aS
end Go.bg
namespace Go.bg
inductive A where
 |int (k:cS) (x:bj)
 |bool (b:aS)
 |ptr (b off:Nat)
 |lG (b off:Nat) (aL:bj)
 |gptr (g off:Nat)
 |An (g off:Nat) (aL:bj)
 |slc (b off len cap:Nat)
 |con (v:az)
 |str (l:I)
 |rows (sh:List aw) (off code cap:I) (kind:Nat)
 |sl (b aQ:Nat) (o ro len cap:I)
 |ep (b aQ:Nat) (o i:I) (j:Nat)
inductive W where
 |one (a:A)
 |agg (l:List A)
inductive V where
 |w (x:W)
 |fq (l:List W)
 |any
 |mT (b len lo:Nat)
 |nm (f:Nat) (gY:List A)
def cf (op:BinOp) (k:cS) (x y:Int):Int:=
 match op with
 | .and=>k.wrap (oZ k.bits x&&&oZ k.bits y).toNat
 | .or=>k.wrap (oZ k.bits x|||oZ k.bits y).toNat
 | .xor=>k.wrap (oZ k.bits x^^^oZ k.bits y).toNat
 | .andNot=>k.wrap (oZ k.bits x&&&~~~(oZ k.bits y)).toNat
 |_=>0
inductive T where
 |stuck
 |leaf (v:V)
 |div (n:Nat) (x:I) (d lo hi:Int) (r:T)
 |mul (n:Nat) (x y:I) (lo hi:Int) (r:T)
 |bit (n:Nat) (op:BinOp) (k:cS) (x y:I) (r:T)
 |shr (n:Nat) (x y:I) (lo hi:Int) (r:T)
 |pM (n:Nat) (cs:List I) (aL:I) (lo hi:Int) (r:T)
 |mE (b:aS) (t e:T)
 |call (id:Nat) (args:List I) (n:Nat) (bds:List (Int×Int)) (r:T)
 |loop (h8:Nat) (init:List I) (n:Nat) (bds:List (Int×Int)) (r:T)
 |again (h8:Nat) (vals:List I)
 |both (a b:T)
 |fn (n:Nat) (op:Nat) (args:List I) (lo hi:Int) (r:T)
 |mG (op:Nat) (args:List I) (r:T)
 |oW (n:Nat) (lo hi:Int) (r:T)
 |nat (n:Nat) (r:T)
 |pb (op:Nat) (args:List I) (r:T)
 |ind (n:Nat) (b:aS) (r:T)
def mB:List (Int×Int)->(List Int->Prop)->Prop
 |[],P=>P []
 |(l,h)::b,P=>∀r:Int,l<=r->r<=h->mB b (λrs=>P (r::rs))
def aO:List (Int×Int)->List Int->Prop
 |[],[]=>True
 |(l,h)::b,r::rs=>l<=r/\r<=h/\aO b rs
 |_,_=>False
theorem kG:∀{b:List (Int×Int)} {P:List Int->Prop} {rs:List Int},mB b P->aO b rs->P rs
 |[],_,[],h,_=>h
 |(l,u)::b,P,r::rs,h,hi=>kG (b:=b) (P:=λrs=>P (r::rs)) (h r hi.1 hi.2.1) hi.2.2
 |[],_,_::_,_,hi=>hi.elim
 |(_,_)::_,_,[],_,hi=>hi.elim
abbrev dw:=Nat->List Int->Prop
def dw.set (A:dw) (h8:Nat) (p:List Int->Prop):dw:=λi=>cond (aA i h8) p (A i)
def T.holds (S:Nat->List Int->List Int->Prop) (L:V->Env->Prop):T->dw->Env->Prop
 |stuck,_,_=>False
 |leaf v,_,ρ=>L v ρ
 |div n x d lo hi r,A,ρ=>∀q:Int,lo<=q->q<=hi->0<=x.den ρ-d*q->x.den ρ-d*q<d->r.holds S L A (cI ρ n q)
 |mul n x y lo hi r,A,ρ=>∀p:Int,lo<=p->p<=hi->p=x.den ρ*y.den ρ->r.holds S L A (cI ρ n p)
 |bit n op k x y r,A,ρ=>∀z:Int,0<=z->z<=k.max->z=cf op k (x.den ρ) (y.den ρ)->r.holds S L A (cI ρ n z)
 |shr n x y lo hi r,A,ρ=>∀z:Int,lo<=z->z<=hi->z=x.den ρ/2^(y.den ρ).toNat->r.holds S L A (cI ρ n z)
 |pM n cs aL lo hi r,A,ρ=>∀z:Int,lo<=z->z<=hi->z=(cs.map (·.den ρ)).getD (aL.den ρ).toNat 0->r.holds S L A (cI ρ n z)
 |mE b t e,A,ρ=>(b.den ρ=true->t.holds S L A ρ)/\(b.den ρ=false->e.holds S L A ρ)
 |call id args n bds r,A,ρ=>mB bds λrs=>S id (args.map (·.den ρ)) rs->r.holds S L A (bu ρ n rs)
 |loop h8 init n bds r,A,ρ=>∃(fx:List Int->Prop) (gV:List Int->Nat),fx (init.map (·.den ρ))/\
  mB bds λzs=>fx zs->r.holds S L (A.set h8 λvs=>fx vs/\gV vs<gV zs) (bu ρ n zs)
 |again h8 vals,A,ρ=>A h8 (vals.map (·.den ρ))
 |both a b,A,ρ=>a.holds S L A ρ/\b.holds S L A ρ
 |fn n op args lo hi r,A,ρ=>∀z:Int,lo<=z->z<=hi->z=aB op (args.map (·.den ρ))->r.holds S L A (cI ρ n z)
 |mG op args r,A,ρ=>aa op (args.map (·.den ρ))/\r.holds S L A ρ
 |oW n lo hi r,A,ρ=>∀z:Int,lo<=z->z<=hi->r.holds S L A (cI ρ n z)
 |nat n r,A,ρ=>∀z:Int,0<=z->r.holds S L A (cI ρ n z)
 |pb op args r,A,ρ=>aa op (args.map (·.den ρ))->r.holds S L A ρ
 |ind n b r,A,ρ=>∀z:Int,0<=z->z<=1->b.den ρ=decide (z=1)->r.holds S L A (cI ρ n z)
abbrev M (α:Type):=Nat->(α->Nat->T)->T
namespace M
variable {α β:Type}
def pure (a:α):M α:=λn k=>k a n
def bind (x:M α) (f:α->M β):M β:=λn k=>x n λa n'=>f a n' k
def fail:M α:=λ_ _=> .stuck
def aj (S:Nat->List Int->List Int->Prop) (L:V->Env->Prop) (x:M α) (n:Nat) (ρ:Env) (R:Env->Nat->α->Prop):Prop:=
 ∀A k,(x n k).holds S L A ρ->∃ad n' a,n<=n'/\agree n ρ ad/\R ad n' a/\(k a n').holds S L A ad
variable {S:Nat->List Int->List Int->Prop} {L:V->Env->Prop} {n:Nat} {ρ:Env}
theorem aj.pure {a:α} {R:Env->Nat->α->Prop} (h:R ρ n a):aj S L (M.pure a) n ρ R:=
 λ_ _ hk=>⟨ρ,n,a,a6 _,agree.refl _ _,h,hk⟩
theorem aj.fail {R:Env->Nat->α->Prop}:aj S L (M.fail:M α) n ρ R:=λ_ _ hk=>hk.elim
theorem aj.bind {x:M α} {f:α->M β} {R:Env->Nat->α->Prop} {R':Env->Nat->β->Prop} (hx:aj S L x n ρ R)
 (hf:∀ad n' a,n<=n'->agree n ρ ad->R ad n' a->aj S L (f a) n' ad R'):aj S L (M.bind x f) n ρ R':=by
 intro A k hk
 obtain⟨ad,n',a,hn,ha,hR,iC⟩:=hx A _ hk
 obtain⟨qS,By,b,sD,jd,pq,aiu⟩:=hf ad n' a hn ha hR A k iC
 exact⟨qS,By,b,hT hn sD,ha.trans jd hn,pq,aiu⟩
theorem aj.mono {x:M α} {R R':Env->Nat->α->Prop} (hx:aj S L x n ρ R) (h:∀ad n' a,n<=n'->agree n ρ ad->R ad n' a->R' ad n' a):aj S L x n ρ R':=by
 intro A k hk
 obtain⟨ad,n',a,hn,ha,hR,iC⟩:=hx A k hk
 exact⟨ad,n',a,hn,ha,h _ _ _ hn ha hR,iC⟩
end M
open M
section
variable {S:Nat->List Int->List Int->Prop} {L:V->Env->Prop} {n:Nat} {ρ:Env}
def xv:List I->Option (List Int)
 |[]=>some []
 |l::r=>match l.dp,xv r with|some c,some s=>some (c::s)|_,_=>none
theorem Ln {ρ:Env}:∀{l:List I} {cs:List Int},xv l=some cs->l.map (·.den ρ)=cs
 |[],cs,h=>by simp[xv]at h;subst h;rfl
 |l::r,cs,h=>by
  simp only[xv]at h
  cases h1:l.dp with
  |none=>simp[h1]at h
  |some c=>
   cases h2:xv r with
   |none=>simp[h1,h2]at h
   |some s=>
    simp only[h1,h2,aG]at h
    subst h
    simp only[cr,I.gH h1,Ln h2]
def ev (op:Nat) (args:List I) (lo hi:Int):M I:=λn k=>match bw op 5,xv args with
 |true,some cs=>k (.const (aB op cs)) n
 |_,_=> .fn n op args lo hi (k (.var n) (n+1))
def Hd:Nat->List Int->Bool
 |1,[s,i]=>decide (0<=i)&&decide (i<(U s).length)
 |2,[s,a,b]=>decide (0<=a)&&decide (a<=b)&&decide (b<=(U s).length)
 |3,[s,t]=>bw ((U s).length+(U t).length) 1000000
 |30,[i,n]=>decide (0<=i)&&decide (i<n)
 |32,[a,b,n]=>decide (0<=a)&&decide (a<=b)&&decide (b<=n)
 |39,[x,l,h]=>decide (l<=x)&&decide (x<=h)
 |_,_=>false
theorem adw {op:Nat} {cs:List Int} (h:Hd op cs=true):aa op cs:=by
 unfold Hd at h
 split at h
 ·simp only[aK,decide_eq_true_eq]at h;exact h
 ·simp only[aK,decide_eq_true_eq]at h;exact⟨h.1.1,h.1.2,h.2⟩
 ·have h:=eb h
  show _<=fQ
  unfold fQ;omega
 ·simp only[aK,decide_eq_true_eq]at h;exact h
 ·simp only[aK,decide_eq_true_eq]at h;exact⟨h.1.1,h.1.2,h.2⟩
 ·simp only[aK,decide_eq_true_eq]at h;exact h
 ·cases h
def eZ (op:Nat) (args:List I):M Unit:=λn k=>match xv args with
 |some cs=>cond (Hd op cs) (k () n) (.mG op args (k () n))
 |none=> .mG op args (k () n)
theorem fl {op:Nat} {args:List I} {lo hi:Int} (h1:lo<=aB op (args.map (·.den ρ))) (h2:aB op (args.map (·.den ρ))<=hi):
 aj S L (ev op args lo hi) n ρ λad n' l=>l.aW n'/\l.den ad=aB op (args.map (·.den ρ)):=by
 intro A k hk
 unfold ev at hk
 split at hk
 ·rename_i cs _ hcs
  exact⟨_,n,_,a6 _,agree.refl _ _,⟨I.cz _ _,by rw[I.aM,Ln hcs]⟩,hk⟩
 ·exact⟨_,n+1,_,nQ _,agree.cI _ _ _,⟨I.ez (r4 n),by simp[I.cg,iH]⟩,hk _ h1 h2 rfl⟩
theorem ga {op:Nat} {args:List I} {α:Type} {x:M α} {R:Env->Nat->α->Prop} (h:aa op (args.map (·.den ρ))->aj S L x n ρ R):aj S L (bind (eZ op args) λ_=>x) n ρ R:=by
 intro A k hk
 unfold M.bind eZ at hk
 split at hk
 ·rename_i cs hcs
  cases hb:Hd op cs with
  |true=>
   rw[hb]at hk
   exact h (by rw[Ln hcs];exact adw hb) A k hk
  |false=>
   rw[hb]at hk
   exact h hk.1 A k hk.2
 ·exact h hk.1 A k hk.2
def sk (x:bj) (d:Int):M bj:=λn k=>
 cond (d==1) (k x n) <| cond (x.lo/d==x.hi/d) (k (.const (x.lo/d)) n) (.div n x.l d (x.lo/d) (x.hi/d) (k ⟨.var n,x.lo/d,x.hi/d⟩ (n+1)))
theorem Dp {x:bj} {d:Int} (hd:0<d) (hx:x.ok n ρ):aj S L (sk x d) n ρ λad n' q=>q.ok n' ad/\q.l.den ad=x.l.den ρ/d/\(q.lo=x.lo/d/\q.hi=x.hi/d):=by
 intro A k hk
 have h1:=au7 hd hx.2.1
 have h2:=au7 hd hx.2.2
 unfold sk at hk
 cases MJ:(d==1)with
 |true=>
  have e:d=1:=by simpa using MJ
  subst e
  simp only[MJ,cond_true]at hk
  exact⟨ρ,n,x,a6 _,agree.refl _ _,⟨hx,by simp,by simp,by simp⟩,hk⟩
 |false=>
 simp only[MJ,cond_false]at hk
 cases hc:(x.lo/d==x.hi/d)with
 |true=>
  simp only[hc,cond_true]at hk
  have hc:x.lo/d=x.hi/d:=by simpa using hc
  exact⟨ρ,n,_,a6 _,agree.refl _ _,⟨bj.lX _ _ _,by simp only[bj.const,I.aM];omega,rfl,hc⟩,hk⟩
 |false=>
  simp only[hc,cond_false,T.holds]at hk
  have hm:=aaf (x.l.den ρ) (show d≠0 by omega)
  have tU:=aag (x.l.den ρ) hd
  have he:=aah (x.l.den ρ) d
  refine⟨_,n+1,_,nQ _,agree.cI _ _ _,⟨⟨I.ez (r4 n),?_,?_⟩,?_,rfl,rfl⟩,hk (x.l.den ρ/d) h1 h2 (by omega) (by omega)⟩<;>
   simp only[I.cg,iH]<;>omega
def Ps (x:bj) (d:Int):M bj:=
 bind (sk x d) λq=>pure ⟨x.l.sub (q.l.smul d),cond (q.lo==q.hi) (x.lo-d*q.lo) 0,cond (q.lo==q.hi) (x.hi-d*q.lo) (d-1)⟩
theorem XP {x:bj} {d:Int} (hd:0<d) (hx:x.ok n ρ):aj S L (Ps x d) n ρ λad n' q=>q.ok n' ad/\q.l.den ad=x.l.den ρ% d:=by
 refine(Dp hd hx).bind λad n' q hn ha ⟨hq,he,rn,axE⟩=>aj.pure ?_
 have jU:=hx.agree ha hn
 have hm:=aaf (x.l.den ρ) (show d≠0 by omega)
 have tU:=aag (x.l.den ρ) hd
 have ah1:=aah (x.l.den ρ) d
 have rb:(x.l.sub (q.l.smul d)).den ad=x.l.den ρ% d:=by
  rw[I.ll,I.kh,I.bB ha hx.1,he];omega
 refine⟨⟨I.wP jU.1 (I.uQ hq.1),?_,?_⟩,rb⟩
 ·cases hc:(q.lo==q.hi)with
  |true=>
   have hc:q.lo=q.hi:=by simpa using hc
   have:q.l.den ad=q.lo:=by have:=hq.2;omega
   simp only[cond_true,I.ll,I.kh,this];have:=jU.2.1;omega
  |false=>simp only[cond_false,rb];omega
 ·cases hc:(q.lo==q.hi)with
  |true=>
   have hc:q.lo=q.hi:=by simpa using hc
   have:q.l.den ad=q.lo:=by have:=hq.2;omega
   simp only[cond_true,I.ll,I.kh,this];have:=jU.2.2;omega
  |false=>simp only[cond_false,rb];omega
def two (k:cS):Int:=match k with| .i8| .u8=>256| .i16| .u16=>65536| .i32| .u32=>4294967296| .i64| .u64=>18446744073709551616
theorem s6 (k:cS):two k=(2:Int)^k.bits:=by cases k<;>rfl
def half (k:cS):Int:=cond k.signed (two k/2) 0
theorem J3 (k:cS) (x:Int):k.wrap x=(x+half k)% two k-half k:=by
 cases k<;>simp only[au8,F5,aai,half,two,cond_true,cond_false,Cv,Bool.false_and]<;>
  simp<;>(try split)<;>omega
def s8 (k:cS) (x:bj):M bj:=
 cond (decide (-half k<=x.lo)&&decide (x.hi<two k-half k)) (pure x)
  (bind (Ps ⟨x.l.add (.const (half k)),x.lo+half k,x.hi+half k⟩ (two k)) λr=>pure ⟨r.l.add (.const (-half k)),r.lo-half k,r.hi-half k⟩)
theorem wW {k:cS} {x:bj} (hx:x.ok n ρ):aj S L (s8 k x) n ρ λad n' q=>q.ok n' ad/\q.l.den ad=k.wrap (x.l.den ρ):=by
 have ht:0<two k:=by cases k<;>decide
 unfold s8
 cases hc:(decide (-half k<=x.lo)&&decide (x.hi<two k-half k))with
 |true=>
  simp only[aK,decide_eq_true_eq]at hc
  refine aj.pure ⟨hx,?_⟩
  have h1:=hx.2
  rw[J3,xa (by omega) (by omega)];omega
 |false=>
  refine(XP (x:=⟨x.l.add (.const (half k)),x.lo+half k,x.hi+half k⟩) ht ⟨I.sZ hx.1 (I.cz _ _),?_,?_⟩).bind λad n' r hn ha ⟨hr,he⟩=>aj.pure ?_
  ·rw[I.den_add,I.aM];have:=hx.2.1;simp only;omega
  ·rw[I.den_add,I.aM];have:=hx.2.2;simp only;omega
  ·have e:(r.l.add (.const (-half k))).den ad=k.wrap (x.l.den ρ):=by
    rw[I.den_add,I.aM,he,I.den_add,I.aM,J3];omega
   refine⟨⟨I.sZ hr.1 (I.cz _ _),?_,?_⟩,e⟩<;>simp only[I.den_add,I.aM]<;>have:=hr.2<;>omega
def mulM (x y:bj):M bj:=λn k=>
 match x.l.dp,y.l.dp with
 |some c,_=>cond (decide (0<=c)) (k ⟨y.l.smul c,c*y.lo,c*y.hi⟩ n) .stuck
 |none,some c=>cond (decide (0<=c)) (k ⟨x.l.smul c,c*x.lo,c*x.hi⟩ n) .stuck
 |none,none=>cond (decide (0<=x.lo)&&decide (0<=y.lo)) (.mul n x.l y.l (x.lo*y.lo) (x.hi*y.hi) (k ⟨.var n,x.lo*y.lo,x.hi*y.hi⟩ (n+1))) .stuck
theorem XQ {x y:bj} (hx:x.ok n ρ) (hy:y.ok n ρ):aj S L (mulM x y) n ρ λad n' q=>q.ok n' ad/\q.l.den ad=x.l.den ρ*y.l.den ρ:=by
 intro A k hk
 unfold mulM at hk
 cases h1:x.l.dp with
 |some c=>
  simp only[h1]at hk
  by_cases hc:0<=c
  ·simp only[decide_eq_true hc,cond_true]at hk
   refine⟨ρ,n,_,a6 _,agree.refl _ _,⟨⟨I.uQ hy.1,?_,?_⟩,?_⟩,hk⟩
   ·simp only[I.kh];exact zy hy.2.1 hc
   ·simp only[I.kh];exact zy hy.2.2 hc
   ·simp only[I.kh,I.gH h1]
  ·simp only[decide_eq_false hc,cond_false,T.holds]at hk
 |none=>
  cases h2:y.l.dp with
  |some c=>
   simp only[h1,h2]at hk
   by_cases hc:0<=c
   ·simp only[decide_eq_true hc,cond_true]at hk
    refine⟨ρ,n,_,a6 _,agree.refl _ _,⟨⟨I.uQ hx.1,?_,?_⟩,?_⟩,hk⟩
    ·simp only[I.kh];exact zy hx.2.1 hc
    ·simp only[I.kh];exact zy hx.2.2 hc
    ·simp only[I.kh,I.gH h2];exact tj _ _
   ·simp only[decide_eq_false hc,cond_false,T.holds]at hk
  |none=>
   simp only[h1,h2]at hk
   cases hc:(decide (0<=x.lo)&&decide (0<=y.lo))with
   |false=>simp only[hc,cond_false,T.holds]at hk
   |true=>
    simp only[hc,cond_true,T.holds]at hk
    simp only[aK,decide_eq_true_eq]at hc
    have a1:x.lo*y.lo<=x.l.den ρ*y.l.den ρ:=Km hx.2.1 hy.2.1 hc.2 (by have:=hx.2.1;omega)
    have a2:x.l.den ρ*y.l.den ρ<=x.hi*y.hi:=Km hx.2.2 hy.2.2 (by have:=hy.2.1;omega) (by have:=hx.2;omega)
    refine⟨_,n+1,_,nQ _,agree.cI _ _ _,⟨⟨I.ez (r4 n),?_,?_⟩,?_⟩,hk _ a1 a2 rfl⟩<;>simp only[I.cg,iH]<;>assumption
def zW (op:BinOp) (k:cS) (x y:bj):M bj:=λn c=>
 cond k.signed .stuck (.bit n op k x.l y.l (c ⟨.var n,0,k.max⟩ (n+1)))
theorem atz {k:cS} (hk:k.signed=false) (x:Int):0<=k.wrap x/\k.wrap x<=k.max:=by
 cases k<;>simp[F5]at hk<;>simp[au8,F5,aai,eX]<;>omega
theorem acN {k:cS} (hk:k.signed=false) (op:BinOp) (x y:Int):0<=cf op k x y/\cf op k x y<=k.max:=by
 unfold cf
 split
 iterate 4 exact atz hk _
 cases k<;>simp[F5]at hk<;>simp[eX,F5,aai]
theorem GZ {op:BinOp} {k:cS} {x y:bj}:aj S L (zW op k x y) n ρ λad n' q=>q.ok n' ad/\q.l.den ad=cf op k (x.l.den ρ) (y.l.den ρ):=by
 intro A c hk
 unfold zW at hk
 cases hs:k.signed with
 |true=>simp only[hs,cond_true,T.holds]at hk
 |false=>
  simp only[hs,cond_false,T.holds]at hk
  have hb:=acN hs op (x.l.den ρ) (y.l.den ρ)
  refine⟨_,n+1,_,nQ _,agree.cI _ _ _,⟨⟨I.ez (r4 n),?_,?_⟩,?_⟩,hk _ hb.1 hb.2 rfl⟩<;>simp only[I.cg,iH]<;>first|exact hb.1|exact hb.2
def IU (c:Int):Option (Int×Int):=
 match c with
 | .ofNat 0=>none
 | .ofNat c=>
  let b:=2^(lS c+1)
  let a:=b-c
  cond (aA (2^lS a) a) (some (a,b)) none
 |_=>none
theorem bv_and {w:Nat} (x y:Int):((oZ w x&&&oZ w y).toNat:Int)=(((x% 2^w).toNat&&&(y% 2^w).toNat:Nat):Int):=by
 rw[BitVec.toNat_and,Kw,Kw]
 congr
theorem acX {w:Nat} (x y:Int):((oZ w x|||oZ w y).toNat:Int)=(((x% 2^w).toNat|||(y% 2^w).toNat:Nat):Int):=by
 rw[BitVec.toNat_or,Kw,Kw]
 congr
theorem acm (x a b:Nat) (VP:a<=b):x&&&(2^b-2^a)=2^a*(x/2^a)-2^b*(x/2^b):=by
 have e1:2^b-2^a=2^a*(2^(b-a)-1):=by
  rw[Nat.mul_sub,<-Kx,CF];congr 2;omega
 have e2:x&&&(2^b-2^a)=2^a*(x/2^a% 2^(b-a)):=by
  rw[e1]
  apply Nat.eq_of_testBit_eq
  intro i
  rw[Nat.testBit_and,w7 (2^a) (2^(b-a)-1),w7 (2^a),au9,au9,Nat.testBit_two_pow_sub_one,Nat.testBit_mod_two_pow,Nat.testBit_div_two_pow]
  by_cases h:a<=i
  ·simp only[h,decide_true,Cv]
   rw[show i-a+a=i by omega,Bool.and_comm]
  ·simp[h]
 rw[e2]
 have bt:x/2^b=x/2^a/2^(b-a):=by
  rw[F6,<-Kx];congr 2;omega
 have eS:2^b=2^a*2^(b-a):=by rw[<-Kx];congr 1;omega
 have oL:=aak (x/2^a) (2^(b-a))
 rw[bt,eS,Nat.mul_assoc,<-Nat.mul_sub]
 congr 1
 omega
theorem al4 {c a b:Int} (h:IU c=some (a,b)):∃i j:Nat,i<=j/\a=2^i/\b=2^j/\c=b-a/\0<a/\0<b:=by
 unfold IU at h
 split at h
 ·cases h
 ·rename_i c hc
  have hc0:c≠0:=λe=>hc (by rw[e])
  cases hb:aA (2^lS (2^(lS c+1)-c)) (2^(lS c+1)-c)with
  |false=>simp[hb]at h
  |true=>
   simp only[hb,cond_true,aG,cj]at h
   obtain⟨rfl,rfl⟩:=h
   have e:=bk hb
   have hlt:c<2^(lS c+1):=ava
   have hp:0<2^lS (2^(lS c+1)-c):=CG _
   refine⟨lS (2^(lS c+1)-c),lS c+1,?_,?_,?_,?_,?_,?_⟩
   ·rcases qJ (lS c+1) (lS (2^(lS c+1)-c))with ae|ae
    ·have:=Nat.pow_lt_pow_right (a:=2) (by omega) ae
     omega
    ·exact ae
   ·rw[<-e];simp
   ·simp
   ·have:((2^(lS c+1)-c:Nat):Int)=((2^(lS c+1):Nat):Int)-(c:Int):=by omega
    simp only[Int.ofNat_eq_natCast]
    omega
   ·omega
   ·have:0<2^(lS c+1):=CG _
    omega
 ·cases h
def andM (x:bj) (a b:Int):M bj:=
 bind (sk x a) λp=>bind (sk x b) λq=>
  pure ⟨(p.l.smul a).sub (q.l.smul b),cond (q.lo==q.hi) (a*p.lo-b*q.lo) 0,cond (q.lo==q.hi) (a*p.hi-b*q.lo) (b-a)⟩
theorem ack {x:bj} {i j:Nat} (x9:i<=j) (hx:x.ok n ρ) (h0:0<=x.lo):aj S L (andM x (2^i) (2^j)) n ρ λad n' q=>q.ok n' ad/\q.l.den ad=((x.l.den ρ).toNat&&&(2^j-2^i):Nat):=by
 have hi:(0:Int)<2^i:=by have:=CG i;exact_mod_cast this
 have hj:(0:Int)<2^j:=by have:=CG j;exact_mod_cast this
 refine(Dp hi hx).bind λax n1 p e4 dF ⟨hp,ep,_,_⟩=>?_
 refine(Dp hj (hx.agree dF e4)).bind λbx ed q er dk ⟨hq,eq,_,_⟩=>aj.pure ?_
 rw[I.bB dF hx.1]at eq
 have vV:=hp.agree dk er
 have aef:p.l.den bx=x.l.den ρ/2^i:=by rw[I.bB dk hp.1,ep]
 obtain⟨X,bD⟩:=CH (show 0<=x.l.den ρ by have:=hx.2.1;omega)
 have e:((p.l.smul (2^i)).sub (q.l.smul (2^j))).den bx=((x.l.den ρ).toNat&&&(2^j-2^i):Nat):=by
  rw[I.ll,I.kh,I.kh,aef,eq,bD,k9,acm X i j x9]
  have h1:2^j*(X/2^j)<=2^i*(X/2^i):=by
   have bt:X/2^j=X/2^i/2^(j-i):=by rw[F6,<-Kx];congr 2;omega
   have eS:2^j=2^i*2^(j-i):=by rw[<-Kx];congr 1;omega
   rw[bt]
   conv=>lhs;rw[eS,Nat.mul_assoc]
   exact Nat.mul_le_mul_left _ (Nat.mul_div_le _ _)
  rw[aal h1]
  simp
 refine⟨⟨I.wP (I.uQ vV.1) (I.uQ hq.1),?_,?_⟩,e⟩
 ·cases hc:(q.lo==q.hi)with
  |true=>
   have hc:q.lo=q.hi:=by simpa using hc
   have h1:q.l.den bx=q.lo:=by have:=hq.2;omega
   simp only[cond_true,I.ll,I.kh,h1]
   have:=zy vV.2.1 (pY hi);omega
  |false=>simp only[cond_false,e];omega
 ·cases hc:(q.lo==q.hi)with
  |true=>
   have hc:q.lo=q.hi:=by simpa using hc
   have h1:q.l.den bx=q.lo:=by have:=hq.2;omega
   simp only[cond_true,I.ll,I.kh,h1]
   have:=zy vV.2.2 (pY hi);omega
  |false=>
   simp only[cond_false,e]
   have h2:(x.l.den ρ).toNat&&&(2^j-2^i)<=2^j-2^i:=Nat.and_le_right
   have h3:2^i<=2^j:=FZ (by omega) x9
   have h4:((2^j-2^i:Nat):Int)=2^j-2^i:=by rw[aal h3];simp
   omega
end
end Go.bg
namespace Go.bg
open M
def A.den (ρ:Env) (m:Nat->Nat):A->az
 | .int k x=> .int k (x.l.den ρ)
 | .bool b=> .bool (b.den ρ)
 | .ptr b off=> .pointer (some ⟨m b,off,none⟩)
 | .lG b off aL=> .pointer (some ⟨m b,off+(aL.l.den ρ).toNat,none⟩)
 | .gptr g off=> .pointer (some ⟨g,off,none⟩)
 | .An g off aL=> .pointer (some ⟨g,off+(aL.l.den ρ).toNat,none⟩)
 | .slc b off len cap=> .slice (some ⟨m b,off,none⟩) len cap
 | .con v=>v
 | .str l=> .string (bd (U (l.den ρ)))
 | .rows _ _ code _ _=> .int .u8 (code.den ρ)
 | .sl b aQ o ro len cap=>if cap.den ρ<0 then .slice none 0 0 else .slice (some ⟨m b,(o.den ρ).toNat+(ro.den ρ).toNat*aQ,none⟩) (len.den ρ).toNat (cap.den ρ).toNat
 | .ep b aQ o i j=> .pointer (some ⟨m b,(o.den ρ).toNat+(i.den ρ).toNat*aQ+j,none⟩)
def zk (o ro len cap:Int):Prop:=(0<=o/\0<=ro/\0<=len/\len<=9223372036854775807)/\(-1<=cap/\ro+cap<=9223372036854775807)/\(cap<0->len=0)/\(0<=cap->len<=cap)
def A.ok (n nb:Nat) (ρ:Env):A->Prop
 | .int _ x=>x.ok n ρ
 | .bool b=>b.aW n
 | .ptr b _=>b<nb
 | .lG b _ aL=>b<nb/\aL.ok n ρ/\0<=aL.lo
 | .gptr .. =>True
 | .An _ _ aL=>aL.ok n ρ/\0<=aL.lo
 | .slc b .. =>b<nb
 | .con v=>v.oneCell'=true
 | .str l=>l.aW n/\0<=l.den ρ/\l.den ρ<=ch
 | .rows _ off code cap _=>(off.aW n/\code.aW n/\cap.aW n)/\(0<=code.den ρ/\code.den ρ<=bZ)/\-1<=cap.den ρ/\cap.den ρ<=9223372036854775807
 | .sl b _ o ro len cap=>b<nb/\(o.aW n/\ro.aW n/\len.aW n/\cap.aW n)/\zk (o.den ρ) (ro.den ρ) (len.den ρ) (cap.den ρ)
 | .ep b _ o i _=>b<nb/\(o.aW n/\i.aW n)/\0<=o.den ρ/\0<=i.den ρ
theorem A.ok.ext {n n' nb jh:Nat} {ρ ad:Env} {a:A} (h:a.ok n nb ρ) (ha:agree n ρ ad) (hn:n<=n') (hb:nb<=jh):a.ok n' jh ad:=by
 cases a<;>simp only[A.ok]at h⊢
 ·exact h.agree ha hn
 ·exact aS.aW.mono hn h
 ·omega
 ·exact⟨by omega,h.2.1.agree ha hn,h.2.2⟩
 ·exact⟨h.1.agree ha hn,h.2⟩
 ·omega
 ·exact h
 ·exact⟨h.1.mono hn,by rw[I.bB ha h.1];exact h.2⟩
 ·obtain⟨⟨h1,h2,h3⟩,h4⟩:=h
  exact⟨⟨h1.mono hn,h2.mono hn,h3.mono hn⟩,by rw[I.bB ha h2,I.bB ha h3];exact h4⟩
 ·obtain⟨h1,⟨h2,h3,h4,h5⟩,h6⟩:=h
  exact⟨by omega,⟨h2.mono hn,h3.mono hn,h4.mono hn,h5.mono hn⟩,by rw[I.bB ha h2,I.bB ha h3,I.bB ha h4,I.bB ha h5];exact h6⟩
 ·obtain⟨h1,⟨h2,h3⟩,h4⟩:=h
  exact⟨by omega,⟨h2.mono hn,h3.mono hn⟩,by rw[I.bB ha h2,I.bB ha h3];exact h4⟩
theorem A.jy {n nb:Nat} {ρ ad:Env} {m m':Nat->Nat} {a:A} (h:a.ok n nb ρ) (ha:agree n ρ ad) (hm:∀b,b<nb->m' b=m b):a.den ad m'=a.den ρ m:=by
 cases a<;>simp only[A.ok]at h<;>simp only[A.den]
 ·rw[I.bB ha h.1]
 ·rw[aS.bB ha h]
 ·rw[hm _ h]
 ·rw[hm _ h.1,I.bB ha h.2.1.1]
 ·rw[I.bB ha h.1.1]
 ·rw[hm _ h]
 ·rw[I.bB ha h.1]
 ·rw[I.bB ha h.1.2.1]
 ·obtain⟨h1,⟨h2,h3,h4,h5⟩,h6⟩:=h
  rw[hm _ h1,I.bB ha h2,I.bB ha h3,I.bB ha h4,I.bB ha h5]
 ·rw[hm _ h.1,I.bB ha h.2.1.1,I.bB ha h.2.1.2]
theorem A.I2 {n nb:Nat} {ρ:Env} {m:Nat->Nat} {a:A} (h:a.ok n nb ρ):(a.den ρ m).oneCell'=true:=by
 cases a<;>first|rfl|exact h|(simp only[A.den];split<;>rfl)
def W.den (ρ:Env) (m:Nat->Nat):W->az
 | .one a=>a.den ρ m
 | .agg l=> .agg (l.map (A.den ρ m)).toArray
def W.ok (n nb:Nat) (ρ:Env):W->Prop
 | .one a=>a.ok n nb ρ
 | .agg l=>∀a∈l,a.ok n nb ρ
theorem W.ok.ext {n n' nb jh:Nat} {ρ ad:Env} {x:W} (h:x.ok n nb ρ) (ha:agree n ρ ad) (hn:n<=n') (hb:nb<=jh):x.ok n' jh ad:=by
 cases x with
 |one a=>exact A.ok.ext h ha hn hb
 |agg l=>exactλa h'=>(h a h').ext ha hn hb
theorem rE {n nb:Nat} {ρ ad:Env} {m m':Nat->Nat} {l:List A} (h:∀a∈l,a.ok n nb ρ) (ha:agree n ρ ad) (hm:∀b,b<nb->m' b=m b):l.map (A.den ad m')=l.map (A.den ρ m):=
 gG λa h'=>A.jy (h a h') ha hm
theorem W.jy {n nb:Nat} {ρ ad:Env} {m m':Nat->Nat} {x:W} (h:x.ok n nb ρ) (ha:agree n ρ ad) (hm:∀b,b<nb->m' b=m b):x.den ad m'=x.den ρ m:=by
 cases x with
 |one a=>exact A.jy h ha hm
 |agg l=>simp only[W.den,rE h ha hm]
def V.rel (ρ:Env) (m:Nat->Nat):V->az->Prop
 | .w x,v=>v=x.den ρ m
 | .fq l,v=>v= .tuple (l.map (W.den ρ m)).toArray
 | .any,_=>True
 | .mT b len lo,v=>∃c:Nat,lo<=c/\v= .slice (some ⟨m b,0,none⟩) len c
 | .nm f gY,v=>v= .func (.func f) #[] (gY.map (A.den ρ m)).toArray
def V.ok (n nb:Nat) (ρ:Env):V->Prop
 | .w x=>x.ok n nb ρ
 | .fq l=>∀x∈l,x.ok n nb ρ
 | .any=>True
 | .mT b _ _=>b<nb
 | .nm _ gY=>∀a∈gY,A.ok n nb ρ a
theorem V.ok.ext {n n' nb jh:Nat} {ρ ad:Env} {x:V} (h:x.ok n nb ρ) (ha:agree n ρ ad) (hn:n<=n') (hb:nb<=jh):x.ok n' jh ad:=by
 cases x with
 |w x=>exact W.ok.ext h ha hn hb
 |fq l=>exactλa h'=>(h a h').ext ha hn hb
 |any=>trivial
 |mT b len lo=>exact u4 h hb
 |nm f gY=>exactλa h'=>(h a h').ext ha hn hb
theorem V.rel.ext {n nb:Nat} {ρ ad:Env} {m m':Nat->Nat} {x:V} {v:az} (hr:x.rel ρ m v) (h:x.ok n nb ρ) (ha:agree n ρ ad) (hm:∀b,b<nb->m' b=m b):x.rel ad m' v:=by
 cases x with
 |w x=>simp only[V.rel]at hr⊢;rw[W.jy h ha hm];exact hr
 |fq l=>simp only[V.rel]at hr⊢;rw[hr];congr 2;exact(gG λa h'=>W.jy (h a h') ha hm).symm
 |any=>trivial
 |mT b len lo=>obtain⟨c,h1,h2⟩:=hr;exact⟨c,h1,by rw[hm b h];exact h2⟩
 |nm f gY=>simp only[V.rel]at hr⊢;rw[hr];congr 2;exact(gG λa h'=>A.jy (h a h') ha hm).symm
section
variable {S:Nat->List Int->List Int->Prop} {L:V->Env->Prop} {n:Nat} {ρ:Env}
def GO (s:Int):List (Int×Nat)->Bool
 |[]=>true
 |(k,_)::r=>k% s==0&&GO s r
theorem TC {s:Int} (ρ:Env):∀{l},GO s l=true->gq ρ l% s=0
 |[],_=>by simp[gq]
 |(k,i)::r,h=>by
  simp only[GO,aK,beq_iff_eq]at h
  have h1:=TC ρ h.2
  obtain⟨c,hc⟩:=RG h.1
  obtain⟨d,hd⟩:=RG h1
  simp only[gq,hc,hd,Int.mul_assoc]
  rw[<-F1];exact avb _ _
def I.tB (s:Int) (l:I):Bool:=l.c% s==0&&GO s l.ts
theorem I.Lm {s:Int} (ρ:Env) {l:I} (h:l.tB s=true):l.den ρ% s=0:=by
 simp only[tB,aK,beq_iff_eq]at h
 have h1:=TC ρ h.2
 obtain⟨c,hc⟩:=RG h.1
 obtain⟨d,hd⟩:=RG h1
 simp only[den,hc,hd]
 rw[<-F1];exact avb _ _
def vm (h:Int):Nat:=2^(lS h.toNat+1)
theorem Tz {x h:Int} (hx:x<=h) (h0:0<=x):x<(vm h:Int):=by
 have:h.toNat<2^(lS h.toNat+1):=ava
 unfold vm;omega
theorem dA {c:Bool} {α:Type} {x:M α} {R:Env->Nat->α->Prop} (h:c=true->aj S L x n ρ R):aj S L (cond c x fail) n ρ R:=by
 cases c with
 |true=>exact h rfl
 |false=>exact aj.fail
def kn (k:cS):Int:=two k-half k
theorem IN (k:cS):kn k<=two k:=by cases k<;>decide
theorem alq (k:cS):∃i:Nat,kn k=2^i/\i<=k.bits:=by cases k<;>first|exact⟨7,by decide,by decide⟩|exact⟨8,by decide,by decide⟩|exact⟨15,by decide,by decide⟩|exact⟨16,by decide,by decide⟩|exact⟨31,by decide,by decide⟩|exact⟨32,by decide,by decide⟩|exact⟨63,by decide,by decide⟩|exact⟨64,by decide,by decide⟩
def GN (x:I):List Nat->Nat
 |[]=>1
 |i::r=>cond (x.tB (2^i)) (2^i) (GN x r)
def orM (k:cS) (x y:bj):M bj:=
 cond (!(decide (0<=x.lo)&&decide (0<=y.lo)&&decide (x.hi<kn k)&&decide (y.hi<kn k))) (cond (decide (0<=x.lo)&&decide (x.hi<kn k)) (
  let s:=GN x.l [24,18,16,12,8,6,4]
  cond (x.l.tB s&&decide (y.hi<kn k)&&decide (x.hi+s<kn k)) (bind (eZ 30 [y.l,.const s]) λ_=>pure ⟨x.l.add y.l,x.lo,x.hi+s⟩) fail) fail) <|
 cond (x.l.tB (vm y.hi)) (pure ⟨x.l.add y.l,x.lo+y.lo,cond (decide (x.hi+y.hi<two k)) (x.hi+y.hi) (two k-1)⟩) <|
 cond (y.l.tB (vm x.hi)) (pure ⟨x.l.add y.l,x.lo+y.lo,cond (decide (x.hi+y.hi<two k)) (x.hi+y.hi) (two k-1)⟩) (zW .or k x y)
theorem Fg {X Y s:Nat} (hs:∃i,s=2^i) (hx:X% s=0) (hy:Y<s):X|||Y=X+Y:=by
 obtain⟨i,rfl⟩:=hs
 have e:=aak X (2^i)
 rw[hx,ld]at e
 rw[<-e,<-Nat.two_pow_add_eq_or_of_lt hy]
theorem Q8 {k:cS} {z:Int} (h0:0<=z) (h1:z<kn k):k.wrap z=z:=by
 rw[J3]
 have ae:0<=half k:=by cases k<;>decide
 unfold kn at h1
 rw[xa (by omega) (by omega)]
 omega
theorem GY {k:cS} {x y:Int} (hx:0<=x) (hy:0<=y) (hx2:x<kn k) (OG:y<kn k):cf .or k x y=((x.toNat|||y.toNat:Nat):Int):=by
 have hl:=IN k
 have OD:x<2^k.bits:=by rw[<-s6];omega
 have OH:y<2^k.bits:=by rw[<-s6];omega
 obtain⟨i,hi,_⟩:=alq k
 obtain⟨X,rfl⟩:=CH hx
 obtain⟨Y,rfl⟩:=CH hy
 have bD:X<2^i:=by rw[hi]at hx2;exact_mod_cast hx2
 have hY:Y<2^i:=by rw[hi]at OG;exact_mod_cast OG
 have h1:X|||Y<2^i:=avc bD hY
 unfold cf
 simp only
 rw[acX,xa hx OD,xa hy OH]
 simp only[k9]
 exact Q8 (by omega) (by rw[hi];exact_mod_cast h1)
theorem Ly {k:cS} {x y:Int} (hx:0<=x) (hy:0<=y) (hx2:x<kn k) (OG:y<two k):cf .and k x y=((x.toNat&&&y.toNat:Nat):Int):=by
 have hl:=IN k
 have OD:x<2^k.bits:=by rw[<-s6];omega
 have OH:y<2^k.bits:=by rw[<-s6];omega
 obtain⟨X,rfl⟩:=CH hx
 obtain⟨Y,rfl⟩:=CH hy
 have h1:X&&&Y<=X:=Nat.and_le_left
 unfold cf
 simp only
 rw[bv_and,xa hx OD,xa hy OH]
 simp only[k9]
 exact Q8 (by omega) (by omega)
theorem toNat_mod {x:Int} {s:Nat} (hx:0<=x) (h:x% (s:Int)=0):x.toNat% s=0:=by
 obtain⟨X,rfl⟩:=CH hx
 simp only[k9]
 exact_mod_cast h
theorem anT {k:cS} {x y:bj} (hx:x.ok n ρ) (hy:y.ok n ρ):aj S L (orM k x y) n ρ λad n' q=>q.ok n' ad/\q.l.den ad=cf .or k (x.l.den ρ) (y.l.den ρ):=by
 unfold orM
 cases hc:(!(decide (0<=x.lo)&&decide (0<=y.lo)&&decide (x.hi<kn k)&&decide (y.hi<kn k)))with
 |true=>
  simp only[cond_true]
  refine dA λh1=>dA λh2=>ga λh3=>aj.pure ?_
  simp only[aK,decide_eq_true_eq]at h1 h2
  simp only[cr,dY,aa,I.aM]at h3
  obtain⟨⟨h4,h6⟩,h5⟩:=h2
  have zZ:=hx.2;have T0:=hy.2
  generalize hs:GN x.l [24,18,16,12,8,6,4]=s at*
  have hm:=I.Lm ρ h4
  have ai6:∃i,s=2^i:=by
   rw[<-hs]
   generalize [24,18,16,12,8,6,4]=l
   induction l with
   |nil=>exact⟨0,rfl⟩
   |cons i r ih=>
    unfold GN
    cases x.l.tB (2^i)with
    |true=>exact⟨i,rfl⟩
    |false=>exact ih
  have e:x.l.den ρ+y.l.den ρ=cf .or k (x.l.den ρ) (y.l.den ρ):=by
   rw[GY (by omega) h3.1 (by omega) (by omega),Fg ai6 (toNat_mod (by omega) hm) (by omega)];omega
  exact⟨⟨I.sZ hx.1 hy.1,by simp only[I.den_add];omega,by simp only[I.den_add];omega⟩,by rw[I.den_add];exact e⟩
 |false=>
  simp only[Cy,aK,decide_eq_true_eq]at hc
  obtain⟨⟨⟨h1,h2⟩,vG⟩,axz⟩:=hc
  have N0:=IN k
  have h3:x.hi<two k:=by omega
  have h4:y.hi<two k:=by omega
  have zZ:=hx.2;have T0:=hy.2
  have hb:=GY (k:=k) (x:=x.l.den ρ) (y:=y.l.den ρ) (by omega) (by omega) (by omega) (by omega)
  have hlt:cf .or k (x.l.den ρ) (y.l.den ρ)<two k:=by
   have e1:x.l.den ρ<2^k.bits:=by rw[<-s6];omega
   have e2:y.l.den ρ<2^k.bits:=by rw[<-s6];omega
   have h1:(x.l.den ρ).toNat|||(y.l.den ρ).toNat<2^k.bits:=avc (by
    have:(x.l.den ρ).toNat=x.l.den ρ:=by omega
    exact_mod_cast (show((x.l.den ρ).toNat:Int)<2^k.bits by omega)) (by exact_mod_cast (show((y.l.den ρ).toNat:Int)<2^k.bits by omega))
   rw[hb,s6]
   exact_mod_cast h1
  have ok:∀q:Int,q=cf .or k (x.l.den ρ) (y.l.den ρ)->x.l.den ρ+y.l.den ρ=q->(bj.mk (x.l.add y.l) (x.lo+y.lo) (cond (decide (x.hi+y.hi<two k)) (x.hi+y.hi) (two k-1))).ok n ρ:=λq sE oP=>⟨I.sZ hx.1 hy.1,by simp only[I.den_add];omega,by
   simp only[I.den_add]
   cases hd:decide (x.hi+y.hi<two k)with
   |true=>simp only[cond_true];omega
   |false=>simp only[cond_false];omega⟩
  simp only[cond_false]
  cases h5:x.l.tB (vm y.hi)with
  |true=>
   have hm:=I.Lm ρ h5
   have hl:=Tz T0.2 (by omega)
   have hs:x.l.den ρ+y.l.den ρ=cf .or k (x.l.den ρ) (y.l.den ρ):=by
    rw[hb,Fg (s:=vm y.hi) ⟨_,rfl⟩ (toNat_mod (by omega) hm) (by omega)];omega
   exact aj.pure ⟨ok _ rfl hs,by rw[I.den_add];exact hs⟩
  |false=>
   simp only[cond_false]
   cases h6:y.l.tB (vm x.hi)with
   |true=>
    have hm:=I.Lm ρ h6
    have hl:=Tz zZ.2 (by omega)
    have hs:x.l.den ρ+y.l.den ρ=cf .or k (x.l.den ρ) (y.l.den ρ):=by
     rw[hb,Nat.or_comm,Fg (s:=vm x.hi) ⟨_,rfl⟩ (toNat_mod (by omega) hm) (by omega)];omega
    exact aj.pure ⟨ok _ rfl hs,by rw[I.den_add];exact hs⟩
   |false=>exact GZ
def GR (k:cS) (x:bj) (c:Int):M bj:=
 match IU c with
 |some (a,b)=>cond (!(decide (0<=x.lo)&&decide (x.hi<kn k)&&decide (c<two k)&&decide (0<=c))) fail (andM x a b)
 |none=>cond (c==0&&decide (0<=x.lo)&&decide (x.hi<kn k)) (pure (.const 0)) fail
theorem TI {k:cS} {x:bj} {c:Int} (hx:x.ok n ρ):aj S L (GR k x c) n ρ λad n' q=>q.ok n' ad/\q.l.den ad=cf .and k (x.l.den ρ) c:=by
 unfold GR
 have zZ:=hx.2
 cases hm:IU c with
 |some p=>
  obtain⟨a,b⟩:=p
  simp only
  cases hc:(!(decide (0<=x.lo)&&decide (x.hi<kn k)&&decide (c<two k)&&decide (0<=c)))with
  |true=>exact aj.fail
  |false=>
   simp only[Cy,aK,decide_eq_true_eq]at hc
   obtain⟨⟨⟨h1,h2⟩,h3⟩,h4⟩:=hc
   obtain⟨i,j,x9,rfl,rfl,HU,_,_⟩:=al4 hm
   refine(ack x9 hx h1).mono λad n' q _ _ ⟨ho,he⟩=>⟨ho,?_⟩
   rw[he,Ly (by omega) h4 (by omega) h3]
   congr 2
   have h3:2^i<=2^j:=FZ (by omega) x9
   have h5:((2^j-2^i:Nat):Int)=2^j-2^i:=by rw[aal h3];simp
   omega
 |none=>
  simp only
  cases hc:(c==0&&decide (0<=x.lo)&&decide (x.hi<kn k))with
  |false=>exact aj.fail
  |true=>
   simp only[aK,beq_iff_eq,decide_eq_true_eq]at hc
   obtain⟨⟨rfl,h1⟩,h2⟩:=hc
   refine aj.pure ⟨bj.lX _ _ _,?_⟩
   rw[Ly (by omega) (cn _) (by omega) (by cases k<;>decide)]
   simp[bj.const,I.aM]
theorem acM (k:cS) (x y:Int):cf .and k x y=cf .and k y x:=by simp only[cf,BitVec.and_comm]
def Lq (k:cS) (x y:bj):M bj:=
 match y.l.dp,x.l.dp with
 |some c,_=>GR k x c
 |none,some c=>GR k y c
 |none,none=>zW .and k x y
theorem acj {k:cS} {x y:bj} (hx:x.ok n ρ) (hy:y.ok n ρ):aj S L (Lq k x y) n ρ λad n' q=>q.ok n' ad/\q.l.den ad=cf .and k (x.l.den ρ) (y.l.den ρ):=by
 unfold Lq
 cases h1:y.l.dp with
 |some c=>simp only[I.gH h1];exact TI hx
 |none=>
  cases h2:x.l.dp with
  |some c=>simp only[I.gH h2];rw[acM];exact TI hy
  |none=>exact GZ
def Qt (x y:bj):M bj:=λn k=> .shr n x.l y.l 0 x.hi (k ⟨.var n,0,x.hi⟩ (n+1))
theorem aqm {x y:bj} (hx:x.ok n ρ) (h0:0<=x.lo):aj S L (Qt x y) n ρ λad n' q=>q.ok n' ad/\q.l.den ad=x.l.den ρ/2^(y.l.den ρ).toNat:=by
 intro A k hk
 simp only[Qt,T.holds]at hk
 have hp:(0:Int)<2^(y.l.den ρ).toNat:=by have:=CG (y.l.den ρ).toNat;exact_mod_cast this
 have b0:0<=x.l.den ρ:=by have:=hx.2;omega
 have a1:0<=x.l.den ρ/2^(y.l.den ρ).toNat:=aam b0 (pY hp)
 have a2:x.l.den ρ/2^(y.l.den ρ).toNat<=x.hi:=Int.le_trans (avd _ b0) hx.2.2
 exact⟨_,n+1,_,nQ _,agree.cI _ _ _,⟨⟨I.ez (r4 n),by simp only[I.cg,iH];exact a1,by simp only[I.cg,iH];exact a2⟩,by simp only[I.cg,iH]⟩,hk _ a1 a2 rfl⟩
def isInt (k:cS) (x:M bj):M A:=bind x λr=>pure (.int k r)
def wI (x:bj):M bj:=cond (decide (0<=x.lo)) (pure x) (bind (eZ 77 [x.l]) λ_=>pure ⟨x.l,0,x.hi⟩)
def Pt (x y:bj):M bj:=match x.l.dp,y.l.dp with
 |none,none=>bind (wI x) λx=>bind (wI y) λy=>mulM x y
 |_,_=>mulM x y
def Lx (op:BinOp) (k:cS) (x:bj) (aP:cS) (y:bj):M A:=
 match op with
 | .shl=>match y.l.dp with
  |some c=>cond (decide (0<=c)) (let s:Int:=2^min c.toNat k.bits;isInt k (s8 k ⟨x.l.smul s,x.lo*s,x.hi*s⟩)) fail
  |none=>cond (decide (0<=x.lo)&&decide (0<=y.lo)&&decide (y.hi<=62)&&decide (x.hi*2^y.hi.toNat<kn k)) (isInt k (bind (ev 37 [x.l,y.l] 0 (x.hi*2^y.hi.toNat)) λl=>pure ⟨l,0,x.hi*2^y.hi.toNat⟩)) fail
 | .shr=>match y.l.dp with
  |some c=>cond (decide (0<=c)) (isInt k (sk x (2^min c.toNat k.bits))) fail
  |none=>cond (decide (0<=x.lo)&&decide (0<=y.lo)&&decide (y.hi<=(k.bits:Int))) (isInt k (Qt x y)) fail
 | .add=>cond (decide (k=aP)) (isInt k (s8 k ⟨x.l.add y.l,x.lo+y.lo,x.hi+y.hi⟩)) fail
 | .sub=>cond (decide (k=aP)) (isInt k (s8 k ⟨x.l.sub y.l,x.lo-y.hi,x.hi-y.lo⟩)) fail
 | .mul=>cond (decide (k=aP)) (isInt k (bind (Pt x y) (s8 k))) fail
 | .quo=>match y.l.dp with
  |some c=>cond (decide (k=aP)&&decide (0<c)) (bind (wI x) λx=>isInt k (bind (sk x c) (s8 k))) fail
  |none=>cond (decide (k=aP)) (bind (wI x) λx=>bind (eZ 36 [y.l]) λ_=>isInt k (bind (bind (ev 76 [x.l,y.l] 0 x.hi) λl=>pure ⟨l,0,x.hi⟩) (s8 k))) fail
 | .rem=>match y.l.dp with
  |some c=>cond (decide (k=aP)&&decide (0<c)) (bind (wI x) λx=>isInt k (Ps x c)) fail
  |none=>cond (decide (k=aP)) (bind (wI x) λx=>bind (eZ 36 [y.l]) λ_=>isInt k (bind (ev 38 [x.l,y.l] 0 (cond (decide (y.hi-1<=x.hi)) (y.hi-1) x.hi)) λl=>pure ⟨l,0,cond (decide (y.hi-1<=x.hi)) (y.hi-1) x.hi⟩)) fail
 | .and=>cond (decide (k=aP)) (isInt k (Lq k x y)) fail
 | .or=>cond (decide (k=aP)) (isInt k (orM k x y)) fail
 | .xor=>cond (decide (k=aP)) (isInt k (zW .xor k x y)) fail
 | .andNot=>cond (decide (k=aP)) (isInt k (zW .andNot k x y)) fail
 | .eql=>cond (decide (k=aP)) (pure (.bool (.mkEq x y))) fail
 | .neq=>cond (decide (k=aP)) (pure (.bool (.mkNot (.mkEq x y)))) fail
 | .lss=>cond (decide (k=aP)) (pure (.bool (.mkLt x y))) fail
 | .leq=>cond (decide (k=aP)) (pure (.bool (.mkLe x y))) fail
 | .gtr=>cond (decide (k=aP)) (pure (.bool (.mkLt y x))) fail
 | .geq=>cond (decide (k=aP)) (pure (.bool (.mkLe y x))) fail
theorem oe {k:cS} {x:M bj} {R:Env->Nat->A->Prop} {v:Int} (h:aj S L x n ρ λad n' q=>q.ok n' ad/\q.l.den ad=v)
 (hR:∀ad n' (q:bj),n<=n'->agree n ρ ad->q.ok n' ad->q.l.den ad=v->R ad n' (.int k q)):aj S L (isInt k x) n ρ R:=
 h.bind λad n' q hn ha ⟨ho,he⟩=>aj.pure (hR ad n' q hn ha ho he)
theorem BJ {x:bj} (hx:x.ok n ρ):aj S L (wI x) n ρ λad n' q=>q.ok n' ad/\q.l=x.l/\q.hi=x.hi/\0<=q.lo/\x.l.den ad=x.l.den ρ:=by
 unfold wI
 cases h:decide (0<=x.lo)with
 |true=>exact aj.pure ⟨hx,rfl,rfl,of_decide_eq_true h,rfl⟩
 |false=>
  refine ga λhk=>aj.pure ⟨⟨hx.1,?_,hx.2.2⟩,rfl,rfl,cn _,rfl⟩
  simpa [aa,Dj]using hk
theorem amk {x y:bj} (hx:x.ok n ρ) (hy:y.ok n ρ):aj S L (Pt x y) n ρ λad n' q=>q.ok n' ad/\q.l.den ad=x.l.den ρ*y.l.den ρ:=by
 unfold Pt
 split
 ·refine(BJ hx).bind λax n1 fF e4 dF ⟨jU,ex,_,_,ph⟩=>(BJ (hy.agree dF e4)).bind λbx ed jm er dk ⟨OF,aej,_,_,aek⟩=>(XQ (jU.agree dk er) OF).mono λfI mQ q _ _ ⟨h1,h2⟩=>⟨h1,?_⟩
  rw[h2,aej,aek,I.bB dF hy.1,I.bB dk jU.1,ex,ph]
 ·exact XQ hx hy
theorem acL {nb:Nat} {m:Nat->Nat} (P:bm) {op:BinOp} {k aP:cS} {x y:bj} (t:aN) (hx:x.ok n ρ) (hy:y.ok n ρ):
 aj S L (Lx op k x aP y) n ρ λad n' a=>a.ok n' nb ad/\∀w,(binOp op t (.int k (x.l.den ρ)) (.int aP (y.l.den ρ))).run P w= .ok (a.den ad m) w:=by
 have bq:∀s:Nat,(0:Int)<2^s:=λs=>by have:=CG s;exact_mod_cast this
 cases op<;>simp only[Lx]
 case shl=>
  cases hc:y.l.dp with
  |none=>
   refine dA λh0=>?_
   simp only[aK,decide_eq_true_eq]at h0
   obtain⟨⟨⟨h1,h2⟩,h3⟩,h4⟩:=h0
   have yp:=hx.2;have vZ:=hy.2
   have hp:=bq (y.l.den ρ).toNat
   have e1:(0:Int)<=x.l.den ρ*2^(y.l.den ρ).toNat:=Z5 (by omega) (pY hp)
   have e2:x.l.den ρ*2^(y.l.den ρ).toNat<=x.hi*2^y.hi.toNat:=Km yp.2 (by
    have:=FZ (n:=2) (by decide) (show(y.l.den ρ).toNat<=y.hi.toNat by omega)
    exact_mod_cast this) (pY hp) (by omega)
   have hf:aB 37 ([x.l,y.l].map (·.den ρ))=x.l.den ρ*2^(y.l.den ρ).toNat:=rfl
   refine oe (v:=x.l.den ρ*2^(y.l.den ρ).toNat) ((fl (by rw[hf];exact e1) (by rw[hf];exact e2)).bind λax n1 l _ _ ⟨g1,g2⟩=>aj.pure ⟨⟨g1,by simp only;rw[g2,hf];exact e1,by simp only;rw[g2,hf];exact e2⟩,by simp only;rw[g2,hf]⟩) λad n' q _ _ ho he=>⟨ho,λw=>?_⟩
   simp only[A.den,he,binOp,Op.shift]
   have ahL:(y.l.den ρ).toNat<=k.bits∨x.l.den ρ=0:=by
    rcases Nat.le_total (y.l.den ρ).toNat k.bits with h|h
    ·exact .inl h
    ·refine .inr ?_
     have h5:x.l.den ρ*2^(y.l.den ρ).toNat<kn k:=by omega
     have h6:=IN k
     rw[s6]at h6
     have h7:(2:Int)^k.bits<=2^(y.l.den ρ).toNat:=by
      have:=FZ (n:=2) (by decide) h
      exact_mod_cast this
     rcases iX 0 (x.l.den ρ)with cq|cq
     ·have:(1:Int)*2^(y.l.den ρ).toNat<=x.l.den ρ*2^(y.l.den ρ).toNat:=Int.mul_le_mul_of_nonneg_right (by omega) (pY hp)
      omega
     ·omega
   rw[if_neg (by omega)]
   rcases ahL with h|h
   ·rw[show min (y.l.den ρ).toNat k.bits=(y.l.den ρ).toNat by omega]
    simp[Q8 e1 (show x.l.den ρ*2^(y.l.den ρ).toNat<kn k by omega)]
   ·have hw:k.wrap 0=0:=by cases k<;>decide
    simp[h,hw]
  |some c=>
   refine dA λh0=>?_
   simp only[decide_eq_true_eq]at h0
   have hp:=bq (min c.toNat k.bits)
   refine oe (wW (x:=⟨x.l.smul (2^min c.toNat k.bits),x.lo*2^min c.toNat k.bits,x.hi*2^min c.toNat k.bits⟩) ⟨I.uQ hx.1,?_,?_⟩) λad n' q _ _ ho he=>⟨ho,λw=>?_⟩
   ·simp only[I.kh];rw[tj];exact zy hx.2.1 (pY hp)
   ·simp only[I.kh];rw[tj x.hi];exact zy hx.2.2 (pY hp)
   ·simp only[A.den,he,I.kh,I.gH hc,binOp,Op.shift]
    rw[if_neg (by omega)]
    simp[tj]
 case shr=>
  cases hc:y.l.dp with
  |some c=>
   refine dA λh0=>?_
   simp only[decide_eq_true_eq]at h0
   have hp:=bq (min c.toNat k.bits)
   refine oe ((Dp hp hx).mono λ_ _ q _ _ h=>⟨h.1,h.2.1⟩) λad n' q _ _ ho he=>⟨ho,λw=>?_⟩
   simp only[A.den,he,I.gH hc,binOp,Op.shift]
   rw[if_neg (by omega)]
   simp[ave _ (pY hp)]
  |none=>
   refine dA λh0=>?_
   simp only[aK,decide_eq_true_eq]at h0
   refine oe (aqm hx h0.1.1) λad n' q _ _ ho he=>⟨ho,λw=>?_⟩
   have vZ:=hy.2
   simp only[A.den,he,binOp,Op.shift]
   rw[if_neg (by omega),show min (y.l.den ρ).toNat k.bits=(y.l.den ρ).toNat by omega]
   simp[ave _ (pY (bq _))]
 case add=>
  refine dA λh0=>?_
  simp only[decide_eq_true_eq]at h0;subst h0
  have yp:=hx.2;have vZ:=hy.2
  refine oe (wW (x:=⟨x.l.add y.l,x.lo+y.lo,x.hi+y.hi⟩) ⟨I.sZ hx.1 hy.1,by simp only[I.den_add];omega,by simp only[I.den_add];omega⟩) λad n' q _ _ ho he=>⟨ho,λw=>?_⟩
  simp[A.den,he,I.den_add,binOp,Op.intArith]
 case sub=>
  refine dA λh0=>?_
  simp only[decide_eq_true_eq]at h0;subst h0
  have yp:=hx.2;have vZ:=hy.2
  refine oe (wW (x:=⟨x.l.sub y.l,x.lo-y.hi,x.hi-y.lo⟩) ⟨I.wP hx.1 hy.1,by simp only[I.ll];omega,by simp only[I.ll];omega⟩) λad n' q _ _ ho he=>⟨ho,λw=>?_⟩
  simp[A.den,he,I.ll,binOp,Op.intArith]
 case mul=>
  refine dA λh0=>?_
  simp only[decide_eq_true_eq]at h0;subst h0
  refine oe (v:=k.wrap (x.l.den ρ*y.l.den ρ)) ((amk hx hy).bind λax n1 p _ _ ⟨hp,ep⟩=>by rw[<-ep];exact wW hp) λad n' q _ _ ho he=>⟨ho,λw=>?_⟩
  simp[A.den,he,binOp,Op.intArith]
 case quo=>
  cases hc:y.l.dp with
  |none=>
   refine dA λh0=>(BJ hx).bind λbN n0 fF mL ha0 ⟨jU,ex,Mk,rn,ph⟩=>ga λhk=>?_
   have h0:=of_decide_eq_true h0
   subst h0
   simp only[cr,dY,aa]at hk
   have ER:=I.bB ha0 hy.1
   have yp:=jU.2
   have e1:=aam (show 0<=fF.l.den bN by omega) (pY hk)
   have bt:fF.l.den bN/y.l.den bN<=fF.l.den bN:=by
    have h5:=avd (y.l.den bN) (show 0<=fF.l.den bN by omega)
    exact h5
   have eS:fF.l.den bN/y.l.den bN<=fF.hi:=by omega
   have hf:aB 76 ([fF.l,y.l].map (·.den bN))=fF.l.den bN/y.l.den bN:=rfl
   refine oe (v:=k.wrap (fF.l.den bN/y.l.den bN)) (((fl (by rw[hf];exact e1) (by rw[hf];exact eS)).bind λax n1 l _ _ ⟨g1,g2⟩=>aj.pure (R:=λad n' (q:bj)=>q.ok n' ad/\q.l.den ad=fF.l.den bN/y.l.den bN) ⟨⟨g1,by simp only;rw[g2,hf];exact e1,by simp only;rw[g2,hf];exact eS⟩,by simp only;rw[g2,hf]⟩).bind λax n1 p _ _ ⟨hp,ep⟩=>by rw[<-ep];exact wW hp) λad n' q _ _ ho he=>⟨ho,λw=>?_⟩
   simp only[A.den,he,binOp,Op.intDiv]
   have ajJ:0<y.l.den ρ:=ER▸hk
   have hx0:0<=x.l.den ρ:=by rw[<-ph,<-ex];omega
   rw[ER,ex,ph,if_neg (by simp),if_neg (by omega),avf hx0]
   simp
  |some c=>
   refine dA λh0=>(BJ hx).bind λbN n0 fF mL ha0 ⟨jU,ex,Mk,rn,ph⟩=>?_
   simp only[aK,decide_eq_true_eq]at h0
   obtain⟨h0,h1⟩:=h0
   subst h0
   have yp:=jU.2
   refine oe (v:=k.wrap (fF.l.den bN/c)) ((Dp h1 jU).bind λax n1 p _ _ ⟨hp,ep,_⟩=>by rw[<-ep];exact wW hp) λad n' q _ _ ho he=>⟨ho,λw=>?_⟩
   have hx0:0<=x.l.den ρ:=by rw[<-ph,<-ex];omega
   simp only[A.den,he,I.gH hc,binOp,Op.intDiv]
   rw[ex,ph,if_neg (by simp),if_neg (by omega),avf hx0]
   simp
 case rem=>
  cases hc:y.l.dp with
  |none=>
   refine dA λh0=>(BJ hx).bind λbN n0 fF mL ha0 ⟨jU,ex,Mk,rn,ph⟩=>ga λhk=>?_
   have h0:=of_decide_eq_true h0
   subst h0
   simp only[cr,dY,aa]at hk
   have ER:=I.bB ha0 hy.1
   have yp:=jU.2;have vZ:=(hy.agree ha0 mL).2
   have e1:=aaf (fF.l.den bN) (show y.l.den bN≠0 by omega)
   have e2:=aag (fF.l.den bN) hk
   have bt:fF.l.den bN% y.l.den bN<=fF.l.den bN:=by
    have h5:=aah (fF.l.den bN) (y.l.den bN)
    have h6:=Z5 (pY hk) (aam (show 0<=fF.l.den bN by omega) (pY hk))
    omega
   have hf:aB 38 ([fF.l,y.l].map (·.den bN))=fF.l.den bN% y.l.den bN:=rfl
   have eS:fF.l.den bN% y.l.den bN<=cond (decide (y.hi-1<=fF.hi)) (y.hi-1) fF.hi:=by
    cases decide (y.hi-1<=fF.hi)with
    |true=>simp only[cond_true];omega
    |false=>simp only[cond_false];omega
   refine oe (v:=fF.l.den bN% y.l.den bN) ((fl (by rw[hf];exact e1) (by rw[hf];exact eS)).bind λax n1 l _ _ ⟨g1,g2⟩=>aj.pure ⟨⟨g1,by simp only;rw[g2,hf];exact e1,by simp only;rw[g2,hf];exact eS⟩,by simp only;rw[g2,hf]⟩) λad n' q _ _ ho he=>⟨ho,λw=>?_⟩
   simp only[A.den,he,binOp,Op.intDiv]
   have ajJ:0<y.l.den ρ:=ER▸hk
   have hx0:0<=x.l.den ρ:=by rw[<-ph,<-ex];omega
   rw[ER,ex,ph,if_neg (by simp),if_neg (by omega),avg hx0]
   simp
  |some c=>
   refine dA λh0=>(BJ hx).bind λbN n0 fF mL ha0 ⟨jU,ex,Mk,rn,ph⟩=>?_
   simp only[aK,decide_eq_true_eq]at h0
   obtain⟨h0,h1⟩:=h0
   subst h0
   have yp:=jU.2
   refine oe (XP h1 jU) λad n' q _ _ ho he=>⟨ho,λw=>?_⟩
   have hx0:0<=x.l.den ρ:=by rw[<-ph,<-ex];omega
   simp only[A.den,he,I.gH hc,binOp,Op.intDiv]
   rw[ex,ph,if_neg (by simp),if_neg (by omega),avg hx0]
   simp
 case and=>
  refine dA λh0=>?_
  simp only[decide_eq_true_eq]at h0;subst h0
  refine oe (acj hx hy) λad n' q _ _ ho he=>⟨ho,λw=>?_⟩
  simp[A.den,he,binOp,Kz,cf]
 case or=>
  refine dA λh0=>?_
  simp only[decide_eq_true_eq]at h0;subst h0
  refine oe (anT hx hy) λad n' q _ _ ho he=>⟨ho,λw=>?_⟩
  simp[A.den,he,binOp,Kz,cf]
 case xor=>
  refine dA λh0=>?_
  simp only[decide_eq_true_eq]at h0;subst h0
  refine oe GZ λad n' q _ _ ho he=>⟨ho,λw=>?_⟩
  simp[A.den,he,binOp,Kz,cf]
 case andNot=>
  refine dA λh0=>?_
  simp only[decide_eq_true_eq]at h0;subst h0
  refine oe GZ λad n' q _ _ ho he=>⟨ho,λw=>?_⟩
  simp[A.den,he,binOp,Kz,cf]
 all_goals
  refine dA λh0=>?_
  simp only[decide_eq_true_eq]at h0;subst h0
  have e1:=aS.qa hx hy
  have e2:=aS.Hm hx hy
  have bt:=aS.Up hx hy
  have eS:=aS.Hm hy hx
  have oL:=aS.Up hy hx
  refine aj.pure ⟨?_,λw=>?_⟩
  ·first|exact e1.2|exact aS.s0 e1.2|exact e2.2|exact bt.2|exact eS.2|exact oL.2
  ·simp[A.den,aS.si,e1.1,e2.1,bt.1,eS.1,oL.1,binOp,Op.intCmp]
   try rfl
end
end Go.bg
namespace Go.bg
open M
abbrev ar:=List A×(aN×Bool)
abbrev dO:=List (Nat×List (cS×Int))
structure dm where
 b:ai
 r:ai
 ex:Nat->Prop
 ro:Nat->Prop
 ds:List Deferred
def bJ:List A->Bool
 |[.rows _ _ _ _ _]=>false
 |_=>true
noncomputable def aX (ρ:Env):List A->Nat
 |[.rows _ _ _ cap k]=>if cap.den ρ<0 then 0 else k
 |_=>2
def bS:List aw->List Int->Prop
 |[],[]=>True
 |c::sh,z::r=>(c.en.1<=z/\z<=c.en.2)/\bS sh r
 |_,_=>False
def cN:List aw->List Int->List az
 |c::sh,z::r=>c.val z::cN sh r
 |_,_=>[]
def aU (sh:List aw) (rows:List (List Int)):List az:=rows.flatMap (cN sh)
def kc (cells:Array az) (off:Nat) (sh:List aw) (rows:List (List Int)):Prop:=
 (∀row∈rows,bS sh row)/\∃pre post,cells.toList=pre++aU sh rows++post/\pre.length=off
theorem bS.len:∀{sh:List aw} {row:List Int},bS sh row->row.length=sh.length
 |[],[],_=>rfl
 |_::_,_::_,h=>by simp[bS.len h.2]
 |[],_::_,h=>h.elim
 |_::_,[],h=>h.elim
theorem bS.get:∀{sh:List aw} {row:List Int} {j:Nat} {c:aw},bS sh row->sh[j]?=some c->∃z,row[j]?=some z/\c.en.1<=z/\z<=c.en.2/\(cN sh row)[j]?=some (c.val z)
 |c'::sh,z::r,0,c,h,hc=>by
  simp only[qO,aG]at hc
  subst hc
  exact⟨z,rfl,h.1.1,h.1.2,rfl⟩
 |c'::sh,z::r,j+1,c,h,hc=>bS.get (sh:=sh) (row:=r) (j:=j) h.2 (by simpa using hc)
 |[],_,_,_,_,hc=>by simp at hc
 |_::_,[],_,_,h,_=>h.elim
theorem zf:∀{sh:List aw} {row:List Int},bS sh row->(cN sh row).length=sh.length
 |[],[],_=>rfl
 |_::_,_::_,h=>by simp[cN,zf h.2]
 |[],_::_,h=>h.elim
 |_::_,[],h=>h.elim
theorem jz {sh:List aw}:∀{rows:List (List Int)},(∀row∈rows,bS sh row)->(aU sh rows).length=rows.length*sh.length
 |[],_=>by simp[aU]
 |r::rs,h=>by
  have ih:=jz (rows:=rs) λrow hr=>h row (cR _ hr)
  have h1:=zf (h r (by simp))
  simp only[aU,o0,dQ,dv]at ih⊢
  rw[ih,h1,r5];omega
theorem MB {sh:List aw}:∀{rows:List (List Int)} {i j:Nat} {row:List Int} {v:az},(∀row∈rows,bS sh row)->rows[i]?=some row->(cN sh row)[j]?=some v->(aU sh rows)[i*sh.length+j]?=some v
 |r::rs,0,j,row,v,h,hi,hj=>by
  simp only[qO,aG]at hi
  subst hi
  have hlt:=(List.getElem?_eq_some_iff.1 hj).1
  simp only[aU,o0,Nat.zero_mul,oE]
  rw[rZ hlt];exact hj
 |r::rs,i+1,j,row,v,h,hi,hj=>by
  have ih:=MB (rows:=rs) (i:=i) (λrow hr=>h row (cR _ hr)) (by simpa using hi) hj
  have h1:=zf (h r (by simp))
  simp only[aU,o0]at ih⊢
  rw[zu (by rw[h1,r5];omega),h1,r5]
  rw[show i*sh.length+sh.length+j-sh.length=i*sh.length+j by omega];exact ih
 |[],i,_,_,_,_,hi,_=>by simp at hi
theorem oN (sh:List aw) (a b:List (List Int)):aU sh (a++b)=aU sh a++aU sh b:=by simp[aU]
def tt (kind:Nat) (fz:Nat×Nat) (n:Nat):Prop:=(kind=2/\fz=(0,0))∨(kind≠2/\fz=(n,n+1))
theorem tt.two {fz:Nat×Nat} {n:Nat} (h:tt 2 fz n):fz=(0,0):=by
 rcases h with h|h
 ·exact h.2
 ·exact absurd rfl h.1
theorem tt.E7 {n:Nat}:tt 2 (0,0) n:= .inl ⟨rfl,rfl⟩
def o6 (w0:dm) (ρ:Env) (g:Nat) (sh:List aw) (off code cap:I) (kind:Nat) (t:aN) (w:ai):Prop:=
 kind≠0->(cap.den ρ<0->ab (code.den ρ)=[])/\(0<=cap.den ρ->(w0.ex g∨w0.ro g∨w0.r.heap.size<=g)/\∃cells t' fz,w.heap[g]?=some (.cells cells t' fz)/\(0<=off.den ρ/\kc cells (off.den ρ).toNat sh (ab (code.den ρ)))/\
  (2<=kind->t'=t/\off.den ρ=0/\tt kind fz cells.size/\cells.size=(cap.den ρ).toNat*sh.length/\w0.b.heap.size<=g/\(w0.ex g∨w0.r.heap.size<=g)))
structure Mem (w0:dm) (ρ:Env) (m:Nat->Nat) (bl:List ar) (w:ai):Prop where
 ext:w0.b.Extends w
 gg:w.os=w0.r.os
 iF:w.tape=w0.r.tape
 gI:w.output=w0.r.output
 eI:w0.r.heap.size<=w.heap.size
 fM:∀i:Nat,i<w0.r.heap.size->¬w0.ex i->w.heap[i]?=w0.r.heap[i]?
 et:∀(i:Nat) (cs:List A) (t:aN×Bool),bl[i]?=some (cs,t)->bJ cs=true->w0.b.heap.size<=m i/\(w0.ex (m i)∨w0.r.heap.size<=m i)/\∃r:List az,(t.2=false->r=[])/\w.heap[m i]?=some (.cells (cs.map (A.den ρ m)++r).toArray t.1 (0,0))
 rws:∀(i:Nat) (sh:List aw) (off code cap:I) (kind:Nat) (t:aN×Bool),bl[i]?=some ([.rows sh off code cap kind],t)->o6 w0 ρ (m i) sh off code cap kind t.1 w
 inj:∀(i j:Nat) (p q:ar),bl[i]?=some p->bl[j]?=some q->m i=m j->i=j∨(aX ρ p.1<=1/\aX ρ q.1<=1)∨aX ρ p.1=0∨aX ρ q.1=0
theorem Mem.lt {w0:dm} {ρ:Env} {m:Nat->Nat} {bl:List ar} {w:ai} (h:Mem w0 ρ m bl w) {i:Nat} {p:ar} (hi:bl[i]?=some p) (hk:aX ρ p.1≠0):m i<w.heap.size:=by
 obtain⟨cs,t⟩:=p
 by_cases ho:bJ cs=true
 ·obtain⟨_,_,r,_,h2⟩:=h.et i cs t hi ho
  exact(Array.getElem?_eq_some_iff.1 h2).1
 ·unfold bJ at ho
  split at ho
  ·rename_i sh off code cap k
   simp only[aX]at hk
   split at hk
   ·exact absurd rfl hk
   ·rename_i cE
    obtain⟨_,cells,t',fz,h2,_⟩:=(h.rws i _ _ _ _ _ t hi hk).2 (by omega)
    exact(Array.getElem?_eq_some_iff.1 h2).1
  ·exact absurd rfl ho
theorem iQ {ρ:Env} {cs:List A} (h:bJ cs=true):aX ρ cs=2:=by
 unfold bJ at h
 unfold aX
 split<;>simp_all
def cp (n nb:Nat) (ρ:Env) (bl:List ar):Prop:=∀p∈bl,∀a∈p.1,A.ok n nb ρ a
def eK (gl:dO) (w0:dm):Prop:=∀g cs,(g,cs)∈gl->g<w0.b.heap.size/\∃t vC,w0.b.heap[g]?=some (.cells (cs.map λp=>Value.int p.1 p.2).toArray t vC)
theorem cp.ext {n n' nb jh:Nat} {ρ ad:Env} {bl:List ar} (h:cp n nb ρ bl) (ha:agree n ρ ad) (hn:n<=n') (hb:nb<=jh):cp n' jh ad bl:=
 λp hp a h'=>(h p hp a h').ext ha hn hb
theorem o6.lJ {w0:dm} {n nb:Nat} {ρ ad:Env} {g:Nat} {sh:List aw} {off code cap:I} {kind:Nat} {t:aN} {w:ai} (h:o6 w0 ρ g sh off code cap kind t w) (aZ:(A.rows sh off code cap kind).ok n nb ρ) (ha:agree n ρ ad):o6 w0 ad g sh off code cap kind t w:=by
 unfold o6 at*
 rw[I.bB ha aZ.1.1,I.bB ha aZ.1.2.1,I.bB ha aZ.1.2.2]
 exact h
theorem pE {n nb:Nat} {ρ ad:Env} {cs:List A} (aZ:∀a∈cs,A.ok n nb ρ a) (ha:agree n ρ ad):aX ad cs=aX ρ cs:=by
 unfold aX
 split
 ·rename_i sh off code cap k
  have h1:A.ok n nb ρ (.rows sh off code cap k):=aZ _ (by simp)
  rw[I.bB ha h1.1.2.2]
 ·rfl
theorem agree.sym {n:Nat} {ρ ad:Env} (h:agree n ρ ad):agree n ad ρ:=λi hi=>(h i hi).symm
theorem Mem.lJ {w0:dm} {n:Nat} {ρ ad:Env} {m:Nat->Nat} {bl:List ar} {w:ai} (h:Mem w0 ρ m bl w) (hb:cp n bl.length ρ bl) (ha:agree n ρ ad):Mem w0 ad m bl w:=
 ⟨h.ext,h.gg,h.iF,h.gI,h.eI,h.fM,λi cs t hi ho=>by
  obtain⟨h1,h2,r,hr,h3⟩:=h.et i cs t hi ho
  exact⟨h1,h2,r,hr,by rw[rE (hb _ (dK hi)) ha (λ_ _=>rfl)];exact h3⟩,
  λi sh off code cap kind t hi=>(h.rws i sh off code cap kind t hi).lJ (hb _ (dK hi) _ (by simp)) ha,λi j p q hi hj he=>by
   rw[pE (hb _ (dK hi)) ha,pE (hb _ (dK hj)) ha]
   exact h.inj i j p q hi hj he⟩
theorem o6.grow {w0:dm} {ρ:Env} {g:Nat} {sh:List aw} {off code cap:I} {kind:Nat} {t:aN} {w w':ai} (h:o6 w0 ρ g sh off code cap kind t w) (he:kind≠0->0<=cap.den ρ->w'.heap[g]?=w.heap[g]?):o6 w0 ρ g sh off code cap kind t w':=by
 intro hk
 obtain⟨h1,h2⟩:=h hk
 refine⟨h1,λhc=>?_⟩
 rw[he hk hc]
 exact h2 hc
theorem nC {ρ:Env} {sh:List aw} {off code cap:I} {k:Nat} (hk:k≠0) (hc:0<=cap.den ρ):aX ρ [.rows sh off code cap k]=k:=by
 simp only[aX]
 rw[if_neg (by omega)]
theorem Mem.grow {w0:dm} {ρ:Env} {m:Nat->Nat} {bl:List ar} {w w':ai} (h:Mem w0 ρ m bl w) (he:w.Extends w'):Mem w0 ρ m bl w':=
 ⟨h.ext.trans he,he.os.trans h.gg,he.tape.trans h.iF,he.output.trans h.gI,hT h.eI he.size,λi hi hx=>(he.block i (u4 hi h.eI)).trans (h.fM i hi hx),λi cs t hi ho=>by
  obtain⟨h1,h2,r,hr,h3⟩:=h.et i cs t hi ho
  exact⟨h1,h2,r,hr,by rw[he.block _ (h.lt hi (by rw[iQ ho];decide))];exact h3⟩,λi sh off code cap kind t hi=>(h.rws i sh off code cap kind t hi).grow λhk hc=>he.block _ (h.lt hi (by simp only[nC hk hc];exact hk)),h.inj⟩
theorem Mem.ne {w0:dm} {ρ:Env} {m:Nat->Nat} {bl:List ar} {w:ai} (h:Mem w0 ρ m bl w) {i j:Nat} {p q:ar} (hi:bl[i]?=some p) (hj:bl[j]?=some q) (hp:2<=aX ρ p.1) (hq:aX ρ q.1≠0) (hne:i≠j):m i≠m j:=λe=>by
 rcases h.inj i j p q hi hj e with h|h|h|h
 ·exact hne h
 ·omega
 ·omega
 ·exact hq h
def dD (n nb:Nat) (ρ:Env) (m:Nat->Nat) (tm:List V) (tmps:Array az):Prop:=
 tm.length=tmps.size/\∀(i:Nat) (v:V),tm[i]?=some v->v.ok n nb ρ/\∃x,tmps[i]?=some x/\v.rel ρ m x
theorem dD.ext {n n' nb jh:Nat} {ρ ad:Env} {m m':Nat->Nat} {tm:List V} {tmps:Array az} (h:dD n nb ρ m tm tmps) (ha:agree n ρ ad) (hn:n<=n') (hb:nb<=jh) (hm:∀b,b<nb->m' b=m b):dD n' jh ad m' tm tmps:=
 ⟨h.1,λi v hv=>by obtain⟨h1,x,h2,h3⟩:=h.2 i v hv;exact⟨h1.ext ha hn hb,x,h2,h3.ext h1 ha hm⟩⟩
def pN:List V->Nat->V->List V
 |[],_,_=>[]
 |_::r,0,v=>v::r
 |x::r,i+1,v=>x::pN r i v
theorem Qq:∀(l:List V) (i:Nat) (v:V),pN l i v=l.set i v
 |[],_,_=>rfl
 |_::_,0,_=>rfl
 |_::r,i+1,v=>by simp[pN,Qq r i v]
def eV (tm:List V) (d:Option Tmp) (v:V):List V:=match d with|some d=>pN tm d v|none=>tm
theorem dD.put {n nb:Nat} {ρ:Env} {m:Nat->Nat} {tm:List V} {a:Act} {v:V} {x:az} (h:dD n nb ρ m tm a.tmps) (d:Option Tmp) (hv:v.ok n nb ρ) (hx:v.rel ρ m x):dD n nb ρ m (eV tm d v) (a.put d x).tmps:=by
 cases d with
 |none=>exact h
 |some d=>
  simp only[eV,CI,Qq]
  refine⟨by simp[h.1],λi u hu=>?_⟩
  rw[List.getElem?_set]at hu
  by_cases hd:d=i
  ·subst hd
   simp only[if_true]at hu
   split at hu
   ·rename_i hlt
    simp only[aG]at hu
    subst hu
    exact⟨hv,x,by simp[<-h.1,hlt],hx⟩
   ·cases hu
  ·rw[if_neg hd]at hu
   obtain⟨h1,y,h2,h3⟩:=h.2 i u hu
   exact⟨h1,y,by rw[avh (by omega)];exact h2,h3⟩
def Ab:az->Option A
 | .int k n=>some (.int k (.const n))
 | .bool b=>some (.bool (.lit b))
 | .string s=>cond (bw s.size 1000000) (some (.str (.const (dP s.data.toList)))) none
 |v=>cond v.oneCell' (some (.con v)) none
theorem Ud {v:az} {a:A} (h:Ab v=some a) (n nb:Nat) (ρ:Env) (m:Nat->Nat):a.ok n nb ρ/\a.den ρ m=v:=by
 unfold Ab at h
 split at h
 ·simp only[aG]at h;subst h;exact⟨bj.lX _ _ _,by simp[A.den,bj.const,I.aM]⟩
 ·simp only[aG]at h;subst h;exact⟨trivial,rfl⟩
 ·rename_i s
  cases hc:bw s.size 1000000 with
  |false=>simp[hc]at h
  |true=>
   simp only[hc,cond_true,aG]at h
   subst h
   have hl:s.data.toList.length<=fQ:=by
    have:=eb hc
    have h2:s.data.toList.length=s.size:=by simp
    unfold fQ;omega
   refine⟨⟨I.cz _ _,by rw[I.aM];exact p9 _,by rw[I.aM];exact oG hl⟩,?_⟩
   simp[A.den,I.aM,fS,bd]
 ·cases hc:v.oneCell' with
  |false=>simp[hc]at h
  |true=>simp only[hc,cond_true,aG]at h;subst h;exact⟨hc,rfl⟩
def tH:List az->Option (List A)
 |[]=>some []
 |v::r=>match Ab v,tH r with|some a,some l=>some (a::l)|_,_=>none
theorem tI:∀{vs:List az} {l:List A},tH vs=some l->∀(n nb:Nat) (ρ:Env) (m:Nat->Nat),(∀a∈l,A.ok n nb ρ a)/\l.map (A.den ρ m)=vs
 |[],l,h,n,nb,ρ,m=>by simp[tH]at h;subst h;simp
 |v::r,l,h,n,nb,ρ,m=>by
  simp only[tH]at h
  cases h1:Ab v with
  |none=>simp[h1]at h
  |some a=>
   cases h2:tH r with
   |none=>simp[h1,h2]at h
   |some bp=>
    simp only[h1,h2,aG]at h
    subst h
    have e1:=Ud h1 n nb ρ m
    have e2:=tI h2 n nb ρ m
    exact⟨λa ha=>by rcases List.mem_cons.1 ha with rfl|ha;exact e1.1;exact e2.1 a ha,by simp[e1.2,e2.2]⟩
def Hi:az->V
 | .agg cs=>match tH cs.toList with|some l=> .w (.agg l)|none=> .any
 | .tuple _=> .any
 |v=>match Ab v with|some a=> .w (.one a)|none=> .any
theorem adG (v:az) (n nb:Nat) (ρ:Env) (m:Nat->Nat):(Hi v).ok n nb ρ/\(Hi v).rel ρ m v:=by
 unfold Hi
 split
 ·rename_i cs
  cases h:tH cs.toList with
  |none=>exact⟨trivial,trivial⟩
  |some l=>have e:=tI h n nb ρ m;exact⟨e.1,by simp[V.rel,W.den,e.2]⟩
 ·exact⟨trivial,trivial⟩
 ·cases h:Ab v with
  |none=>exact⟨trivial,trivial⟩
  |some a=>have e:=Ud h n nb ρ m;exact⟨e.1,by simp[V.rel,W.den,e.2]⟩
def bM (tm:List V):mx->V
 | .tmp t=>(tm[t]?).getD .any
 | .const v=>Hi v
 | .global g=> .w (.one (.gptr g 0))
 | .func f=> .w (.one (.con (.func (.func f) #[] #[])))
theorem b9 {n nb:Nat} {ρ:Env} {m:Nat->Nat} {tm:List V} {a:Act} (h:dD n nb ρ m tm a.tmps) (x:mx):(bM tm x).ok n nb ρ/\(bM tm x).rel ρ m (a.eval x):=by
 cases x with
 |tmp t=>
  simp only[bM,Act.eval]
  cases ht:tm[t]? with
  |none=>exact⟨trivial,trivial⟩
  |some v=>
   obtain⟨h1,y,h2,h3⟩:=h.2 t v ht
   exact⟨h1,by simp only[qN];rw[show a.tmps.getD t undef=y by simp[h2]];exact h3⟩
 |const v=>exact adG v n nb ρ m
 |global g=>exact⟨trivial,rfl⟩
 |func f=>exact⟨rfl,rfl⟩
def hL (P:bm) (t:aN):Option Bool:=
 match P.underlying t with|some (.struct _)=>some true|some (.array _ _)=>some true|some _=>some false|none=>none
def eA (P:bm) (t:aN):Option Nat:=match P.info? t with|some i=>some i.size|none=>none
theorem ow {P:bm} {t:aN} {b:Bool} (h:hL P t=some b) (w:ai):(isAgg t).run P w= .ok b w:=by
 unfold hL at h
 cases hu:P.underlying t with
 |none=>simp[hu]at h
 |some d=>cases d<;>simp[hu]at h<;>subst h<;>simp[isAgg,ef hu]
theorem gO {P:bm} {t:aN} {k:Nat} (h:eA P t=some k) (w:ai):(sizeOf t).run P w= .ok k w:=by
 unfold eA at h
 cases hi:P.info? t with
 |none=>simp[hi]at h
 |some i=>simp[hi]at h;subst h;simp[sizeOf,typeInfo,hi]
def z6 (bl:List ar) (gl:dO):A->Option (List A)
 | .ptr b off=>match bl[b]? with|some (cs,_)=>cond (bJ cs) (some (cs.drop off)) none|none=>none
 | .gptr g off=>match gl.find? (λp=>aA p.1 g)with|some (_,cs)=>some ((cs.drop off).map λp=> .int p.1 (.const p.2))|none=>none
 |_=>none
theorem gW (g o j:Nat):(⟨g,o,none⟩:Addr).add j=⟨g,o+j,none⟩:=by unfold Addr.add;split<;>simp_all
theorem LU {w0:dm} {w:ai} {n:Nat} {ρ:Env} {m:Nat->Nat} {bl:List ar} {gl:dO} {p:A} {cs:List A} (hm:Mem w0 ρ m bl w) (hb:cp n bl.length ρ bl) (hg:eK gl w0) (h:z6 bl gl p=some cs):
 ∃g o,p.den ρ m= .pointer (some ⟨g,o,none⟩)/\(∀a∈cs,A.ok n bl.length ρ a)/\∀j a,cs[j]?=some a->w.cell? ⟨g,o+j,none⟩=some (a.den ρ m):=by
 unfold z6 at h
 split at h
 ·rename_i b off
  cases hbl:bl[b]? with
  |none=>simp[hbl]at h
  |some q=>
   obtain⟨C,t⟩:=q
   simp only[hbl]at h
   cases jT:bJ C with
   |false=>simp[jT]at h
   |true=>
   simp only[jT,cond_true,aG]at h
   subst h
   obtain⟨h1,_,r,_,h2⟩:=hm.et b C t hbl jT
   refine⟨m b,off,rfl,λa ha=>hb _ (dK hbl) a (nd ha),λj a hj=>?_⟩
   rw[u7]at hj
   have hlt:off+j<C.length:=(List.getElem?_eq_some_iff.1 hj).1
   simp only[iW,h2,qP,o3,if_false,F7]
   rw[rZ (by simpa using hlt),mu,hj];rfl
 ·rename_i g off
  cases hf:gl.find? (λp=>aA p.1 g)with
  |none=>simp[hf]at h
  |some q=>
   obtain⟨jb,C⟩:=q
   simp only[hf,aG]at h
   subst h
   have sB:jb=g:=by have:=RE hf;exact bk this
   subst sB
   obtain⟨h1,t,vC,h2⟩:=hg jb C (CC hf)
   refine⟨jb,off,rfl,λa ha=>?_,λj a hj=>?_⟩
   ·obtain⟨p,_,rfl⟩:=List.mem_map.1 ha;exact bj.lX _ _ _
   ·rw[mu,u7]at hj
    cases hq:C[off+j]? with
    |none=>simp[hq]at hj
    |some q=>
     simp only[hq,qM,aG]at hj
     subst hj
     have:=hm.ext.cell ⟨jb,off+j,none⟩ h1
     rw[this]
     simp[iW,h2,hq,A.den,bj.const,I.aM]
 ·cases h
def Pg (P:bm) (bl:List ar) (gl:dO) (ty:aN) (p:A):M V:=
 match z6 bl gl p,hL P ty,eA P ty with
 |some cs,some true,some k=>cond (bw k cs.length) (pure (.w (.agg (cs.take k)))) fail
 |some (a::_),some false,_=>pure (.w (.one a))
 |_,_,_=>fail
section
variable {S:Nat->List Int->List Int->Prop} {L:V->Env->Prop} {n:Nat} {ρ:Env} {m:Nat->Nat} {bl:List ar} {gl:dO} {w0:dm} {P:bm}
def kb (w0:dm) (m:Nat->Nat) (bl:List ar) (n:Nat) (ρ:Env) (run:ai->Result az) (ad:Env) (n':Nat) (v:V):Prop:=
 v.ok n' bl.length ad/\∃val,v.rel ad m val/\∀w,Mem w0 ρ m bl w->run w= .ok val w
theorem alw (hb:cp n bl.length ρ bl) (hg:eK gl w0) (hex:∃w,Mem w0 ρ m bl w) (ty:aN) (p:A):aj S L (Pg P bl gl ty p) n ρ (kb w0 m bl n ρ λw=>(mv ty (p.den ρ m)).run P w):=by
 obtain⟨s9,hx⟩:=hex
 unfold Pg
 cases hc:z6 bl gl p with
 |none=>exact aj.fail
 |some cs=>
  obtain⟨g,o,hp,aZ,_⟩:=LU hx hb hg hc
  have hcell:∀w,Mem w0 ρ m bl w->∀j a,cs[j]?=some a->w.cell? ⟨g,o+j,none⟩=some (a.den ρ m):=λw hw=>by
   obtain⟨jb,bV,vU,_,h'⟩:=LU hw hb hg hc
   rw[hp]at vU
   simp only[ay2,aG,Addr.mk.injEq,and_true]at vU
   obtain⟨rfl,rfl⟩:=vU
   exact h'
  cases ha:hL P ty with
  |none=>exact aj.fail
  |some b=>
   cases b with
   |true=>
    cases hs:eA P ty with
    |none=>exact aj.fail
    |some k=>
     refine dA λhk=>aj.pure ⟨λa h=>aZ a (jM h),_,rfl,λw hw=>?_⟩
     have hk:k<=cs.length:=eb hk
     have hl:=Kr (P:=P) w ⟨g,o,none⟩ ((cs.take k).map (A.den ρ m)) λj v hj=>by
      rw[gW]
      rw[mu]at hj
      cases hq:(cs.take k)[j]? with
      |none=>simp[hq]at hj
      |some a=>
       simp only[hq,qM,aG]at hj
       subst hj
       refine hcell w hw j a ?_
       rw[m9]at hq
       split at hq
       ·exact hq
       ·cases hq
     simp only[j6,mw,w8 hk]at hl
     simp[mv,kB,hp,loadVar,ow ha,gO hs,hl,W.den]
   |false=>
    cases cs with
    |nil=>exact aj.fail
    |cons a r=>
     refine aj.pure ⟨aZ a (by simp),_,rfl,λw hw=>?_⟩
     have:=hcell w hw 0 a rfl
     simp only[ld]at this
     simp[mv,kB,hp,loadVar,ow ha,this,W.den]
def mP (k:cS):List A->Option (List bj)
 |[]=>some []
 | .int aP x::r=>cond (decide (k=aP)) (match mP k r with|some l=>some (x::l)|none=>none) none
 |_::_=>none
theorem Xe {k:cS}:∀{cs:List A} {l:List bj},mP k cs=some l->cs=l.map (.int k)
 |[],l,h=>by simp[mP]at h;subst h;rfl
 | .int aP x::r,l,h=>by
  simp only[mP]at h
  by_cases hk:k=aP
  ·subst hk
   simp only[decide_true,cond_true]at h
   cases h1:mP k r with
   |none=>simp[h1]at h
   |some bp=>simp only[h1,aG]at h;subst h;simp[Xe h1]
  ·simp[hk]at h
 | .bool _::_,_,h=>by simp[mP]at h
 | .ptr .. ::_,_,h=>by simp[mP]at h
 | .lG .. ::_,_,h=>by simp[mP]at h
 | .gptr .. ::_,_,h=>by simp[mP]at h
 | .slc .. ::_,_,h=>by simp[mP]at h
 | .con _::_,_,h=>by simp[mP]at h
 | .str _::_,_,h=>by simp[mP]at h
 | .rows .. ::_,_,h=>by simp[mP]at h
 | .sl .. ::_,_,h=>by simp[mP]at h
 | .ep .. ::_,_,h=>by simp[mP]at h
def Bw:List bj->Int
 |[]=>0
 |[x]=>x.lo
 |x::r=>min x.lo (Bw r)
def Bt:List bj->Int
 |[]=>0
 |[x]=>x.hi
 |x::r=>max x.hi (Bt r)
theorem XM {n:Nat} {ρ:Env}:∀{l:List bj},(∀x∈l,x.ok n ρ)->∀x∈l,Bw l<=x.l.den ρ/\x.l.den ρ<=Bt l
 |[],_,x,hx=>by simp at hx
 |[y],h,x,hx=>by
  simp at hx;subst hx
  have:=(h x (by simp)).2
  exact this
 |y::z::r,h,x,hx=>by
  have ih:=XM (l:=z::r) (λx hx=>h x (cR _ hx))
  simp only[Bw,Bt]
  rcases List.mem_cons.1 hx with rfl|hx
  ·have:=(h x (by simp)).2;omega
  ·have:=ih x hx;omega
def kindOf (P:bm) (ty:aN):Option cS:=match P.underlying ty with|some (.int k)=>some k|_=>none
def sM:List Int->Int
 |[]=>0
 |[x]=>x
 |x::r=>cond (decide (x<=sM r)) x (sM r)
def sL:List Int->Int
 |[]=>0
 |[x]=>x
 |x::r=>cond (decide (sL r<=x)) x (sL r)
theorem XN:∀(l:List Int),∀z∈l,sM l<=z/\z<=sL l
 |[],_,h=>by cases h
 |[x],z,h=>by simp at h;subst h;simp[sM,sL]
 |x::y::r,z,h=>by
  unfold sM sL
  have ih:=XN (y::r)
  rcases List.mem_cons.1 h with rfl|h
  ·refine⟨?_,?_⟩
   ·cases hc:decide (z<=sM (y::r))with
    |true=>simp
    |false=>simp at hc⊢;omega
   ·cases hc:decide (sL (y::r)<=z)with
    |true=>simp
    |false=>simp at hc⊢;omega
  ·have:=ih z h
   refine⟨?_,?_⟩
   ·cases hc:decide (x<=sM (y::r))with
    |true=>simp at hc⊢;omega
    |false=>simp;exact this.1
   ·cases hc:decide (sL (y::r)<=x)with
    |true=>simp at hc⊢;omega
    |false=>simp;exact this.2
def Qo (P:bm) (bl:List ar) (ty:aN) (b off:Nat) (aL:bj):M V:=λn c=>
 match bl[b]?,kindOf P ty with
 |some (cs,_),some k=>match mP k ((cs.drop off).take (aL.hi.toNat+1))with
  |some l=>cond (aA l.length (aL.hi.toNat+1)&&decide (0<=aL.lo)&&bJ cs) (.pM n (l.map (·.l)) aL.l (Bw l) (Bt l) (c (.w (.one (.int k ⟨.var n,Bw l,Bt l⟩))) (n+1))) .stuck
  |none=> .stuck
 |_,_=> .stuck
theorem aqg (hb:cp n bl.length ρ bl) (ty:aN) (b off:Nat) {aL:bj} (Em:aL.ok n ρ):aj S L (Qo P bl ty b off aL) n ρ (kb w0 m bl n ρ λw=>(mv ty ((A.lG b off aL).den ρ m)).run P w):=by
 intro aaM c hk
 unfold Qo at hk
 cases hbl:bl[b]? with
 |none=>simp[hbl,T.holds]at hk
 |some q=>
  obtain⟨cs,t⟩:=q
  cases fu:kindOf P ty with
  |none=>simp[hbl,fu,T.holds]at hk
  |some k=>
   cases hi:mP k ((cs.drop off).take (aL.hi.toNat+1))with
   |none=>simp[hbl,fu,hi,T.holds]at hk
   |some l=>
    cases hc:(aA l.length (aL.hi.toNat+1)&&decide (0<=aL.lo)&&bJ cs)with
    |false=>simp[hbl,fu,hi,hc,T.holds]at hk
    |true=>
     simp only[hbl,fu,hi,hc,cond_true,T.holds]at hk
     simp only[aK,decide_eq_true_eq]at hc
     obtain⟨hc,hq⟩:=hc
     have hlen:=bk hc.1
     have e:=Xe hi
     have zZ:=Em.2
     have hlt:(aL.l.den ρ).toNat<l.length:=by omega
     have aiW:∀x∈l,x.ok n ρ:=λx hx=>by
      have:A.int k x∈(cs.drop off).take (aL.hi.toNat+1):=by rw[e];exact avi hx
      exact hb _ (dK hbl) _ (nd (jM this))
     have hz:((l.map (·.l)).map (·.den ρ)).getD (aL.l.den ρ).toNat 0=(l[(aL.l.den ρ).toNat]).l.den ρ:=by
      simp[af,hlt]
     have iP:=XM aiW _ (F8 hlt)
     refine⟨_,n+1,_,nQ _,agree.cI _ _ _,(show kb w0 m bl n ρ _ (cI ρ n (((l.map (·.l)).map (·.den ρ)).getD (aL.l.den ρ).toNat 0)) (n+1) (.w (.one (.int k ⟨.var n,Bw l,Bt l⟩))) from⟨⟨I.ez (r4 n),?_,?_⟩,_,rfl,?_⟩),hk _ (by rw[hz];exact iP.1) (by rw[hz];exact iP.2) rfl⟩
     ·simp only[I.cg,iH,hz];exact iP.1
     ·simp only[I.cg,iH,hz];exact iP.2
     ·intro w hw
      obtain⟨_,_,r,_,h2⟩:=hw.et b cs t hbl hq
      have hu:hL P ty=some false:=by
       unfold kindOf at fu
       unfold hL
       cases hq:P.underlying ty with
       |none=>simp[hq]at fu
       |some d=>cases d<;>simp[hq]at fu<;>rfl
      have hcs:cs[off+(aL.l.den ρ).toNat]?=some (.int k (l[(aL.l.den ρ).toNat])):=by
       have h3:((cs.drop off).take (aL.hi.toNat+1))[(aL.l.den ρ).toNat]?=some (.int k (l[(aL.l.den ρ).toNat])):=by rw[e];simp[hlt]
       rw[m9,if_pos (by omega),u7]at h3
       exact h3
      have hcell:w.cell? ⟨m b,off+(aL.l.den ρ).toNat,none⟩=some (.int k ((l[(aL.l.den ρ).toNat]).l.den ρ)):=by
       have aiG:off+(aL.l.den ρ).toNat<cs.length:=(List.getElem?_eq_some_iff.1 hcs).1
       simp only[iW,h2,qP,o3,if_false,F7]
       rw[rZ (by simpa using aiG),mu,hcs];rfl
      simp only[W.den,A.den,I.cg,iH,hz];simp[mv,kB,loadVar,ow hu,hcell]
def Qn (P:bm) (gl:dO) (ty:aN) (g off:Nat) (aL:bj):M V:=λn c=>
 match gl.find? (λp=>aA p.1 g),kindOf P ty with
 |some (_,cs),some k=>cond (((cs.drop off).take (aL.hi.toNat+1)).all (λp=>decide (p.1=k))&&aA ((cs.drop off).take (aL.hi.toNat+1)).length (aL.hi.toNat+1)&&decide (0<=aL.lo))
  (.pM n (((cs.drop off).take (aL.hi.toNat+1)).map λp=> .const p.2) aL.l (sM (((cs.drop off).take (aL.hi.toNat+1)).map (·.2))) (sL (((cs.drop off).take (aL.hi.toNat+1)).map (·.2)))
    (c (.w (.one (.int k ⟨.var n,sM (((cs.drop off).take (aL.hi.toNat+1)).map (·.2)),sL (((cs.drop off).take (aL.hi.toNat+1)).map (·.2))⟩))) (n+1))) .stuck
 |_,_=> .stuck
theorem aqf (hg:eK gl w0) (ty:aN) (g off:Nat) {aL:bj} (Em:aL.ok n ρ):aj S L (Qn P gl ty g off aL) n ρ (kb w0 m bl n ρ λw=>(mv ty ((A.An g off aL).den ρ m)).run P w):=by
 intro aaM c hk
 unfold Qn at hk
 cases hf:gl.find? (λp=>aA p.1 g)with
 |none=>simp[hf,T.holds]at hk
 |some q=>
  obtain⟨jb,cs⟩:=q
  have sB:jb=g:=by have:=RE hf;exact bk this
  subst sB
  cases fu:kindOf P ty with
  |none=>simp[hf,fu,T.holds]at hk
  |some k=>
   simp only[hf,fu]at hk
   generalize hC:(cs.drop off).take (aL.hi.toNat+1)=C at hk
   cases hc:(C.all (λp=>decide (p.1=k))&&aA C.length (aL.hi.toNat+1)&&decide (0<=aL.lo))with
   |false=>simp[hc,T.holds]at hk
   |true=>
    simp only[hc,cond_true,T.holds]at hk
    simp only[aK,decide_eq_true_eq]at hc
    obtain⟨⟨c1,c2⟩,c3⟩:=hc
    have c2:=bk c2
    have zZ:=Em.2
    have hlt:(aL.l.den ρ).toNat<C.length:=by omega
    have hz:((C.map λp=>I.const p.2).map (·.den ρ)).getD (aL.l.den ρ).toNat 0=(C[(aL.l.den ρ).toNat]).2:=by
     simp[af,hlt,I.aM]
    have iP:=XN (C.map (·.2)) _ (avi (F8 hlt))
    refine⟨_,n+1,_,nQ _,agree.cI _ _ _,(show kb w0 m bl n ρ _ (cI ρ n (((C.map λp=>I.const p.2).map (·.den ρ)).getD (aL.l.den ρ).toNat 0)) (n+1) (.w (.one (.int k ⟨.var n,sM (C.map (·.2)),sL (C.map (·.2))⟩))) from⟨⟨I.ez (r4 n),?_,?_⟩,_,rfl,?_⟩),hk _ (by rw[hz];exact iP.1) (by rw[hz];exact iP.2) rfl⟩
    ·simp only[I.cg,iH,hz];exact iP.1
    ·simp only[I.cg,iH,hz];exact iP.2
    ·intro w hw
     have hu:hL P ty=some false:=by
      unfold kindOf at fu
      unfold hL
      cases hq:P.underlying ty with
      |none=>simp[hq]at fu
      |some d=>cases d<;>simp[hq]at fu<;>rfl
     have ir:(C[(aL.l.den ρ).toNat]).1=k:=by simpa using List.all_eq_true.1 c1 _ (F8 hlt)
     have hcs:cs[off+(aL.l.den ρ).toNat]?=some (C[(aL.l.den ρ).toNat]):=by
      have h3:C[(aL.l.den ρ).toNat]?=some (C[(aL.l.den ρ).toNat]):=jt hlt
      have h4:C[(aL.l.den ρ).toNat]?=cs[off+(aL.l.den ρ).toNat]?:=by rw[<-hC,m9,if_pos (by omega),u7]
      rw[<-h4,h3]
     obtain⟨H2,t,vC,ahP⟩:=hg jb cs (CC hf)
     have hcell:w.cell? ⟨jb,off+(aL.l.den ρ).toNat,none⟩=some (.int k (C[(aL.l.den ρ).toNat]).2):=by
      rw[hw.ext.cell _ H2]
      simp only[iW,ahP,qP,o3,if_false,F7]
      rw[mu,hcs,qM,ir]
     simp only[W.den,A.den,I.cg,iH,hz];simp[mv,kB,loadVar,ow hu,hcell]
end
end Go.bg
namespace Go.bg
open M
abbrev eg:=cy->Option (List ar->List V->M V)
def zL (P:bm) (o:Oper) (a:Act) (w:ai) (val:az):Prop:=
 (execOp a.eval o).run P w= .ok (.value val) w∨
 ∃f args,(execOp a.eval o).run P w= .ok (.enter f args) w/\Calls P f args w λe mZ=>e= .returned val/\w.Extends mZ
def xi (P:bm) (f:cy) (args:Array az) (w:ai) (val:az):Prop:=
 (callFunc f args).run P w= .ok (.value val) w∨
 ((callFunc f args).run P w= .ok (.enter f args) w/\Calls P f args w λe mZ=>e= .returned val/\w.Extends mZ)
def ec (ρ:Env) (m:Nat->Nat):List V->List az->Prop
 |[],[]=>True
 |v::r,x::s=>v.rel ρ m x/\ec ρ m r s
 |_,_=>False
def fk (S:Nat->List Int->List Int->Prop) (P:bm) (gl:dO) (w0:dm) (cal:eg):Prop:=
 ∀f g,cal f=some g->∀(L:V->Env->Prop) (n:Nat) (ρ:Env) (m:Nat->Nat) (bl:List ar) (vs:List V) (xs:List az),cp n bl.length ρ bl->(∃w,Mem w0 ρ m bl w)->(∀v∈vs,v.ok n bl.length ρ)->ec ρ m vs xs->
  aj S L (g bl vs) n ρ λad n' v=>v.ok n' bl.length ad/\∃val,v.rel ad m val/\∀w,Mem w0 ρ m bl w->xi P f xs.toArray w val
def Dz (P:bm) (s:aN) (f:Nat):Option Field:=match P.underlying s with|some (.struct dE)=>dE[f]?|_=>none
def pa (P:bm) (t:aN):Option (Nat×aN):=match P.underlying t with|some (.array n e)=>some (n,e)|_=>none
def gB (P:bm) (t:aN):Option aN:=match P.underlying t with|some (.slice e)=>some e|_=>none
def Je (P:bm) (t:aN) (l:List A) (off:Nat):M V:=
 match hL P t,eA P t with
 |some true,some k=>pure (.w (.agg ((l.drop off).take k)))
 |some false,_=>match l[off]? with|some a=>pure (.w (.one a))|none=>fail
 |_,_=>fail
def ON (P:bm) (t:aN) (x:V) (aL:bj):M V:=
 match x with
 | .w (.one (.ptr b off))=>match pa P t with
  |some (len,e)=>match eA P e with
   |some s=>match aL.l.dp with
    |some i=>cond (decide (0<=i)&&decide (i<len)) (pure (.w (.one (.ptr b (off+i.toNat*s))))) fail
    |none=>cond (aA s 1&&decide (0<=aL.lo)&&decide (aL.hi<len)) (pure (.w (.one (.lG b off aL)))) fail
   |none=>fail
  |none=>fail
 | .w (.one (.gptr g off))=>match pa P t with
  |some (len,e)=>match eA P e with
   |some s=>match aL.l.dp with
    |some i=>cond (decide (0<=i)&&decide (i<len)) (pure (.w (.one (.gptr g (off+i.toNat*s))))) fail
    |none=>cond (aA s 1) (bind (eZ 74 [aL.l,.const len]) λ_=>pure (.w (.one (.An g off ⟨aL.l,0,(len:Int)-1⟩)))) fail
   |none=>fail
  |none=>fail
 | .w (.one (.slc b off len _))=>match gB P t with
  |some e=>match eA P e with
   |some s=>match aL.l.dp with
    |some i=>cond (decide (0<=i)&&decide (i<len)) (pure (.w (.one (.ptr b (off+i.toNat*s))))) fail
    |none=>cond (aA s 1&&decide (0<=aL.lo)&&decide (aL.hi<len)) (pure (.w (.one (.lG b off aL)))) fail
   |none=>fail
  |none=>fail
 | .mT b len _=>match gB P t with
  |some e=>match eA P e with
   |some s=>match aL.l.dp with
    |some i=>cond (decide (0<=i)&&decide (i<len)) (pure (.w (.one (.ptr b (i.toNat*s))))) fail
    |none=>fail
   |none=>fail
  |none=>fail
 |_=>fail
def uH:List V->Option (List A)
 |[]=>some []
 | .w (.one a)::r=>match uH r with|some l=>some (a::l)|none=>none
 |_::_=>none
def vy:List A->List A->Option aS
 |[],[]=>some (.lit true)
 | .int k x::r,.int aP y::r'=>cond (decide (k=aP)) (match vy r r' with|some b=>some (.mkAnd (.mkEq x y) b)|none=>none) none
 |_,_=>none
def Mn (P:bm) (t:aN) (x y:List A):Option aS:=
 match pa P t with
 |some (len,e)=>match kindOf P e,eA P e with
  |some _,some 1=>cond (aA x.length len&&aA y.length len&& !P.eqGuardType P.depth t) (vy x y) none
  |_,_=>none
 |none=>none
def Ai (P:bm):Nat->List Field->Bool
 |_,[]=>true
 |i,f::r=>(f.name != "_")&&aA f.offset i&&Ai P (i+1) r
noncomputable def pg (P:bm):List Field->List A->List A->M aS
 |[],[],[]=>pure (.lit true)
 |f::dE,.int k a::xs,.int aP b::e7=>match kindOf P f.type with
  |some k2=>cond (decide (k=aP)) (bind (pg P dE xs e7) λr=>pure (.mkAnd (.mkEq a b) r)) fail
  |none=>fail
 |f::dE,.str a::xs,.str b::e7=>match P.underlying f.type with
  |some .string=>bind (ev 4 [a,b] 0 1) λl=>bind (pg P dE xs e7) λr=>pure (.mkAnd (.mkEq ⟨l,0,1⟩ (.const 1)) r)
  |_=>fail
 |_,_,_=>fail
noncomputable def Hp (P:bm) (g:aN->List A->List A->M aS):Nat->List Field->List A->List A->M aS
 |_,[],_,_=>pure (.lit true)
 |o,f::dE,x,y=>match eA P f.type with
  |some s=>cond ((f.name != "_")&&aA f.offset o) (bind (g f.type (x.take s) (y.take s)) λb=>bind (Hp P g (o+s) dE (x.drop s) (y.drop s)) λr=>pure (.mkAnd b r)) fail
  |none=>fail
noncomputable def Ag (P:bm):Nat->aN->List A->List A->M aS
 |0,_,_,_=>fail
 |d+1,t,x,y=>match P.underlying t with
  |some (.int k)=>match x,y with
   |[.int k1 a],[.int k2 b]=>cond (decide (k1=k2)) (pure (.mkEq a b)) fail
   |_,_=>fail
  |some .string=>match x,y with
   |[.str a],[.str b]=>bind (ev 4 [a,b] 0 1) λl=>pure (.mkEq ⟨l,0,1⟩ (.const 1))
   |_,_=>fail
  |some .bool=>match x,y with
   |[.bool a],[.bool b]=>pure (.mkIff a b)
   |_,_=>fail
  |some (.struct dE)=>cond (!P.stoodInHeld t) (Hp P (Ag P d) 0 dE.toList x y) fail
  |_=>fail
noncomputable def Hq (P:bm) (t:aN) (x y:List A):M aS:=
 match P.underlying t with
 |some (.struct dE)=>cond (Ai P 0 dE.toList&& !P.stoodInHeld t&& !P.eqGuardType P.depth t) (cond (dE.toList.all λf=>match P.underlying f.type with|some (.int _)=>true|some .string=>true|_=>false) (pg P dE.toList x y) (Ag P 8 t x y))
  (cond (!P.eqGuardType P.depth t) (Ag P 8 t x y) fail)
 |_=>fail
noncomputable def QE (op:BinOp) (a b:I):M V:=
 match op with
 | .add=>bind (eZ 3 [a,b]) λ_=>bind (ev 3 [a,b] 0 ch) λl=>pure (.w (.one (.str l)))
 | .eql=>bind (ev 4 [a,b] 0 1) λl=>pure (.w (.one (.bool (.mkEq ⟨l,0,1⟩ (.const 1)))))
 | .neq=>bind (ev 4 [a,b] 0 1) λl=>pure (.w (.one (.bool (.mkNot (.mkEq ⟨l,0,1⟩ (.const 1))))))
 | .lss=>bind (ev 5 [a,b] 0 1) λl=>pure (.w (.one (.bool (.mkEq ⟨l,0,1⟩ (.const 1)))))
 | .geq=>bind (ev 5 [a,b] 0 1) λl=>pure (.w (.one (.bool (.mkNot (.mkEq ⟨l,0,1⟩ (.const 1))))))
 |_=>fail
def Zk (s:I):M V:=bind (ev 0 [s] 0 9223372036854775807) λl=>pure (.w (.one (.int .i64 ⟨l,0,9223372036854775807⟩)))
def Zj (s i:I):M V:=bind (eZ 1 [s,i]) λ_=>bind (ev 1 [s,i] 0 255) λl=>pure (.w (.one (.int .u8 ⟨l,0,255⟩)))
noncomputable def JN (s a b:I):M V:=bind (eZ 2 [s,a,b]) λ_=>bind (ev 2 [s,a,b] 0 ch) λl=>pure (.w (.one (.str l)))
def od (v:V):Option I:=match v with| .w (.one (.int _ a))=>some a.l|_=>none
noncomputable def QF (tm:List V) (s:I) (lo hi:Option mx):M V:=
 match(match lo with|none=>some (I.const 0)|some x=>od (bM tm x))with
 |none=>fail
 |some a=>match hi with
  |none=>bind (ev 0 [s] 0 9223372036854775807) λb=>JN s a b
  |some y=>match od (bM tm y)with
   |some b=>JN s a b
   |none=>fail
noncomputable def TP (P:bm) (op:BinOp) (t:aN) (x y:V):M V:=
 match x,y with
 | .w (.one (.int k a)),.w (.one (.int aP b))=>bind (Lx op k a aP b) λr=>pure (.w (.one r))
 | .w (.agg a),.w (.agg b)=>match op,Mn P t a b with
  | .eql,some e=>pure (.w (.one (.bool e)))
  | .neq,some e=>pure (.w (.one (.bool (.mkNot e))))
  | .eql,none=>bind (Hq P t a b) λe=>pure (.w (.one (.bool e)))
  | .neq,none=>bind (Hq P t a b) λe=>pure (.w (.one (.bool (.mkNot e))))
  |_,_=>fail
 | .w (.one (.str a)),.w (.one (.str b))=>QE op a b
 | .w (.one (.bool a)),.w (.one (.bool b))=>match op,P.underlying t with
  | .eql,some .bool=>pure (.w (.one (.bool (.mkIff a b))))
  | .neq,some .bool=>pure (.w (.one (.bool (.mkNot (.mkIff a b)))))
  |_,_=>fail
 |_,_=>fail
def ZG (op:UnOp) (x:V):M V:=
 match op,x with
 | .not,.w (.one (.bool b))=>pure (.w (.one (.bool (.mkNot b))))
 | .xor,.w (.one (.int k a))=>cond (!k.signed&&decide (0<=a.lo)&&decide (a.hi<two k)) (pure (.w (.one (.int k ⟨(I.const (two k-1)).sub a.l,two k-1-a.hi,two k-1-a.lo⟩)))) fail
 | .neg,.w (.one (.int k a))=>bind (s8 k ⟨a.l.smul (-1),-a.hi,-a.lo⟩) λr=>pure (.w (.one (.int k r)))
 |_,_=>fail
def Ue (P:bm) (src dst:aN) (x:V):M V:=
 match P.underlying src,P.underlying dst,x with
 |some _,some .string,.w (.one (.int _ a))=>match a.l.dp with
  |some c=>cond (bw (KA c).size 1000) (pure (.w (.one (.str (.const (dP (KA c).data.toList)))))) fail
  |none=>fail
 |_,_,_=>match P.underlying src,kindOf P dst,x with
 |some _,some k,.w (.one (.int _ a))=>bind (s8 k a) λr=>pure (.w (.one (.int k r)))
 |_,_,_=>fail
def Hh (v:V):Option Int:=match v with| .w (.one (.int _ a))=>a.l.dp|_=>none
def I7 (tm:List V):Option mx->Option (Option Int)
 |none=>some none
 |some x=>match Hh (bM tm x)with|some c=>some (some c)|none=>none
def Y9 (P:bm) (t:aN) (x:V) (lo hi:Option Int):M V:=
 match x,pa P t with
 | .w (.one (.ptr b off)),some (n,e)=>match eA P e with
  |some s=>cond (decide (0<=lo.getD 0)&&decide (lo.getD 0<=hi.getD n)&&decide (hi.getD n<=n)&&decide (lo.getD 0<n)) (pure (.w (.one (.slc b (off+(lo.getD 0).toNat*s) ((hi.getD n).toNat-(lo.getD 0).toNat) (n-(lo.getD 0).toNat))))) fail
  |none=>fail
 | .w (.one (.slc b off len cap)),none=>match gB P t with
  |some e=>match eA P e with
   |some s=>cond (decide (0<=lo.getD 0)&&decide (lo.getD 0<=hi.getD len)&&decide (hi.getD len<=cap)&&decide (lo.getD 0<cap)) (pure (.w (.one (.slc b (off+(lo.getD 0).toNat*s) ((hi.getD len).toNat-(lo.getD 0).toNat) (cap-(lo.getD 0).toNat))))) fail
   |none=>fail
  |none=>fail
 |_,_=>fail
def XU (x:V):M V:=
 match x with
 | .w (.one (.ptr b o))=>pure (.w (.one (.ptr b o)))
 | .w (.one (.lG b o i))=>pure (.w (.one (.lG b o i)))
 | .w (.one (.gptr g o))=>pure (.w (.one (.gptr g o)))
 |_=>fail
def W.cells:W->List A
 | .one a=>[a]
 | .agg l=>l
def k7 (P:bm) (t:aN):Option (List A):=
 match P.info? t with
 |some i=>match i.zero with
  |some z=>tH z.cells.toList
  |none=>none
 |none=>none
def sr (place:Nat->Option (Nat×Nat)):List A->List (Nat×V)->Option (List A)
 |cells,[]=>some cells
 |cells,(i,.w u)::r=>match place i with
  |some (off,size)=>cond (aA u.cells.length size&&bw (off+size) cells.length) (sr place (cells.take off++u.cells++cells.drop (off+size)) r) none
  |none=>none
 |_,_::_=>none
def LF (P:bm) (t:aN) (parts:List (Nat×V)):Option (List A):=
 match k7 P t,P.underlying t with
 |some z,some (.array _ e)=>match eA P e with
  |some s=>sr (λi=>some (i*s,s)) z parts
  |none=>none
 |some z,some (.struct fields)=>match fields.toList.mapM (λf=>(P.info? f.type).map λi=>(f.offset,i.size))with
  |some places=>sr (places.toArray[·]?) z parts
  |none=>none
 |_,_=>none
noncomputable def PW (P:bm) (cal:eg) (gl:dO) (bl:List ar) (tm:List V) (o:Oper):M V:=
 match o.op with
 | .move x| .assign x=>pure (bM tm x)
 | .load t x=>match bM tm x with
  | .w (.one (.lG b off aL))=>Qo P bl t b off aL
  | .w (.one (.An g off aL))=>Qn P gl t g off aL
  | .w (.one p)=>Pg P bl gl t p
  |_=>fail
 | .nilCheck x=>XU (bM tm x)
 | .pick c x y=>match bM tm c with
  | .w (.one (.bool (.lit v)))=>pure (cond v (bM tm x) (bM tm y))
  |_=>fail
 | .binOp op t x y _=>TP P op t (bM tm x) (bM tm y)
 | .unOp op _ x=>ZG op (bM tm x)
 | .convert s d x=>Ue P s d (bM tm x)
 | .indexAddr t x aL=>match bM tm aL with
  | .w (.one (.int _ i))=>ON P t (bM tm x) i
  |_=>fail
 | .index t x aL=>match bM tm x with
  | .w (.one (.str s))=>match P.underlying t,od (bM tm aL)with
   |some .string,some i=>Zj s i
   |_,_=>fail
  |_=>match bM tm x,Hh (bM tm aL),pa P t with
   | .w (.agg l),some i,some (len,e)=>match eA P e with
    |some s=>cond (decide (0<=i)&&decide (i<len)) (Je P e l (i.toNat*s)) fail
    |none=>fail
   |_,_,_=>fail
 | .fieldAddr s x f=>match bM tm x,Dz P s f with
  | .w (.one (.ptr b off)),some fd=>match eA P fd.type with
   |some (_+1)=>pure (.w (.one (.ptr b (off+fd.offset))))
   |_=>fail
  |_,_=>fail
 | .field s x f=>match bM tm x,Dz P s f with
  | .w (.agg l),some fd=>Je P fd.type l fd.offset
  |_,_=>fail
 | .extract x i=>match bM tm x with
  | .fq l=>match l[i]? with|some u=>pure (.w u)|none=>fail
  |_=>fail
 | .slice t x lo hi none=>match bM tm x,P.underlying t with
  | .w (.one (.str s)),some .string=>QF tm s lo hi
  |_,_=>match I7 tm lo,I7 tm hi with
   |some l,some h=>Y9 P t (bM tm x) l h
   |_,_=>fail
 | .call c=>match c.callee with
  | .value (.func f)=>match cal f with
   |some g=>g bl (c.args.toList.map (bM tm))
   |none=>fail
  | .builtin .len=>match c.args.toList,c.argTypes.toList with
   |[x],[t]=>match bM tm x,P.underlying t with
    | .w (.one (.str s)),some .string=>Zk s
    |_,_=>match bM tm x,gB P t with
     | .w (.one (.slc _ _ len _)),some _=>pure (.w (.one (.int .i64 (.const len))))
     | .mT _ len _,some _=>pure (.w (.one (.int .i64 (.const len))))
     |_,_=>fail
   |_,_=>fail
  |_=>fail
 | .makeFunc (.func f) first gY=>match first.toList,uH (gY.toList.map (bM tm))with
  |[],some l=>pure (.nm f l)
  |_,_=>fail
 | .build t parts=>match LF P t (parts.toList.map λp=>(p.1,bM tm p.2))with
  |some l=>pure (.w (.agg l))
  |none=>fail
 | .sliceToArrayPointer t x=>match bM tm x,pa P t with
  | .mT b len _,some (k,_)=>cond (bw k len) (pure (.w (.one (.ptr b 0)))) fail
  | .w (.one (.slc b off len _)),some (k,_)=>cond (bw k len) (pure (.w (.one (.ptr b off)))) fail
  |_,_=>fail
 |_=>fail
section
variable {S:Nat->List Int->List Int->Prop} {L:V->Env->Prop} {n:Nat} {ρ:Env} {m:Nat->Nat} {bl:List ar} {gl:dO} {w0:dm} {P:bm} {tm:List V} {a:Act}
def ka (w0:dm) (m:Nat->Nat) (bl:List ar) (n:Nat) (ρ:Env) (P:bm) (o:Oper) (a:Act) (ad:Env) (n':Nat) (v:V):Prop:=
 v.ok n' bl.length ad/\∃val,v.rel ad m val/\∀w,Mem w0 ρ m bl w->zL P o a w val
theorem ka.of_run {o:Oper} {s:Sem az} {ad:Env} {n':Nat} {v:V} (he:execOp a.eval o=(do pure (ju (<-s)))) (h:kb w0 m bl n ρ (λw=>s.run P w) ad n' v):ka w0 m bl n ρ P o a ad n' v:=by
 obtain⟨h1,val,h2,h3⟩:=h
 exact⟨h1,val,h2,λw hw=> .inl (by rw[he];simp[h3 w hw])⟩
theorem W.Hc {n nb:Nat} {ρ:Env} {m:Nat->Nat} (u:W) (hu:u.ok n nb ρ):(u.den ρ m).cells=(u.cells.map (A.den ρ m)).toArray:=by
 cases u with
 |one a=>
  have:=A.I2 (m:=m) hu
  simp only[W.den,W.cells,cr,dY]
  generalize A.den ρ m a=v at*
  cases v<;>first|rfl|simp[Value.oneCell']at this
 |agg l=>simp[W.den,W.cells,Value.cells]
theorem W.z8 {n nb:Nat} {ρ:Env} {u:W} (hu:u.ok n nb ρ):∀a∈u.cells,A.ok n nb ρ a:=by
 cases u with
 |one a=>intro x hx;simp[W.cells]at hx;subst hx;exact hu
 |agg l=>exact hu
def GG (n nb:Nat) (ρ:Env) (m:Nat->Nat):List (Nat×V)->List (Nat×az)->Prop
 |[],[]=>True
 |p::r,q::s=>(p.1=q.1/\V.ok n nb ρ p.2/\V.rel ρ m p.2 q.2)/\GG n nb ρ m r s
 |_,_=>False
theorem UX (off:Nat):∀(src:List az) (dst:Array az) (k:Nat),off+k+src.length<=dst.size->
 ((src.zipIdx k).foldl (λcs (c,j)=>cs.setIfInBounds (off+j) c) dst)=(dst.toList.take (off+k)++src++dst.toList.drop (off+k+src.length)).toArray
 |[],dst,k,h=>by simp
 |c::src,dst,k,h=>by
  simp only[dv]at h
  rw[List.zipIdx_cons,List.foldl_cons,UX off src _ (k+1) (by simp;omega)]
  congr 1
  simp only[Array.toList_setIfInBounds,dv]
  have h1:off+k<dst.toList.length:=by simp;omega
  rw[List.take_set,show off+(k+1)=off+k+1 by omega,List.drop_set_of_lt (by omega),List.take_add_one,jt h1]
  rw[show off+k+1+src.length=off+k+(src.length+1) by omega]
  simp only[Option.toList_some]
  rw[List.set_append_right _ _ (by simp;omega)]
  have hm:min (off+k) dst.size=off+k:=w8 (by omega)
  simp[hm]
theorem Hu {n nb:Nat} {ρ:Env} {m:Nat->Nat} {place:Nat->Option (Nat×Nat)}:∀{parts:List (Nat×V)} {vals:List (Nat×az)} {cells l:List A},sr place cells parts=some l->(∀a∈cells,A.ok n nb ρ a)->
 GG n nb ρ m parts vals->(∀a∈l,A.ok n nb ρ a)/\aan place (cells.map (A.den ρ m)).toArray vals=some (l.map (A.den ρ m)).toArray
 |[],[],cells,l,h,hc,_=>by simp[sr]at h;subst h;exact⟨hc,rfl⟩
 |(i,.w u)::r,(ys,x)::s,cells,l,h,hc,⟨⟨e1,e2,bt⟩,hr⟩=>by
  simp only at e1;subst e1
  simp only[V.rel]at bt
  have bt:x=u.den ρ m:=bt
  subst bt
  simp only[sr]at h
  cases hp:place i with
  |none=>simp[hp]at h
  |some q=>
   obtain⟨off,size⟩:=q
   simp only[hp]at h
   cases hq:(aA u.cells.length size&&bw (off+size) cells.length)with
   |false=>simp[hq]at h
   |true=>
    simp only[hq,cond_true]at h
    simp only[aK]at hq
    have bo:=bk hq.1
    have bI:=eb hq.2
    have pt:=W.Hc (m:=m) u e2
    obtain⟨g1,g2⟩:=Hu (m:=m) h (λa ha=>by
     rcases List.mem_append.1 ha with ha|ha
     ·rcases List.mem_append.1 ha with ha|ha
      ·exact hc a (jM ha)
      ·exact W.z8 e2 a ha
     ·exact hc a (nd ha)) hr
    refine⟨g1,?_⟩
    simp only[aan,hp,pt,List.size_toArray,j6,bo]
    rw[if_neg (by simp;omega)]
    rw[<-g2]
    congr 1
    have:=UX off (u.cells.map (A.den ρ m)) (cells.map (A.den ρ m)).toArray 0 (by simp;omega)
    simp only[ld]at this
    rw[<-Array.foldl_toList]
    simp only[Array.toList_zipIdx]
    rw[this]
    simp[zw,zx,bo]
 |(_,.fq _)::_,_,_,_,h,_,_=>by simp[sr]at h
 |(_,.any)::_,_,_,_,h,_,_=>by simp[sr]at h
 |[],_::_,_,_,_,_,hr=>hr.elim
 |(_,.w _)::_,[],_,_,_,_,hr=>hr.elim
theorem acW {n nb:Nat} {ρ:Env} {m:Nat->Nat} {t:aN} {parts:List (Nat×V)} {vals:List (Nat×az)} {l:List A} (h:LF P t parts=some l)
 (hr:GG n nb ρ m parts vals):(∀a∈l,A.ok n nb ρ a)/\P.built t vals=some (l.map (A.den ρ m)).toArray:=by
 unfold LF at h
 unfold Program.built
 cases hz:k7 P t with
 |none=>simp[hz]at h
 |some z=>
  unfold k7 at hz
  cases hi:P.info? t with
  |none=>simp[hi]at hz
  |some it=>
   simp only[hi]at hz
   cases hz0:it.zero with
   |none=>simp[hz0]at hz
   |some z0=>
    simp only[hz0]at hz
    have hzs:=tI hz n nb ρ m
    have hz1:z0.cells=(z.map (A.den ρ m)).toArray:=by rw[hzs.2]
    cases hu:P.underlying t with
    |none=>simp[k7,hi,hz0,hz,hu]at h
    |some d=>
     cases d<;>try(simp[k7,hi,hz0,hz,hu]at h;done)
     case array len e=>
      simp only[k7,hi,hz0,hz,hu,eA]at h
      cases NJ:P.info? e with
      |none=>simp[NJ]at h
      |some ax0=>
       simp only[NJ]at h
       simp only[hz0,NJ,hz1]
       exact Hu h hzs.1 hr
     case struct fields=>
      simp only[k7,hi,hz0,hz,hu]at h
      cases hp:fields.toList.mapM (λf=>(P.info? f.type).map λi=>(f.offset,i.size))with
      |none=>simp[hp]at h
      |some places=>
       simp only[hp]at h
       simp only[hz0,hp,hz1]
       exact Hu h hzs.1 hr
theorem Yk {t:aN} {l:List A} {off:Nat} (hl:∀x∈l,A.ok n bl.length ρ x):aj S L (Je P t l off) n ρ (kb w0 m bl n ρ λw=>(part t (l.map (A.den ρ m)).toArray off).run P w):=by
 unfold Je
 cases h1:hL P t with
 |none=>exact aj.fail
 |some b=>
  cases b with
  |true=>
   cases h2:eA P t with
   |none=>exact aj.fail
   |some k=>
    refine aj.pure ⟨λx hx=>hl x (nd (jM hx)),_,rfl,λw _=>?_⟩
    simp[part,ow h1,gO h2,W.den,zw,zx,avm]
    try congr 1
  |false=>
   cases h3:l[off]? with
   |none=>exact aj.fail
   |some x=>
    refine aj.pure ⟨hl x (dK h3),_,rfl,λw _=>?_⟩
    simp[part,ow h1,h3,W.den]
theorem qX {t:aN} {len:Nat} {e:aN} (h:pa P t=some (len,e)):P.underlying t=some (.array len e):=by
 unfold pa at h
 cases hu:P.underlying t with
 |none=>simp[hu]at h
 |some d=>cases d<;>simp[hu]at h<;>simp[h]
theorem fw {t e:aN} (h:gB P t=some e):P.underlying t=some (.slice e):=by
 unfold gB at h
 cases hu:P.underlying t with
 |none=>simp[hu]at h
 |some d=>cases d<;>simp[hu]at h<;>simp[h]
theorem O1 {t:aN} {k:cS} (h:kindOf P t=some k):P.underlying t=some (.int k):=by
 unfold kindOf at h
 cases hu:P.underlying t with
 |none=>simp[hu]at h
 |some d=>cases d<;>simp[hu]at h<;>simp[h]
theorem Ms {s:aN} {f:Nat} {fd:Field} (h:Dz P s f=some fd):∃dE,P.underlying s=some (.struct dE)/\dE[f]?=some fd:=by
 unfold Dz at h
 cases hu:P.underlying s with
 |none=>simp[hu]at h
 |some d=>cases d<;>simp[hu]at h<;>exact⟨_,rfl,h⟩
theorem ajR {t:aN} {x:V} {k:cS} {aL:bj} {X:az} (hx:x.ok n bl.length ρ) (bD:x.rel ρ m X) (hi:aL.ok n ρ):
 aj S L (ON P t x aL) n ρ (kb w0 m bl n ρ λw=>(pX t X (.int k (aL.l.den ρ))).run P w):=by
 unfold ON
 split
 ·rename_i b off
  simp only[V.rel,W.den,A.den]at bD;subst bD
  cases h1:pa P t with
  |none=>exact aj.fail
  |some q=>
   obtain⟨len,e⟩:=q
   cases h2:eA P e with
   |none=>simp only[h2];exact aj.fail
   |some s=>
    simp only[h2]
    cases h3:aL.l.dp with
    |some i=>
     refine dA λhc=>aj.pure ⟨hx,_,rfl,λw _=>?_⟩
     simp only[aK,decide_eq_true_eq]at hc
     simp[pX,asIntOf,ef (qX h1),kB,I.gH h3,hc,gO h2,gW,W.den,A.den]
    |none=>
     refine dA λhc=>aj.pure ⟨?_,_,rfl,λw _=>?_⟩
     ·simp only[aK,decide_eq_true_eq]at hc
      exact⟨hx,hi,hc.1.2⟩
     ·simp only[aK,decide_eq_true_eq]at hc
      have hs:=bk hc.1.1
      subst hs
      have b1:=hi.2
      have c1:0<=aL.l.den ρ:=by omega
      have c2:aL.l.den ρ<len:=by omega
      simp[pX,asIntOf,ef (qX h1),kB,c1,c2,gO h2,gW,W.den,A.den]
 ·rename_i g off
  simp only[V.rel,W.den,A.den]at bD;subst bD
  cases h1:pa P t with
  |none=>exact aj.fail
  |some q=>
   obtain⟨len,e⟩:=q
   cases h2:eA P e with
   |none=>simp only[h2];exact aj.fail
   |some s=>
    simp only[h2]
    cases h3:aL.l.dp with
    |some i=>
     refine dA λhc=>aj.pure ⟨trivial,_,rfl,λw _=>?_⟩
     simp only[aK,decide_eq_true_eq]at hc
     simp[pX,asIntOf,ef (qX h1),kB,I.gH h3,hc,gO h2,gW,W.den,A.den]
    |none=>
     refine dA λhc=>ga λhq=>aj.pure ⟨?_,_,rfl,λw _=>?_⟩
     ·simp only[cr,dY,I.aM,aa,Dj]at hq
      exact⟨⟨hi.1,by show(0:Int)<=_;exact hq.1,by show _<=((len:Int)-1);have:=hq.2;simp only;omega⟩,cn _⟩
     ·simp only[cr,dY,I.aM,aa,Dj]at hq
      have hs:=bk hc
      subst hs
      simp[pX,asIntOf,ef (qX h1),kB,hq.1,hq.2,gO h2,gW,W.den,A.den]
 ·rename_i b off len cap
  simp only[V.rel,W.den,A.den]at bD;subst bD
  cases h1:gB P t with
  |none=>exact aj.fail
  |some e=>
   cases h2:eA P e with
   |none=>simp only[h2];exact aj.fail
   |some s=>
    simp only[h2]
    cases h3:aL.l.dp with
    |some i=>
     refine dA λhc=>aj.pure ⟨hx,_,rfl,λw _=>?_⟩
     simp only[aK,decide_eq_true_eq]at hc
     simp[pX,asIntOf,ef (fw h1),kB,I.gH h3,hc,gO h2,gW,W.den,A.den]
    |none=>
     refine dA λhc=>aj.pure ⟨?_,_,rfl,λw _=>?_⟩
     ·simp only[aK,decide_eq_true_eq]at hc
      exact⟨hx,hi,hc.1.2⟩
     ·simp only[aK,decide_eq_true_eq]at hc
      have hs:=bk hc.1.1
      subst hs
      have b1:=hi.2
      have c1:0<=aL.l.den ρ:=by omega
      have c2:aL.l.den ρ<len:=by omega
      simp[pX,asIntOf,ef (fw h1),kB,c1,c2,gO h2,gW,W.den,A.den]
 ·rename_i b len lo
  obtain⟨c,_,bD⟩:=bD
  subst bD
  cases h1:gB P t with
  |none=>exact aj.fail
  |some e=>
   cases h2:eA P e with
   |none=>simp only[h2];exact aj.fail
   |some s=>
    simp only[h2]
    cases h3:aL.l.dp with
    |some i=>
     refine dA λhc=>aj.pure ⟨hx,_,rfl,λw _=>?_⟩
     simp only[aK,decide_eq_true_eq]at hc
     simp[pX,asIntOf,ef (fw h1),kB,I.gH h3,hc,gO h2,gW,W.den,A.den]
    |none=>exact aj.fail
 ·exact aj.fail
theorem anJ {vs:List V}:∀{l:List A} {xs:List az},uH vs=some l->(∀v∈vs,V.ok n bl.length ρ v)->ec ρ m vs xs->(∀a∈l,A.ok n bl.length ρ a)/\xs=l.map (A.den ρ m):=by
 induction vs with
 |nil=>
  intro l xs h _ hr
  simp[uH]at h;subst h
  cases xs with
  |nil=>exact⟨λ_ h=>by simp at h,rfl⟩
  |cons _ _=>exact hr.elim
 |cons v r ih=>
  intro l xs h aZ hr
  cases xs with
  |nil=>cases v<;>exact hr.elim
  |cons x s=>
   cases v with
   |w y=>
    cases y with
    |agg q=>simp[uH]at h
    |one a=>
     cases h1:uH r with
     |none=>simp[uH,h1]at h
     |some bp=>
      simp only[uH,h1,aG]at h
      subst h
      obtain⟨e1,e2⟩:=ih h1 (λv hv=>aZ v (cR _ hv)) hr.2
      have h0:x=a.den ρ m:=hr.1
      exact⟨λb hb=>by rcases List.mem_cons.1 hb with rfl|hb;exact aZ (.w (.one b)) (by simp);exact e1 b hb,by rw[h0,e2];rfl⟩
   |_=>simp[uH]at h
theorem aeh {e:aN} {k:cS} (he:P.underlying e=some (.int k)) (d:Nat) (xs e7:Array az) (w:ai):∀(l bp:List A) (i:Nat) (b:aS),vy l bp=some b->(∀x∈l,A.ok n bl.length ρ x)->(∀x∈bp,A.ok n bl.length ρ x)->
 xs.toList.drop i=l.map (A.den ρ m)->e7.toList.drop i=bp.map (A.den ρ m)->b.aW n/\(Op.eqItems (d+1) e 1 xs e7 (List.range' i l.length)).run P w= .ok (b.den ρ) w:=by
 intro l
 induction l with
 |nil=>
  intro bp i b h _ _ _ _
  cases bp with
  |nil=>simp[vy]at h;subst h;exact⟨trivial,by simp[Op.eqItems,aS.den]⟩
  |cons y r'=>simp[vy]at h
 |cons x r ih=>
  intro bp i b h hl sC hx hy
  cases bp with
  |nil=>cases x<;>simp[vy]at h
  |cons y r'=>
   cases x<;>cases y<;>simp only[vy]at h<;>try(cases h;done)
   rename_i k1 x k2 y
   by_cases hk:k1=k2
   ·subst hk
    simp only[decide_true,cond_true]at h
    cases hr:vy r r' with
    |none=>simp[hr]at h
    |some b5=>
     simp only[hr,aG]at h
     subst h
     have ai2:x.ok n ρ:=hl (.int k1 x) (by simp)
     have ai3:y.ok n ρ:=sC (.int k1 y) (by simp)
     have e1:=aS.qa ai2 ai3
     have DK:xs[i]?=some (.int k1 (x.l.den ρ)):=by
      have:=congrArg CJ hx
      simpa [A.den]using this
     have DL:e7[i]?=some (.int k1 (y.l.den ρ)):=by
      have:=congrArg CJ hy
      simpa [A.den]using this
     have xE:xs.toList.drop (i+1)=r.map (A.den ρ m):=by
      have:=congrArg F9 hx
      simpa using this
     have aE:e7.toList.drop (i+1)=r'.map (A.den ρ m):=by
      have:=congrArg F9 hy
      simpa using this
     obtain⟨s2,r2⟩:=ih r' (i+1) b5 hr (λz hz=>hl z (cR _ hz)) (λz hz=>sC z (cR _ hz)) xE aE
     refine⟨aS.JD e1.2 s2,?_⟩
     simp only[dv,List.range'_succ,Op.eqItems,fV]
     have yS:(part e xs (i*1)).run P w= .ok (.int k1 (x.l.den ρ)) w:=by simp[part,isAgg,ef he,DK]
     have yT:(part e e7 (i*1)).run P w= .ok (.int k1 (y.l.den ρ)) w:=by simp[part,isAgg,ef he,DL]
     simp only[yS,yT,fW,run_equalIn_int w d e k1 k _ _ he,aS.Hl,e1.1]
     by_cases hq:x.l.den ρ=y.l.den ρ
     ·simp[hq,r2]
     ·simp[hq]
   ·simp[hk]at h
theorem Uz {t:aN} {x y:List A} {b:aS} (h:Mn P t x y=some b) (hx:∀z∈x,A.ok n bl.length ρ z) (hy:∀z∈y,A.ok n bl.length ρ z):
 b.aW n/\P.eqGuardType P.depth t=false/\∀w,(KB 10000 t (.agg (x.map (A.den ρ m)).toArray) (.agg (y.map (A.den ρ m)).toArray)).run P w= .ok (b.den ρ) w:=by
 unfold Mn at h
 cases h1:pa P t with
 |none=>simp[h1]at h
 |some q=>
  obtain⟨len,e⟩:=q
  simp only[h1]at h
  cases h2:kindOf P e with
  |none=>simp[h2]at h
  |some k=>
   cases h3:eA P e with
   |none=>simp[h2,h3]at h
   |some s=>
    match s,h3 with
    |0,h3=>simp[h2,h3]at h
    |s+2,h3=>simp[h2,h3]at h
    |1,h3=>
     simp only[h2,h3]at h
     cases hc:(aA x.length len&&aA y.length len&& !P.eqGuardType P.depth t)with
     |false=>simp[hc]at h
     |true=>
      simp only[hc,cond_true]at h
      simp only[aK,js]at hc
      have hl:=bk hc.1.1
      have aio:∃i,P.info? e=some i/\P.cellsOf e=1:=by
       unfold eA at h3
       cases hq:P.info? e with
       |none=>simp[hq]at h3
       |some i=>simp[hq]at h3;exact⟨i,rfl,by simp[Program.cellsOf,hq,h3]⟩
      obtain⟨i,rl,cD⟩:=aio
      have hsp:=λw=>aeh (P:=P) (bl:=bl) (n:=n) (ρ:=ρ) (m:=m) (O1 h2) 9998 (x.map (A.den ρ m)).toArray (y.map (A.den ρ m)).toArray w x y 0 b h hx hy (by simp) (by simp)
      refine⟨(hsp default).1,hc.2,λw=>?_⟩
      rw[show(10000:Nat)=9999+1 from rfl,run_equalIn_array w 9999 _ _ (qX h1) rl,cD,List.range_eq_range',<-hl]
      exact(hsp w).2
theorem xx (l:List UInt8):(bd l).toList=l:=azf l
theorem pc (l:List UInt8):(bd l).size=l.length:=by simp[bd,azg]
theorem TO (l bp:List UInt8):(l==bp)=decide ((if l=bp then(1:Int)else 0)=1):=by
 by_cases h:l=bp
 ·subst h;simp
 ·rw[if_neg h];simp[h]
theorem C9 (p:Prop) [Decidable p]:(0:Int)<=(if p then 1 else 0)/\(if p then(1:Int)else 0)<=1:=by split<;>decide
theorem Xt (b:Bool):b=decide ((if b=true then(1:Int)else 0)=1):=by cases b<;>rfl
theorem aqI {op:BinOp} {t:aN} {x y:mx} {p q:I} (hp:(A.str p).ok n bl.length ρ) (hq:(A.str q).ok n bl.length ρ):
 aj S L (QE op p q) n ρ (kb w0 m bl n ρ λw=>(do eqGuard op t x y (.string (bd (U (p.den ρ)))) (.string (bd (U (q.den ρ))));binOp op t (.string (bd (U (p.den ρ)))) (.string (bd (U (q.den ρ)))):Sem az).run P w):=by
 have b1:=C9 (U (p.den ρ)=U (q.den ρ))
 have b2:=C9 (dj (U (p.den ρ)) (U (q.den ρ))=true)
 unfold QE
 split
 ·refine ga λhc=>?_
  have hc:(U (p.den ρ)).length+(U (q.den ρ)).length<=fQ:=hc
  have hl:(U (p.den ρ)++U (q.den ρ)).length<=fQ:=by simpa using hc
  refine(fl (op:=3) (args:=[p,q]) (p9 _) (oG hl)).bind λax n1 l _ _ ⟨h1,h2⟩=>?_
  have h2:l.den ax=dP (U (p.den ρ)++U (q.den ρ)):=h2
  refine aj.pure ⟨⟨h1,by rw[h2];exact p9 _,by rw[h2];exact oG hl⟩,_,rfl,λw _=>?_⟩
  have hr:=run_string_add_sum (P:=P) w (bd (U (p.den ρ))) (bd (U (q.den ρ))) (by rw[pc,pc];unfold fQ at hc;omega)
  simp only[eqGuard,binOp_string_add,W.den,A.den,h2,fS]
  simp[hr]
  exact azh _ _
 ·refine(fl (op:=4) (args:=[p,q]) b1.1 b1.2).bind λax n1 l _ _ ⟨h1,h2⟩=>?_
  have h2:l.den ax=if U (p.den ρ)=U (q.den ρ)then 1 else 0:=h2
  have e:=aS.qa (n:=n1) (ρ:=ax) (a:=⟨l,0,1⟩) (b:= .const 1) ⟨h1,by simp only[h2];exact b1.1,by simp only[h2];exact b1.2⟩ (bj.lX _ _ _)
  refine aj.pure ⟨e.2,_,rfl,λw _=>?_⟩
  simp only[W.den,A.den,binOp_string_eql,xx]
  rw[e.1]
  simp only[h2,bj.const,I.aM,TO]
  simp[eqGuard]
 ·refine(fl (op:=4) (args:=[p,q]) b1.1 b1.2).bind λax n1 l _ _ ⟨h1,h2⟩=>?_
  have h2:l.den ax=if U (p.den ρ)=U (q.den ρ)then 1 else 0:=h2
  have e:=aS.qa (n:=n1) (ρ:=ax) (a:=⟨l,0,1⟩) (b:= .const 1) ⟨h1,by simp only[h2];exact b1.1,by simp only[h2];exact b1.2⟩ (bj.lX _ _ _)
  refine aj.pure ⟨aS.s0 e.2,_,rfl,λw _=>?_⟩
  simp only[W.den,A.den,aS.si,binOp_string_neq,xx]
  rw[e.1]
  simp only[h2,bj.const,I.aM,TO]
  simp[eqGuard]
 ·refine(fl (op:=5) (args:=[p,q]) b2.1 b2.2).bind λax n1 l _ _ ⟨h1,h2⟩=>?_
  have h2:l.den ax=if dj (U (p.den ρ)) (U (q.den ρ))=true then 1 else 0:=h2
  have e:=aS.qa (n:=n1) (ρ:=ax) (a:=⟨l,0,1⟩) (b:= .const 1) ⟨h1,by simp only[h2];exact b2.1,by simp only[h2];exact b2.2⟩ (bj.lX _ _ _)
  refine aj.pure ⟨e.2,_,rfl,λw _=>?_⟩
  simp only[W.den,A.den,binOp_string_lss,xx]
  rw[e.1]
  simp only[h2,bj.const,I.aM]
  rw[<-Xt]
  simp[eqGuard]
 ·refine(fl (op:=5) (args:=[p,q]) b2.1 b2.2).bind λax n1 l _ _ ⟨h1,h2⟩=>?_
  have h2:l.den ax=if dj (U (p.den ρ)) (U (q.den ρ))=true then 1 else 0:=h2
  have e:=aS.qa (n:=n1) (ρ:=ax) (a:=⟨l,0,1⟩) (b:= .const 1) ⟨h1,by simp only[h2];exact b2.1,by simp only[h2];exact b2.2⟩ (bj.lX _ _ _)
  refine aj.pure ⟨aS.s0 e.2,_,rfl,λw _=>?_⟩
  simp only[W.den,A.den,aS.si,binOp_string_geq,xx]
  rw[e.1]
  simp only[h2,bj.const,I.aM]
  rw[<-Xt]
  simp[eqGuard]
 ·exact aj.fail
theorem aqK {t ty:aN} {p:I} (hu:P.underlying t=some .string) (hp:(A.str p).ok n bl.length ρ):
 aj S L (Zk p) n ρ (kb w0 m bl n ρ λw=>(CK #[t] ty #[.string (bd (U (p.den ρ)))]).run P w):=by
 have hl:=tu hp.2.2
 unfold fQ at hl
 refine(fl (op:=0) (args:=[p]) (w5 _) (by show((U (p.den ρ)).length:Int)<=_;omega)).bind λax n1 l _ _ ⟨h1,h2⟩=>?_
 have h2:l.den ax=((U (p.den ρ)).length:Int):=h2
 refine aj.pure ⟨⟨h1,by simp only[h2];omega,by simp only[h2];omega⟩,_,rfl,λw _=>?_⟩
 simp[CK,ef hu,goInt,W.den,A.den,h2,pc]
theorem aqJ {t:aN} {k:cS} {p i:I} (hu:P.underlying t=some .string) (hp:(A.str p).ok n bl.length ρ):
 aj S L (Zj p i) n ρ (kb w0 m bl n ρ λw=>(RH t (.string (bd (U (p.den ρ)))) (.int k (i.den ρ))).run P w):=by
 refine ga λhc=>?_
 have hc:0<=i.den ρ/\i.den ρ<((U (p.den ρ)).length:Int):=hc
 have hlt:(i.den ρ).toNat<(U (p.den ρ)).length:=by omega
 have hb:=((U (p.den ρ)).getD (i.den ρ).toNat 0).toNat_lt
 refine(fl (op:=1) (args:=[p,i]) (w5 _) (by show(((U (p.den ρ)).getD (i.den ρ).toNat 0).toNat:Int)<=_;omega)).bind λax n1 l _ _ ⟨h1,h2⟩=>?_
 have h2:l.den ax=(((U (p.den ρ)).getD (i.den ρ).toNat 0).toNat:Int):=h2
 refine aj.pure ⟨⟨h1,by simp only[h2];omega,by simp only[h2];omega⟩,_,rfl,λw _=>?_⟩
 have e:(bd (U (p.den ρ)))[(i.den ρ).toNat]?=some ((U (p.den ρ)).getD (i.den ρ).toNat 0):=by
  rw[azi _ _ (by rw[pc];exact hlt)]
  simp[bd,af,hlt]
  rfl
 simp[RH,asIntOf,ef hu,hc.1,e,W.den,A.den,h2]
theorem aqM {p a b:I} (hp:(A.str p).ok n bl.length ρ):aj S L (JN p a b) n ρ λad n' v=>v.ok n' bl.length ad/\v.rel ad m (.string ((bd (U (p.den ρ))).extract (a.den ρ).toNat (b.den ρ).toNat))/\0<=a.den ρ/\a.den ρ<=b.den ρ/\b.den ρ<=((U (p.den ρ)).length:Int):=by
 refine ga λhc=>?_
 have hc:0<=a.den ρ/\a.den ρ<=b.den ρ/\b.den ρ<=((U (p.den ρ)).length:Int):=hc
 have hl:=tu hp.2.2
 have hl2:(((U (p.den ρ)).drop (a.den ρ).toNat).take ((b.den ρ).toNat-(a.den ρ).toNat)).length<=fQ:=by simp;omega
 refine(fl (op:=2) (args:=[p,a,b]) (p9 _) (oG hl2)).bind λax n1 l _ _ ⟨h1,h2⟩=>?_
 have h2:l.den ax=dP (((U (p.den ρ)).drop (a.den ρ).toNat).take ((b.den ρ).toNat-(a.den ρ).toNat)):=h2
 refine aj.pure ⟨⟨h1,by rw[h2];exact p9 _,by rw[h2];exact oG hl2⟩,?_,hc⟩
 show _=_
 simp only[W.den,A.den,h2,fS]
 congr 1
 exact azj _ _ _
theorem yw {v:V} {l:I} {x:az} (h:od v=some l) (hr:v.rel ρ m x) (aZ:v.ok n bl.length ρ):∃k,x= .int k (l.den ρ)/\l.aW n:=by
 unfold od at h
 split at h
 ·rename_i k a
  simp only[aG]at h;subst h
  exact⟨k,hr,aZ.1⟩
 ·cases h
theorem pO {k:cS} {i:Int} {y:Nat} {tG:BoundsCode} (p1:0<=i) (bq:i<=y) (w:ai):(Ga (.int k i) y tG).run P w= .ok i.toNat w:=by
 simp[Ga,asIntOf,p1,bq]
theorem aqL {t:aN} {p:I} {lo hi:Option mx} (hu:P.underlying t=some .string) (hp:(A.str p).ok n bl.length ρ) (ht:dD n bl.length ρ m tm a.tmps):
 aj S L (QF tm p lo hi) n ρ (kb w0 m bl n ρ λw=>(oY t (.string (bd (U (p.den ρ)))) (lo.map a.eval) (hi.map a.eval) none).run P w):=by
 unfold QF
 split
 ·exact aj.fail
 ·rename_i la AM
  have rn:∃f:Option az,lo.map a.eval=f/\(f=none/\la.den ρ=0∨∃k,f=some (.int k (la.den ρ))):=by
   cases lo with
   |none=>simp only[aG]at AM;subst AM;exact⟨none,rfl,.inl ⟨rfl,I.aM _ _⟩⟩
   |some x=>
    obtain⟨k,hk,_⟩:=yw (m:=m) (bl:=bl) AM (b9 ht x).2 (b9 ht x).1
    exact⟨_,rfl,.inr ⟨k,by rw[<-hk];rfl⟩⟩
  obtain⟨UM,e1,hX⟩:=rn
  have key:∀(lb:I) (ax:Env) (n1:Nat),n<=n1->agree n ρ ax->(hi.map a.eval=none/\lb.den ax=((U (p.den ρ)).length:Int)∨∃k,hi.map a.eval=some (.int k (lb.den ax)))->la.aW n->
   aj S L (JN p la lb) n1 ax (kb w0 m bl n ρ λw=>(oY t (.string (bd (U (p.den ρ)))) (lo.map a.eval) (hi.map a.eval) none).run P w):=λlb ax n1 hn ha ae aji=>by
   have Ig:(A.str p).ok n1 bl.length ax:=hp.ext ha hn (a6 _)
   have ep:p.den ax=p.den ρ:=I.bB ha hp.1
   have Mi:la.den ax=la.den ρ:=I.bB ha aji
   refine(aqM (m:=m) (bl:=bl) (a:=la) (b:=lb) Ig).mono λbx ed v _ _ ⟨bo,bI,b6,dz,jX⟩=>⟨bo,_,bI,λw _=>?_⟩
   rw[ep,Mi]at*
   have n3:(j7 false (bd (U (p.den ρ))).size (bd (U (p.den ρ))).size UM (hi.map a.eval) none).run P w= .ok ((la.den ρ).toNat,(lb.den ax).toNat,(bd (U (p.den ρ))).size) w:=by
    rw[pc]
    rcases hX with⟨rfl,hz⟩|⟨k,rfl⟩<;>rcases ae with⟨h1,h2⟩|⟨k2,h1⟩
    ·rw[h1,hz,h2];simp[j7]
    ·rw[h1,hz];simp[j7,pO (P:=P) (by omega:0<=lb.den ax) jX]
    ·rw[h1,h2];simp[j7,pO (P:=P) (y:=(U (p.den ρ)).length) b6 (by omega)]
    ·rw[h1];simp[j7,pO (P:=P) (by omega:0<=lb.den ax) jX,pO (P:=P) (y:=(lb.den ax).toNat) b6 (by omega)]
   rw[e1]
   simp[oY,RI,ef hu,n3]
  have AN:la.aW n:=by
   cases lo with
   |none=>simp only[aG]at AM;subst AM;exact I.cz _ _
   |some x=>exact(yw (m:=m) (bl:=bl) AM (b9 ht x).2 (b9 ht x).1).choose_spec.2
  cases hi with
  |none=>
   have hl:=tu hp.2.2
   unfold fQ at hl
   exact(fl (op:=0) (args:=[p]) (w5 _) (by show((U (p.den ρ)).length:Int)<=_;omega)).bind λax n1 l hn ha ⟨h1,h2⟩=>key l ax n1 hn ha (.inl ⟨rfl,h2⟩) AN
  |some y=>
   simp only
   cases hy:od (bM tm y)with
   |none=>exact aj.fail
   |some b=>
    obtain⟨k,hk,_⟩:=yw (m:=m) (bl:=bl) hy (b9 ht y).2 (b9 ht y).1
    exact key b ρ n (a6 _) (agree.refl _ _) (.inr ⟨k,by rw[<-hk];rfl⟩) AN
theorem GD {xs:List mx} (h:dD n bl.length ρ m tm a.tmps):ec ρ m (xs.map (bM tm)) (xs.map a.eval):=by
 induction xs with
 |nil=>trivial
 |cons x r ih=>exact⟨(b9 h x).2,ih⟩
theorem Qh {c:Call} {f:cy} (hc:c.callee= .value (.func f)) (o:Oper) (ho:o.op= .call c):execOp a.eval o=callFunc f (c.args.map a.eval):=by
 simp only[execOp,ho,resolve,hc,Act.eval,aao]
 simp[invoke,bind_pure_comp]
theorem Mm {nb:Nat} {m:Nat->Nat}:∀(dE:List Field) (x y:List A) (i n:Nat) (ρ:Env),Ai P i dE=true->(∀a∈x,A.ok n nb ρ a)->(∀a∈y,A.ok n nb ρ a)->
 aj S L (pg P dE x y) n ρ λad n' b=>b.aW n'/\∀(w:ai) (d:Nat) (xs e7:Array az),xs.toList.drop i=x.map (A.den ρ m)->e7.toList.drop i=y.map (A.den ρ m)->(CL (d+1) xs e7 dE).run P w= .ok (b.den ad) w
 |[],[],[],i,n,ρ,_,_,_=>aj.pure ⟨trivial,λw d xs e7 _ _=>by simp[CL,aS.den]⟩
 |f::dE,x::xs,y::e7,i,n,ρ,hf,hx,hy=>by
  cases x with
  |int k a=>
   cases y with
   |int aP b=>
    unfold Ai at hf
    simp only[aK,bne_iff_ne,ne_eq]at hf
    obtain⟨⟨hn,ho⟩,hf⟩:=hf
    have ho:=bk ho
    unfold pg
    split
    ·rename_i k2 hk2
     have hu:=O1 hk2
     refine dA λhk=>?_
     have hk:k=aP:=by simpa using hk
     subst hk
     have Fc:a.ok n ρ:=hx (.int k a) (by simp)
     have ob:b.ok n ρ:=hy (.int k b) (by simp)
     refine(Mm (nb:=nb) (m:=m) dE xs e7 (i+1) n ρ hf (λz hz=>hx z (cR _ hz)) (λz hz=>hy z (cR _ hz))).bind λad n' r pz fm ⟨r1,r2⟩=>aj.pure ?_
     have e1:=aS.qa (Fc.agree fm pz) (ob.agree fm pz)
     refine⟨aS.JD e1.2 r1,λw d me mf EM EN=>?_⟩
     have DK:me[i]?=some (.int k (a.l.den ρ)):=by
      have:=congrArg CJ EM
      simpa [A.den]using this
     have DL:mf[i]?=some (.int k (b.l.den ρ)):=by
      have:=congrArg CJ EN
      simpa [A.den]using this
     have xE:me.toList.drop (i+1)=xs.map (A.den ρ m):=by
      have:=congrArg F9 EM
      simpa using this
     have aE:mf.toList.drop (i+1)=e7.map (A.den ρ m):=by
      have:=congrArg F9 EN
      simpa using this
     have yS:(part f.type me f.offset).run P w= .ok (.int k (a.l.den ρ)) w:=by simp[part,isAgg,ef hu,ho,DK]
     have yT:(part f.type mf f.offset).run P w= .ok (.int k (b.l.den ρ)) w:=by simp[part,isAgg,ef hu,ho,DL]
     have Mi:a.l.den ad=a.l.den ρ:=by
      have:=A.jy (m:=m) (m':=m) (hx (.int k a) (by simp)) fm (λ_ _=>rfl)
      simpa [A.den]using this
     have sn:b.l.den ad=b.l.den ρ:=by
      have:=A.jy (m:=m) (m':=m) (hy (.int k b) (by simp)) fm (λ_ _=>rfl)
      simpa [A.den]using this
     simp only[CL,ne_eq,hn,not_false_eq_true,if_true,fV,yS,yT,fW,run_equalIn_int w d f.type k k2 _ _ hu,aS.Hl,e1.1,Mi,sn]
     by_cases hq:a.l.den ρ=b.l.den ρ
     ·simp[hq,r2 w d me mf xE aE]
     ·simp[hq]
    ·exact aj.fail
   |_=>unfold pg;exact aj.fail
  |str a=>
   cases y with
   |str b=>
    unfold Ai at hf
    simp only[aK,bne_iff_ne,ne_eq]at hf
    obtain⟨⟨hn,ho⟩,hf⟩:=hf
    have ho:=bk ho
    unfold pg
    split
    ·rename_i hu
     have b1:=C9 (U (a.den ρ)=U (b.den ρ))
     refine(fl (op:=4) (args:=[a,b]) b1.1 b1.2).bind λax n1 l e4 xT ⟨h1,h2⟩=>?_
     have h2:l.den ax=if U (a.den ρ)=U (b.den ρ)then 1 else 0:=h2
     have hx1:∀z∈xs,A.ok n1 nb ax z:=λz hz=>(hx z (cR _ hz)).ext xT e4 (a6 _)
     have WT:∀z∈e7,A.ok n1 nb ax z:=λz hz=>(hy z (cR _ hz)).ext xT e4 (a6 _)
     have ol:(⟨l,0,1⟩:bj).ok n1 ax:=⟨h1,by simp only[h2];exact b1.1,by simp only[h2];exact b1.2⟩
     refine(Mm (nb:=nb) (m:=m) dE xs e7 (i+1) n1 ax hf hx1 WT).bind λad n' r pz fm ⟨r1,r2⟩=>aj.pure ?_
     have e1:=aS.qa (n:=n') (ρ:=ad) (a:=⟨l,0,1⟩) (b:= .const 1) (ol.agree fm pz) (bj.lX _ _ _)
     refine⟨aS.JD e1.2 r1,λw d me mf EM EN=>?_⟩
     have DK:me[i]?=some (.string (bd (U (a.den ρ)))):=by
      have:=congrArg CJ EM
      simpa [A.den]using this
     have DL:mf[i]?=some (.string (bd (U (b.den ρ)))):=by
      have:=congrArg CJ EN
      simpa [A.den]using this
     have xE:me.toList.drop (i+1)=xs.map (A.den ax m):=by
      have:=congrArg F9 EM
      rw[gG (g:=A.den ρ m) λz hz=>A.jy (hx z (cR _ hz)) xT (λ_ _=>rfl)]
      simpa using this
     have aE:mf.toList.drop (i+1)=e7.map (A.den ax m):=by
      have:=congrArg F9 EN
      rw[gG (g:=A.den ρ m) λz hz=>A.jy (hy z (cR _ hz)) xT (λ_ _=>rfl)]
      simpa using this
     have yS:(part f.type me f.offset).run P w= .ok (.string (bd (U (a.den ρ)))) w:=by simp[part,isAgg,ef hu,ho,DK]
     have yT:(part f.type mf f.offset).run P w= .ok (.string (bd (U (b.den ρ)))) w:=by simp[part,isAgg,ef hu,ho,DL]
     have el:l.den ad=l.den ax:=I.bB fm h1
     have e2:(aS.mkEq ⟨l,0,1⟩ (.const 1)).den ad=decide (U (a.den ρ)=U (b.den ρ)):=by
      rw[e1.1]
      simp only[bj.const,I.aM,el,h2]
      by_cases hq:U (a.den ρ)=U (b.den ρ)<;>simp[hq]
     simp only[CL,ne_eq,hn,not_false_eq_true,if_true,fV,yS,yT,fW,run_equalIn_string w d f.type _ _ hu,aS.Hl,e2,xx]
     by_cases hq:U (a.den ρ)=U (b.den ρ)
     ·simp[hq,r2 w d me mf xE aE]
     ·simp[hq]
    ·exact aj.fail
   |_=>unfold pg;exact aj.fail
  |_=>unfold pg;exact aj.fail
 |[],_::_,_,_,_,_,_,_,_=>by unfold pg;exact aj.fail
 |[],[],y::_,_,_,_,_,_,_=>by cases y<;>(unfold pg;exact aj.fail)
 |_::_,[],_,_,_,_,_,_,_=>by unfold pg;exact aj.fail
 |_::_,x::_,[],_,_,_,_,_,_=>by cases x<;>(unfold pg;exact aj.fail)
def CZ (P:bm) (t:aN) (l:List az) (v:az):Prop:=(hL P t=some true/\v= .agg l.toArray)∨(hL P t=some false/\l=[v])
theorem Yl {t:aN} {xs:Array az} {o s:Nat} (hs:eA P t=some s) {v:az} (h:CZ P t ((xs.toList.drop o).take s) v) (w:ai):(part t xs o).run P w= .ok v w:=by
 obtain⟨l⟩:=xs
 rcases h with⟨h1,rfl⟩|⟨h1,h2⟩
 ·simp[part,ow h1,gO hs,avm]
 ·have h3:(⟨l⟩:Array az)[o]?=some v:=by
   have h4:=congrArg CJ h2
   rw[<-Gb]
   cases s with
   |zero=>simp at h2
   |succ s=>simpa [List.head?_take,List.head?_drop]using h4
  simp[part,ow h1,h3]
theorem Ux {nb:Nat} {m:Nat->Nat} {g:aN->List A->List A->M aS} {D:Nat}
 (hg:∀(t:aN) (x y:List A) (n:Nat) (ρ:Env),(∀a∈x,A.ok n nb ρ a)->(∀a∈y,A.ok n nb ρ a)->aj S L (g t x y) n ρ λad n' b=>b.aW n'/\∃me mf,CZ P t (x.map (A.den ρ m)) me/\CZ P t (y.map (A.den ρ m)) mf/\∀w,(KB D t me mf).run P w= .ok (b.den ad) w):
 ∀(dE:List Field) (x y:List A) (o n:Nat) (ρ:Env),(∀a∈x,A.ok n nb ρ a)->(∀a∈y,A.ok n nb ρ a)->
 aj S L (Hp P g o dE x y) n ρ λad n' b=>b.aW n'/\∀(w:ai) (xs e7:Array az),xs.toList.drop o=x.map (A.den ρ m)->e7.toList.drop o=y.map (A.den ρ m)->(CL D xs e7 dE).run P w= .ok (b.den ad) w
 |[],x,y,o,n,ρ,_,_=>aj.pure ⟨trivial,λw xs e7 _ _=>by simp[CL,aS.den]⟩
 |f::dE,x,y,o,n,ρ,hx,hy=>by
  unfold Hp
  cases hs:eA P f.type with
  |none=>exact aj.fail
  |some s=>
   simp only
   refine dA λhc=>?_
   simp only[aK,bne_iff_ne,ne_eq]at hc
   obtain⟨hn,ho⟩:=hc
   have ho:=bk ho
   refine(hg f.type (x.take s) (y.take s) n ρ (λa ha=>hx a (jM ha)) (λa ha=>hy a (jM ha))).bind λax n1 b e4 dF ⟨b1,me,mf,b2,b3,b4⟩=>?_
   refine(Ux hg dE (x.drop s) (y.drop s) (o+s) n1 ax (λa ha=>(hx a (nd ha)).ext dF e4 (a6 _)) (λa ha=>(hy a (nd ha)).ext dF e4 (a6 _))).bind λbx ed r er dk ⟨r1,r2⟩=>aj.pure ⟨aS.JD (b1.mono er) r1,λw xs e7 eM yq=>?_⟩
   have yS:(part f.type xs f.offset).run P w= .ok me w:=Yl hs (by rw[ho,eM,<-zw];exact b2) w
   have yT:(part f.type e7 f.offset).run P w= .ok mf w:=Yl hs (by rw[ho,yq,<-zw];exact b3) w
   have xE:xs.toList.drop (o+s)=(x.drop s).map (A.den ax m):=by
    rw[<-Gc,eM,<-zx]
    exact(rE (λa ha=>hx a (nd ha)) dF (λ_ _=>rfl)).symm
   have aE:e7.toList.drop (o+s)=(y.drop s).map (A.den ax m):=by
    rw[<-Gc,yq,<-zx]
    exact(rE (λa ha=>hy a (nd ha)) dF (λ_ _=>rfl)).symm
   have sn:b.den bx=b.den ax:=aS.bB dk b1
   simp only[CL,ne_eq,hn,not_false_eq_true,if_true,fV,yS,yT,fW,b4 w,aS.Hl,sn]
   cases hq:b.den ax with
   |true=>simp[r2 w xs e7 xE aE]
   |false=>simp
theorem Uy {nb:Nat} {m:Nat->Nat}:∀(d:Nat) (t:aN) (x y:List A) (n:Nat) (ρ:Env),(∀a∈x,A.ok n nb ρ a)->(∀a∈y,A.ok n nb ρ a)->∀D,d<=D->
 aj S L (Ag P d t x y) n ρ λad n' b=>b.aW n'/\∃me mf,CZ P t (x.map (A.den ρ m)) me/\CZ P t (y.map (A.den ρ m)) mf/\∀w,(KB D t me mf).run P w= .ok (b.den ad) w
 |0,t,x,y,n,ρ,_,_,_,_=>aj.fail
 |d+1,t,x,y,n,ρ,hx,hy,D,hD=>by
  obtain⟨E,rfl⟩:∃E,D=E+1:=⟨D-1,by omega⟩
  unfold Ag
  split
  ·rename_i k hu
   split
   ·rename_i k1 a k2 b
    refine dA λhk=>?_
    have hk:k1=k2:=by simpa using hk
    subst hk
    have Fc:a.ok n ρ:=hx (.int k1 a) (by simp)
    have ob:b.ok n ρ:=hy (.int k1 b) (by simp)
    have e1:=aS.qa Fc ob
    have fm:hL P t=some false:=by simp[hL,hu]
    refine aj.pure ⟨e1.2,_,_,.inr ⟨fm,rfl⟩,.inr ⟨fm,rfl⟩,λw=>?_⟩
    simp only[A.den]
    rw[run_equalIn_int w E t k1 k _ _ hu,e1.1]
    rfl
   ·exact aj.fail
  ·rename_i hu
   split
   ·rename_i a b
    have b1:=C9 (U (a.den ρ)=U (b.den ρ))
    have fm:hL P t=some false:=by simp[hL,hu]
    refine(fl (op:=4) (args:=[a,b]) b1.1 b1.2).bind λax n1 l e4 xT ⟨h1,h2⟩=>aj.pure ?_
    have h2:l.den ax=if U (a.den ρ)=U (b.den ρ)then 1 else 0:=h2
    have ol:(⟨l,0,1⟩:bj).ok n1 ax:=⟨h1,by simp only[h2];exact b1.1,by simp only[h2];exact b1.2⟩
    have e1:=aS.qa (n:=n1) (ρ:=ax) (a:=⟨l,0,1⟩) (b:= .const 1) ol (bj.lX _ _ _)
    refine⟨e1.2,_,_,.inr ⟨fm,rfl⟩,.inr ⟨fm,rfl⟩,λw=>?_⟩
    simp only[A.den]
    rw[run_equalIn_string w E t _ _ hu,e1.1,xx,xx]
    simp only[bj.const,I.aM,h2]
    by_cases hq:U (a.den ρ)=U (b.den ρ)
    ·simp[hq]
    ·simp[hq]
   ·exact aj.fail
  ·rename_i hu
   split
   ·rename_i a b
    have fm:hL P t=some false:=by simp[hL,hu]
    have Fc:a.aW n:=hx (.bool a) (by simp)
    have ob:b.aW n:=hy (.bool b) (by simp)
    refine aj.pure ⟨aS.Qk Fc ob,_,_,.inr ⟨fm,rfl⟩,.inr ⟨fm,rfl⟩,λw=>?_⟩
    simp only[A.den]
    rw[run_equalIn_bool w E t _ _ hu,aS.L8]
   ·exact aj.fail
  ·rename_i dE hu
   refine dA λhg=>?_
   have hg:P.stoodInHeld t=false:=by simpa using hg
   have fm:hL P t=some true:=by simp[hL,hu]
   refine(Ux (m:=m) (D:=E) (λt x y n ρ h1 h2=>Uy d t x y n ρ h1 h2 E (by omega)) dE.toList x y 0 n ρ hx hy).mono λad n' b _ _ ⟨h1,h2⟩=>⟨h1,_,_,.inl ⟨fm,rfl⟩,.inl ⟨fm,rfl⟩,λw=>?_⟩
   have hf:P.fieldsOf t=dE:=by simp[avn,hu]
   rw[run_equalIn_struct w E t _ _ (by rw[hf];exact hu) hg,hf]
   exact h2 w _ _ (by simp) (by simp)
  ·exact aj.fail
theorem UA {nb:Nat} {m:Nat->Nat} {t:aN} {x y:List A} (hx:∀a∈x,A.ok n nb ρ a) (hy:∀a∈y,A.ok n nb ρ a):
 aj S L (Hq P t x y) n ρ λad n' b=>b.aW n'/\P.eqGuardType P.depth t=false/\∀w,(KB 10000 t (.agg (x.map (A.den ρ m)).toArray) (.agg (y.map (A.den ρ m)).toArray)).run P w= .ok (b.den ad) w:=by
 unfold Hq
 split
 ·rename_i dE hu
  have lZ:hL P t=some true:=by simp[hL,hu]
  have deep:P.eqGuardType P.depth t=false->aj S L (Ag P 8 t x y) n ρ λad n' b=>b.aW n'/\P.eqGuardType P.depth t=false/\∀w,(KB 10000 t (.agg (x.map (A.den ρ m)).toArray) (.agg (y.map (A.den ρ m)).toArray)).run P w= .ok (b.den ad) w:=λhg=>
   (Uy (m:=m) 8 t x y n ρ hx hy 10000 (by decide)).mono λad n' b _ _ ⟨h1,me,mf,h2,h3,h4⟩=>⟨h1,hg,λw=>by
     rcases h2 with⟨_,rfl⟩|⟨h2,_⟩
     ·rcases h3 with⟨_,rfl⟩|⟨h3,_⟩
      ·exact h4 w
      ·rw[lZ]at h3;cases h3
     ·rw[lZ]at h2;cases h2⟩
  cases hg:(Ai P 0 dE.toList&& !P.stoodInHeld t&& !P.eqGuardType P.depth t)with
  |true=>
   simp only[cond_true]
   simp only[aK,js]at hg
   generalize (dE.toList.all λf=>match P.underlying f.type with|some (.int _)=>true|some .string=>true|_=>false)=flat
   cases flat with
   |true=>
    simp only[cond_true]
    refine(Mm (nb:=nb) (m:=m) dE.toList x y 0 n ρ hg.1.1 hx hy).mono λad n' b _ _ ⟨h1,h2⟩=>⟨h1,hg.2,λw=>?_⟩
    have hf:P.fieldsOf t=dE:=by simp[avn,hu]
    rw[run_equalIn_struct w 9999 t _ _ (by rw[hf];exact hu) hg.1.2,hf]
    exact h2 w 9998 _ _ (by simp) (by simp)
   |false=>exact deep hg.2
  |false=>
   simp only[cond_false]
   refine dA λtR=>deep (by simpa using tR)
 ·exact aj.fail
theorem apu {cal:eg} (cx:fk S P gl w0 cal) (hb:cp n bl.length ρ bl) (hg:eK gl w0) (hex:∃w,Mem w0 ρ m bl w) (ht:dD n bl.length ρ m tm a.tmps) (o:Oper):
 aj S L (PW P cal gl bl tm o) n ρ (ka w0 m bl n ρ P o a):=by
 unfold PW
 split
 case h_1 x h=>
  exact aj.pure ⟨(b9 ht x).1,_,(b9 ht x).2,λw _=> .inl (by simp[execOp,h])⟩
 case h_2 x h=>
  exact aj.pure ⟨(b9 ht x).1,_,(b9 ht x).2,λw _=> .inl (by simp[execOp,h])⟩
 case h_3 t x h=>
  have hx:=b9 ht x
  have he:execOp a.eval o=(do pure (ju (<-mv t (a.eval x)))):=by simp only[execOp,h]
  split
  ·rename_i b off aL hv
   rw[hv]at hx
   have cL:a.eval x=(A.lG b off aL).den ρ m:=hx.2
   rw[cL]at he
   exact(aqg hb t b off hx.1.2.1).mono λ_ _ _ _ _ hq=>ka.of_run he hq
  ·rename_i g off aL hv
   rw[hv]at hx
   have cL:a.eval x=(A.An g off aL).den ρ m:=hx.2
   rw[cL]at he
   exact(aqf hg t g off hx.1.1).mono λ_ _ _ _ _ hq=>ka.of_run he hq
  ·rename_i p _ _ hv
   rw[hv]at hx
   have cL:a.eval x=p.den ρ m:=hx.2
   rw[cL]at he
   exact(alw hb hg hex t p).mono λ_ _ _ _ _ hq=>ka.of_run he hq
  ·exact aj.fail
 case h_4 x h=>
  have hx:=b9 ht x
  unfold XU
  split<;>first
   |exact aj.fail
   |(rename_i hv
     rw[hv]at hx
     refine aj.pure ⟨hx.1,_,rfl,λw _=> .inl ?_⟩
     have cL:=hx.2
     simp only[V.rel,W.den,A.den]at cL
     simp[execOp,h,cL,W.den,A.den])
 case h_5 c x y h=>
  have hc:=b9 ht c
  split
  ·rename_i v hv
   rw[hv]at hc
   have e1:a.eval c= .bool v:=hc.2
   cases v with
   |true=>exact aj.pure ⟨(b9 ht x).1,_,(b9 ht x).2,λw _=> .inl (by simp[execOp,h,e1,asBool])⟩
   |false=>exact aj.pure ⟨(b9 ht y).1,_,(b9 ht y).2,λw _=> .inl (by simp[execOp,h,e1,asBool])⟩
  ·exact aj.fail
 case h_6 op t x y t' h=>
  have hx:=b9 ht x
  have hy:=b9 ht y
  unfold TP
  split
  ·rename_i k p aP q oa jC
   rw[oa]at hx;rw[jC]at hy
   have e1:a.eval x= .int k (p.l.den ρ):=hx.2
   have e2:a.eval y= .int aP (q.l.den ρ):=hy.2
   refine(acL (nb:=bl.length) (m:=m) P t hx.1 hy.1).bind λax n1 r _ _ ⟨h1,h2⟩=>aj.pure ⟨h1,_,rfl,λw _=> .inl ?_⟩
   have hgd:(eqGuard op t x y (.int k (p.l.den ρ)) (.int aP (q.l.den ρ))).run P w= .ok () w:=by cases op<;>simp[eqGuard]
   simp only[execOp,h,e1,e2]
   simp[hgd,h2,W.den]
  ·rename_i p q oa jC
   rw[oa]at hx;rw[jC]at hy
   have e1:a.eval x= .agg (p.map (A.den ρ m)).toArray:=hx.2
   have e2:a.eval y= .agg (q.map (A.den ρ m)).toArray:=hy.2
   split
   ·rename_i b heq
    obtain⟨s1,g1,r1⟩:=Uz (m:=m) heq hx.1 hy.1
    refine aj.pure ⟨s1,_,rfl,λw _=> .inl ?_⟩
    simp only[execOp,h,e1,e2]
    simp[run_eqGuard_agg w .eql t x y _ _ g1,run_eql_struct,r1,W.den,A.den]
   ·rename_i b heq
    obtain⟨s1,g1,r1⟩:=Uz (m:=m) heq hx.1 hy.1
    refine aj.pure ⟨aS.s0 s1,_,rfl,λw _=> .inl ?_⟩
    simp only[execOp,h,e1,e2]
    simp[run_eqGuard_agg w .neq t x y _ _ g1,run_neq_struct,r1,W.den,A.den,aS.si]
   ·rename_i heq
    refine(UA (m:=m) (t:=t) hx.1 hy.1).bind λad n' r _ _ ⟨r1,g1,r2⟩=>aj.pure ⟨r1,_,rfl,λw _=> .inl ?_⟩
    simp only[execOp,h,e1,e2]
    simp[run_eqGuard_agg w .eql t x y _ _ g1,run_eql_struct,r2,W.den,A.den]
   ·rename_i heq
    refine(UA (m:=m) (t:=t) hx.1 hy.1).bind λad n' r _ _ ⟨r1,g1,r2⟩=>aj.pure ⟨aS.s0 r1,_,rfl,λw _=> .inl ?_⟩
    simp only[execOp,h,e1,e2]
    simp[run_eqGuard_agg w .neq t x y _ _ g1,run_neq_struct,r2,W.den,A.den,aS.si]
   ·exact aj.fail
  ·rename_i p q oa jC
   rw[oa]at hx;rw[jC]at hy
   have e1:a.eval x= .string (bd (U (p.den ρ))):=hx.2
   have e2:a.eval y= .string (bd (U (q.den ρ))):=hy.2
   have he:execOp a.eval o=(do pure (ju (<-(do eqGuard op t x y (.string (bd (U (p.den ρ)))) (.string (bd (U (q.den ρ))));binOp op t (.string (bd (U (p.den ρ)))) (.string (bd (U (q.den ρ)))):Sem az)))):=by simp only[execOp,h,e1,e2]
   exact(aqI (op:=op) (t:=t) (x:=x) (y:=y) (w0:=w0) (m:=m) hx.1 hy.1).mono λ_ _ _ _ _ hq=>ka.of_run he hq
  ·rename_i p q oa jC
   rw[oa]at hx;rw[jC]at hy
   have e1:a.eval x= .bool (p.den ρ):=hx.2
   have e2:a.eval y= .bool (q.den ρ):=hy.2
   have hgd:(eqGuard op t x y (.bool (p.den ρ)) (.bool (q.den ρ))).run P=λw=> .ok () w:=by funext w;cases op<;>simp[eqGuard]
   split
   ·rename_i hu
    refine aj.pure ⟨aS.Qk hx.1 hy.1,_,rfl,λw _=> .inl ?_⟩
    simp only[execOp,h,e1,e2]
    simp[hgd,run_eql_bool w t _ _ hu,W.den,A.den,aS.L8]
   ·rename_i hu
    refine aj.pure ⟨aS.s0 (aS.Qk hx.1 hy.1),_,rfl,λw _=> .inl ?_⟩
    simp only[execOp,h,e1,e2]
    simp[hgd,run_neq_bool w t _ _ hu,W.den,A.den,aS.L8,aS.si]
   ·exact aj.fail
  ·exact aj.fail
 case h_7 op t x h=>
  have hx:=b9 ht x
  unfold ZG
  split
  ·rename_i b hv
   rw[hv]at hx
   have e1:a.eval x= .bool (b.den ρ):=hx.2
   refine aj.pure ⟨aS.s0 hx.1,_,rfl,λw _=> .inl ?_⟩
   simp[execOp,h,e1,Op.unary,W.den,A.den,aS.si]
  ·rename_i k p hv
   rw[hv]at hx
   have e1:a.eval x= .int k (p.l.den ρ):=hx.2
   refine dA λhc=>?_
   simp only[aK,js,decide_eq_true_eq]at hc
   have hp:=hx.1
   have TY:=bj.ok.agree (n':=n) hp (agree.refl n ρ) (a6 _)
   have b2:=TY.2
   have e2:((I.const (two k-1)).sub p.l).den ρ=two k-1-p.l.den ρ:=by rw[I.ll,I.aM]
   refine aj.pure ⟨⟨I.wP (I.cz _ _) TY.1,by simp only[e2];omega,by simp only[e2];omega⟩,_,rfl,λw _=> .inl ?_⟩
   have key:k.wrap (oZ k.bits (if k.signed=true then-1 else k.max)^^^oZ k.bits (p.l.den ρ)).toNat=two k-1-p.l.den ρ:=by
    have hk:=hc.1.1
    obtain⟨X,bD⟩:=CH (show 0<=p.l.den ρ by omega)
    have hlt:X<2^k.bits:=by
     have:(X:Int)<2^k.bits:=by rw[<-s6,<-bD];omega
     exact_mod_cast this
    have hall:(oZ k.bits (if k.signed=true then-1 else k.max))=BitVec.allOnes k.bits:=by
     cases k<;>simp[F5]at hk<;>rfl
    rw[hall,BitVec.allOnes_xor,BitVec.toNat_not,bD,Kw]
    have bt:((X:Int)% ((2^k.bits:Nat):Int)).toNat=X:=by
     rw[xa (by omega) (by exact_mod_cast hlt)];rfl
    rw[bt,J3]
    have ae:half k=0:=by simp[half,hk]
    have h2:two k=((2^k.bits:Nat):Int):=by rw[s6];simp
    rw[ae,h2,Int.add_zero,Int.sub_zero,xa (by omega) (by omega)]
    omega
   simp only[execOp,h,e1,Op.unary,Kz,W.den,A.den,e2]
   simp at key
   simp[key]
  ·rename_i k p hv
   rw[hv]at hx
   have e1:a.eval x= .int k (p.l.den ρ):=hx.2
   have b2:=bj.ok.agree (n':=n) hx.1 (agree.refl n ρ) (a6 _)
   have b3:=b2.2
   have e2:(p.l.smul (-1)).den ρ=-p.l.den ρ:=by rw[I.kh];omega
   refine(wW (k:=k) (x:=⟨p.l.smul (-1),-p.hi,-p.lo⟩) ⟨I.uQ b2.1,by simp only[e2];omega,by simp only[e2];omega⟩).bind λax n1 r _ _ ⟨h1,h2⟩=>aj.pure ⟨h1,_,rfl,λw _=> .inl ?_⟩
   simp only[e2]at h2
   simp[execOp,h,e1,Op.unary,Op.intArith,W.den,A.den,h2]
  ·exact aj.fail
 case h_8 s d x h=>
  have hx:=b9 ht x
  unfold Ue
  split
  ·rename_i aP p hu hk hv
   rw[hv]at hx
   have e1:a.eval x= .int aP (p.l.den ρ):=hx.2
   split
   ·rename_i c hc
    refine dA λhsz=>?_
    have hl:(KA c).data.toList.length<=fQ:=by
     have:=eb hsz
     have h2:(KA c).data.toList.length=(KA c).size:=by simp
     unfold fQ;omega
    refine aj.pure ⟨⟨I.cz _ _,by rw[I.aM];exact p9 _,by rw[I.aM];exact oG hl⟩,_,rfl,λw _=> .inl ?_⟩
    simp[execOp,h,e1,convert,ef hu,ef hk,Conv.intToString,W.den,A.den,I.aM,fS,bd,I.gH hc]
   ·exact aj.fail
  ·split
   rotate_left
   ·exact aj.fail
   rename_i k aP p hu hk hv
   rw[hv]at hx
   have e1:a.eval x= .int aP (p.l.den ρ):=hx.2
   refine(wW (k:=k) hx.1).bind λax n1 r _ _ ⟨h1,h2⟩=>aj.pure ⟨h1,_,rfl,λw _=> .inl ?_⟩
   simp[execOp,h,e1,convert,ef hu,ef (O1 hk),Conv.intToInt,W.den,A.den,h2]
 case h_9 t x aL h=>
  have hx:=b9 ht x
  have hi:=b9 ht aL
  split
  ·rename_i k i hv
   rw[hv]at hi
   have e1:a.eval aL= .int k (i.l.den ρ):=hi.2
   have he:execOp a.eval o=(do pure (ju (<-pX t (a.eval x) (.int k (i.l.den ρ))))):=by simp only[execOp,h,e1]
   exact(ajR hx.1 hx.2 hi.1).mono λ_ _ _ _ _ hq=>ka.of_run he hq
  ·exact aj.fail
 case h_10 t x aL h=>
  have hx:=b9 ht x
  have hi:=b9 ht aL
  split
  ·rename_i s hv
   rw[hv]at hx
   have e1:a.eval x= .string (bd (U (s.den ρ))):=hx.2
   split
   ·rename_i i hu vO
    obtain⟨k,hk,_⟩:=yw (m:=m) (bl:=bl) vO hi.2 hi.1
    have he:execOp a.eval o=(do pure (ju (<-RH t (.string (bd (U (s.den ρ)))) (.int k (i.den ρ))))):=by simp only[execOp,h,e1,hk]
    exact(aqJ (w0:=w0) (m:=m) hu hx.1).mono λ_ _ _ _ _ hq=>ka.of_run he hq
   ·exact aj.fail
  split
  ·rename_i l i len e hv vO AB
   rw[hv]at hx
   have e1:a.eval x= .agg (l.map (A.den ρ m)).toArray:=hx.2
   have e2:∃k,a.eval aL= .int k i:=by
    unfold Hh at vO
    split at vO
    ·rename_i k p jC
     rw[jC]at hi
     have:a.eval aL= .int k (p.l.den ρ):=hi.2
     exact⟨k,by rw[this,I.gH vO]⟩
    ·cases vO
   obtain⟨k,e2⟩:=e2
   split
   ·rename_i s hs
    refine dA λhc=>?_
    simp only[aK,decide_eq_true_eq]at hc
    refine(Yk (w0:=w0) (m:=m) (bl:=bl) hx.1).mono λax n1 v _ _ ⟨bo,val,bI,b6⟩=>⟨bo,val,bI,λw hw=> .inl ?_⟩
    have:=b6 w hw
    simp[execOp,h,e1,e2,RH,asIntOf,ef (qX AB),hc,gO hs,this]
   ·exact aj.fail
  ·exact aj.fail
 case h_11 s x f h=>
  have hx:=b9 ht x
  split
  ·rename_i b off fd hv hf
   rw[hv]at hx
   have e1:a.eval x= .pointer (some ⟨m b,off,none⟩):=hx.2
   obtain⟨dE,hu,Ed⟩:=Ms hf
   split
   ·rename_i k hs
    refine aj.pure ⟨hx.1,_,rfl,λw _=> .inl ?_⟩
    simp[execOp,h,e1,aab,ef hu,Ed,kB,fieldPlace,gO hs,gW,W.den,A.den]
   ·exact aj.fail
  ·exact aj.fail
 case h_12 s x f h=>
  have hx:=b9 ht x
  split
  ·rename_i l fd hv hf
   rw[hv]at hx
   have e1:a.eval x= .agg (l.map (A.den ρ m)).toArray:=hx.2
   obtain⟨dE,hu,Ed⟩:=Ms hf
   refine(Yk (w0:=w0) (m:=m) (bl:=bl) hx.1).mono λax n1 v _ _ ⟨bo,val,bI,b6⟩=>⟨bo,val,bI,λw hw=> .inl ?_⟩
   have:=b6 w hw
   simp[execOp,h,e1,Instr.field,asAgg,ef hu,Ed,this]
  ·exact aj.fail
 case h_13 x i h=>
  have hx:=b9 ht x
  split
  ·rename_i l hv
   rw[hv]at hx
   have e1:a.eval x= .tuple (l.map (W.den ρ m)).toArray:=hx.2
   split
   ·rename_i u hu
    refine aj.pure ⟨hx.1 u (dK hu),_,rfl,λw _=> .inl ?_⟩
    simp[execOp,h,e1,aaa,hu]
   ·exact aj.fail
  ·exact aj.fail
 case h_14 t x lo hi h=>
  have hx:=b9 ht x
  split
  ·rename_i s hv hu
   rw[hv]at hx
   have e1:a.eval x= .string (bd (U (s.den ρ))):=hx.2
   have he:execOp a.eval o=(do pure (ju (<-oY t (.string (bd (U (s.den ρ)))) (lo.map a.eval) (hi.map a.eval) none))):=by simp only[execOp,h,e1];rfl
   exact(aqL (w0:=w0) (m:=m) hu hx.1 ht).mono λ_ _ _ _ _ hq=>ka.of_run he hq
  have key:∀(y:Option mx) (c:Option Int),I7 tm y=some c->∃f:Int->az,(∀c,∃k,f c= .int k c)/\y.map a.eval=c.map f:=by
   intro y c hy
   unfold I7 at hy
   cases y with
   |none=>simp at hy;subst hy;exact⟨λc=> .int .i64 c,λc=>⟨_,rfl⟩,rfl⟩
   |some y=>
    simp only at hy
    have hi:=b9 ht y
    unfold Hh at hy
    split at hy
    ·rename_i c' hq
     split at hq
     ·rename_i k p jC
      simp only[aG]at hy;subst hy
      rw[jC]at hi
      have:a.eval y= .int k (p.l.den ρ):=hi.2
      exact⟨λc=> .int k c,λc=>⟨_,rfl⟩,by simp[this,I.gH hq]⟩
     ·cases hq
    ·cases hy
  split
  ·rename_i l ae h1 h2
   obtain⟨UM,nr,vA⟩:=key lo l h1
   obtain⟨awt,Ht,UD⟩:=key hi ae h2
   unfold Y9
   split
   ·rename_i b off yM e hv AB
    rw[hv]at hx
    have e1:a.eval x= .pointer (some ⟨m b,off,none⟩):=hx.2
    split
    ·rename_i s hs
     refine dA λhc=>?_
     simp only[aK,decide_eq_true_eq]at hc
     refine aj.pure ⟨hx.1,_,rfl,λw _=> .inl ?_⟩
     have hb1:(j7 false yM yM (lo.map a.eval) (hi.map a.eval) none).run P w= .ok ((l.getD 0).toNat,(ae.getD yM).toNat,yM) w:=by
      rw[vA,UD]
      have c1:∀(k:cS) (i:Int) (y:Nat) (tG:BoundsCode),0<=i->i<=y->(Ga (.int k i) y tG).run P w= .ok i.toNat w:=λk i y tG p1 bq=>by
       simp[Ga,asIntOf,p1,bq]
      cases l with
      |none=>
       cases ae with
       |none=>simp[j7]
       |some h'=>
        obtain⟨aP,iC⟩:=Ht h'
        simp only[RJ,qN]at hc
        simp[j7,iC,c1 aP h' yM _ (by omega) (by omega)]
      |some bp=>
       obtain⟨k1,ir⟩:=nr bp
       cases ae with
       |none=>
        simp only[RJ,qN]at hc
        simp[j7,ir,c1 k1 bp yM _ (by omega) (by omega)]
       |some h'=>
        obtain⟨aP,iC⟩:=Ht h'
        simp only[qN]at hc
        simp[j7,iC,ir,c1 aP h' yM _ (by omega) (by omega),c1 k1 bp h'.toNat _ (by omega) (by omega)]
     simp only[execOp,h,e1,aap,oY]
     simp[ef (qX AB),kB,hb1,gO hs,gW,W.den,A.den]
     intro hq
     have h3:=hc.2
     omega
    ·exact aj.fail
   ·rename_i b off len cap hv AB
    rw[hv]at hx
    have e1:a.eval x= .slice (some ⟨m b,off,none⟩) len cap:=hx.2
    split
    ·rename_i e qi
     split
     ·rename_i s hs
      refine dA λhc=>?_
      simp only[aK,decide_eq_true_eq]at hc
      refine aj.pure ⟨hx.1,_,rfl,λw _=> .inl ?_⟩
      have hb1:(j7 true len cap (lo.map a.eval) (hi.map a.eval) none).run P w= .ok ((l.getD 0).toNat,(ae.getD len).toNat,cap) w:=by
       rw[vA,UD]
       have c1:∀(k:cS) (i:Int) (y:Nat) (tG:BoundsCode),0<=i->i<=y->(Ga (.int k i) y tG).run P w= .ok i.toNat w:=λk i y tG p1 bq=>by
        simp[Ga,asIntOf,p1,bq]
       cases l with
       |none=>
        cases ae with
        |none=>simp[j7]
        |some h'=>
         obtain⟨aP,iC⟩:=Ht h'
         simp only[RJ,qN]at hc
         simp[j7,iC,c1 aP h' cap _ (by omega) (by omega)]
       |some bp=>
        obtain⟨k1,ir⟩:=nr bp
        cases ae with
        |none=>
         simp only[RJ,qN]at hc
         simp[j7,ir,c1 k1 bp len _ (by omega) (by omega)]
        |some h'=>
         obtain⟨aP,iC⟩:=Ht h'
         simp only[qN]at hc
         simp[j7,iC,ir,c1 aP h' cap _ (by omega) (by omega),c1 k1 bp h'.toNat _ (by omega) (by omega)]
      simp only[execOp,h,e1,aap,oY]
      simp[ef (fw qi),RI,hb1,gO hs,gW,W.den,A.den]
      intro hq
      have h3:=hc.2
      omega
     ·exact aj.fail
    ·exact aj.fail
   ·exact aj.fail
  ·exact aj.fail
 case h_15 c h=>
  split
  ·rename_i f hc
   split
   ·rename_i g NC
    have nu:∀v∈c.args.toList.map (bM tm),V.ok n bl.length ρ v:=λv hv=>by
     obtain⟨x,_,rfl⟩:=List.mem_map.1 hv
     exact(b9 ht x).1
    refine(cx f g NC L n ρ m bl _ _ hb hex nu (GD (xs:=c.args.toList) ht)).mono λax n1 v _ _ ⟨bo,val,bI,b6⟩=>⟨bo,val,bI,λw hw=>?_⟩
    have he:=Qh (a:=a) hc o h
    have ha:(c.args.toList.map a.eval).toArray=c.args.map a.eval:=by
     rw[<-r6]
    have dz:=b6 w hw
    rw[ha]at dz
    rcases dz with dz|⟨dz,jX⟩
    ·exact .inl (by rw[he];exact dz)
    ·exact .inr ⟨f,_,by rw[he];exact dz,jX⟩
   ·exact aj.fail
  ·rename_i hc
   split
   ·rename_i x t eM kS
    have hx:=b9 ht x
    split
    ·rename_i s hv hu
     rw[hv]at hx
     have e1:a.eval x= .string (bd (U (s.den ρ))):=hx.2
     have a1:c.args=#[x]:=by rw[<-iJ (xs:=c.args),eM]
     have a2:c.argTypes=#[t]:=by rw[<-iJ (xs:=c.argTypes),kS]
     have he:execOp a.eval o=(do pure (ju (<-CK #[t] o.type #[.string (bd (U (s.den ρ)))]))):=by
      simp[execOp,h,resolve,hc,a1,a2,e1,invoke,builtin]
     exact(aqK (w0:=w0) (m:=m) hu hx.1).mono λ_ _ _ _ _ hq=>ka.of_run he hq
    split
    ·rename_i b off len cap e hv hs
     rw[hv]at hx
     have e1:a.eval x= .slice (some ⟨m b,off,none⟩) len cap:=hx.2
     refine aj.pure ⟨bj.lX _ _ _,_,rfl,λw _=> .inl ?_⟩
     have a1:c.args=#[x]:=by rw[<-iJ (xs:=c.args),eM]
     have a2:c.argTypes=#[t]:=by rw[<-iJ (xs:=c.argTypes),kS]
     simp[execOp,h,resolve,hc,a1,a2,e1,invoke,builtin,CK,ef (fw hs),goInt,W.den,A.den,bj.const,I.aM]
    ·rename_i b len lo e hv hs
     rw[hv]at hx
     obtain⟨lk,_,e1⟩:=hx.2
     refine aj.pure ⟨bj.lX _ _ _,_,rfl,λw _=> .inl ?_⟩
     have a1:c.args=#[x]:=by rw[<-iJ (xs:=c.args),eM]
     have a2:c.argTypes=#[t]:=by rw[<-iJ (xs:=c.argTypes),kS]
     simp[execOp,h,resolve,hc,a1,a2,e1,invoke,builtin,CK,ef (fw hs),goInt,W.den,A.den,bj.const,I.aM]
    ·exact aj.fail
   ·exact aj.fail
  ·exact aj.fail
 case h_16 f first gY h=>
  split
  ·rename_i l hf hl
   obtain⟨g1,g2⟩:=anJ (m:=m) hl (λv hv=>by obtain⟨x,_,rfl⟩:=List.mem_map.1 hv;exact(b9 ht x).1) (GD (xs:=gY.toList) ht)
   have We:first=#[]:=by rw[<-iJ (xs:=first),hf]
   have AE:gY.map a.eval=(l.map (A.den ρ m)).toArray:=by rw[<-g2,<-r6]
   refine aj.pure ⟨g1,_,rfl,λw _=> .inl ?_⟩
   simp only[execOp,h,AE,We]
   simp[Instr.makeFunc]
  ·exact aj.fail
 case h_17 t parts h=>
  split
  ·rename_i l hl
   obtain⟨g1,g2⟩:=acW (n:=n) (nb:=bl.length) (ρ:=ρ) (m:=m) (vals:=(parts.map λ(i,x)=>(i,a.eval x)).toList) hl (by
    rw[r6]
    generalize parts.toList=bX
    induction bX with
    |nil=>exact trivial
    |cons p r ih=>exact⟨⟨rfl,b9 ht p.2⟩,ih⟩)
   refine aj.pure ⟨g1,_,rfl,λw _=> .inl ?_⟩
   simp only[execOp,h]
   simp[run_build w t _ _ g2,W.den]
  ·exact aj.fail
 case h_18 t x h=>
  have hx:=b9 ht x
  split
  ·rename_i b len lo k e hv ha
   rw[hv]at hx
   refine dA λhc=>aj.pure ⟨hx.1,_,rfl,λw _=> .inl ?_⟩
   obtain⟨c,hc1,hc2⟩:=hx.2
   have hle:¬len<k:=by have:=eb hc;omega
   simp only[execOp,h]
   rw[hc2]
   simp[aaq,ef (qX ha),hle,W.den,A.den]
  ·rename_i b off len cap k e hv ha
   rw[hv]at hx
   refine dA λhc=>aj.pure ⟨by simpa [V.ok,W.ok,A.ok]using hx.1,_,rfl,λw _=> .inl ?_⟩
   have hle:¬len<k:=by have:=eb hc;omega
   have e1:a.eval x=_:=hx.2
   simp only[execOp,h]
   rw[e1]
   simp[aaq,ef (qX ha),hle,W.den,A.den]
  ·exact aj.fail
 case h_19=>exact aj.fail
end
end Go.bg
namespace Go.bg
open M
noncomputable def Ha (c:aw) (code i:I) (j:Nat):M A:=
 match c with
 | .int k lo hi=>bind (ev 21 [code,i,.const j] lo hi) λl=>pure (.int k ⟨l,lo,hi⟩)
 | .str=>bind (ev 21 [code,i,.const j] 0 ch) λl=>pure (.str l)
 | .bool=>bind (ev 21 [code,i,.const j] 0 1) λl=>pure (.bool (.mkEq ⟨l,0,1⟩ (.const 1)))
noncomputable def Hb (code i:I):Nat->List aw->M (List A)
 |_,[]=>pure []
 |j,c::r=>bind (Ha c code i j) λa=>bind (Hb code i (j+1) r) λl=>pure (a::l)
noncomputable def Qc (c:aw) (code:I):Nat->I->M (List A)
 |0,_=>pure []
 |q+1,i=>bind (eZ 21 [code,i]) λ_=>bind (Ha c code i 0) λa=>bind (Qc c code q (i.add (.const 1))) λl=>pure (a::l)
noncomputable def Ml (P:bm) (bl:List ar) (t:aN) (b aQ:Nat) (o i:I) (j:Nat):M V:=
 match bl[b]? with
 |some ([.rows sh off code cap kind],_)=>cond (b7 0 kind&&aA aQ sh.length&&I.beq o off) (bind (eZ 21 [code,i]) λ_=>match hL P t,eA P t with
  |some true,some k=>cond (bw (j+k) sh.length) (bind (Hb code i j ((sh.drop j).take k)) λl=>pure (.w (.agg l))) (match sh,j with
   |[c],0=>bind (Qc c code k i) λl=>pure (.w (.agg l))
   |_,_=>fail)
  |some false,_=>match sh[j]? with
   |some c=>bind (Ha c code i j) λa=>pure (.w (.one a))
   |none=>fail
  |_,_=>fail) fail
 |_=>fail
def Qu (P:bm) (t:aN) (b aQ:Nat) (o ro len:I) (aL:I):M V:=
 match gB P t with
 |some e=>match eA P e with
  |some s=>cond (aA s aQ) (bind (eZ 30 [aL,len]) λ_=>pure (.w (.one (.ep b aQ o (ro.add aL) 0)))) fail
  |none=>fail
 |none=>fail
def zQ (op:Nat) (ls:List I):M Unit:=λn k=> .pb op ls (k () n)
def Qx (P:bm) (t:aN) (b aQ:Nat) (o ro len cap:I) (x y:I):M V:=
 match gB P t with
 |some e=>match eA P e with
  |some s=>cond (aA s aQ) (bind (eZ 32 [x,y,len]) λ_=>match x.dp with
   |some 0=>pure (.w (.one (.sl b aQ o ro y cap)))
   |_=>bind (zQ 68 [len,cap]) λ_=>bind (ev 33 [ro,x,cap] 0 9223372036854775808) λr=>pure (.w (.one (.sl b aQ o r (y.sub x) (cap.sub x))))) fail
  |none=>fail
 |none=>fail
def vq (tm:List V) (d:I):Option mx->Option I
 |none=>some d
 |some x=>od (bM tm x)
def G6:List aw->Bool
 |[.int .u8 lo hi]=>decide (lo=0)&&decide (hi=255)
 |_=>false
noncomputable def Qw (bl:List ar) (b aQ:Nat) (o ro len:I):M V:=
 match bl[b]? with
 |some ([.rows sh off code cap kind],_)=>cond (b7 0 kind&&aA aQ 1&&I.beq o off&&G6 sh) (bind (eZ 35 [code,ro,ro.add len]) λ_=>bind (ev 34 [code,ro,ro.add len] 0 ch) λl=>pure (.w (.one (.str l)))) fail
 |_=>fail
def G3 {α:Type} (b:aS) (x y:M α):M α:=λn k=>match b with
 | .lit v=>cond v (x n k) (y n k)
 |b=> .mE b (x n k) (y n k)
def XL (k:cS) (x y:bj):M V:=G3 (.mkLt y x) (pure (.w (.one (.int k y)))) (pure (.w (.one (.int k x))))
def XI (k:cS) (x y:bj):M V:=G3 (.mkLt x y) (pure (.w (.one (.int k y)))) (pure (.w (.one (.int k x))))
def lV:List A->Option (List Bool)
 |[]=>some []
 | .bool (.lit b)::r=>match lV r with|some l=>some (b::l)|none=>none
 |_::_=>none
def tZ:Nat->List Bool->List UInt8
 |_,[]=>[]
 |i,b::r=>cond b (k8 i::tZ (i+1) r) (tZ (i+1) r)
def Qm (bl:List ar) (b off:Nat) (aL:bj):M V:=
 match bl[b]? with
 |some (cs,_)=>match lV ((cs.drop off).take (aL.hi.toNat+1))with
  |some l=>cond (aA l.length (aL.hi.toNat+1)&&bw aL.hi.toNat 255&&decide (0<=aL.lo)&&bJ cs) (bind (ev 43 [.const (dP (tZ 0 l)),aL.l] 0 1) λr=>pure (.w (.one (.bool (.mkEq ⟨r,0,1⟩ (.const 1)))))) fail
  |none=>fail
 |none=>fail
noncomputable def Qd (P:bm) (bl:List ar) (tm:List V) (o:Oper):Option (M V):=
 match o.op with
 | .load t x=>match bM tm x with
  | .w (.one (.ep b aQ o i j))=>some (Ml P bl t b aQ o i j)
  | .w (.one (.lG b off aL))=>match P.underlying t with
   |some .bool=>some (Qm bl b off aL)
   |_=>none
  |_=>none
 | .nilCheck x=>match bM tm x with
  | .w (.one (.ep b aQ o i j))=>some (pure (.w (.one (.ep b aQ o i j))))
  |_=>none
 | .indexAddr t x aL=>match bM tm x,bM tm aL with
  | .w (.one (.sl b aQ o ro len cap)),.w (.one (.int _ i))=>some (Qu P t b aQ o ro len i.l)
  |_,_=>none
 | .sliceToArrayPointer t x=>match bM tm x,pa P t with
  | .w (.one (.sl b aQ o ro len cap)),some (k,_)=>some (cond (b7 0 k) (bind (eZ 30 [.const ((k:Int)-1),len]) λ_=>pure (.w (.one (.ep b aQ o ro 0)))) fail)
  |_,_=>none
 | .fieldAddr s x f=>match bM tm x,Dz P s f with
  | .w (.one (.ep b aQ o i j)),some fd=>match eA P fd.type with
   |some (_+1)=>some (pure (.w (.one (.ep b aQ o i (j+fd.offset)))))
   |_=>none
  |_,_=>none
 | .slice t x lo hi none=>match bM tm x with
  | .w (.one (.sl b aQ o ro len cap))=>match vq tm (.const 0) lo,vq tm len hi with
   |some p,some q=>some (Qx P t b aQ o ro len cap p q)
   |_,_=>none
  |_=>none
 | .convert s d x=>match bM tm x,gB P s,P.underlying d with
  | .w (.one (.sl b aQ o ro len cap)),some e,some .string=>match P.underlying e with
   |some (.int .u8)=>some (Qw bl b aQ o ro len)
   |_=>none
  |_,_,_=>none
 | .call c=>match c.callee with
  | .builtin .len=>match c.args.toList,c.argTypes.toList with
   |[x],[t]=>match bM tm x,gB P t with
    | .w (.one (.sl b aQ o ro len cap)),some _=>some (pure (.w (.one (.int .i64 ⟨len,0,9223372036854775807⟩))))
    |_,_=>none
   |_,_=>none
  | .builtin .min=>match c.args.toList with
   |[x,y]=>match bM tm x,bM tm y with
    | .w (.one (.int k p)),.w (.one (.int aP q))=>cond (decide (k=aP)) (some (XL k p q)) none
    |_,_=>none
   |_=>none
  | .builtin .max=>match c.args.toList with
   |[x,y]=>match bM tm x,bM tm y with
    | .w (.one (.int k p)),.w (.one (.int aP q))=>cond (decide (k=aP)) (some (XI k p q)) none
    |_,_=>none
   |_=>none
  |_=>none
 | .binOp op t x y _=>match gB P t,bM tm x,bM tm y with
  |some _,.w (.one (.sl b aQ o ro len cap)),.w (.one (.con (.slice none 0 0)))=>match op with
   | .eql=>some (bind (zQ 53 [cap,len]) λ_=>pure (.w (.one (.bool (.lt cap (.const 0))))))
   | .neq=>some (bind (zQ 53 [cap,len]) λ_=>pure (.w (.one (.bool (.mkNot (.lt cap (.const 0)))))))
   |_=>none
  |_,_,_=>none
 |_=>none
def GS (bl:List ar) (b off:Nat):Option (List aw×I×Nat):=
 match bl[b]? with
 |some ([.rows sh o code cap kind],_)=>match cap.dp with
  |some c=>cond (aA off 0&&b7 0 kind&&I.beq o (.const 0)&&decide (0<=c)) (some (sh,code,c.toNat)) none
  |none=>none
 |_=>none
noncomputable def GQ (code:I) (sh:List aw):Nat->Nat->M (List A)
 |_,0=>pure []
 |i,k+1=>bind (Hb code (.const i) 0 sh) λa=>bind (GQ code sh (i+1) k) λl=>pure (a++l)
def Qy (P:bm) (t:aN) (b aQ:Nat) (o ro len cap:I) (x y z:I):M V:=
 match gB P t with
 |some e=>match eA P e with
  |some s=>cond (aA s aQ) (bind (cond (I.beq z len) (eZ 78 [x,y,z,cap]) (eZ 64 [x,y,z,len])) λ_=>bind (ev 33 [ro,x,z] 0 9223372036854775808) λr=>pure (.w (.one (.sl b aQ o r (y.sub x) (z.sub x))))) fail
  |none=>fail
 |none=>fail
noncomputable def Jx (P:bm) (bl:List ar) (tm:List V) (o:Oper):Option (M V):=
 match o.op with
 | .indexAddr t x aL=>match bM tm x,bM tm aL with
  | .w (.one (.ptr b off)),.w (.one (.int _ i))=>match GS bl b off,pa P t with
   |some (sh,code,c),some (len,e)=>match eA P e with
    |some s=>cond (aA s sh.length&&aA len c) (some (bind (eZ 30 [i.l,.const len]) λ_=>pure (.w (.one (.ep b s (.const 0) i.l 0))))) none
    |none=>none
   |_,_=>none
  |_,_=>none
 | .load t x=>match bM tm x with
  | .w (.one (.ptr b off))=>match GS bl b off,hL P t,eA P t with
   |some (sh,code,c),some true,some k=>cond (aA k (c*sh.length)) (some (bind (eZ 31 [code,.const c]) λ_=>bind (GQ code sh 0 c) λl=>pure (.w (.agg l)))) none
   |_,_,_=>none
  |_=>none
 | .slice t x lo (some hi) (some dy)=>match bM tm x with
  | .w (.one (.sl b aQ bV ro len cap))=>match vq tm (.const 0) lo,od (bM tm hi),od (bM tm dy)with
   |some p,some q,some r=>some (Qy P t b aQ bV ro len cap p q r)
   |_,_,_=>none
  |_=>none
 | .call c=>match c.callee with
  | .builtin .len=>match c.args.toList,c.argTypes.toList with
   |[x],[t]=>match bM tm x,gB P t with
    | .w (.one (.con (.slice none 0 0))),some _=>some (pure (.w (.one (.int .i64 (.const 0)))))
    |_,_=>none
   |_,_=>none
  |_=>none
 |_=>none
noncomputable def Hn (cal:eg) (bl:List ar) (tm:List V) (o:Oper):Option (M V):=
 match o.op with
 | .call c=>match c.callee with
  | .value (.tmp x)=>match bM tm (.tmp x)with
   | .w (.one (.con (.func (.func f) Hr Hs)))=>cond (aA Hr.size 0&&aA Hs.size 0) ((cal f).map λg=>g bl (c.args.toList.map (bM tm))) none
   |_=>none
  |_=>none
 |_=>none
noncomputable def uK (P:bm) (cal:eg) (gl:dO) (bl:List ar) (tm:List V) (o:Oper):M V:=
 match Qd P bl tm o with
 |some x=>x
 |none=>match Jx P bl tm o with
  |some x=>x
  |none=>match Hn cal bl tm o with
   |some x=>x
   |none=>PW P cal gl bl tm o
theorem kc.get {cells:Array az} {off:Nat} {sh:List aw} {rows:List (List Int)} (h:kc cells off sh rows) {i j:Nat} {row:List Int} {v:az} (hi:rows[i]?=some row) (hj:(cN sh row)[j]?=some v):cells[off+i*sh.length+j]?=some v:=by
 obtain⟨h1,pre,post,h2,h3⟩:=h
 have h4:=MB h1 hi hj
 rw[<-Gb,h2,List.append_assoc,zu (by omega),rZ]
 ·rw[show off+i*sh.length+j-pre.length=i*sh.length+j by omega];exact h4
 ·have:=(List.getElem?_eq_some_iff.1 h4).1;omega
section
variable {S:Nat->List Int->List Int->Prop} {L:V->Env->Prop} {n:Nat} {ρ:Env} {m:Nat->Nat} {bl:List ar} {gl:dO} {w0:dm} {P:bm} {tm:List V} {a:Act}
theorem TZ {α:Type} {b:aS} {x y:M α} {R:Env->Nat->α->Prop} (h1:b.den ρ=true->aj S L x n ρ R) (h2:b.den ρ=false->aj S L y n ρ R):aj S L (G3 b x y) n ρ R:=by
 intro A k hk
 unfold G3 at hk
 cases hb:b.den ρ with
 |true=>
  cases b with
  |lit v=>simp only[aS.den]at hb;subst hb;exact h1 rfl A k hk
  |_=>exact h1 hb A k (hk.1 hb)
 |false=>
  cases b with
  |lit v=>simp only[aS.den]at hb;subst hb;exact h2 rfl A k hk
  |_=>exact h2 hb A k (hk.2 hb)
theorem LR {nb:Nat} {c:aw} {code i:I} {j:Nat} {z:Int} {row:List Int} (hrow:(ab (code.den ρ))[(i.den ρ).toNat]?=some row) (hz:row[j]?=some z) (h1:c.en.1<=z) (h2:z<=c.en.2):
 aj S L (Ha c code i j) n ρ λad n' x=>x.ok n' nb ad/\x.den ad m=c.val z:=by
 have hf:aB 21 ([code,i,I.const (j:Nat)].map (·.den ρ))=z:=by
  simp only[cr,dY,I.aM,aB,k9]
  simp[af,hrow,hz]
 cases c with
 |int k lo hi=>
  refine(fl (by rw[hf];exact h1) (by rw[hf];exact h2)).bind λax n1 l _ _ ⟨g1,g2⟩=>aj.pure ⟨⟨g1,?_,?_⟩,?_⟩
  ·rw[g2,hf];exact h1
  ·rw[g2,hf];exact h2
  ·simp only[A.den,aw.val];rw[g2,hf]
 |str=>
  refine(fl (by rw[hf];exact h1) (by rw[hf];exact h2)).bind λax n1 l _ _ ⟨g1,g2⟩=>aj.pure ⟨⟨g1,?_,?_⟩,?_⟩
  ·rw[g2,hf];exact h1
  ·rw[g2,hf];exact h2
  ·simp only[A.den,aw.val];rw[g2,hf]
 |bool=>
  refine(fl (by rw[hf];exact h1) (by rw[hf];exact h2)).bind λax n1 l _ _ ⟨g1,g2⟩=>aj.pure ?_
  have aZ:bj.ok n1 ax ⟨l,0,1⟩:=⟨g1,by simp only;rw[g2,hf];exact h1,by simp only;rw[g2,hf];exact h2⟩
  have e:=aS.qa aZ (bj.lX n1 ax 1)
  refine⟨e.2,?_⟩
  simp only[A.den,aw.val]
  rw[e.1]
  simp only[bj.const,I.aM]
  rw[g2,hf]
theorem LV {nb:Nat} {sh:List aw} {row:List Int} (aZ:bS sh row):∀{r:List aw} {n:Nat} {ρ:Env} {code i:I} {j:Nat},code.aW n->i.aW n->(ab (code.den ρ))[(i.den ρ).toNat]?=some row->(∀(x:Nat) (c:aw),r[x]?=some c->sh[j+x]?=some c)->
 aj S L (Hb code i j r) n ρ λad n' l=>(∀a∈l,A.ok n' nb ad a)/\l.length=r.length/\∀(x:Nat) (a:A),l[x]?=some a->(cN sh row)[j+x]?=some (a.den ad m)
 |[],n,ρ,code,i,j,_,_,_,_=>aj.pure ⟨λ_ h=>by simp at h,rfl,λx a h=>by simp at h⟩
 |c::r,n,ρ,code,i,j,ED,EE,hrow,hr=>by
  have h0:=hr 0 c rfl
  obtain⟨z,h1,h2,h3,h4⟩:=aZ.get h0
  refine(LR (nb:=nb) (m:=m) hrow h1 h2 h3).bind λax n1 y hn ha ⟨g1,g2⟩=>?_
  refine(LV (nb:=nb) (r:=r) (n:=n1) (ρ:=ax) (code:=code) (i:=i) (j:=j+1) aZ (ED.mono hn) (EE.mono hn) (by rw[I.bB ha ED,I.bB ha EE];exact hrow) (λx c hx=>by
   have:=hr (x+1) c (by simpa using hx)
   rw[show j+1+x=j+(x+1) by omega];exact this)).bind λbx ed l er dk ⟨k1,k2,k3⟩=>aj.pure ⟨λb hb=>?_,by simp[k2],λx b hb=>?_⟩
  ·rcases List.mem_cons.1 hb with rfl|hb
   ·exact g1.ext dk er (a6 _)
   ·exact k1 b hb
  ·cases x with
   |zero=>
    simp only[qO,aG]at hb
    subst hb
    rw[A.jy g1 dk (λ_ _=>rfl),g2];exact h4
   |succ x=>
    have:=k3 x b (by simpa using hb)
    rw[show j+(x+1)=j+1+x by omega];exact this
theorem YQ {nb:Nat} {c:aw} {code:I}:∀{q n:Nat} {ρ:Env} {i:I},(∀row∈ab (code.den ρ),bS [c] row)->code.aW n->i.aW n->
 aj S L (Qc c code q i) n ρ λad n' l=>(∀a∈l,A.ok n' nb ad a)/\l.length=q/\∀(x:Nat) (a:A),l[x]?=some a->∃row,(ab (code.den ρ))[(i.den ρ).toNat+x]?=some row/\(cN [c] row)[0]?=some (a.den ad m)
 |0,n,ρ,i,_,_,_=>aj.pure ⟨λ_ h=>by simp at h,rfl,λx a h=>by simp at h⟩
 |q+1,n,ρ,i,iD,ED,EE=>by
  refine ga λhk=>?_
  simp only[cr,dY,aa]at hk
  have hlt:(i.den ρ).toNat<(ab (code.den ρ)).length:=by omega
  have hrow:(ab (code.den ρ))[(i.den ρ).toNat]?=some (ab (code.den ρ))[(i.den ρ).toNat]:=jt hlt
  have aZ:=iD _ (F8 hlt)
  generalize (ab (code.den ρ))[(i.den ρ).toNat]=row at hrow aZ
  obtain⟨z,h1,h2,h3,h4⟩:=aZ.get (show([c]:List aw)[0]?=some c from rfl)
  refine(LR (nb:=nb) (m:=m) hrow h1 h2 h3).bind λax n1 y hn ha ⟨g1,g2⟩=>?_
  have gf:=I.bB ha ED
  have hid:=I.bB ha EE
  refine(YQ (nb:=nb) (q:=q) (n:=n1) (ρ:=ax) (i:=i.add (.const 1)) (by rw[gf];exact iD) (ED.mono hn) (I.sZ (EE.mono hn) (I.cz _ _))).bind λbx ed l er dk ⟨k1,k2,k3⟩=>aj.pure ⟨λb hb=>?_,by simp[k2],λx b hb=>?_⟩
  ·rcases List.mem_cons.1 hb with rfl|hb
   ·exact g1.ext dk er (a6 _)
   ·exact k1 b hb
  ·cases x with
   |zero=>
    simp only[qO,aG]at hb
    subst hb
    exact⟨row,by simpa using hrow,by rw[A.jy g1 dk (λ_ _=>rfl),g2];exact h4⟩
   |succ x=>
    obtain⟨ze,r1,r2⟩:=k3 x b (by simpa using hb)
    rw[gf,I.den_add,I.aM,hid]at r1
    exact⟨ze,by rw[<-r1];congr 1;omega,r2⟩
theorem aeg (hb:cp n bl.length ρ bl) (hex:∃w,Mem w0 ρ m bl w) (t:aN) {b aQ:Nat} {o i:I} {j:Nat} (hx:(A.ep b aQ o i j).ok n bl.length ρ):
 aj S L (Ml P bl t b aQ o i j) n ρ (kb w0 m bl n ρ λw=>(mv t ((A.ep b aQ o i j).den ρ m)).run P w):=by
 obtain⟨s9,qj⟩:=hex
 unfold Ml
 split
 ·rename_i sh off code cap kind t' hbl
  refine dA λhc=>ga λhk=>?_
  simp only[aK]at hc
  obtain⟨⟨c1,c2⟩,c3⟩:=hc
  have c1:0<kind:=eb c1
  have c2:=bk c2
  have c3:=I.beq_eq c3
  subst c3
  have yk:(A.rows sh o code cap kind).ok n bl.length ρ:=hb _ (dK hbl) _ (by simp)
  simp only[cr,dY,aa]at hk
  have hlt:(i.den ρ).toNat<(ab (code.den ρ)).length:=by omega
  have hrow:(ab (code.den ρ))[(i.den ρ).toNat]?=some (ab (code.den ρ))[(i.den ρ).toNat]:=jt hlt
  generalize (ab (code.den ρ))[(i.den ρ).toNat]=row at hrow
  have cE:0<=cap.den ρ:=by
   rcases iX (cap.den ρ) 0 with h|h
   ·have:=(qj.rws b sh o code cap kind t' hbl (by omega)).1 h
    rw[this]at hlt;simp at hlt
   ·exact h
  have kk:∀w,Mem w0 ρ m bl w->bS sh row/\∀(x:Nat) (v:az),(cN sh row)[x]?=some v->w.cell? ⟨m b,(o.den ρ).toNat+(i.den ρ).toNat*aQ+x,none⟩=some v:=λw hw=>by
   obtain⟨_,cells,ic,fz,g1,⟨g2,g3⟩,_⟩:=(hw.rws b sh o code cap kind t' hbl (by omega)).2 cE
   refine⟨g3.1 _ (dK hrow),λx v hv=>?_⟩
   have:=g3.get hrow hv
   simp only[iW,g1,qP,o3,if_false]
   rw[c2];exact this
  have iD:=(kk s9 qj).1
  cases lZ:hL P t with
  |none=>exact aj.fail
  |some zO=>
   cases zO with
   |true=>
    cases hs:eA P t with
    |none=>exact aj.fail
    |some k=>
     simp only
     cases hk2:bw (j+k) sh.length with
     |false=>
      simp only[cond_false]
      split
      ·rename_i c _
       have hall:∀row∈ab (code.den ρ),bS [c] row:=by
        obtain⟨_,cells,ic,fz,g1,⟨g2,g3⟩,_⟩:=(qj.rws b [c] o code cap kind t' hbl (by omega)).2 cE
        exact g3.1
       refine(YQ (nb:=bl.length) (m:=m) (q:=k) (i:=i) hall yk.1.2.1 hx.2.1.2).bind λax n1 l hn ha ⟨g1,g2,g3⟩=>aj.pure ⟨g1,_,rfl,λw hw=>?_⟩
       have hl:=Kr (P:=P) w ⟨m b,(o.den ρ).toNat+(i.den ρ).toNat*aQ+0,none⟩ (l.map (A.den ax m)) λx v hj=>by
        rw[gW]
        rw[mu]at hj
        cases hq:l[x]? with
        |none=>simp[hq]at hj
        |some y=>
         simp only[hq,qM,aG]at hj
         subst hj
         obtain⟨ze,r1,r2⟩:=g3 x y hq
         obtain⟨_,cells,ic,fz,e1,⟨e2,bt⟩,_⟩:=(hw.rws b [c] o code cap kind t' hbl (by omega)).2 cE
         have:=bt.get r1 r2
         simp only[iW,e1,qP,o3,if_false]
         simp only[dv,gF]at c2 this
         rw[c2]
         rw[<-this];congr 1;omega
       simp only[j6,g2,ld]at hl
       simp[mv,kB,A.den,loadVar,ow lZ,gO hs,hl,W.den]
      ·exact aj.fail
     |true=>
     simp only[cond_true]
     have hk2:=eb hk2
     refine(LV (nb:=bl.length) (m:=m) (r:=(sh.drop j).take k) iD yk.1.2.1 hx.2.1.2 hrow (λx c EP=>by
      rw[m9]at EP
      split at EP
      ·rw[u7]at EP;exact EP
      ·cases EP)).bind λax n1 l hn ha ⟨g1,g2,g3⟩=>aj.pure ⟨g1,_,rfl,λw hw=>?_⟩
     have hl:=Kr (P:=P) w ⟨m b,(o.den ρ).toNat+(i.den ρ).toNat*aQ+j,none⟩ (l.map (A.den ax m)) λx v hj=>by
      rw[gW]
      rw[mu]at hj
      cases hq:l[x]? with
      |none=>simp[hq]at hj
      |some y=>
       simp only[hq,qM,aG]at hj
       subst hj
       rw[CN]
       exact(kk w hw).2 (j+x) _ (g3 x y hq)
     simp only[j6,g2,mw,List.length_drop,w8 (show k<=sh.length-j by omega)]at hl
     simp[mv,kB,A.den,loadVar,ow lZ,gO hs,hl,W.den]
   |false=>
    cases hc:sh[j]? with
    |none=>simp only;exact aj.fail
    |some c=>
     simp only
     obtain⟨z,h1,h2,h3,h4⟩:=iD.get hc
     refine(LR (nb:=bl.length) (m:=m) hrow h1 h2 h3).bind λax n1 y hn ha ⟨g1,g2⟩=>aj.pure ⟨g1,_,rfl,λw hw=>?_⟩
     have:=(kk w hw).2 j _ h4
     have Od:(A.ep b aQ o i j).den ρ m= .pointer (some ⟨m b,(o.den ρ).toNat+(i.den ρ).toNat*aQ+j,none⟩):=rfl
     simp[mv,kB,Od,loadVar,ow lZ,this,W.den,g2]
 ·exact aj.fail
theorem oT {b aQ:Nat} {o ro len cap:I} (hx:(A.sl b aQ o ro len cap).ok n bl.length ρ):∃p,(A.sl b aQ o ro len cap).den ρ m= .slice p (len.den ρ).toNat (if cap.den ρ<0 then 0 else(cap.den ρ).toNat)/\(cap.den ρ<0->p=none)/\(0<=cap.den ρ->p=some ⟨m b,(o.den ρ).toNat+(ro.den ρ).toNat*aQ,none⟩):=by
 obtain⟨_,_,_,_,h3,_⟩:=hx
 simp only[A.den]
 by_cases hc:cap.den ρ<0
 ·rw[if_pos hc,if_pos hc,h3 hc]
  exact⟨none,rfl,λ_=>rfl,λh=>by omega⟩
 ·rw[if_neg hc,if_neg hc]
  exact⟨_,rfl,λh=>absurd h hc,λ_=>rfl⟩
theorem aqr {t:aN} {b aQ:Nat} {o ro len cap aL:I} {k:cS} (hx:(A.sl b aQ o ro len cap).ok n bl.length ρ) (hi:aL.aW n):
 aj S L (Qu P t b aQ o ro len aL) n ρ (kb w0 m bl n ρ λw=>(pX t ((A.sl b aQ o ro len cap).den ρ m) (.int k (aL.den ρ))).run P w):=by
 unfold Qu
 cases h1:gB P t with
 |none=>exact aj.fail
 |some e=>
  cases h2:eA P e with
  |none=>simp only[h2];exact aj.fail
  |some s=>
   simp only[h2]
   refine dA λhs=>ga λhk=>aj.pure ?_
   have hs:=bk hs
   subst hs
   simp only[cr,dY,aa]at hk
   obtain⟨x1,⟨x2,gP,gw,gD⟩,⟨gQ,kt,ku,kv⟩,k6,fi,gC⟩:=hx
   have cE:¬(cap.den ρ<0):=λh=>by have:=fi h;omega
   refine⟨⟨x1,⟨x2,I.sZ gP hi⟩,gQ,by rw[I.den_add];omega⟩,_,rfl,λw _=>?_⟩
   have c2:aL.den ρ<((len.den ρ).toNat:Int):=by omega
   have e1:(ro.den ρ+aL.den ρ).toNat=(ro.den ρ).toNat+(aL.den ρ).toNat:=by omega
   simp only[A.den,if_neg cE,W.den,I.den_add,e1]
   simp[-avA,pX,asIntOf,ef (fw h1),hk.1,c2,gO h2,gW,rU,CN]
theorem LA {d:I} {y:Option mx} {l:I} (h:vq tm d y=some l) (ht:dD n bl.length ρ m tm a.tmps):(y=none/\l=d)∨∃k,y.map a.eval=some (.int k (l.den ρ))/\l.aW n:=by
 cases y with
 |none=>exact .inl ⟨rfl,by simpa [vq]using h.symm⟩
 |some x=>
  obtain⟨k,hk,h2⟩:=yw (m:=m) (bl:=bl) h (b9 ht x).2 (b9 ht x).1
  exact .inr ⟨k,by rw[<-hk];rfl,h2⟩
theorem GU {op:Nat} {ls:List I} (h:aa op (ls.map (·.den ρ))):aj S L (zQ op ls) n ρ λad n' _=>ad=ρ/\n'=n:=λA k hk=>⟨ρ,n,(),a6 _,agree.refl _ _,⟨rfl,rfl⟩,hk h⟩
theorem aqu {t:aN} {b aQ:Nat} {o ro len cap p q:I} {lo hi:Option mx} (hx:(A.sl b aQ o ro len cap).ok n bl.length ρ) (ht:dD n bl.length ρ m tm a.tmps) (hp:vq tm (.const 0) lo=some p) (hq:vq tm len hi=some q):
 aj S L (Qx P t b aQ o ro len cap p q) n ρ (kb w0 m bl n ρ λw=>(oY t ((A.sl b aQ o ro len cap).den ρ m) (lo.map a.eval) (hi.map a.eval) none).run P w):=by
 unfold Qx
 cases h1:gB P t with
 |none=>exact aj.fail
 |some e=>
  cases h2:eA P e with
  |none=>simp only[h2];exact aj.fail
  |some s=>
   simp only[h2]
   refine dA λhs=>ga λhk=>?_
   have hs:=bk hs
   subst hs
   simp only[cr,dY,aa]at hk
   obtain⟨k1,k2,k3⟩:=hk
   have jU:=hx
   obtain⟨x1,⟨x2,gP,gw,gD⟩,⟨gQ,kt,ku,kv⟩,⟨k6,j2⟩,fi,gC⟩:=hx
   have hsp:=LA hp ht
   have Ik:=LA hq ht
   have zh:p.aW n:=by rcases hsp with⟨_,rfl⟩|⟨_,_,h⟩;exact I.cz _ _;exact h
   have BX:q.aW n:=by rcases Ik with⟨_,rfl⟩|⟨_,_,h⟩;exact gw;exact h
   obtain⟨ptr,e1,e2,bt⟩:=oT (m:=m) jU
   have n3:∀w,(j7 true (len.den ρ).toNat (if cap.den ρ<0 then 0 else(cap.den ρ).toNat) (lo.map a.eval) (hi.map a.eval) none).run P w= .ok ((p.den ρ).toNat,(q.den ρ).toNat,(if cap.den ρ<0 then 0 else(cap.den ρ).toNat)) w:=λw=>by
    have hle:(len.den ρ)<=((if cap.den ρ<0 then 0 else(cap.den ρ).toNat:Nat):Int):=by
     split
     ·rename_i h;rw[fi h];simp
     ·rename_i h;have:=gC (by omega);omega
    generalize (if cap.den ρ<0 then 0 else(cap.den ρ).toNat)=C at hle
    rcases hsp with⟨rfl,rfl⟩|⟨Xl,vU,_⟩<;>rcases Ik with⟨rfl,rfl⟩|⟨akA,hq',_⟩
    ·simp[j7,I.aM]
    ·rw[hq'];simp[j7,I.aM,pO (P:=P) (by omega:0<=q.den ρ) (by omega:q.den ρ<=(C:Int))]
    ·rw[vU];simp[j7,pO (P:=P) (y:=(q.den ρ).toNat) k1 (by omega)]
    ·rw[vU,hq'];simp[j7,pO (P:=P) (by omega:0<=q.den ρ) (by omega:q.den ρ<=(C:Int)),pO (P:=P) (y:=(q.den ρ).toNat) k1 (by omega)]
   have gv:∀(w:ai) (r:Int),r=(if p.den ρ=cap.den ρ then ro.den ρ else ro.den ρ+p.den ρ)->
    (oY t ((A.sl b s o ro len cap).den ρ m) (lo.map a.eval) (hi.map a.eval) none).run P w= .ok (if cap.den ρ-p.den ρ<0 then .slice none 0 0 else .slice (some ⟨m b,(o.den ρ).toNat+r.toNat*s,none⟩) (q.den ρ-p.den ρ).toNat (cap.den ρ-p.den ρ).toNat) w:=λw r hr=>by
    rw[e1]
    have eS:(q.den ρ).toNat-(p.den ρ).toNat=(q.den ρ-p.den ρ).toNat:=by omega
    simp only[oY,fV,ef (fw h1),fW,RI,n3 w,gO h2,gU,eS]
    by_cases hc:cap.den ρ<0
    ·have hl:=fi hc
     have Ez:p.den ρ=0:=by omega
     rw[if_pos hc,e2 hc,if_pos (by omega)]
     have:q.den ρ=0:=by omega
     simp[Ez,this,hc]
    ·rw[if_neg hc,bt (by omega)]
     have gd:=gC (by omega)
     have V5:¬(cap.den ρ-p.den ρ<0):=by omega
     rw[if_neg V5]
     have oL:(cap.den ρ).toNat-(p.den ρ).toNat=(cap.den ρ-p.den ρ).toNat:=by omega
     rw[oL]
     by_cases EA:p.den ρ=cap.den ρ
     ·rw[if_pos EA]at hr
      have h7:(cap.den ρ).toNat=(p.den ρ).toNat:=by omega
      rw[if_pos h7,hr]
     ·rw[if_neg EA]at hr
      have h7:¬(cap.den ρ).toNat=(p.den ρ).toNat:=by omega
      rw[if_neg h7,hr]
      have iM:(ro.den ρ+p.den ρ).toNat=(ro.den ρ).toNat+(p.den ρ).toNat:=by omega
      rw[iM,rU,<-CN]
      simp[gW]
   split
   ·rename_i h0
    have Ez:=I.gH h0 (ρ:=ρ)
    refine aj.pure ⟨⟨x1,⟨x2,gP,BX,gD⟩,⟨gQ,kt,by omega,by omega⟩,⟨k6,j2⟩,λh=>?_,λh=>?_⟩,_,rfl,λw _=>?_⟩
    ·have:=fi h;omega
    ·have:=gC h;omega
    ·have hr:=gv w (ro.den ρ) (by rw[Ez];split<;>omega)
     rw[Ez]at hr
     simp only[Int.sub_zero]at hr
     simp only[W.den,A.den]at hr⊢
     exact hr
   ·have hb1:(0:Int)<=aB 33 ([ro,p,cap].map (·.den ρ)):=by
     simp only[cr,dY,aB];split<;>omega
    have hb2:aB 33 ([ro,p,cap].map (·.den ρ))<=9223372036854775808:=by
     simp only[cr,dY,aB]
     by_cases hc:cap.den ρ<0
     ·have:=fi hc;split<;>omega
     ·have:=gC (by omega);split<;>omega
    refine(GU (op:=68) (ls:=[len,cap]) (show len.den ρ<=cap.den ρ∨len.den ρ=0 from by
     by_cases hc:cap.den ρ<0
     ·exact .inr (fi hc)
     ·exact .inl (gC (by omega)))).bind λbN n0 _ _ _ ⟨yr,mL⟩=>?_
    have yr:=yr.symm;have mL:=mL.symm
    subst yr;subst mL
    refine(fl hb1 hb2).bind λax n1 r hn ha ⟨g1,g2⟩=>aj.pure ?_
    simp only[cr,dY,aB]at g2
    have a1:=I.bB ha x2;have a2:=I.bB ha BX;have a3:=I.bB ha zh;have a4:=I.bB ha gD
    refine⟨⟨x1,⟨x2.mono hn,g1,I.wP (BX.mono hn) (zh.mono hn),I.wP (gD.mono hn) (zh.mono hn)⟩,?_⟩,_,rfl,λw _=>?_⟩
    ·rw[I.ll,I.ll,a1,a2,a3,a4,g2]
     refine⟨⟨gQ,?_,by omega,by omega⟩,⟨?_,?_⟩,λh=>?_,λh=>?_⟩
     ·split<;>omega
     ·by_cases hc:cap.den ρ<0
      ·have:=fi hc;omega
      ·have:=gC (by omega);omega
     ·split<;>omega
     ·by_cases hc:cap.den ρ<0
      ·have:=fi hc;omega
      ·have:=gC (by omega);omega
     ·by_cases hc:cap.den ρ<0
      ·have:=fi hc;omega
      ·have:=gC (by omega);omega
    ·refine(gv w (r.den ax) g2).trans ?_
     simp only[W.den,A.den,I.ll,a1,a2,a3,a4]
theorem aqs (hb:cp n bl.length ρ bl) (hex:∃w,Mem w0 ρ m bl w) {src dst e:aN} (hs:P.underlying src=some (.slice e)) (he:P.underlying e=some (.int .u8)) (hd:P.underlying dst=some .string) {b aQ:Nat} {o ro len cap:I} (hx:(A.sl b aQ o ro len cap).ok n bl.length ρ):
 aj S L (Qw bl b aQ o ro len) n ρ (kb w0 m bl n ρ λw=>(convert src dst ((A.sl b aQ o ro len cap).den ρ m)).run P w):=by
 obtain⟨s9,qj⟩:=hex
 unfold Qw
 split
 ·rename_i sh off code fZ kind t' hbl
  refine dA λhc=>ga λhk=>?_
  simp only[aK]at hc
  obtain⟨⟨⟨c1,c2⟩,c3⟩,c4⟩:=hc
  have c1:0<kind:=eb c1
  have c2:=bk c2
  have c3:=I.beq_eq c3
  subst c3;subst c2
  simp only[cr,dY,aa,I.den_add]at hk
  obtain⟨ptr,e1,e2,bt⟩:=oT (m:=m) hx
  obtain⟨x1,⟨x2,gP,gw,gD⟩,⟨gQ,kt,ku,kv⟩,⟨k6,j2⟩,fi,gC⟩:=hx
  generalize hR:ab (code.den ρ)=rows at hk
  have l4:fZ.den ρ<0->rows=[]:=λh=>by rw[<-hR];exact(qj.rws b sh o code fZ kind t' hbl (by omega)).1 h
  have eM:(((rows.drop (ro.den ρ).toNat).take (len.den ρ).toNat).map λrow=>row.getD 0 0).length=(len.den ρ).toNat:=by
   simp;omega
  have hf:aB 34 ([code,ro,ro.add len].map (·.den ρ))=dP ((((rows.drop (ro.den ρ).toNat).take (len.den ρ).toNat).map λrow=>row.getD 0 0).map λz=>k8 z.toNat):=by
   simp only[cr,dY,aB,I.den_add,hR]
   have:(ro.den ρ+len.den ρ).toNat-(ro.den ρ).toNat=(len.den ρ).toNat:=by omega
   rw[this,j5];rfl
  generalize bD:(((rows.drop (ro.den ρ).toNat).take (len.den ρ).toNat).map λrow=>row.getD 0 0)=xs at eM hf
  have hl:(xs.map λz=>k8 z.toNat).length<=fQ:=by
   have:(xs.map λz=>k8 z.toNat).length=(len.den ρ).toNat:=by simp[eM]
   unfold fQ;omega
  refine(fl (by rw[hf];exact p9 _) (by rw[hf];exact oG hl)).bind λax n1 l _ _ ⟨g1,g2⟩=>aj.pure ⟨⟨g1,by rw[g2,hf];exact p9 _,by rw[g2,hf];exact oG hl⟩,_,rfl,λw hw=>?_⟩
  have ly:(W.one (A.str l)).den ax m= .string (strOfNums xs):=by
   simp only[W.den,A.den,g2,hf,fS]
   rfl
  rw[ly]
  show(convert src dst ((A.sl b 1 o ro len cap).den ρ m)).run P w=_
  rw[e1]
  by_cases cE:cap.den ρ<0
  ·have hl0:=fi cE
   rw[e2 cE,if_pos cE]
   have WS:xs=[]:=vd (by rw[eM,hl0];rfl)
   rw[WS,run_convert_bytes_nil w src e hs he _ _ dst hd]
   rfl
  ·rw[bt (by omega),if_neg cE]
   by_cases D5:fZ.den ρ<0
   ·have n8:=l4 D5
    have hl0:len.den ρ=0:=by rw[n8]at hk;simp at hk;omega
    have WS:xs=[]:=vd (by rw[eM,hl0];rfl)
    exact run_convert_bytes_arg w src e hs he (m b) _ _ _ xs eM (λi hi=>by rw[hl0]at hi;simp at hi) dst hd
   ·obtain⟨_,cells,ic,fz,k1,⟨k2,k3⟩,_⟩:=(hw.rws b sh o code fZ kind t' hbl (by omega)).2 (by omega)
    refine run_convert_bytes_arg w src e hs he (m b) _ _ _ xs eM (λi hi=>?_) dst hd
    have hlt:(ro.den ρ).toNat+i<rows.length:=by omega
    have hrow:(ab (code.den ρ))[(ro.den ρ).toNat+i]?=some rows[(ro.den ρ).toNat+i]:=by rw[hR];exact jt hlt
    have gK:∃lo hi,sh=[.int .u8 lo hi]:=by
     unfold G6 at c4
     split at c4
     ·exact⟨_,_,rfl⟩
     ·cases c4
    obtain⟨lo,cD,rfl⟩:=gK
    have yk:=k3.1 _ (dK hrow)
    obtain⟨z,bo,_,_,dz⟩:=yk.get (j:=0) (c:= .int .u8 lo cD) rfl
    have:=k3.get hrow dz
    have hz:xs.getD i 0=z:=by
     rw[<-bD]
     have:i<(len.den ρ).toNat:=hi
     simp[af,m9,this,hlt,bo]
    simp only[iW,k1,qP,o3,if_false,hz]
    simp only[dv,gF,ld,oE,CF]at this
    rw[show(o.den ρ).toNat+(ro.den ρ).toNat*1+i=(o.den ρ).toNat+((ro.den ρ).toNat+i) by omega]
    exact this
 ·exact aj.fail
theorem al7 {k:cS} {x y:bj} {t:aN} {ts:Array aN} (hx:x.ok n ρ) (hy:y.ok n ρ):aj S L (XL k x y) n ρ (kb w0 m bl n ρ λw=>(RS ts t #[.int k (x.l.den ρ),.int k (y.l.den ρ)]).run P w):=by
 have e:=aS.Hm hy hx
 have hr:∀w,(RS ts t #[.int k (x.l.den ρ),.int k (y.l.den ρ)]).run P w= .ok (.int k (if y.l.den ρ<x.l.den ρ then y.l.den ρ else x.l.den ρ)) w:=λw=>by
  simp[RS,Builtin.min2]
 refine TZ (λhb=>aj.pure ⟨hy,_,rfl,λw _=>?_⟩) λhb=>aj.pure ⟨hx,_,rfl,λw _=>?_⟩
 ·rw[e.1]at hb
  simp only[hr,if_pos (of_decide_eq_true hb)];rfl
 ·rw[e.1]at hb
  simp only[hr,if_neg (of_decide_eq_false hb)];rfl
theorem al5 {k:cS} {x y:bj} {t:aN} {ts:Array aN} (hx:x.ok n ρ) (hy:y.ok n ρ):aj S L (XI k x y) n ρ (kb w0 m bl n ρ λw=>(RT ts t #[.int k (x.l.den ρ),.int k (y.l.den ρ)]).run P w):=by
 have e:=aS.Hm hx hy
 have hr:∀w,(RT ts t #[.int k (x.l.den ρ),.int k (y.l.den ρ)]).run P w= .ok (.int k (if x.l.den ρ<y.l.den ρ then y.l.den ρ else x.l.den ρ)) w:=λw=>by
  simp[RT,Builtin.max2]
 refine TZ (λhb=>aj.pure ⟨hy,_,rfl,λw _=>?_⟩) λhb=>aj.pure ⟨hx,_,rfl,λw _=>?_⟩
 ·rw[e.1]at hb
  simp only[hr,if_pos (of_decide_eq_true hb)];rfl
 ·rw[e.1]at hb
  simp only[hr,if_neg (of_decide_eq_false hb)];rfl
theorem TX:∀{cs:List A} {l:List Bool},lV cs=some l->cs=l.map λb=>A.bool (.lit b)
 |[],l,h=>by simp[lV]at h;subst h;rfl
 | .bool (.lit b)::r,l,h=>by
  simp only[lV]at h
  cases hr:lV r with
  |none=>simp[hr]at h
  |some bp=>
   simp only[hr,aG]at h
   subst h
   simp[TX hr]
 | .bool (.eq ..)::_,_,h| .bool (.lt ..)::_,_,h| .bool (.le ..)::_,_,h| .bool (.not ..)::_,_,h| .bool (.and ..)::_,_,h| .bool (.iff ..)::_,_,h=>by simp[lV]at h
 | .int .. ::_,_,h=>by simp[lV]at h
 | .ptr .. ::_,_,h=>by simp[lV]at h
 | .lG .. ::_,_,h=>by simp[lV]at h
 | .gptr .. ::_,_,h=>by simp[lV]at h
 | .slc .. ::_,_,h=>by simp[lV]at h
 | .con _::_,_,h=>by simp[lV]at h
 | .str _::_,_,h=>by simp[lV]at h
 | .rows .. ::_,_,h=>by simp[lV]at h
 | .sl .. ::_,_,h=>by simp[lV]at h
 | .ep .. ::_,_,h=>by simp[lV]at h
theorem WZ:∀(l:List Bool) (s:Nat),s+l.length<=256->∀i:Nat,i<256->(k8 i∈tZ s l↔s<=i/\l[i-s]?=some true)
 |[],s,_,i,_=>by simp[tZ]
 |b::r,s,h,i,hi=>by
  simp only[dv]at h
  have ih:=WZ r (s+1) (by omega) i hi
  have hne:s≠i->k8 i≠k8 s:=λhne he=>by
   have:=congrArg UInt8.toNat he
   simp at this;omega
  have key:(s+1<=i/\r[i-(s+1)]?=some true)↔(s<i/\(b::r)[i-s]?=some true):=by
   constructor
   ·rintro⟨h1,h2⟩
    refine⟨h1,?_⟩
    rw[show i-s=(i-(s+1))+1 by omega];simpa using h2
   ·rintro⟨h1,h2⟩
    refine⟨h1,?_⟩
    rw[show i-s=(i-(s+1))+1 by omega]at h2;simpa using h2
  unfold tZ
  cases b with
  |true=>
   simp only[cond_true,lR,ih,key]
   by_cases he:s=i
   ·subst he;simp
   ·constructor
    ·rintro(h1|h1)
     ·exact absurd h1 (hne he)
     ·exact⟨by omega,h1.2⟩
    ·rintro⟨h1,h2⟩;exact .inr ⟨by omega,h2⟩
  |false=>
   simp only[cond_false,ih,key]
   by_cases he:s=i
   ·subst he;simp
   ·constructor
    ·rintro⟨h1,h2⟩;exact⟨by omega,h2⟩
    ·rintro⟨h1,h2⟩;exact⟨by omega,h2⟩
theorem aqe (hb:cp n bl.length ρ bl) {ty:aN} (hu:P.underlying ty=some .bool) (b off:Nat) {aL:bj} (Em:aL.ok n ρ):aj S L (Qm bl b off aL) n ρ (kb w0 m bl n ρ λw=>(mv ty ((A.lG b off aL).den ρ m)).run P w):=by
 unfold Qm
 cases hbl:bl[b]? with
 |none=>exact aj.fail
 |some q=>
  obtain⟨cs,t⟩:=q
  simp only
  cases hi:lV ((cs.drop off).take (aL.hi.toNat+1))with
  |none=>exact aj.fail
  |some l=>
   refine dA λhc=>?_
   simp only[aK,decide_eq_true_eq]at hc
   obtain⟨⟨⟨hc1,hc2⟩,axB⟩,hq⟩:=hc
   have hlen:=bk hc1
   have DO:=eb hc2
   have e:=TX hi
   have zZ:=Em.2
   have hlt:(aL.l.den ρ).toNat<l.length:=by omega
   have hh:dP (tZ 0 l)=(I.const (dP (tZ 0 l))).den ρ:=(I.aM _ _).symm
   have hf:aB 43 ([I.const (dP (tZ 0 l)),aL.l].map (·.den ρ))=if l[(aL.l.den ρ).toNat]=true then 1 else 0:=by
    simp only[cr,dY,aB,I.aM,fS]
    have:=WZ l 0 (by omega) (aL.l.den ρ).toNat (by omega)
    simp only[Nat.sub_zero,mr,true_and,jt hlt,aG]at this
    simp only[this]
   have b1:=C9 (l[(aL.l.den ρ).toNat]=true)
   refine(fl (by rw[hf];exact b1.1) (by rw[hf];exact b1.2)).bind λax n1 r hn ha ⟨g1,g2⟩=>?_
   rw[hf]at g2
   have e2:=aS.qa (n:=n1) (ρ:=ax) (a:=⟨r,0,1⟩) (b:= .const 1) ⟨g1,by simp only[g2];exact b1.1,by simp only[g2];exact b1.2⟩ (bj.lX _ _ _)
   refine aj.pure ⟨e2.2,_,rfl,λw hw=>?_⟩
   obtain⟨_,_,zg,_,h2⟩:=hw.et b cs t hbl hq
   have hcs:cs[off+(aL.l.den ρ).toNat]?=some (.bool (.lit l[(aL.l.den ρ).toNat])):=by
    have h1:((cs.drop off).take (aL.hi.toNat+1))[(aL.l.den ρ).toNat]?=some (.bool (.lit l[(aL.l.den ρ).toNat])):=by rw[e];simp[hlt]
    rw[m9]at h1
    split at h1
    ·rw[u7]at h1;exact h1
    ·cases h1
   have ahR:=(List.getElem?_eq_some_iff.1 hcs).1
   have hcell:w.cell? ⟨m b,off+(aL.l.den ρ).toNat,none⟩=some (.bool l[(aL.l.den ρ).toNat]):=by
    simp only[iW,h2,qP,o3,if_false,F7]
    rw[rZ (by simpa using ahR),mu,hcs];rfl
   have lZ:hL P ty=some false:=by unfold hL;rw[hu]
   have Od:(A.lG b off aL).den ρ m= .pointer (some ⟨m b,off+(aL.l.den ρ).toNat,none⟩):=rfl
   simp only[W.den,A.den]
   rw[e2.1]
   simp only[g2,bj.const,I.aM]
   have ahK:decide ((if l[(aL.l.den ρ).toNat]=true then(1:Int)else 0)=1)=l[(aL.l.den ρ).toNat]:=by
    cases l[(aL.l.den ρ).toNat]<;>rfl
   rw[ahK]
   have ai4:=Od
   simp only[A.den]at ai4
   simp[mv,kB,loadVar,ow lZ,hcell]
theorem ap1 (w:ai) {t e:aN} (hu:P.underlying t=some (.slice e)) (p:Option Addr) (l c:Nat):(binOp .eql t (.slice p l c) (.slice none 0 0)).run P w= .ok (.bool p.isNone) w:=by
 have h:binOp .eql t (.slice p l c) (.slice none 0 0)=(do pure (.bool (<-Op.equal t (.slice p l c) (.slice none 0 0)))):=rfl
 rw[h]
 simp only[fV,run_equal_slice_nil w t e p l c hu,fW,gU]
theorem ap4 (w:ai) {t e:aN} (hu:P.underlying t=some (.slice e)) (p:Option Addr) (l c:Nat):(binOp .neq t (.slice p l c) (.slice none 0 0)).run P w= .ok (.bool !p.isNone) w:=by
 have h:binOp .neq t (.slice p l c) (.slice none 0 0)=(do pure (.bool (!(<-Op.equal t (.slice p l c) (.slice none 0 0))))):=rfl
 rw[h]
 simp only[fV,run_equal_slice_nil w t e p l c hu,fW,gU]
theorem TL {b off:Nat} {sh:List aw} {code:I} {c:Nat} (h:GS bl b off=some (sh,code,c)):off=0/\∃cap kind t,bl[b]?=some ([.rows sh (.const 0) code cap kind],t)/\0<kind/\∀ρ,cap.den ρ=(c:Int):=by
 unfold GS at h
 split at h
 ·rename_i ei o code' cap kind t hbl
  split at h
  ·rename_i q hq
   cases hc:(aA off 0&&b7 0 kind&&I.beq o (.const 0)&&decide (0<=q))with
   |false=>rw[hc]at h;cases h
   |true=>
    rw[hc]at h
    simp only[cond_true,aG,cj]at h
    obtain⟨rfl,rfl,rfl⟩:=h
    simp only[aK,decide_eq_true_eq]at hc
    obtain⟨⟨⟨c1,c2⟩,c3⟩,c4⟩:=hc
    have c3:=I.beq_eq c3
    subst c3
    exact⟨bk c1,cap,kind,t,hbl,eb c2,λρ=>by rw[I.gH hq];omega⟩
  ·cases h
 ·cases h
theorem TG {nb:Nat} {sh:List aw}:∀{k i:Nat} {n:Nat} {ρ:Env} {code:I},code.aW n->(∀row∈ab (code.den ρ),bS sh row)->(ab (code.den ρ)).length=i+k->
 aj S L (GQ code sh i k) n ρ λad n' l=>(∀a∈l,A.ok n' nb ad a)/\l.length=k*sh.length/\∀(x:Nat) (a:A),l[x]?=some a->(aU sh (ab (code.den ρ)))[i*sh.length+x]?=some (a.den ad m)
 |0,i,n,ρ,code,_,_,_=>aj.pure ⟨λ_ h=>by simp at h,by simp,λx a h=>by simp at h⟩
 |k+1,i,n,ρ,code,hs,iD,hl=>by
  unfold GQ
  have hlt:i<(ab (code.den ρ)).length:=by omega
  have hrow:(ab (code.den ρ))[i]?=some (ab (code.den ρ))[i]:=jt hlt
  generalize (ab (code.den ρ))[i]=row at hrow
  refine(LV (nb:=nb) (m:=m) (r:=sh) (j:=0) (i:= .const (i:Nat)) (code:=code) (iD row (dK hrow)) hs (I.cz _ _) (by rw[I.aM,k9];exact hrow) (λx c hx=>by rw[oE];exact hx)).bind λax n1 l1 e4 dF ⟨g1,g2,g3⟩=>?_
  have e1:code.den ax=code.den ρ:=I.bB dF hs
  refine(TG (nb:=nb) (k:=k) (i:=i+1) (code:=code) (hs.mono e4) (by rw[e1];exact iD) (by rw[e1];omega)).bind λbx ed l2 er dk ⟨k1,k2,k3⟩=>aj.pure ⟨λa ha=>?_,by rw[dQ,g2,k2,r5];omega,λx a hx=>?_⟩
  ·rcases List.mem_append.1 ha with ha|ha
   ·exact(g1 a ha).ext dk er (a6 _)
   ·exact k1 a ha
  ·rw[List.getElem?_append]at hx
   split at hx
   ·rename_i hlt
    have:=g3 x a hx
    rw[oE]at this
    rw[A.jy (g1 a (dK hx)) dk (λ_ _=>rfl)]
    exact MB iD hrow this
   ·rename_i fa
    have:=k3 (x-l1.length) a hx
    rw[e1,g2]at this
    rw[g2]at fa
    rw[show i*sh.length+x=(i+1)*sh.length+(x-sh.length) by rw[r5];omega]
    exact this
theorem adv {α:Type} {p q r len cap:I} {f:Unit->M α} {R:Env->Nat->α->Prop} (e0:cap.den ρ<0->len.den ρ=0) (gd:0<=cap.den ρ->len.den ρ<=cap.den ρ) (h:(0<=p.den ρ/\p.den ρ<=q.den ρ/\q.den ρ<=r.den ρ/\r.den ρ<=cap.den ρ)->aj S L (f ()) n ρ R):
 aj S L (bind (cond (I.beq r len) (eZ 78 [p,q,r,cap]) (eZ 64 [p,q,r,len])) f) n ρ R:=by
 cases I.beq r len with
 |true=>exact ga λhk=>h hk
 |false=>
  refine ga λhk=>h ?_
  have hk:0<=p.den ρ/\p.den ρ<=q.den ρ/\q.den ρ<=r.den ρ/\r.den ρ<=len.den ρ/\0<len.den ρ:=hk
  have hc:0<=cap.den ρ:=by
   rcases iX (cap.den ρ) 0 with h|h
   ·have:=e0 h;omega
   ·exact h
  have:=gd hc
  omega
theorem aqt {t:aN} {b aQ:Nat} {o ro len cap p q r:I} {lo:Option mx} {hi dy:mx} (hx:(A.sl b aQ o ro len cap).ok n bl.length ρ) (ht:dD n bl.length ρ m tm a.tmps) (hp:vq tm (.const 0) lo=some p) (hq:od (bM tm hi)=some q) (hr:od (bM tm dy)=some r):
 aj S L (Qy P t b aQ o ro len cap p q r) n ρ (kb w0 m bl n ρ λw=>(oY t ((A.sl b aQ o ro len cap).den ρ m) (lo.map a.eval) (some (a.eval hi)) (some (a.eval dy))).run P w):=by
 unfold Qy
 cases h1:gB P t with
 |none=>exact aj.fail
 |some e=>
  cases h2:eA P e with
  |none=>simp only[h2];exact aj.fail
  |some s=>
   simp only[h2]
   refine dA λhs=>adv (λh=>hx.2.2.2.2.1 h) (λh=>hx.2.2.2.2.2 h) λhk=>?_
   have hs:=bk hs
   subst hs
   obtain⟨k1,k2,k3,k4⟩:=hk
   have jU:=hx
   obtain⟨x1,⟨x2,gP,gw,gD⟩,⟨gQ,kt,ku,kv⟩,⟨k6,j2⟩,fi,gC⟩:=hx
   have hsp:=LA hp ht
   have zh:p.aW n:=by rcases hsp with⟨_,rfl⟩|⟨_,_,h⟩;exact I.cz _ _;exact h
   obtain⟨akA,hq',BX⟩:=yw (m:=m) (bl:=bl) hq (b9 ht hi).2 (b9 ht hi).1
   obtain⟨ax2,mM,Y3⟩:=yw (m:=m) (bl:=bl) hr (b9 ht dy).2 (b9 ht dy).1
   obtain⟨ptr,e1,e2,bt⟩:=oT (m:=m) jU
   have hc:¬(cap.den ρ<0):=by omega
   have gd:=gC (by omega)
   have Ae:=e1
   rw[if_neg hc,bt (by omega)]at Ae
   have hf:aB 33 ([ro,p,r].map (·.den ρ))=(if p.den ρ=r.den ρ then ro.den ρ else ro.den ρ+p.den ρ):=rfl
   refine(fl (by rw[hf];split<;>omega) (by rw[hf];split<;>omega)).bind λax n1 zg hn ha ⟨g1,g2⟩=>aj.pure ?_
   rw[hf]at g2
   have a1:=I.bB ha x2;have a2:=I.bB ha BX;have a3:=I.bB ha zh;have a4:=I.bB ha Y3
   refine⟨⟨x1,⟨x2.mono hn,g1,I.wP (BX.mono hn) (zh.mono hn),I.wP (Y3.mono hn) (zh.mono hn)⟩,?_⟩,_,rfl,λw _=>?_⟩
   ·rw[I.ll,I.ll,a1,a2,a3,a4,g2]
    refine⟨⟨gQ,?_,by omega,by omega⟩,⟨by omega,?_⟩,λh=>by omega,λh=>by omega⟩
    ·split<;>omega
    ·split<;>omega
   ·rw[Ae]
    have n3:(j7 true (len.den ρ).toNat (cap.den ρ).toNat (lo.map a.eval) (some (a.eval hi)) (some (a.eval dy))).run P w= .ok ((p.den ρ).toNat,(q.den ρ).toNat,(r.den ρ).toNat) w:=by
     rw[hq',mM]
     rcases hsp with⟨rfl,rfl⟩|⟨Xl,vU,_⟩
     ·simp[j7,I.aM,pO (P:=P) (y:=(cap.den ρ).toNat) (by omega:0<=r.den ρ) (by omega),pO (P:=P) (y:=(r.den ρ).toNat) (by omega:0<=q.den ρ) (by omega)]
     ·rw[vU]
      simp[j7,pO (P:=P) (y:=(cap.den ρ).toNat) (by omega:0<=r.den ρ) (by omega),pO (P:=P) (y:=(r.den ρ).toNat) (by omega:0<=q.den ρ) (by omega),pO (P:=P) (y:=(q.den ρ).toNat) k1 (by omega)]
    have eS:(q.den ρ).toNat-(p.den ρ).toNat=(q.den ρ-p.den ρ).toNat:=by omega
    have oL:(r.den ρ).toNat-(p.den ρ).toNat=(r.den ρ-p.den ρ).toNat:=by omega
    simp only[oY,fV,ef (fw h1),fW,RI,n3,gO h2,gU,eS,oL,W.den,A.den,I.ll,a1,a2,a3,a4,g2]
    rw[if_neg (show ¬(r.den ρ-p.den ρ<0) by omega)]
    by_cases EA:p.den ρ=r.den ρ
    ·rw[if_pos EA,if_pos (by omega)]
    ·rw[if_neg EA,if_neg (by omega)]
     have iM:(ro.den ρ+p.den ρ).toNat=(ro.den ρ).toNat+(p.den ρ).toNat:=by omega
     rw[iM,rU,<-CN]
     simp[gW]
theorem apU (hb:cp n bl.length ρ bl) (hex:∃w,Mem w0 ρ m bl w) (ht:dD n bl.length ρ m tm a.tmps) (o:Oper) {q:M V} (hq:Jx P bl tm o=some q):aj S L q n ρ (ka w0 m bl n ρ P o a):=by
 obtain⟨s9,qj⟩:=hex
 unfold Jx at hq
 split at hq
 ·rename_i t x aL h
  have hx:=b9 ht x
  have hi:=b9 ht aL
  split at hq
  ·rename_i b off k i hv ym
   rw[hv]at hx;rw[ym]at hi
   split at hq
   ·rename_i sh code c len e xU AB
    split at hq
    ·rename_i s hs
     cases hc:(aA s sh.length&&aA len c)with
     |false=>rw[hc]at hq;cases hq
     |true=>
      rw[hc]at hq
      simp only[cond_true,aG]at hq
      subst hq
      simp only[aK]at hc
      have c2:=bk hc.2
      subst c2
      obtain⟨rfl,cap,kind,bK,hbl,hk,cE⟩:=TL xU
      refine ga λH5=>aj.pure ?_
      simp only[cr,dY,aa,I.aM]at H5
      have cL:a.eval x= .pointer (some ⟨m b,0,none⟩):=hx.2
      have NO:a.eval aL= .int k (i.l.den ρ):=hi.2
      have NP:bj.ok n ρ i:=hi.1
      have l7:b<bl.length:=hx.1
      refine⟨⟨l7,⟨I.cz _ _,NP.1⟩,by rw[I.aM];omega,H5.1⟩,_,rfl,λw _=> .inl ?_⟩
      have c1:i.l.den ρ<((len:Nat):Int):=H5.2
      simp[execOp,h,cL,NO,pX,asIntOf,ef (qX AB),kB,H5.1,c1,gO hs,gW,W.den,A.den,I.aM]
    ·cases hq
   ·cases hq
  ·cases hq
 ·rename_i t x h
  have hx:=b9 ht x
  split at hq
  ·rename_i b off hv
   rw[hv]at hx
   split at hq
   ·rename_i sh code c k xU lZ hs
    cases hc:(aA k (c*sh.length))with
    |false=>rw[hc]at hq;cases hq
    |true=>
     rw[hc]at hq
     simp only[cond_true,aG]at hq
     subst hq
     have hc:=bk hc
     subst hc
     obtain⟨rfl,cap,kind,bK,hbl,hk,cE⟩:=TL xU
     refine ga λyc=>?_
     simp only[cr,dY,aa,I.aM]at yc
     have eH:(A.rows sh (.const 0) code cap kind).ok n bl.length ρ:=hb _ (dK hbl) _ (by simp)
     have kk:∀w,Mem w0 ρ m bl w->∃cells t' fz,w.heap[m b]?=some (.cells cells t' fz)/\kc cells 0 sh (ab (code.den ρ)):=λw hw=>by
      obtain⟨_,cells,ic,fz,g1,⟨g2,g3⟩,_⟩:=(hw.rws b sh (.const 0) code cap kind bK hbl (by omega)).2 (by rw[cE];omega)
      rw[I.aM]at g3
      exact⟨cells,ic,fz,g1,g3⟩
     obtain⟨_,_,_,_,ajd⟩:=kk s9 qj
     refine(TG (nb:=bl.length) (m:=m) (k:=c) (i:=0) eH.1.2.1 ajd.1 (by omega)).bind λax n1 l hn ha ⟨g1,g2,g3⟩=>aj.pure ⟨g1,_,rfl,λw hw=> .inl ?_⟩
     obtain⟨cells,ic,fz,bo,bI⟩:=kk w hw
     have hl:=Kr (P:=P) w ⟨m b,0,none⟩ (l.map (A.den ax m)) λx v hj=>by
      rw[gW]
      rw[mu]at hj
      cases hq:l[x]? with
      |none=>simp[hq]at hj
      |some y=>
       simp only[hq,qM,aG]at hj
       subst hj
       have h3:=g3 x y hq
       rw[Nat.zero_mul,oE]at h3
       simp only[iW,bo,qP,o3,if_false]
       obtain⟨_,pre,post,p1,bq⟩:=bI
       have gJ:pre=[]:=vd bq
       subst gJ
       have hlt:=(List.getElem?_eq_some_iff.1 h3).1
       rw[<-Gb,p1,List.nil_append,rZ (by omega),oE]
       exact h3
     simp only[j6,g2]at hl
     have cL:a.eval x= .pointer (some ⟨m b,0,none⟩):=hx.2
     simp[execOp,h,cL,mv,kB,loadVar,ow lZ,gO hs,hl,W.den]
   ·cases hq
  ·cases hq
 ·rename_i t x lo hi dy h
  have hx:=b9 ht x
  split at hq
  ·rename_i b aQ off ro len cap hv
   rw[hv]at hx
   have cL:a.eval x=(A.sl b aQ off ro len cap).den ρ m:=hx.2
   have he:execOp a.eval o=(do pure (ju (<-oY t ((A.sl b aQ off ro len cap).den ρ m) (lo.map a.eval) (some (a.eval hi)) (some (a.eval dy))))):=by simp only[execOp,h,cL];rfl
   split at hq
   ·rename_i p q' r hp hq' hr
    cases hq
    exact(aqt hx.1 ht hp hq' hr).mono λ_ _ _ _ _ hq=>ka.of_run he hq
   ·cases hq
  ·cases hq
 ·rename_i c h
  split at hq
  ·rename_i hc
   split at hq
   ·rename_i x t eM kS
    have hx:=b9 ht x
    split at hq
    ·rename_i e hv hs
     cases hq
     rw[hv]at hx
     have cL:a.eval x= .slice none 0 0:=hx.2
     have a1:c.args=#[x]:=by rw[<-iJ (xs:=c.args),eM]
     have a2:c.argTypes=#[t]:=by rw[<-iJ (xs:=c.argTypes),kS]
     refine aj.pure ⟨bj.lX _ _ _,_,rfl,λw _=> .inl ?_⟩
     simp[execOp,h,resolve,hc,a1,a2,cL,invoke,builtin,CK,ef (fw hs),goInt,W.den,A.den,bj.const,I.aM]
    ·cases hq
   ·cases hq
  ·cases hq
 ·cases hq
theorem PX {cal:eg} (cx:fk S P gl w0 cal) (hb:cp n bl.length ρ bl) (hg:eK gl w0) (hex:∃w,Mem w0 ρ m bl w) (ht:dD n bl.length ρ m tm a.tmps) (o:Oper):
 aj S L (uK P cal gl bl tm o) n ρ (ka w0 m bl n ρ P o a):=by
 unfold uK
 cases hq:Qd P bl tm o with
 |none=>
  simp only
  cases oP:Jx P bl tm o with
  |some q=>exact apU hb hex ht o oP
  |none=>
  simp only
  cases hd:Hn cal bl tm o with
  |none=>exact apu cx hb hg hex ht o
  |some q=>
   simp only
   unfold Hn at hd
   split at hd
   ·rename_i c ho
    split at hd
    ·rename_i x hc
     split at hd
     ·rename_i f Hr Hs hv
      cases hz:(aA Hr.size 0&&aA Hs.size 0)with
      |false=>rw[hz]at hd;cases hd
      |true=>
       rw[hz]at hd
       simp only[cond_true,Option.map_eq_some_iff]at hd
       obtain⟨g,NC,rfl⟩:=hd
       simp only[aK,Nat.beq_eq]at hz
       have bC:Hr=#[]:=vb hz.1
       have e1:Hs=#[]:=vb hz.2
       subst bC e1
       have hx:=b9 ht (.tmp x)
       rw[hv]at hx
       have cL:a.eval (.tmp x)= .func (.func f) #[] #[]:=hx.2
       have nu:∀v∈c.args.toList.map (bM tm),V.ok n bl.length ρ v:=λv hv=>by
        obtain⟨x,_,rfl⟩:=List.mem_map.1 hv
        exact(b9 ht x).1
       have he:execOp a.eval o=callFunc f (c.args.map a.eval):=by
        simp only[execOp,ho,resolve,hc,cL,aao]
        simp[invoke,bind_pure_comp]
       refine(cx f g NC L n ρ m bl _ _ hb hex nu (GD (xs:=c.args.toList) ht)).mono λax n1 v _ _ ⟨bo,val,bI,b6⟩=>⟨bo,val,bI,λw hw=>?_⟩
       have ha:(c.args.toList.map a.eval).toArray=c.args.map a.eval:=by
        rw[<-r6]
       have dz:=b6 w hw
       rw[ha]at dz
       rcases dz with dz|⟨dz,jX⟩
       ·exact .inl (by rw[he];exact dz)
       ·exact .inr ⟨f,_,by rw[he];exact dz,jX⟩
     ·cases hd
    ·cases hd
   ·cases hd
 |some q=>
  simp only
  unfold Qd at hq
  split at hq
  case h_1 t x h=>
   have hx:=b9 ht x
   split at hq
   ·rename_i b aQ off i j hv
    cases hq
    rw[hv]at hx
    have cL:a.eval x=(A.ep b aQ off i j).den ρ m:=hx.2
    have he:execOp a.eval o=(do pure (ju (<-mv t ((A.ep b aQ off i j).den ρ m)))):=by simp only[execOp,h,cL]
    exact(aeg hb hex t hx.1).mono λ_ _ _ _ _ hq=>ka.of_run he hq
   ·rename_i b off aL hv
    split at hq
    ·rename_i hu
     cases hq
     rw[hv]at hx
     have cL:a.eval x=(A.lG b off aL).den ρ m:=hx.2
     have he:execOp a.eval o=(do pure (ju (<-mv t ((A.lG b off aL).den ρ m)))):=by simp only[execOp,h,cL]
     exact(aqe hb hu b off hx.1.2.1).mono λ_ _ _ _ _ hq=>ka.of_run he hq
    ·cases hq
   ·cases hq
  case h_2 x h=>
   have hx:=b9 ht x
   split at hq
   ·rename_i b aQ off i j hv
    cases hq
    rw[hv]at hx
    refine aj.pure ⟨hx.1,_,rfl,λw _=> .inl ?_⟩
    have cL:=hx.2
    simp only[V.rel,W.den,A.den]at cL
    simp[execOp,h,cL,W.den,A.den]
   ·cases hq
  case h_3 t x aL h=>
   have hx:=b9 ht x
   have hi:=b9 ht aL
   split at hq
   ·rename_i b aQ off ro len cap k i hv ym
    cases hq
    rw[hv]at hx
    rw[ym]at hi
    have cL:a.eval x=(A.sl b aQ off ro len cap).den ρ m:=hx.2
    have NO:a.eval aL= .int k (i.l.den ρ):=hi.2
    have he:execOp a.eval o=(do pure (ju (<-pX t ((A.sl b aQ off ro len cap).den ρ m) (.int k (i.l.den ρ))))):=by simp only[execOp,h,cL,NO]
    have NP:bj.ok n ρ i:=hi.1
    exact(aqr hx.1 NP.1).mono λ_ _ _ _ _ hq=>ka.of_run he hq
   ·cases hq
  case h_4 t x h=>
   have hx:=b9 ht x
   split at hq
   ·rename_i b aQ off ro len cap k e hv ha
    cases hq
    rw[hv]at hx
    refine dA λhc=>ga λhk=>?_
    have hc:0<k:=eb hc
    simp only[cr,dY,I.aM,aa]at hk
    have aZ:A.ok n bl.length ρ (.sl b aQ off ro len cap):=hx.1
    obtain⟨h1,⟨h2,h3,h4,h5⟩,h6⟩:=aZ
    have cE:¬cap.den ρ<0:=λye=>by have:=h6.2.2.1 ye;omega
    refine aj.pure ⟨⟨h1,⟨h2,h3⟩,h6.1.1,h6.1.2.1⟩,_,rfl,λw _=> .inl ?_⟩
    have cL:a.eval x=(A.sl b aQ off ro len cap).den ρ m:=hx.2
    have hle:¬(len.den ρ).toNat<k:=by omega
    simp only[execOp,h]
    rw[cL]
    simp only[A.den,if_neg cE]
    simp[aaq,ef (qX ha),hle,W.den,A.den]
   ·cases hq
  case h_5 s x f h=>
   have hx:=b9 ht x
   split at hq
   ·rename_i b aQ off i j fd hv hf
    rw[hv]at hx
    obtain⟨dE,hu,Ed⟩:=Ms hf
    split at hq
    ·rename_i k hs
     cases hq
     refine aj.pure ⟨hx.1,_,rfl,λw _=> .inl ?_⟩
     have cL:=hx.2
     simp only[V.rel,W.den,A.den]at cL
     simp[execOp,h,cL,aab,ef hu,Ed,kB,fieldPlace,gO hs,gW,W.den,A.den,CN]
    ·cases hq
   ·cases hq
  case h_6 t x lo hi h=>
   have hx:=b9 ht x
   split at hq
   ·rename_i b aQ off ro len cap hv
    rw[hv]at hx
    have cL:a.eval x=(A.sl b aQ off ro len cap).den ρ m:=hx.2
    have he:execOp a.eval o=(do pure (ju (<-oY t ((A.sl b aQ off ro len cap).den ρ m) (lo.map a.eval) (hi.map a.eval) none))):=by simp only[execOp,h,cL];rfl
    split at hq
    ·rename_i p q' hp hq'
     cases hq
     exact(aqu hx.1 ht hp hq').mono λ_ _ _ _ _ hq=>ka.of_run he hq
    ·cases hq
   ·cases hq
  case h_7 s d x h=>
   have hx:=b9 ht x
   split at hq
   ·rename_i b aQ off ro len cap e hv hs hd
    split at hq
    ·rename_i ah2
     cases hq
     rw[hv]at hx
     have cL:a.eval x=(A.sl b aQ off ro len cap).den ρ m:=hx.2
     have he:execOp a.eval o=(do pure (ju (<-convert s d ((A.sl b aQ off ro len cap).den ρ m)))):=by simp only[execOp,h,cL]
     exact(aqs hb hex (fw hs) ah2 hd hx.1).mono λ_ _ _ _ _ hq=>ka.of_run he hq
    ·cases hq
   ·cases hq
  case h_8 c h=>
   split at hq
   ·rename_i hc
    split at hq
    ·rename_i x t eM kS
     have hx:=b9 ht x
     split at hq
     ·rename_i b aQ off ro len cap e hv hs
      cases hq
      rw[hv]at hx
      have cL:a.eval x=(A.sl b aQ off ro len cap).den ρ m:=hx.2
      have l7:(A.sl b aQ off ro len cap).ok n bl.length ρ:=hx.1
      obtain⟨ptr,e1,_,_⟩:=oT (m:=m) l7
      rw[e1]at cL
      obtain⟨x1,⟨x2,gP,gw,gD⟩,⟨gQ,kt,ku,kv⟩,_⟩:=l7
      have a1:c.args=#[x]:=by rw[<-iJ (xs:=c.args),eM]
      have a2:c.argTypes=#[t]:=by rw[<-iJ (xs:=c.argTypes),kS]
      refine aj.pure ⟨⟨gw,ku,kv⟩,_,rfl,λw _=> .inl ?_⟩
      have eS:((len.den ρ).toNat:Int)=len.den ρ:=by omega
      simp[-avA,execOp,h,resolve,hc,a1,a2,cL,invoke,builtin,CK,ef (fw hs),goInt,W.den,A.den,eS]
     ·cases hq
    ·cases hq
   ·rename_i hc
    split at hq
    ·rename_i x y eM
     have hx:=b9 ht x
     have hy:=b9 ht y
     split at hq
     ·rename_i k p aP q' oa jC
      by_cases lu:k=aP
      ·subst lu
       simp only[decide_true,cond_true]at hq
       cases hq
       rw[oa]at hx;rw[jC]at hy
       have e1:a.eval x= .int k (p.l.den ρ):=hx.2
       have e2:a.eval y= .int k (q'.l.den ρ):=hy.2
       have a1:c.args=#[x,y]:=by rw[<-iJ (xs:=c.args),eM]
       have he:execOp a.eval o=(do pure (ju (<-RS c.argTypes o.type #[.int k (p.l.den ρ),.int k (q'.l.den ρ)]))):=by
        simp[execOp,h,resolve,hc,a1,e1,e2,invoke,builtin]
       exact(al7 hx.1 hy.1).mono λ_ _ _ _ _ hq=>ka.of_run he hq
      ·simp[lu]at hq
     ·cases hq
    ·cases hq
   ·rename_i hc
    split at hq
    ·rename_i x y eM
     have hx:=b9 ht x
     have hy:=b9 ht y
     split at hq
     ·rename_i k p aP q' oa jC
      by_cases lu:k=aP
      ·subst lu
       simp only[decide_true,cond_true]at hq
       cases hq
       rw[oa]at hx;rw[jC]at hy
       have e1:a.eval x= .int k (p.l.den ρ):=hx.2
       have e2:a.eval y= .int k (q'.l.den ρ):=hy.2
       have a1:c.args=#[x,y]:=by rw[<-iJ (xs:=c.args),eM]
       have he:execOp a.eval o=(do pure (ju (<-RT c.argTypes o.type #[.int k (p.l.den ρ),.int k (q'.l.den ρ)]))):=by
        simp[execOp,h,resolve,hc,a1,e1,e2,invoke,builtin]
       exact(al5 hx.1 hy.1).mono λ_ _ _ _ _ hq=>ka.of_run he hq
      ·simp[lu]at hq
     ·cases hq
    ·cases hq
   ·cases hq
  case h_9 op t x y kp h=>
   have hx:=b9 ht x
   have hy:=b9 ht y
   split at hq
   ·rename_i e b aQ bV ro len cap hs oa jC
    rw[oa]at hx;rw[jC]at hy
    have cL:a.eval x=(A.sl b aQ bV ro len cap).den ρ m:=hx.2
    have rv:a.eval y= .slice none 0 0:=hy.2
    have l7:(A.sl b aQ bV ro len cap).ok n bl.length ρ:=hx.1
    obtain⟨ptr,e1,e2,bt⟩:=oT (m:=m) l7
    rw[e1]at cL
    obtain⟨x1,⟨x2,gP,gw,gD⟩,_,_,fi,_⟩:=l7
    have has:aa 53 ([cap,len].map (·.den ρ)):=fi
    have hp:ptr.isNone=decide (cap.den ρ<0):=by
     rcases iX (cap.den ρ) 0 with h0|h0
     ·rw[e2 h0,decide_eq_true h0];rfl
     ·rw[bt h0,decide_eq_false (by omega)];rfl
    split at hq
    ·cases hq
     refine(GU has).bind λax n1 _ _ _ ⟨nx,hn⟩=>?_
     have nx:=nx.symm
     have hn:=hn.symm
     subst nx hn
     refine aj.pure ⟨⟨gD,I.cz _ _⟩,_,rfl,λw _=> .inl ?_⟩
     have Eg:eqGuard .eql t x y (.slice ptr (len.den ρ).toNat (if cap.den ρ<0 then 0 else(cap.den ρ).toNat)) (.slice none 0 0)=zv ():=rfl
     have he:execOp a.eval o=(do pure (ju (<-binOp .eql t (.slice ptr (len.den ρ).toNat (if cap.den ρ<0 then 0 else(cap.den ρ).toNat)) (.slice none 0 0)))):=by
      simp only[execOp,h,cL,rv,Eg,pure_bind]
     simp only[he,fV,ap1 w (fw hs),fW,gU,hp]
     simp[W.den,A.den,aS.den,I.aM]
    ·cases hq
     refine(GU has).bind λax n1 _ _ _ ⟨nx,hn⟩=>?_
     have nx:=nx.symm
     have hn:=hn.symm
     subst nx hn
     refine aj.pure ⟨aS.s0 ⟨gD,I.cz _ _⟩,_,rfl,λw _=> .inl ?_⟩
     have Eg:eqGuard .neq t x y (.slice ptr (len.den ρ).toNat (if cap.den ρ<0 then 0 else(cap.den ρ).toNat)) (.slice none 0 0)=zv ():=rfl
     have he:execOp a.eval o=(do pure (ju (<-binOp .neq t (.slice ptr (len.den ρ).toNat (if cap.den ρ<0 then 0 else(cap.den ρ).toNat)) (.slice none 0 0)))):=by
      simp only[execOp,h,cL,rv,Eg,pure_bind]
     simp only[he,fV,ap4 w (fw hs),fW,gU,hp]
     simp[W.den,A.den,aS.den,aS.si,I.aM]
    ·cases hq
   ·cases hq
  case h_10=>cases hq
end
end Go.bg
namespace Go.bg
def Uq (ops:Array Oper) (n:Nat):Bool:=
 (cA n).all λi=>match ops[i]? with
   |none=>false
   |some iS=>(iS.after.all λe=> !RL .any e||b7 e.on i)&&(match iS.op with| .select .. =>false|_=>true)&&
    (cA n).all λj=>aA i j||match ops[j]? with
      |none=>false
      |some dt=>match dt.dst with
       |none=>true
       |some d=>(!(iS.looksAt ops).contains d||u9 .any ops i j||u9 .any ops j i)&& !(match iS.dst with|some d'=>aA d' d|none=>false)
def Nv (size n:Nat):Array Bool:=((cA size).map λi=>b7 i n).toArray
def Aj (o:Oper):Bool:=match o.op with| .move _| .assign _| .extract _ _=>true|_=>false
def q4 (ops:Array Oper) (i:Nat):Bool:=match ops[i]? with|some o=>Aj o|none=>false
def e9 (o:Oper):Bool:=match o.op,o.guard,o.dst with| .alloc _,none,some _=>true|_,_,_=>false
def o8 (ops:Array Oper) (i:Nat):Bool:=match ops[i]? with|some o=>e9 o|none=>false
def XT (ops:Array Oper) (n:Nat):Bool:=
 (cA n).all λi=> !o8 ops i||match ops[i]? with
   |some iS=>match iS.dst with
    |some d=>(cA n).all λj=>match ops[j]? with|some dt=> !(dt.looksAt ops).contains d|none=>true
    |none=>false
   |none=>false
def Y8 (ops:Array Oper) (n:Nat):Bool:=
 (cA n).all λi=>q4 ops i||(cA (n+1)).any λj=>b7 i j&&u9 .any ops j i&&(aA j n|| !q4 ops j)
def aeB (ops:Array Oper) (n:Nat):Bool:=
 (cA n).all λi=> !q4 ops i||(cA ops.size).all λj=>b7 j n||u9 .any ops j i||(match ops[i]?,ops[j]? with|some iS,some dt=>iS.apart ops dt|_,_=>false)
def B2 (ops:Array Oper) (n:Nat):Bool:=
 Kp ops&&aeB ops n&&XT ops n&&Uq ops n&&bw n ops.size&&(aA n ops.size||(Y8 ops n&&avo .any ops n))&&avp .any ops (ops.size-n) n (Nv ops.size n)
def calm (Q:Exit->Act->ai->Prop):Exit->Act->ai->Prop
 | .panic _,_,_=>False
 |e,a,w=>Q e a w
theorem pd {a b:Nat} (h:b7 a b=true):a<b:=eb h
theorem alU {a b:Nat} (h:a<b):b7 a b=true:=Nat.ble_eq_true_of_le h
section
variable {P:bm} {ops:Array Oper} {C:ai->Prop}
def sa (P:bm) (ops:Array Oper) (C:ai->Prop) (o:Oper) (v:az) (a:Act):Prop:=
 (tl o (yielded ops a.tmps)=true/\∀w,C w->zL P o a w v)∨(tl o (yielded ops a.tmps)=false/\v=undef)
def xg (P:bm) (ops:Array Oper) (C:ai->Prop) (F:Act->Prop):List Oper->Act->Prop
 |[],a=>F a
 |o::r,a=>cond (e9 o) (xg P ops C F r a) (∃v,sa P ops C o v a/\xg P ops C F r (a.put o.dst v))
theorem PY {Q:Act->Prop}:∀(l:List Oper) (a:Act),xg P ops C Q l a->∃(as:Nat->Act) (vs:Nat->az),as 0=a/\(∀i o,l[i]?=some o->(e9 o=false->sa P ops C o (vs i) (as i)/\as (i+1)=(as i).put o.dst (vs i))/\(e9 o=true->as (i+1)=as i))/\Q (as l.length)
 |[],a,h=>⟨λ_=>a,λ_=>undef,rfl,λi o hi=>by simp at hi,h⟩
 |o::r,a,h=>by
  unfold xg at h
  cases dG:e9 o with
  |true=>
   simp only[dG,cond_true]at h
   obtain⟨as,vs,bC,hs,xO⟩:=PY r _ h
   refine⟨λi=>match i with|0=>a|i+1=>as i,λi=>match i with|0=>undef|i+1=>vs i,rfl,λi bV hi=>?_,xO⟩
   cases i with
   |zero=>
    simp at hi;subst hi
    exact⟨λh1=>by(rw[dG]at h1;cases h1),λ_=>bC⟩
   |succ i=>
    simp at hi
    exact hs i bV hi
  |false=>
   simp only[dG,cond_false]at h
   obtain⟨v,hy,h2⟩:=h
   obtain⟨as,vs,bC,hs,xO⟩:=PY r _ h2
   refine⟨λi=>match i with|0=>a|i+1=>as i,λi=>match i with|0=>v|i+1=>vs i,rfl,λi bV hi=>?_,xO⟩
   cases i with
   |zero=>
    simp at hi;subst hi
    exact⟨λ_=>⟨hy,bC⟩,λh1=>by(rw[dG]at h1;cases h1)⟩
   |succ i=>
    simp at hi
    exact hs i bV hi
theorem ZR {Q:Exit->Act->ai->Prop} {md:aas}:∀(f:Nat) (listed:Array Bool) (a:Act) (w:ai),wpAny P md ops Q f listed a w->wpAny P md ops Q (f+1) listed a w
 |0,_,_,_,h=>⟨λ_=>h.2,λi hi=>by rw[h.1]at hi;cases hi⟩
 |f+1,_,_,_,h=>⟨h.1,λi hi=>wpOp_mono (λdc w' h'=>ZR f _ dc w' h') (h.2 i hi)⟩
theorem ZQ {Q:Exit->Act->ai->Prop} {md:aas} {listed:Array Bool} {a:Act} {w:ai} {f nq:Nat} (h:wpAny P md ops Q f listed a w) (hle:f<=nq):wpAny P md ops Q nq listed a w:=by
 induction hle with
 |refl=>exact h
 |step _ ih=>exact ZR _ _ _ _ ih
theorem Uf {α:Type} {p q:α->Bool}:∀{l:List α},(∀x∈l,q x=true->p x=true)->(∃x∈l,p x=true/\q x=false)->l.countP q<l.countP p
 |[],_,⟨x,hx,_⟩=>by simp at hx
 |y::r,h1,⟨x,hx,h2,h3⟩=>by
  have hle:r.countP q<=r.countP p:=List.countP_mono_left λz hz=>h1 z (cR _ hz)
  rw[avq,avq]
  rcases List.mem_cons.1 hx with rfl|hx
  ·simp[h2,h3];omega
  ·have ih:=Uf (l:=r) (λz hz=>h1 z (cR _ hz)) ⟨x,hx,h2,h3⟩
   have:=h1 y (by simp)
   cases hq:q y<;>cases hp:p y<;>simp[hq,hp]at this⊢<;>omega
theorem sj {n i:Nat} {iS:Oper} (h:Uq ops n=true) (hi:i<n) (ho:ops[i]?=some iS):
 (∀e∈iS.after,RL .any e=true->e.on<i)/\(∀cs b,iS.op≠ .select cs b)/\
 ∀j dt d,j<n->j≠i->ops[j]?=some dt->dt.dst=some d->iS.dst≠some d/\(d∈iS.looksAt ops->u9 .any ops i j=true∨u9 .any ops j i=true):=by
 have h1:=List.all_eq_true.1 h i (List.mem_range.2 hi)
 simp only[ho,aK]at h1
 obtain⟨⟨h1,h2⟩,h3⟩:=h1
 refine⟨λe he hb=>?_,λcs b hc=>by simp[hc]at h2,λj dt d hj hne qg hd=>?_⟩
 ·have:=Array.all_eq_true_iff_forall_mem.1 h1 e he
  simp only[hb,CB,va]at this
  exact pd this
 ·have h4:=List.all_eq_true.1 h3 j (List.mem_range.2 hj)
  have h5:aA i j=false:=by cases hb:aA i j with|false=>rfl|true=>exact absurd (bk hb).symm hne
  simp only[h5,va,qg,hd,aK]at h4
  refine⟨λahZ=>?_,λkk=>?_⟩
  ·have:=h4.2
   simp[ahZ]at this
  ·have:=h4.1
   have hc:(iS.looksAt ops).contains d=true:=by simpa using kk
   simp only[hc,CB,va,qL]at this
   exact this
theorem abV {a b:Act} (h1:a.defers=b.defers) (h2:∀t:Nat,a.tmps[t]?=b.tmps[t]?):a=b:=by
 cases a;cases b
 simp only at h1 h2
 rw[h1,avr h2]
theorem sT {a:Act} {o:Option Tmp} {v:az} {t:Nat} (h:o≠some t):(a.put o v).tmps[t]?=a.tmps[t]?:=by
 cases o with
 |none=>rfl
 |some d=>simp only[CI];rw[avh (λe=>h (by rw[e]))]
theorem put_defers (a:Act) (o:Option Tmp) (v:az):(a.put o v).defers=a.defers:=by cases o<;>rfl
theorem yR (a:Act) (o:Option Tmp) (v:az):(a.put o v).tmps.size=a.tmps.size:=by cases o<;>simp[CI]
theorem aez {o:Oper} {a:Act} {v:az} {w:ai} (hf:Aj o=true) (hC:C w) (h:sa P ops C o v a):Yields P ops o v a:=by
 rcases h with⟨h1,h2⟩|h
 ·refine .inl ⟨h1,λw'=>?_⟩
  have h3:=h2 w hC
  unfold zL at h3
  unfold Aj at hf
  split at hf
  ·rename_i x ho
   simp only[execOp,ho,gU]at h3⊢
   rcases h3 with h3|⟨f,args,h3,_⟩
   ·simp only[avs,avt,and_true]at h3;rw[h3]
   ·simp at h3
  ·rename_i x ho
   simp only[execOp,ho,gU]at h3⊢
   rcases h3 with h3|⟨f,args,h3,_⟩
   ·simp only[avs,avt,and_true]at h3;rw[h3]
   ·simp at h3
  ·rename_i x i ho
   simp only[execOp,ho,fV]at h3⊢
   unfold aaa at h3⊢
   cases hx:a.eval x<;>simp only[hx]at h3⊢<;>try(simp[avu]at h3;done)
   rename_i vs
   cases hv:vs[i]? with
   |none=>simp[hv,avu]at h3
   |some u=>simp[hv]at h3;simp[h3]
  ·cases hf
 ·exact .inr h
theorem aqo {n:Nat} {listed:Array Bool} (hs:Y8 ops n=true) (hc:avo .any ops n=true) (hn:n<ops.size) (inv:HeadInv .any ops n listed):
 ∀(d i:Nat),n-i=d->i<n->q4 ops i=false->listed.getD i false=false->∀t,n<=t->t∉qQ .any ops listed:=by
 intro d
 induction d using Nat.strongRecOn with
 |_ d ih=>
  intro i hd hi hX pA t ht hr
  obtain⟨_,X8,Oc,hall⟩:=mem_ready.1 hr
  have aju:t<ops.size:=(Array.getElem?_eq_some_iff.1 Oc).1
  by_cases ajv:t=n
  ·subst ajv
   have h1:=List.all_eq_true.1 hs i (List.mem_range.2 hi)
   simp only[hX,va]at h1
   obtain⟨j,hj,oO⟩:=List.any_eq_true.1 h1
   simp only[aK,qL]at oO
   obtain⟨⟨Wi,En⟩,AL⟩:=oO
   have Wi:=pd Wi
   obtain⟨dt,qg,e,he,hb,Ie⟩:=zA En
   have axH:j<=t:=by have:=List.mem_range.1 hj;omega
   by_cases Wl:j=t
   ·subst Wl
    have:dt=X8:=gE (qg.symm.trans Oc)
    subst this
    have h2:=hall e he hb
    rw[Ie,pA]at h2
    cases h2
   ·cases hl:listed.getD j false with
    |true=>
     have h2:=inv.closed j dt qg hl e he hb
     rw[Ie,pA]at h2
     cases h2
    |false=>
     have aib:q4 ops j=false:=by
      rcases AL with h3|h3
      ·exact absurd (bk h3) Wl
      ·simpa using h3
     exact ih (t-j) (by omega) j rfl (by omega) aib hl t (a6 _) hr
  ·have h1:=List.all_eq_true.1 hc t (List.mem_range.2 aju)
   simp only[qL,decide_eq_true_eq]at h1
   rcases h1 with h1|h1
   ·omega
   ·obtain⟨bV,gu,e,he,hb,Ie⟩:=zA h1
    have:bV=X8:=gE (gu.symm.trans Oc)
    subst this
    have h2:=hall e he hb
    rw[Ie,zB (inv.tail (t-1) (by omega) (by omega))]at h2
    cases h2
theorem aey {o:Oper} (h:Aj o=true):e9 o=false:=by
 unfold Aj at h
 unfold e9
 cases ho:o.op<;>simp only[ho]at h⊢<;>cases h
theorem amn {n i j:Nat} {iS dt:Oper} {d:Tmp} (h:XT ops n=true) (hi:i<n) (ho:ops[i]?=some iS) (dG:e9 iS=true) (hd:iS.dst=some d) (hj:j<n) (qg:ops[j]?=some dt):d∉dt.looksAt ops:=by
 have h1:=List.all_eq_true.1 h i (List.mem_range.2 hi)
 have ha:o8 ops i=true:=by simp[o8,ho,dG]
 simp only[ha,CB,va,ho,hd]at h1
 have h2:=List.all_eq_true.1 h1 j (List.mem_range.2 hj)
 simp only[qg,js]at h2
 intro hm
 have:(dt.looksAt ops).contains d=true:=by simpa using hm
 rw[this]at h2;cases h2
theorem atx {Q:Exit->Act->ai->Prop} {o:Oper} {i:Nat} {v:az} {a:Act} {w:ai} {K:Act->ai->Prop} (hi:ops[i]?=some o) (hC:C w) (hy:sa P ops C o v a) (h:∀w',w.Extends w'->K (a.put o.dst v) w'):wpOp P ops Q i K a w:=by
 unfold wpOp
 simp only[hi]
 rcases hy with⟨h1,h2⟩|⟨h1,h2⟩
 ·rw[if_pos h1]
  refine .inl ?_
  unfold lf
  rcases h2 w hC with h3|⟨f,args,h3,h4⟩
  ·rw[h3];exact h w (na w)
  ·rw[h3]
   refine h4.mono λe mZ ⟨he,hx⟩=>?_
   subst he
   exact h mZ hx
 ·rw[if_neg (by simp[h1]),<-h2]
  exact h w (na w)
theorem sa.of_same {o:Oper} {v:az} {a dc:Act} (hy:sa P ops C o v a) (he:execOp dc.eval o=execOp a.eval o) (hw:tl o (yielded ops dc.tmps)=tl o (yielded ops a.tmps)):sa P ops C o v dc:=by
 unfold sa zL at*
 rw[he,hw]
 exact hy
structure Tu (ops:Array Oper) (n:Nat) (S:Nat->Prop) (a an b:Act) (eY:Nat->Nat):Prop where
 d:b.defers=a.defers
 aQ:b.tmps.size=a.tmps.size
 q:∀t:Nat,(∃j o,j<n/\S j/\ops[j]?=some o/\e9 o=false/\o.dst=some t)->b.tmps[t]?=an.tmps[t]?
 al:∀(t:Nat) j o,j<n->S j->ops[j]?=some o->e9 o=true->o.dst=some t->t<b.tmps.size->b.tmps[t]?=some (.pointer (some ⟨eY j,0,none⟩))
 no:∀t:Nat,(∀j o,j<n->S j->ops[j]?=some o->o.dst≠some t)->b.tmps[t]?=a.tmps[t]?
structure Fin (ops:Array Oper) (n:Nat) (an b:Act) (eY:Nat->Nat):Prop where
 d:b.defers=an.defers
 aQ:b.tmps.size=an.tmps.size
 al:∀(t:Nat) j o,j<n->ops[j]?=some o->e9 o=true->o.dst=some t->t<b.tmps.size->b.tmps[t]?=some (.pointer (some ⟨eY j,0,none⟩))
 no:∀t:Nat,(∀j o,j<n->ops[j]?=some o->e9 o=true->o.dst≠some t)->b.tmps[t]?=an.tmps[t]?
def vk (ops:Array Oper) (n:Nat) (S:Nat->Prop) (Z:Nat->Obj) (eY:Nat->Nat) (aQ:Nat) (w:ai):Prop:=
 (∀j,j<n->S j->o8 ops j=true->aQ<=eY j/\w.heap[eY j]?=some (Z j))/\∀i j,i<n->j<n->S i->S j->o8 ops i=true->o8 ops j=true->eY i=eY j->i=j
theorem vk.grow {n:Nat} {S:Nat->Prop} {Z:Nat->Obj} {eY:Nat->Nat} {aQ:Nat} {w w':ai} (h:vk ops n S Z eY aQ w) (he:w.Extends w'):vk ops n S Z eY aQ w':=
 ⟨λj h1 h2 h3=>by
  obtain⟨h4,h5⟩:=h.1 j h1 h2 h3
  exact⟨h4,by rw[he.block _ (Array.getElem?_eq_some_iff.1 h5).1];exact h5⟩,h.2⟩
theorem aty {Q:Exit->Act->ai->Prop} {a:Act} {w:ai} {l:List Oper} (n:Nat) (Z:Nat->Obj) (hm:P.follows .mixedOrders=true) (hB:B2 l.toArray n=true) (hC:∀w',w.drew.Extends w'->C w')
 (xQ:∀j o,j<n->l.toArray[j]?=some o->e9 o=true->∀(b:Act) w',(execOp b.eval o).run P w'= .ok (.value (.pointer (some ⟨w'.heap.size,0,none⟩))) (w'.alloc (Z j)))
 (h:xg P l.toArray C (λan=>∀eY b w',Fin l.toArray n an b eY->w.drew.Extends w'->vk l.toArray n (λ_=>True) Z eY w.drew.heap.size w'->wpList P l.toArray (calm Q) (l.drop n) b w') (l.take n) a):wpAny P .any l.toArray (calm Q) l.toArray.size (th l.toArray.size false) a {w with drawn:=w.drawn+1}:=by
 simp only[B2,aK]at hB
 obtain⟨⟨⟨⟨⟨⟨aiS,aid⟩,l3⟩,sA⟩,hle⟩,WI⟩,ajk⟩:=hB
 have hle:n<=l.length:=by simpa using eb hle
 obtain⟨as,vs,bC,hs,bn⟩:=PY _ _ h
 have hlen:(l.take n).length=n:=by simp;omega
 rw[hlen]at bn
 have hop:∀i,i<n->∃o,l.toArray[i]?=some o/\(e9 o=false->sa P l.toArray C o (vs i) (as i)/\as (i+1)=(as i).put o.dst (vs i))/\(e9 o=true->as (i+1)=as i):=λi hi=>by
  have hlt:i<l.length:=by omega
  have h1:(l.take n)[i]?=some l[i]:=by rw[m9,if_pos hi,jt hlt]
  have h2:=hs i _ h1
  exact⟨l[i],by simp[hlt],h2⟩
 have D9:∀i,i<=n->(as i).defers=a.defers/\(as i).tmps.size=a.tmps.size:=by
  intro i
  induction i with
  |zero=>intro _;rw[bC];exact⟨rfl,rfl⟩
  |succ i ih=>
   intro hi
   obtain⟨o,ho,h1,h2⟩:=hop i (by omega)
   cases dG:e9 o with
   |true=>rw[h2 dG];exact ih (by omega)
   |false=>rw[(h1 dG).2,put_defers,yR];exact ih (by omega)
 have VC:∀i,i<=n->∀t:Nat,(∀j o,j<i->l.toArray[j]?=some o->e9 o=false->o.dst≠some t)->(as i).tmps[t]?=a.tmps[t]?:=by
  intro i
  induction i with
  |zero=>intro _ t _;rw[bC]
  |succ i ih=>
   intro hi t hno
   obtain⟨o,ho,h1,h2⟩:=hop i (by omega)
   have W5:=ih (by omega) t λj o hj=>hno j o (by omega)
   cases dG:e9 o with
   |true=>rw[h2 dG];exact W5
   |false=>rw[(h1 dG).2,sT (hno i o (by omega) ho dG)];exact W5
 have VB:∀(d i:Nat),i+d=n->∀t:Nat,(∃j o,j<i/\l.toArray[j]?=some o/\o.dst=some t)->(as n).tmps[t]?=(as i).tmps[t]?:=by
  intro d
  induction d with
  |zero=>intro i hi t _;rw[show i=n by omega]
  |succ d ih=>
   intro i hi t hj
   obtain⟨o,ho,h1,h2⟩:=hop i (by omega)
   rw[ih (i+1) (by omega) t (by obtain⟨j,o,h1,h2⟩:=hj;exact⟨j,o,by omega,h2⟩)]
   cases dG:e9 o with
   |true=>rw[h2 dG]
   |false=>
    rw[(h1 dG).2]
    obtain⟨j,dt,En,oO,AL⟩:=hj
    exact sT ((sj sA (show i<n by omega) ho).2.2 j dt t (by omega) (by omega) oO AL).1
 have hsz:l.toArray.size=l.length:=by simp
 have main:∀(f:Nat) (listed:Array Bool) (b:Act) (w1:ai) (eY:Nat->Nat),HeadInv .any l.toArray n listed->w.drew.Extends w1->
  Tu l.toArray n (λj=>listed.getD j false=true) a (as n) b eY->vk l.toArray n (λj=>listed.getD j false=true) Z eY w.drew.heap.size w1->
  (cA n).countP (λi=> !listed.getD i false)+(l.length-n)<=f->wpAny P .any l.toArray (calm Q) f listed b w1:=by
  intro f
  have done:∀(listed:Array Bool) (b:Act) (w1:ai) (eY:Nat->Nat),HeadInv .any l.toArray n listed->w.drew.Extends w1->
   Tu l.toArray n (λj=>listed.getD j false=true) a (as n) b eY->vk l.toArray n (λj=>listed.getD j false=true) Z eY w.drew.heap.size w1->(∀i,i<n->listed.getD i false=true)->
   wpAny P .any l.toArray (calm Q) (l.drop n).length listed b w1:=by
   intro listed b w1 eY inv qc jP q5 hall
   have hl:listed=Nv l.toArray.size n:=by
    apply avr
    intro i
    unfold Nv
    simp only[F7,mu]
    rcases qJ i l.length with hi|hi
    ·rw[List.getElem?_range (by simpa using hi)]
     have cD:i<listed.size:=by rw[inv.size];simpa using hi
     rcases qJ i n with dH|dH
     ·have:=hall i dH
      simp[cD]at this
      simp[cD,this,alU dH]
     ·have:=inv.tail i dH (by simpa using hi)
      simp[cD]at this
      have hb:b7 i n=false:=by cases hq:b7 i n with|false=>rfl|true=>have:=pd hq;omega
      simp[cD,this,hb]
    ·have h1:listed.size<=i:=by rw[inv.size];simpa using hi
     have h2:(cA l.toArray.size)[i]?=none:=by simp;omega
     rw[h2,FX h1];rfl
   have Ik:avp .any l.toArray (l.drop n).length n listed=true:=by rw[hl];simpa using ajk
   refine wpAny_of_seq (P:=P) (md:= .any) (Q':=calm Q) (l.drop n) n listed b w1 (λj=>by simp[u7]) Ik (bn eY b w1 ?_ qc ?_)
   ·refine⟨jP.d.trans (D9 n (a6 _)).1.symm,jP.aQ.trans (D9 n (a6 _)).2.symm,λt j o h1 h3 h4 h5=>jP.al t j o h1 (hall j h1) h3 h4 h5,λt hno=>?_⟩
    by_cases hq:∃j o,j<n/\l.toArray[j]?=some o/\e9 o=false/\o.dst=some t
    ·obtain⟨j,o,h1,h2,h3,h4⟩:=hq
     exact jP.q t ⟨j,o,h1,hall j h1,h2,h3,h4⟩
    ·have hq':∀j o,j<n->l.toArray[j]?=some o->e9 o=false->o.dst≠some t:=λj o h1 h2 h3 h4=>hq ⟨j,o,h1,h2,h3,h4⟩
     rw[jP.no t λj o h1 _ h3=>(by
      cases dG:e9 o with
      |true=>exact hno j o h1 h3 dG
      |false=>exact hq' j o h1 h3 dG),VC n (a6 _) t hq']
   ·exact⟨λj h1 _ h3=>q5.1 j h1 (hall j h1) h3,λi j h1 h2 _ _ h5 h6=>q5.2 i j h1 h2 (hall i h1) (hall j h2) h5 h6⟩
  have TF:∀(listed:Array Bool),(cA n).countP (λi=> !listed.getD i false)=0->∀i,i<n->listed.getD i false=true:=λlisted hc i hi=>by
   cases hq:listed.getD i false with
   |true=>rfl
   |false=>
    have:0<(cA n).countP (λi=> !listed.getD i false):=List.countP_pos_iff.2 ⟨i,List.mem_range.2 hi,by simp[hq]⟩
    omega
  induction f with
  |zero=>
   intro listed b w1 eY inv qc jP q5 hf
   have:=done listed b w1 eY inv qc jP q5 (TF listed (by omega))
   exact ZQ this (by simp;omega)
  |succ f ih=>
   intro listed b w1 eY inv qc jP q5 hf
   by_cases ahS:(cA n).countP (λi=> !listed.getD i false)=0
   ·exact ZQ (done listed b w1 eY inv qc jP q5 (TF listed ahS)) (by simp;omega)
   ·
    have jB:∃i,i<n/\listed.getD i false=false:=by
     have h1:0<(cA n).countP (λi=> !listed.getD i false):=by omega
     obtain⟨i,hi,hq⟩:=List.countP_pos_iff.1 h1
     exact⟨i,List.mem_range.1 hi,by simpa using hq⟩
    have hne:qQ .any l.toArray listed≠[]:=by
     have key:∀k,∀i,i<=k->i<n->listed.getD i false=false->qQ .any l.toArray listed≠[]:=by
      intro k
      induction k with
      |zero=>
       intro i NL dH hq l4
       obtain⟨o,ho,_,_⟩:=hop i dH
       have hlt:i<listed.size:=by rw[inv.size];exact(Array.getElem?_eq_some_iff.1 ho).1
       have:i∈qQ .any l.toArray listed:=mem_ready.2 ⟨getD_in hlt hq,o,ho,λe he hb=>by have:=(sj sA dH ho).1 e he hb;omega⟩
       rw[l4]at this;cases this
      |succ k OO=>
       intro i NL dH hq l4
       obtain⟨o,ho,_,_⟩:=hop i dH
       have hlt:i<listed.size:=by rw[inv.size];exact(Array.getElem?_eq_some_iff.1 ho).1
       have:i∈qQ .any l.toArray listed:=mem_ready.2 ⟨getD_in hlt hq,o,ho,λe he hb=>by
        have h1:=(sj sA dH ho).1 e he hb
        cases oP:listed.getD e.on false with
        |true=>rfl
        |false=>exact absurd l4 (OO e.on (by omega) (by omega) oP)⟩
       rw[l4]at this;cases this
     obtain⟨i,hi,hq⟩:=jB
     exact key i i (a6 _) hi hq
    have cM:∀i,i∈qQ .any l.toArray listed->∀j,(listed.setIfInBounds i true).getD j false=true↔(j=i∨listed.getD j false=true):=λi hi j=>by
     obtain⟨pA,iS,yg,hall⟩:=mem_ready.1 hi
     have hlt:i<listed.size:=by rw[inv.size];exact(Array.getElem?_eq_some_iff.1 yg).1
     by_cases hj:i=j
     ·subst hj;simp[hlt]
     ·rw[getD_set_ne false hj]
      exact⟨.inr,λh=>h.resolve_left (λe=>hj e.symm)⟩
    have Wp:∀i,i∈qQ .any l.toArray listed->i<n->(cA n).countP (λj=> !(listed.setIfInBounds i true).getD j false)+(l.length-n)<=f:=λi hi dH=>by
     obtain⟨pA,_⟩:=mem_ready.1 hi
     have:(cA n).countP (λj=> !(listed.setIfInBounds i true).getD j false)<(cA n).countP (λj=> !listed.getD j false):=by
      refine Uf (λj _ hj=>?_) ⟨i,List.mem_range.2 dH,?_,?_⟩
      ·cases hq:listed.getD j false with
       |false=>rfl
       |true=>rw[(cM i hi j).2 (.inr hq)]at hj;cases hj
      ·simp only[zB pA];rfl
      ·simp only[(cM i hi i).2 (.inl rfl)];rfl
     omega
    have step:∀i,i∈qQ .any l.toArray listed->i<n->∀o,l.toArray[i]?=some o->e9 o=false->sa P l.toArray C o (vs i) b/\∀w',w1.Extends w'->wpAny P .any l.toArray (calm Q) f (listed.setIfInBounds i true) (b.put o.dst (vs i)) w':=by
     intro i hi dH o ho dG
     obtain⟨pA,iS,yg,hall⟩:=mem_ready.1 hi
     have:o=iS:=gE (ho.symm.trans yg)
     subst this
     obtain⟨bV,gu,OF,_⟩:=hop i dH
     have:bV=o:=gE (gu.symm.trans ho)
     subst this
     obtain⟨hy,he⟩:=OF dG
     have vP:=sj sA dH ho
     have WK:∀t:Nat,t∈bV.looksAt l.toArray->b.tmps[t]?=(as i).tmps[t]?:=λt ht=>by
      by_cases hw:∃j dt,j<i/\l.toArray[j]?=some dt/\e9 dt=false/\dt.dst=some t
      ·obtain⟨j,dt,h1,h2,DN,h3⟩:=hw
       rw[<-VB (n-i) i (by omega) t ⟨j,dt,h1,h2,h3⟩]
       refine jP.q t ⟨j,dt,by omega,?_,h2,DN,h3⟩
       rcases(vP.2.2 j dt t (by omega) (by omega) h2 h3).2 ht with h4|h4
       ·obtain⟨PC,Oa,e,re,rf,tP⟩:=zA h4
        have:PC=bV:=gE (Oa.symm.trans ho)
        subst this
        have:=hall e re rf
        rwa [tP]at this
       ·obtain⟨BB,Ey,e,re,rf,tP⟩:=zA h4
        have:BB=dt:=gE (Ey.symm.trans h2)
        subst this
        have:=(sj sA (show j<n by omega) h2).1 e re rf
        omega
      ·rw[VC i (by omega) t λj dt h1 h2 DN h3=>hw ⟨j,dt,h1,h2,DN,h3⟩]
       refine jP.no t λj dt h1 hl h2 h3=>?_
       cases VQ:e9 dt with
       |true=>exact amn l3 h1 h2 VQ h3 dH ho ht
       |false=>
        by_cases jQ:j=i
        ·subst jQ
         rw[zB pA]at hl;cases hl
        ·rcases(vP.2.2 j dt t h1 jQ h2 h3).2 ht with h4|h4
         ·obtain⟨PC,Oa,e,re,rf,tP⟩:=zA h4
          have:PC=bV:=gE (Oa.symm.trans ho)
          subst this
          have:=vP.1 e re rf
          exact hw ⟨j,dt,by omega,h2,VQ,h3⟩
         ·obtain⟨BB,Ey,e,re,rf,tP⟩:=zA h4
          have:BB=dt:=gE (Ey.symm.trans h2)
          subst this
          have:=inv.closed j BB h2 hl e re rf
          rw[tP,zB pA]at this;cases this
     have ah7:∀x∈bV.op.operands,b.eval x=(as i).eval x:=λx hx=>by
      cases x with
      |tmp t=>
       have:=WK t (List.mem_append_left _ (List.mem_filterMap.2 ⟨.tmp t,by simpa using hx,rfl⟩))
       simp only[Act.eval]
       simp[this]
      |_=>rfl
     have hex:execOp b.eval bV=execOp (as i).eval bV:=execOp_congr bV vP.2.1 ah7
     have AW:tl bV (yielded l.toArray b.tmps)=tl bV (yielded l.toArray (as i).tmps):=by
      unfold tl
      cases hg:bV.guard with
      |none=>rfl
      |some MI=>
       obtain⟨g,want⟩:=MI
       have:yielded l.toArray b.tmps g=yielded l.toArray (as i).tmps g:=by
        unfold yielded
        cases ht:(l.toArray[g]?).bind (·.dst)with
        |none=>rfl
        |some t=>
         have:=WK t (List.mem_append_right _ (by simp only[hg,ht];simp))
         simp[this]
       simp only[this]
     refine⟨hy.of_same hex AW,λw' ru=>?_⟩
     refine ih _ _ _ eY (inv.set hi dH) (qc.trans ru) ⟨(put_defers _ _ _).trans jP.d,(yR _ _ _).trans jP.aQ,?_,?_,?_⟩ (vk.grow (w:=w1) ⟨λj h1 h2 h3=>?_,λi1 dV h1 h2 h3 h4 h5 h6=>?_⟩ ru) (Wp i hi dH)
     ·rintro t ⟨j,dt,h1,h2,h3,vG,h4⟩
      by_cases ht:bV.dst=some t
      ·have e1:(as n).tmps[t]?=(as (i+1)).tmps[t]?:=VB (n-(i+1)) (i+1) (by omega) t ⟨i,bV,by omega,ho,ht⟩
       rw[e1,he,ht]
       simp only[CI]
       have WE:b.tmps.size=(as i).tmps.size:=jP.aQ.trans (D9 i (by omega)).2.symm
       rcases qJ t b.tmps.size with h5|h5
       ·simp[h5,WE▸h5]
       ·rw[FX (by simpa using h5),FX (by rw[Array.size_setIfInBounds,<-WE];exact h5)]
      ·rw[sT ht]
       rcases(cM i hi j).1 h2 with rfl|h5
       ·have:dt=bV:=gE (h3.symm.trans ho)
        subst this
        exact absurd h4 ht
       ·exact jP.q t ⟨j,dt,h1,h5,h3,vG,h4⟩
     ·intro t j dt h1 h2 h3 h4 h5 h6
      rcases(cM i hi j).1 h2 with rfl|h7
      ·have:dt=bV:=gE (h3.symm.trans ho)
       subst this
       rw[dG]at h4;cases h4
      ·have jQ:j≠i:=λe=>by subst e;rw[zB pA]at h7;cases h7
       have ht:bV.dst≠some t:=(vP.2.2 j dt t h1 jQ h3 h5).1
       rw[sT ht]
       rw[yR]at h6
       exact jP.al t j dt h1 h7 h3 h4 h5 h6
     ·intro t hno
      have ht:bV.dst≠some t:=hno i bV dH ((cM i hi i).2 (.inl rfl)) ho
      rw[sT ht]
      exact jP.no t λj dt h1 h2 h3=>hno j dt h1 ((cM i hi j).2 (.inr h2)) h3
     ·rcases(cM i hi j).1 h2 with rfl|h7
      ·simp[o8,ho,dG]at h3
      ·exact q5.1 j h1 h7 h3
     ·have k1:listed.getD i1 false=true:=by
       rcases(cM i hi i1).1 h3 with rfl|h7
       ·simp[o8,ho,dG]at h5
       ·exact h7
      have k2:listed.getD dV false=true:=by
       rcases(cM i hi dV).1 h4 with rfl|h7
       ·simp[o8,ho,dG]at h6
       ·exact h7
      exact q5.2 i1 dV h1 h2 k1 k2 h5 h6
    by_cases hX:∃i,i∈qQ .any l.toArray listed/\i<n/\q4 l.toArray i=true
    ·obtain⟨i,hi,dH,l0⟩:=hX
     obtain⟨o,ho,_,_⟩:=hop i dH
     obtain⟨pA,iS,yg,hall⟩:=mem_ready.1 hi
     have Wf:Aj o=true:=by unfold q4 at l0;simpa [ho]using l0
     have dG:e9 o=false:=aey Wf
     obtain⟨vZ,N6⟩:=step i hi dH o ho dG
     refine wpAny_first ho (Region.noSelect_spec aiS) (λc dc w' hq=>hq.elim) f listed b w1 (λj dt qg jQ ait air=>?_) hi (aez Wf (hC w1 qc) vZ) (N6 w1 (na w1))
     have Ex:u9 .any l.toArray j i=false:=by
      cases hq:u9 .any l.toArray j i with
      |false=>rfl
      |true=>
       obtain⟨BB,Ey,e,re,rf,tP⟩:=zA hq
       have:BB=dt:=gE (Ey.symm.trans qg)
       subst this
       exact absurd tP (air e re rf)
     have Wt:j<n->u9 .any l.toArray i j=false:=λvS=>by
      cases hq:u9 .any l.toArray i j with
      |false=>rfl
      |true=>
       obtain⟨bV,gu,e,re,rf,tP⟩:=zA hq
       have:bV=iS:=gE (gu.symm.trans yg)
       subst this
       have:=hall e re rf
       rw[tP,zB ait]at this;cases this
     by_cases vS:j<n
     ·have d1:=(sj sA dH ho).2.2 j dt
      have d2:=(sj sA vS qg).2.2 i o
      simp only[Oper.apart,aK]
      constructor
      ·cases hd:o.dst with
       |none=>rfl
       |some d=>
        have:=d2 d dH (λe=>jQ e.symm) ho hd
        simp only[aK,js,bne_iff_ne,ne_eq]
        refine⟨?_,this.1⟩
        cases hc:(dt.looksAt l.toArray).contains d with
        |false=>rfl
        |true=>
         rcases this.2 (by simpa using hc)with h1|h1
         ·rw[Ex]at h1;cases h1
         ·rw[Wt vS]at h1;cases h1
      ·cases hd:dt.dst with
       |none=>rfl
       |some d=>
        have:=d1 d vS jQ qg hd
        simp only[js]
        cases hc:(o.looksAt l.toArray).contains d with
        |false=>rfl
        |true=>
         rcases this.2 (by simpa using hc)with h1|h1
         ·rw[Wt vS]at h1;cases h1
         ·rw[Ex]at h1;cases h1
     ·have h1:=List.all_eq_true.1 aid i (List.mem_range.2 dH)
      simp only[l0,CB,va]at h1
      have h2:=List.all_eq_true.1 h1 j (List.mem_range.2 (Array.getElem?_eq_some_iff.1 qg).1)
      have hb:b7 j n=false:=by cases hq:b7 j n with|false=>rfl|true=>exact absurd (pd hq) vS
      simp only[hb,Ex,va,ho,qg]at h2
      exact h2
    ·
     have N7:∃i,i<n/\q4 l.toArray i=false/\listed.getD i false=false:=by
      have key:∀k,∀i,i<=k->i<n->listed.getD i false=false->∃i,i<n/\q4 l.toArray i=false/\listed.getD i false=false:=by
       intro k
       induction k with
       |zero=>
        intro i NL dH hq
        cases hE:q4 l.toArray i with
        |false=>exact⟨i,dH,hE,hq⟩
        |true=>
         obtain⟨o,ho,_,_⟩:=hop i dH
         have hlt:i<listed.size:=by rw[inv.size];exact(Array.getElem?_eq_some_iff.1 ho).1
         exact absurd ⟨i,mem_ready.2 ⟨getD_in hlt hq,o,ho,λe he hb=>by have:=(sj sA dH ho).1 e he hb;omega⟩,dH,hE⟩ hX
       |succ k OO=>
        intro i NL dH hq
        cases hE:q4 l.toArray i with
        |false=>exact⟨i,dH,hE,hq⟩
        |true=>
         obtain⟨o,ho,_,_⟩:=hop i dH
         have hlt:i<listed.size:=by rw[inv.size];exact(Array.getElem?_eq_some_iff.1 ho).1
         by_cases V6:∀e∈o.after,RL .any e=true->listed.getD e.on false=true
         ·exact absurd ⟨i,mem_ready.2 ⟨getD_in hlt hq,o,ho,V6⟩,dH,hE⟩ hX
         ·have hex:∃e,e∈o.after/\RL .any e=true/\¬listed.getD e.on false=true:=by
           apply aau
           intro hno
           exact V6 λe he hb=>aau λoP=>hno ⟨e,he,hb,oP⟩
          obtain⟨e,he,hb,oP⟩:=hex
          have h1:=(sj sA dH ho).1 e he hb
          exact OO e.on (by omega) (by omega) (by simpa using oP)
      obtain⟨i,hi,hq⟩:=jB
      exact key i i (a6 _) hi hq
     refine⟨λh0=>absurd h0 hne,λi hi=>?_⟩
     have dH:i<n:=by
      rcases qJ i n with h1|h1
      ·exact h1
      ·exfalso
       obtain⟨_,iS,yg,_⟩:=mem_ready.1 hi
       have axG:i<l.toArray.size:=(Array.getElem?_eq_some_iff.1 yg).1
       simp only[qL,aK]at WI
       rcases WI with h2|⟨h2,h3⟩
       ·have:=bk h2;omega
       ·obtain⟨i0,rk,AJ,vW⟩:=N7
        exact aqo h2 h3 (by omega) inv (n-i0) i0 rfl rk AJ vW i h1 hi
     obtain⟨o,ho,_,_⟩:=hop i dH
     cases dG:e9 o with
     |false=>
      obtain⟨vZ,N6⟩:=step i hi dH o ho dG
      exact atx ho (hC w1 qc) vZ N6
     |true=>
      obtain⟨pA,_⟩:=mem_ready.1 hi
      have hgd:o.guard=none/\∃d,o.dst=some d:=by
       unfold e9 at dG
       split at dG
       ·rename_i h1 h2 h3;exact⟨h2,_,h3⟩
       ·cases dG
      obtain⟨hgd,d,hd⟩:=hgd
      have vP:=sj sA dH ho
      unfold wpOp
      simp only[ho]
      rw[if_pos (by simp[tl,hgd])]
      refine .inl ?_
      unfold lf
      rw[xQ i o dH ho dG b w1]
      show wpAny P .any l.toArray (calm Q) f (listed.setIfInBounds i true) (b.put o.dst _) _
      have OM:∀j,j<n->listed.getD j false=true->o8 l.toArray j=true->eY j<w1.heap.size:=λj h1 h2 h3=>(Array.getElem?_eq_some_iff.1 (q5.1 j h1 h2 h3).2).1
      refine ih _ _ _ (λj=>if j=i then w1.heap.size else eY j) (inv.set hi dH) (qc.alloc _) ⟨(put_defers _ _ _).trans jP.d,(yR _ _ _).trans jP.aQ,?_,?_,?_⟩ ⟨λj h1 h2 h3=>?_,λi1 dV h1 h2 h3 h4 h5 h6 h7=>?_⟩ (Wp i hi dH)
      ·rintro t ⟨j,dt,h1,h2,h3,vG,h4⟩
       rcases(cM i hi j).1 h2 with rfl|h5
       ·have:dt=o:=gE (h3.symm.trans ho)
        subst this
        rw[dG]at vG;cases vG
       ·have jQ:j≠i:=λe=>by subst e;rw[zB pA]at h5;cases h5
        rw[sT (vP.2.2 j dt t h1 jQ h3 h4).1]
        exact jP.q t ⟨j,dt,h1,h5,h3,vG,h4⟩
      ·intro t j dt h1 h2 h3 h4 h5 h6
       rcases(cM i hi j).1 h2 with rfl|h7
       ·have:dt=o:=gE (h3.symm.trans ho)
        subst this
        rw[h5]
        simp only[if_true]
        rw[yR]at h6
        simp[CI,h6]
       ·have jQ:j≠i:=λe=>by subst e;rw[zB pA]at h7;cases h7
        rw[sT (vP.2.2 j dt t h1 jQ h3 h5).1]
        rw[yR]at h6
        rw[if_neg jQ]
        exact jP.al t j dt h1 h7 h3 h4 h5 h6
      ·intro t hno
       rw[sT (hno i o dH ((cM i hi i).2 (.inl rfl)) ho)]
       exact jP.no t λj dt h1 h2 h3=>hno j dt h1 ((cM i hi j).2 (.inr h2)) h3
      ·show w.drew.heap.size<=(if j=i then w1.heap.size else eY j)/\(w1.alloc (Z i)).heap[(if j=i then w1.heap.size else eY j)]?=some (Z j)
       by_cases jQ:j=i
       ·subst jQ
        rw[if_pos rfl]
        exact⟨qc.size,heap_alloc_new w1 (Z j)⟩
       ·rw[if_neg jQ]
        have h7:=((cM i hi j).1 h2).resolve_left jQ
        obtain⟨cq,bU⟩:=q5.1 j h1 h7 h3
        exact⟨cq,by rw[heap_alloc_old w1 _ (OM j h1 h7 h3)];exact bU⟩
      ·change (if i1=i then w1.heap.size else eY i1)=(if dV=i then w1.heap.size else eY dV)at h7
       by_cases cq:i1=i<;>by_cases bU:dV=i
       ·rw[cq,bU]
       ·rw[if_pos cq,if_neg bU]at h7
        have:=OM dV h2 (((cM i hi dV).1 h4).resolve_left bU) h6
        omega
       ·rw[if_neg cq,if_pos bU]at h7
        have:=OM i1 h1 (((cM i hi i1).1 h3).resolve_left cq) h5
        omega
       ·rw[if_neg cq,if_neg bU]at h7
        exact q5.2 i1 dV h1 h2 (((cM i hi i1).1 h3).resolve_left cq) (((cM i hi dV).1 h4).resolve_left bU) h5 h6 h7
 have aj0:HeadInv .any l.toArray n (th l.toArray.size false):=
  ⟨by simp,λj dt _ hl=>(by rw[getD_replicate_false]at hl;cases hl),λt _ ht=>getD_in (by simpa using ht) (getD_replicate_false _ _)⟩
 have IZ:∀j,¬(th l.toArray.size false).getD j false=true:=λj h=>by rw[getD_replicate_false]at h;cases h
 refine main l.toArray.size _ a _ (λ_=>0) aj0 (na w.drew) ⟨rfl,rfl,λt ⟨j,o,_,h2,_⟩=>absurd h2 (IZ j),λt j o _ h2=>absurd h2 (IZ j),λ_ _=>rfl⟩ ⟨λj _ h2=>absurd h2 (IZ j),λi j _ _ h3=>absurd h3 (IZ i)⟩ ?_
 have:(cA n).countP (λi=> !(th l.toArray.size false).getD i false)<=n:=by
  have:=List.countP_le_length (p:=λi=> !(th l.toArray.size false).getD i false) (l:=cA n)
  simpa using this
 omega
end
end Go.bg
namespace Go.bg
open M
inductive X where
 |normal
 |exit (id:Nat)
 |ret
def X.to:X->Exit
 |normal=> .normal
 |exit id=> .exit id
 |ret=> .ret
abbrev fA:=Nat->List V->List ar->T
abbrev p2:=X->fA
abbrev RK:=Nat->V->List ar->T
abbrev iy:=cy->Nat->List V->List ar->RK->T
structure dC where
 eN:List Nat
 ints:List (Nat×Int×Int)
 cells:List (Nat×Nat×Int×Int)
 oJ:List Nat:=[]
 nV:List (Nat×List aw×aN):=[]
 Qe:List (Nat×List aw×Nat):=[]
 kr:List (Nat×List aw):=[]
def cO:List ar->Nat->ar->List ar
 |[],_,_=>[]
 |_::r,0,b=>b::r
 |x::r,i+1,b=>x::cO r i b
theorem ia:∀(l:List ar) (i:Nat) (b:ar),cO l i b=l.set i b
 |[],_,_=>rfl
 |_::_,0,_=>rfl
 |_::r,i+1,b=>by simp[cO,ia r i b]
def apz (cal:eg) (dyn:Bool) (o:Oper):Bool:=
 match o.op with
 | .alloc _| .box _ _| .store _ _ _| .buildSlice _ _ _| .makeSlice _ _ _=>false
 | .call c=>match c.callee with
  | .value (.func f)=>(cal f).isSome
  | .value (.tmp _)=>dyn
  | .builtin .append=>false
  | .builtin .clear=>false
  | .builtin .copy=>false
  |_=>true
 |_=>true
def Fx (z:List A) (len:Nat):List A:=(cA (len*z.length)).map λi=>(z[i% z.length]?).getD (.con undef)
def LD (P:bm) (t:aN) (len:Nat) (parts:List (Nat×V)):Option (List A×aN):=
 match gB P t with
 |some e=>match eA P e,k7 P e with
  |some s,some z=>cond (aA z.length s&&b7 0 s&&bw (len*s) 16777216) (match sr (λi=>some (i*s,s)) (Fx z len) parts with|some cs=>some (cs,e)|none=>none) none
  |_,_=>none
 |none=>none
def ri (bl:List ar) (b off k:Nat):Option (List A):=
 match bl[b]? with
 |some (cs,_)=>cond (bw (off+k) cs.length&&bJ cs) (some ((cs.drop off).take k)) none
 |none=>none
def HC (i:TypeInfo) (e:aN) (z:List A) (d:Option Tmp) (eh lK len:Nat) (olds news:List A) (n:Nat) (tm:List V) (bl:List ar) (k:fA):T:=
 cond (bw (eh+len) 1000000&&bw (Builtin.nextslicecap (eh+len) lK*i.bytes) 281474976710656&&b7 lK (eh+len)&&b7 0 len&&aA z.length i.size&&b7 0 i.size&&bJ (olds++news)&&bJ (olds++news++z))
  (.both (k n (eV tm d (.w (.one (.slc bl.length 0 (eh+len) (eh+len))))) (bl++[(olds++news,(e,false))]))
    (k n (eV tm d (.mT bl.length (eh+len) (eh+len+1))) (bl++[(olds++news++z,(e,true))]))) .stuck
def OT:V->Bool
 | .w (.one (.con (.slice none 0 0)))=>true
 |_=>false
def Ls (P:bm) (d:Option Tmp) (t t':aN) (s x:V) (n:Nat) (tm:List V) (bl:List ar) (k:fA):T:=
 match x,gB P t with
 | .w (.one (.slc b5 gj lC _)),some e=>match P.info? e,k7 P e with
  |some i,some z=>match ri bl b5 gj (lC*i.size)with
   |some news=>cond (!(aA t t')) .stuck <| cond (OT s) (HC i e z d 0 0 lC [] news n tm bl k) <| match s with
    | .w (.one (.slc b off len cap))=>match ri bl b off (len*i.size)with
     |some olds=>HC i e z d len cap lC olds news n tm bl k
     |none=> .stuck
    | .mT b len lo=>match bl[b]? with
     |some (cs,ty)=>cond (bw (len+lC) lo&&bw ((len+lC)*i.size) cs.length&&b7 0 (lC*i.size)&&bJ cs&&bJ (cs.take (len*i.size)++news++cs.drop (len*i.size+news.length))) (k n (eV tm d (.mT b (len+lC) lo)) (cO bl b (cs.take (len*i.size)++news++cs.drop (len*i.size+news.length),ty))) .stuck
     |none=> .stuck
    |_=> .stuck
   |none=> .stuck
  |_,_=> .stuck
 |_,_=> .stuck
def k0 (sh:List aw):Bool:=bw sh.length 100&&b7 0 sh.length&&sh.all λc=>match c with
 | .int _ lo hi=>decide (-18446744073709551616<=lo)&&decide (hi<=18446744073709551616)
 |_=>true
def yu (e:aS):M I:=λn k=> .ind n e (k (.var n) (n+1))
def LQ (c:aw) (a:A):M I:=
 match c,a with
 | .int k lo hi,.int aP x=>cond (decide (k=aP)&&decide (lo<=x.lo)&&decide (x.hi<=hi)) (pure x.l) fail
 | .str,.str l=>pure l
 | .bool,.bool e=>match e with
  | .lit v=>pure (.const (cond v 1 0))
  |e=>yu e
 |_,_=>fail
def uO:List aw->List A->M (List I)
 |[],[]=>pure []
 |c::sh,a::r=>bind (LQ c a) λl=>bind (uO sh r) λls=>pure (l::ls)
 |_,_=>fail
noncomputable def vo (sh:List aw):List (List A)->I->M I
 |[],c=>pure c
 |row::rs,c=>bind (uO sh row) λls=>bind (ev 23 (c::ls) 0 bZ) λc'=>vo sh rs c'
def lW (w:Nat):Nat->List A->List (List A)
 |0,_=>[]
 |k+1,l=>l.take w::lW w k (l.drop w)
noncomputable def JL (P:bm) (nL:aN) (sh:List aw) (bl:List ar) (x:V) (base:I):M (I×I):=
 match x with
 | .w (.one (.slc b off len _))=>match ri bl b off (len*sh.length),gB P nL with
  |some cs,some _=>bind (eZ 23 [base,.const len]) λ_=>bind (vo sh (lW sh.length len cs) base) λc=>pure (c,.const len)
  |_,_=>fail
 | .w (.one (.sl b aQ o ro len _))=>match bl[b]?,gB P nL with
  |some ([.rows ei off code dn kind],_),some _=>cond (b7 0 kind&&mc sh ei&&I.beq o off&&aA aQ sh.length) (bind (eZ 22 [code,ro,ro.add len]) λ_=>bind (eZ 23 [base,len]) λ_=>bind (ev 22 [code,ro,ro.add len] 0 bZ) λs=>bind (ev 24 [base,s] 0 bZ) λc=>pure (c,len)) fail
  |_,_=>fail
 | .w (.one (.str l))=>match P.underlying nL with
  |some .string=>cond (G6 sh) (bind (ev 0 [l] 0 9223372036854775807) λlen=>bind (eZ 23 [base,len]) λ_=>bind (ev 27 [l] 0 bZ) λs=>bind (ev 24 [base,s] 0 bZ) λc=>pure (c,len)) fail
  |_=>fail
 | .w (.one (.con (.slice none 0 0)))=>match gB P nL with
  |some _=>bind (eZ 23 [base,.const 0]) λ_=>pure (base,.const 0)
  |none=>fail
 |_=>fail
def aqk (bl:List ar):V->Option (List aw)
 | .w (.one (.sl b _ _ _ _ _))=>match bl[b]? with
  |some ([.rows sh _ _ _ _],_)=>some sh
  |_=>none
 |_=>none
def JI:List A->Option (List aw)
 |[]=>some []
 | .int k _::r=>(JI r).map (.int k k.min k.max::·)
 | .str _::r=>(JI r).map (.str::·)
 | .bool _::r=>(JI r).map (.bool::·)
 |_=>none
def aql (bl:List ar) (s x:V) (z:List A):Option (List aw):=match aqk bl x with
 |some sh=>some sh
 |none=>match s,x with
  | .w (.one (.slc ..)),.w (.one (.slc ..))=>JI z
  |_,_=>none
def Rv:V->Bool
 | .w (.one (.sl _ _ _ _ len cap))=>match len.dp,cap.dp with|some l,some c=>decide (l=0)&&decide (c=0)|_,_=>false
 | .w (.one (.slc _ _ len cap))=>aA len 0&&aA cap 0
 | .w (.one (.con (.slice none 0 0)))=>true
 |_=>false
noncomputable def DH (kd:Nat) (e:aN) (d:Option Tmp) (sh:List aw) (code len:I) (n:Nat) (tm:List V) (bl:List ar) (k:fA):T:=
 .oW n (-1) 9223372036854775807 (k (n+1) (eV tm d (.w (.one (.sl bl.length sh.length (.const 0) (.const 0) len (.var n))))) (bl++[([.rows sh (.const 0) code (.var n) kd],(e,false))]))
noncomputable def Ao (e:aN) (d:Option Tmp) (sh:List aw) (code len:I) (n:Nat) (tm:List V) (bl:List ar) (k:fA):T:=
 .oW n (-1) 9223372036854775807 (k (n+1) (eV tm d (.w (.one (.sl bl.length sh.length (.const 0) (.const 0) len (.var n))))) (bl++[([.rows sh (.const 0) code (.var n) 2],(e,false))]))
noncomputable def UY (P:bm) (nL e:aN) (d:Option Tmp) (sh:List aw) (s x:V) (n:Nat) (tm:List V) (bl:List ar) (k:fA):T:=
 JL P nL sh bl x (.const 0) n λp n'=>match p.2.dp with
  |some 0=>k n' (eV tm d s) bl
  |some _=>Ao e d sh p.1 p.2 n' tm bl k
  |none=> .mE (.le p.2 (.const 0)) (k n' (eV tm d s) bl) (Ao e d sh p.1 p.2 n' tm bl k)
def Am (sh:List aw) (i:TypeInfo) (z:List A):Bool:=k0 sh&&aA i.size sh.length&&aA z.length sh.length&&bw i.bytes 131072
noncomputable def Lt (P:bm) (d:Option Tmp) (t t':aN) (s x:V) (n:Nat) (tm:List V) (bl:List ar) (k:fA):Option T:=
 match gB P t with
 |none=>none
 |some e=>match P.info? e,k7 P e with
  |some i,some z=>match Rv s with
   |true=>match aql bl s x z with
    |some sh=>cond (Am sh i z) (some (UY P t' e d sh s x n tm bl k)) none
    |none=>none
   |false=>match s with
    | .w (.one (.sl b _ o ro len cap))=>match bl[b]? with
     |some ([.rows sh off code dn kind],bK)=>cond (Am sh i z&&aA kind 2&&I.beq o (.const 0)&&I.beq off (.const 0)&&I.beq ro (.const 0)&&I.beq cap dn&&aA bK.1 e)
      (some (.mG 31 [code,len] (JL P t' sh bl x code n λp n'=>Ao e d sh p.1 (len.add p.2) n' tm (cO bl b ([.rows sh off code dn 0],bK)) k))) none
     |_=>none
    |_=>none
  |_,_=>none
noncomputable def QC (P:bm) (o:Oper) (n:Nat) (tm:List V) (bl:List ar) (k:fA):Option T:=
 match o.op with
 | .call c=>match c.callee with
  | .builtin .append=>match c.args.toList,c.argTypes.toList with
   |[s,x],[t,t']=>Lt P o.dst t t' (bM tm s) (bM tm x) n tm bl k
   |_,_=>none
  |_=>none
 |_=>none
def fY:List aw:=[.int .u8 0 255]
def Iy (fn:Func):Bool:=fn.name== "internal/bytealg.MakeNoZero" &&fn.body.isNone&&fn.origin== ""
noncomputable def s5 (P:bm) (o:Oper) (n:Nat) (tm:List V) (bl:List ar) (k:fA):Option T:=
 match o.op with
 | .store t p x=>match bM tm p,bM tm x with
  | .w (.one (.ep b aQ bV i j)),.w u=>match bl[b]?,eA P t with
   |some ([.rows sh off code cap kind],bK),some s=>cond (bw 2 kind&&aA aQ sh.length&&I.beq bV off&&aA u.cells.length s&&b7 0 s&&bw (j+s) sh.length&&k0 sh)
    (some (eZ 21 [code,i] n λ_ n=>zQ 67 [code,i,.const sh.length] n λ_ n=>uO ((sh.drop j).take s) u.cells n λls n=>ev 42 (code::i:: .const j::ls) 0 bZ n λcode' n=>k n (eV tm o.dst (.fq [])) (cO bl b ([.rows sh off code' cap kind],bK)))) none
   |_,_=>none
  |_,_=>none
 | .convert s d x=>match bM tm x with
  | .w (.one (.str l))=>match P.underlying s,gB P d with
   |some .string,some e=>match P.underlying e with
    |some (.int .u8)=>some (ev 27 [l] 0 bZ n λcode n=>ev 0 [l] 0 9223372036854775807 n λlen n=>DH 3 e o.dst fY code len n tm bl k)
    |_=>none
   |_,_=>none
  | .w (.one (.slc b 0 len cap))=>match bl[b]?,gB P d with
   |some (C,t),some e=>match P.underlying e with
    |some (.int .u8)=>cond (aA s d&&bJ C&& !t.2&&aA C.length len&&aA cap len&&bw len 1000000)
     (some (vo fY (lW 1 len C) (.const 0) n λcode n=>k n (eV tm o.dst (.w (.one (.sl b 1 (.const 0) (.const 0) (.const len) (.const len))))) (cO bl b ([.rows fY (.const 0) code (.const len) 3],t)))) none
    |_=>none
   |_,_=>none
  |_=>none
 | .makeSlice t x y=>match gB P t,od (bM tm x),od (bM tm y)with
  |some e,some lD,some kW=>match P.info? e with
   |some i=>match i.zero with
    |some (.int .u8 z)=>cond (aA i.size 1&&bw i.bytes 1024&&decide (z=0)) (some (.mG 49 [lD,kW] (ev 26 [lD,.const 0] 0 bZ n λcode n=>DH 2 e o.dst fY code lD n tm bl k))) none
    |_=>none
   |none=>none
  |_,_,_=>none
 | .call c=>match c.callee with
  | .value (.func f)=>match P.funcs[f]?,c.args.toList with
   |some fn,[x]=>match bM tm x,fn.resultTypes.toList with
    | .w (.one (.int .i64 y)),[t]=>match gB P t with
     |some e=>match P.underlying e with
      |some (.int .u8)=>cond (Iy fn) (some (.mG 26 [y.l] (.oW n 0 bZ (.pb 31 [.var n,y.l] (.oW (n+1) 0 9223372036854775807 (.pb 79 [y.l,.var (n+1)]
       (k (n+2) (eV tm o.dst (.w (.one (.sl bl.length 1 (.const 0) (.const 0) y.l (.var (n+1)))))) (bl++[([.rows fY (.const 0) (.var n) (.var (n+1)) 2],(e,false))]))))))))
       none
      |_=>none
     |none=>none
    |_,_=>none
   |_,_=>none
  |_=>none
 |_=>none
noncomputable def QD (P:bm) (o:Oper) (n:Nat) (tm:List V) (bl:List ar) (k:fA):Option T:=
 match o.op with
 | .call c=>match c.callee with
  | .builtin .clear=>match c.args.toList,c.argTypes.toList with
   |[x],[t]=>match bM tm x,gB P t with
    | .w (.one (.sl b aQ bV ro len cap)),some e=>match bl[b]?,k7 P e with
     |some ([.rows sh off code dn kind],bK),some z=>cond (bw 2 kind&&I.beq bV off&&aA aQ sh.length&&k0 sh&&aA z.length sh.length)
      (some (eZ 65 [code,ro,len] n λ_ n=>uO sh z n λls n=>ev 61 (code::ro::len::ls) 0 bZ n λcode' n=>k n (eV tm o.dst (.fq [])) (cO bl b ([.rows sh off code' dn kind],bK)))) none
     |_,_=>none
    |_,_=>none
   |_,_=>none
  | .builtin .copy=>match c.args.toList,c.argTypes.toList with
   |[x,y],[t,t']=>match bM tm x,bM tm y,gB P t with
    | .w (.one (.sl b aQ bV ro len cap)),.w (.one (.sl b2 QG o2 fh iv z1)),some e=>match bl[b]?,bl[b2]?,eA P e with
     |some ([.rows sh off code dn kind],bK),some ([.rows Qr PA fL tF uy],_),some s=>cond (bw 2 kind&&b7 0 uy&&I.beq bV off&&I.beq o2 PA&&mc sh Qr&&aA aQ sh.length&&aA QG sh.length&&aA s sh.length&&k0 sh)
      (some (eZ 80 [code,ro,len] n λ_ n=>eZ 22 [fL,fh,fh.add iv] n λ_ n=>ev 62 [iv,len] 0 9223372036854775807 n λq n=>ev 22 [fL,fh,fh.add q] 0 bZ n λsrc n=>ev 63 [code,ro,src] 0 bZ n λcode' n=>k n (eV tm o.dst (.w (.one (.int .i64 ⟨q,0,9223372036854775807⟩)))) (cO bl b ([.rows sh off code' dn kind],bK)))) none
     |_,_,_=>none
    | .w (.one (.sl ..)),.w (.one (.con (.slice none 0 0))),some e=>match eA P e with
     |some _=>some (k n (eV tm o.dst (.w (.one (.int .i64 ⟨.const 0,0,0⟩)))) bl)
     |none=>none
    |_,_,_=>none
   |_,_=>none
  |_=>none
 |_=>none
def LX:V->Option (Nat×List A)
 | .nm f gY=>some (f,gY)
 | .w (.one (.con (.func (.func f) a b)))=>cond (aA a.size 0&&aA b.size 0) (some (f,[])) none
 |_=>none
noncomputable def QB (P:bm) (gl:dO) (cal:eg) (inl:iy) (o:Oper) (n:Nat) (tm:List V) (bl:List ar) (k:fA):T:=
 match o.op with
 | .alloc t=>match k7 P t with
  |some cs=>cond (bJ cs) (k n (eV tm o.dst (.w (.one (.ptr bl.length 0)))) (bl++[(cs,(t,false))])) .stuck
  |none=> .stuck
 | .box t x=>match bM tm x with
  | .w u=>cond (bJ u.cells) (k n (eV tm o.dst (.w (.one (.ptr bl.length 0)))) (bl++[(u.cells,(t,false))])) .stuck
  |_=> .stuck
 | .buildSlice t len parts=>match LD P t len (parts.toList.map λp=>(p.1,bM tm p.2))with
  |some (cs,e)=>cond (bJ cs) (k n (eV tm o.dst (.w (.one (.slc bl.length 0 len len)))) (bl++[(cs,(e,false))])) .stuck
  |none=> .stuck
 | .store t p x=>match bM tm p,bM tm x with
  | .w (.one (.ptr b off)),.w u=>match bl[b]?,eA P t with
   |some (cs,bK),some s=>cond (aA u.cells.length s&&bw (off+s) cs.length&&b7 0 s&&bJ cs&&bJ (cs.take off++u.cells++cs.drop (off+s))) (k n (eV tm o.dst (.fq [])) (cO bl b (cs.take off++u.cells++cs.drop (off+s),bK))) .stuck
   |_,_=> .stuck
  |_,_=> .stuck
 | .call c=>match c.callee with
  | .value (.func f)=>match cal f with
   |some _=>uK P cal gl bl tm o n λv n'=>k n' (eV tm o.dst v) bl
   |none=>inl f n (c.args.toList.map (bM tm)) bl λn' v aR=>k n' (eV tm o.dst v) aR
  | .value (.tmp x)=>match Hn cal bl tm o with
   |some _=>uK P cal gl bl tm o n λv n'=>k n' (eV tm o.dst v) bl
   |none=>match LX (bM tm (.tmp x))with
   |some (f,gY)=>inl f n (c.args.toList.map (bM tm)++gY.map λy=>V.w (.one y)) bl λn' v aR=>k n' (eV tm o.dst v) aR
   |none=> .stuck
  | .builtin .append=>match c.args.toList,c.argTypes.toList with
   |[s,x],[t,t']=>Ls P o.dst t t' (bM tm s) (bM tm x) n tm bl k
   |_,_=> .stuck
  |_=>uK P cal gl bl tm o n λv n'=>k n' (eV tm o.dst v) bl
 |_=>uK P cal gl bl tm o n λv n'=>k n' (eV tm o.dst v) bl
noncomputable def JM (P:bm) (gl:dO) (cal:eg) (inl:iy) (o:Oper) (n:Nat) (tm:List V) (bl:List ar) (k:fA):T:=
 match QC P o n tm bl k with
 |some t=>t
 |none=>match s5 P o n tm bl k with
  |some t=>t
  |none=>match QD P o n tm bl k with
   |some t=>t
   |none=>QB P gl cal inl o n tm bl k
def p7:aS->Bool->Option (I×Option Int×Option Int)
 | .le p q,true=>match p.dp,q.dp with|some c,none=>some (q,some c,none)|none,some c=>some (p,none,some c)|_,_=>none
 | .le p q,false=>match p.dp,q.dp with|some c,none=>some (q,none,some (c-1))|none,some c=>some (p,some (c+1),none)|_,_=>none
 | .lt p q,true=>match p.dp,q.dp with|some c,none=>some (q,some (c+1),none)|none,some c=>some (p,none,some (c-1))|_,_=>none
 | .lt p q,false=>match p.dp,q.dp with|some c,none=>some (q,none,some c)|none,some c=>some (p,some c,none)|_,_=>none
 | .not b,v=>p7 b (!v)
 |_,_=>none
def Bs (a:Int):Option Int->Int
 |some b=>cond (decide (a<=b)) b a
 |none=>a
def E5 (a:Int):Option Int->Int
 |some b=>cond (decide (b<=a)) b a
 |none=>a
def Hj (b:aS) (v:Bool) (r:Option (I×Option Int×Option Int)):V->V
 | .w (.one (.bool e))=> .w (.one (.bool (cond (aS.beq e b) (.lit v) e)))
 | .w (.one (.int k x))=>match r with
  |some (l,lo,hi)=> .w (.one (.int k (cond (I.beq x.l l) (cond (decide (Bs x.lo lo=E5 x.hi hi)) (.const (Bs x.lo lo)) ⟨x.l,Bs x.lo lo,E5 x.hi hi⟩) x)))
  |none=> .w (.one (.int k x))
 |u=>u
def pP (b:aS) (v:Bool) (l:List V):List V:=l.map (Hj b v (p7 b v))
def xI (ops:Array Oper) (tm:List V) (o:Oper) (yes no:List V->T):T:=
 match o.guard with
 |none=>yes tm
 |some (g,want)=>match(ops[g]?).bind (·.dst)with
  |none=> .stuck
  |some d=>match tm[d]? with
   |some (.w (.one (.bool b)))=>match b with
    | .lit v=>cond (v==want) (yes tm) (no tm)
    |b=> .mE b (cond want (yes (pP b true tm)) (no (pP b true tm))) (cond want (no (pP b false tm)) (yes (pP b false tm)))
   |some (.fq [])=>no tm
   |_=> .stuck
noncomputable def BC (P:bm) (gl:dO) (cal:eg) (inl:iy) (ops:Array Oper):List Oper->Nat->List V->List ar->fA->T
 |[],n,tm,bl,k=>k n tm bl
 |o::r,n,tm,bl,k=>xI ops tm o (λtm=>JM P gl cal inl o n tm bl λn' bR aR=>BC P gl cal inl ops r n' bR aR k) (λtm=>BC P gl cal inl ops r n (eV tm o.dst (.fq [])) bl k)
def Lo (g:Nat->T):List Nat->T
 |[]=> .stuck
 |[i]=>g i
 |i::r=> .both (g i) (Lo g r)
noncomputable def AG (P:bm) (gl:dO) (cal:eg) (ops:Array Oper):List Oper->Nat->List V->List ar->(Nat->List V->T)->T
 |[],n,tm,bl,k=>k n tm
 |o::r,n,tm,bl,k=>cond (e9 o) (AG P gl cal ops r n tm bl k) (xI ops tm o (λtm=>uK P cal gl bl tm o n λv n'=>AG P gl cal ops r n' (eV tm o.dst v) bl k) (λtm=>AG P gl cal ops r n (eV tm o.dst (.fq [])) bl k))
def C3 (P:bm):List Oper->Nat->List V->List ar->fA->T
 |[],n,tm,bl,k=>k n tm bl
 |o::r,n,tm,bl,k=>cond (e9 o) (match o.op with
  | .alloc t=>match k7 P t with
   |some cs=>cond (bJ cs) (C3 P r n (eV tm o.dst (.w (.one (.ptr bl.length 0)))) (bl++[(cs,(t,false))]) k) .stuck
   |none=> .stuck
  |_=> .stuck) (C3 P r n tm bl k)
def Kk (P:bm) (l:List Oper):Bool:=l.all λo=> !e9 o||(match o.op with| .alloc t=>(k7 P t).isSome|_=>false)
def AH (cal:eg) (dyn:Bool) (ops:Array Oper):List Tmp->List Oper->Nat
 |_,[]=>0
 |ds,o::r=>cond ((o.looksAt ops).any ds.contains) 0 <| cond (e9 o) (AH cal dyn ops (match o.dst with|some d=>d::ds|none=>ds) r+1) <| cond (apz cal dyn o) (AH cal dyn ops ds r+1) 0
def Eb (P:bm) (cal:eg) (ops:Array Oper):Nat:=
 cond (B2 ops (AH cal false ops [] ops.toList)&&Kk P (ops.toList.take (AH cal false ops [] ops.toList))) (AH cal false ops [] ops.toList) (AH cal true ops [] ops.toList)
def Ah:Code->Option Nat
 | .region id _ _=>some id
 | .seq a b=>match Ah a with|some i=>some i|none=>Ah b
 | .block _ c| .loop c| .scope c=>Ah c
 | .cond _ a b=>match Ah a with|some i=>some i|none=>Ah b
 |_=>none
def L0:az->az->Bool
 | .pointer none,.pointer none=>true
 | .slice none 0 0,.slice none 0 0=>true
 | .func (.func f) a b,.func (.func nq) dc b5=>aA f nq&&aA a.size 0&&aA b.size 0&&aA dc.size 0&&aA b5.size 0
 |_,_=>false
def A.beq:A->A->Bool
 | .int k x,.int aP y=>decide (k=aP)&&I.beq x.l y.l&&x.lo==y.lo&&x.hi==y.hi
 | .bool a,.bool b=>aS.beq a b
 | .con a,.con b=>L0 a b
 | .ptr b o,.ptr b5 bV=>aA b b5&&aA o bV
 | .gptr b o,.gptr b5 bV=>aA b b5&&aA o bV
 | .slc b o l c,.slc b5 bV bp c'=>aA b b5&&aA o bV&&aA l bp&&aA c c'
 | .str a,.str b=>I.beq a b
 | .rows sh o c q k,.rows ei bV c' q' aP=>mc sh ei&&I.beq o bV&&I.beq c c'&&I.beq q q'&&aA k aP
 | .sl b z o r l c,.sl b5 Rr bV r' bp c'=>aA b b5&&aA z Rr&&I.beq o bV&&I.beq r r'&&I.beq l bp&&I.beq c c'
 | .ep b z o i j,.ep b5 Rr bV ys OW=>aA b b5&&aA z Rr&&I.beq o bV&&I.beq i ys&&aA j OW
 |_,_=>false
def nj:List A->List A->Bool
 |[],[]=>true
 |a::r,b::s=>A.beq a b&&nj r s
 |_,_=>false
def V.beq:V->V->Bool
 | .w (.one a),.w (.one b)=>A.beq a b
 | .w (.agg l),.w (.agg bp)=>nj l bp
 | .fq [],.fq []=>true
 | .nm f l,.nm nq bp=>aA f nq&&nj l bp
 |_,_=>false
def vz (i:Nat):List (Nat×Int×Int)->Option (Int×Int)
 |[]=>none
 |(j,lo,hi)::r=>cond (aA i j) (some (lo,hi)) (vz i r)
noncomputable def hs (eN:List Nat) (ints:List (Nat×Int×Int)):Nat->Nat->List V->Option (List V×List I×List (Int×Int))
 |_,_,[]=>some ([],[],[])
 |i,s,v::r=>cond (eN.any (aA i)) (match hs eN ints (i+1) s r with|some (t,l,b)=>some (v::t,l,b)|none=>none)
  (match vz i ints with
  |some (lo,hi)=>match v with
   | .w (.one (.int k x))=>cond (decide (lo<=x.lo)&&decide (x.hi<=hi)) (match hs eN ints (i+1) (s+1) r with|some (t,l,b)=>some (.w (.one (.int k ⟨.var s,lo,hi⟩))::t,x.l::l,(lo,hi)::b)|none=>none) none
   | .w (.one (.str x))=>(match hs eN ints (i+1) (s+1) r with|some (t,l,b)=>some (.w (.one (.str (.var s)))::t,x::l,(0,ch)::b)|none=>none)
   |_=>none
  |none=>match hs eN ints (i+1) s r with|some (t,l,b)=>some (.any::t,l,b)|none=>none)
noncomputable def iL (lo hi:Int) (s:Nat):A->Option (A×I×(Int×Int))
 | .int k x=>cond (decide (lo<=x.lo)&&decide (x.hi<=hi)) (some (.int k ⟨.var s,lo,hi⟩,x.l,(lo,hi))) none
 | .str x=>some (.str (.var s),x,(0,ch))
 | .rows sh off code cap k=>some (.rows sh off (.var s) cap k,code,(0,bZ))
 |_=>none
noncomputable def ha (ints:List (Nat×Int×Int)):Nat->Nat->List A->Option (List A×List I×List (Int×Int))
 |_,_,[]=>some ([],[],[])
 |i,s,v::r=>match vz i ints with
  |some (lo,hi)=>match iL lo hi s v with
   |some (a,x,en)=>match ha ints (i+1) (s+1) r with|some (t,l,b)=>some (a::t,x::l,en::b)|none=>none
   |none=>none
  |none=>match ha ints (i+1) s r with|some (t,l,b)=>some (v::t,l,b)|none=>none
def cellsOf (b:Nat):List (Nat×Nat×Int×Int)->List (Nat×Int×Int)
 |[]=>[]
 |(b5,c,q)::r=>cond (aA b b5) ((c,q)::cellsOf b r) (cellsOf b r)
noncomputable def hb (cells:List (Nat×Nat×Int×Int)):Nat->Nat->List ar->Option (List ar×List I×List (Int×Int))
 |_,_,[]=>some ([],[],[])
 |i,s,(cs,ty)::r=>match ha (cellsOf i cells) 0 s cs with
  |some (c,l,b)=>match hb cells (i+1) (s+l.length) r with
   |some (t,bp,b5)=>some ((c,ty)::t,l++bp,b++b5)
   |none=>none
  |none=>none
def kM:List V->List V->Bool
 |[],[]=>true
 | .any::r,_::s=>kM r s
 |v::r,u::s=>V.beq v u&&kM r s
 |_,_=>false
def kL:List ar->List ar->Bool
 |[],[]=>true
 |(c,t)::r,(c',t')::s=>nj c c'&&aA t.1 t'.1&&(t.2==t'.2)&&kL r s
 |_,_=>false
def eC:ar:=([.rows [] (.const 0) (.const 0) (.const 0) 0],(0,false))
def sH:List A->Bool
 |[.rows _ _ _ _ k]=>aA k 1
 |_=>false
def gb (N:Nat):Nat->List ar->List ar
 |_,[]=>[]
 |i,p::r=>cond (b7 i N&&(bJ p.1||sH p.1)) p eC::gb N (i+1) r
def HX (N:Nat) (tm:List V) (bl:List ar) (o:Oper):Bool:=match o.op with
 | .move _| .assign _| .extract _ _| .fieldAddr .. =>true
 | .load _ p=>match bM tm p with
  | .w (.one (.ptr b _))=>b7 b N&&(match bl[b]? with|some p=>bJ p.1|none=>false)
  |_=>false
 | .slice _ x _ _ _=>match bM tm x with| .w (.one (.sl ..))=>true|_=>false
 |_=>false
def HY (N:Nat) (tm:List V) (bl:List ar) (o:Oper):Bool:=match o.op with
 | .binOp _ _ x y _=>match bM tm x,bM tm y with
  | .w (.one (.int ..)),.w (.one (.int ..))=>true
  |_,_=>false
 | .indexAddr _ x _=>match bM tm x with| .w (.one (.sl ..))=>true|_=>false
 | .slice _ x _ _ _=>match bM tm x with| .w (.one (.str _))=>true|_=>false
 | .load _ p=>match bM tm p with
  | .w (.one (.ep b ..))=>b7 b N&&(match bl[b]? with|some p=>sH p.1|none=>false)
  |_=>false
 |_=>false
def OV (o:Oper):Bool:=match o.op with| .store .. =>true|_=>false
def Pj (o:Oper):Bool:=match o.op with| .move _| .assign _| .extract _ _| .fieldAddr .. | .load .. | .slice .. =>true|_=>false
def aj2 (o:Oper):Bool:=match o.op with| .call c=>(match c.callee with| .value _=>true|_=>false)|_=>false
def Pm (ops:Array Oper):Bool:=ops.toList.any (λo=>OV o||aj2 o)&&bw 7 (ops.toList.filter λo=> !Pj o).length
def Wc (N:Nat) (tm:List V) (bl:List ar) (ops:Array Oper) (listed:Array Bool):Option Nat:=
 cond (Kp ops) ((qQ .any ops listed).find? λi=>(match ops[i]? with|some o=>HX N tm bl o||(Pm ops&&HY N tm bl o)|none=>false)&&avv .any ops listed i) none
def amv (ops:Array Oper) (tm:List V) (o:Oper):Bool:=match o.guard with
 |some (g,want)=>match(ops[g]?).bind (·.dst)with
  |some d=>match tm[d]? with
   |some (.w (.one (.bool (.lit v))))=> !(v==want)
   |some (.fq [])=>true
   |_=>false
  |none=>false
 |none=>false
def X1 (tm:List V) (ops:Array Oper) (listed:Array Bool):Option Nat:=
 cond (Kp ops) ((qQ .any ops listed).find? λi=>(match ops[i]? with|some o=>amv ops tm o|none=>false)&&avv .any ops listed i) none
def preB:List ar->List ar->Bool
 |(c,t)::r,(c',t')::s=>nj c c'&&aA t.1 t'.1&&(t.2==t'.2)&&preB r s
 |[],_=>true
 |_,_=>false
noncomputable def tC (P:bm) (gl:dO) (cal:eg) (inl:iy) (ops:Array Oper) (N:Nat) (zX:List ar):Nat->Array Bool->Nat->List V->List ar->fA->T
 |0,listed,n,tm,bl,k=>match qQ .any ops listed with
  |[]=>k n tm bl
  |_=> .stuck
 |f+1,listed,n,tm,bl,k=>match qQ .any ops listed with
  |[]=>k n tm bl
  |l=>match Wc N tm bl ops listed with
   |some i=>match ops[i]? with
    |none=> .stuck
    |some o=>xI ops tm o (λtm=>uK P cal gl (gb N 0 bl) tm o n λv n'=>tC P gl cal inl ops N zX f (listed.setIfInBounds i true) n' (eV tm o.dst v) bl k) (λtm=>tC P gl cal inl ops N zX f (listed.setIfInBounds i true) n (eV tm o.dst (.fq [])) bl k)
   |none=>match X1 tm ops listed with
    |some i=>match ops[i]? with
     |none=> .stuck
     |some o=>xI ops tm o (λ_=> .stuck) (λtm=>tC P gl cal inl ops N zX f (listed.setIfInBounds i true) n (eV tm o.dst (.fq [])) bl k)
    |none=>Lo (λi=>match ops[i]? with
    |none=> .stuck
    |some o=>xI ops tm o (λtm=>JM P gl cal inl o n tm bl λn' bR aR=>cond (preB zX (gb N 0 aR)) (tC P gl cal inl ops N zX f (listed.setIfInBounds i true) n' bR aR k) .stuck) (λtm=>tC P gl cal inl ops N zX f (listed.setIfInBounds i true) n (eV tm o.dst (.fq [])) bl k)) l
def ab9 (ops:List Oper) (tm:List V) (p:mx):Nat:=match p with
 | .tmp d=>match ops.find? λo=>o.dst==some d with
  |some o=>match o.op with
   | .fieldAddr _ x _=>match bM tm x with| .w (.one (.ptr b _))=>b|_=>0
   |_=>0
  |none=>match bM tm p with| .w (.one (.ptr b _))=>b|_=>0
 |_=>0
def TB (ops:List Oper) (tm:List V):List Oper->Nat->Nat
 |[],N=>N
 |o::r,N=>TB ops tm r (match o.op with| .store _ p _=>min N (ab9 ops tm p)|_=>N)
def Ec (ops:Array Oper) (tm:List V) (bl:List ar):Nat:=cond (Pm ops) (min bl.length (TB ops.toList tm ops.toList bl.length)) (cond (ops.toList.any OV) 0 bl.length)
def P7 (body:Nat->List V->List ar->p2->T):Nat->Nat->List V->List ar->p2->T
 |0,_,_,_,_=> .stuck
 |r+1,n,tm,bl,k=>body n tm bl λx n' bR aR=>match x with
  | .normal=>P7 body r n' bR aR k
  |x=>k x n' bR aR
def sc (lo:Nat):List (Nat×List aw×aN)->List V->List ar->List Nat->Option (List I×List Nat)
 |[],_,_,used=>some ([],used)
 |(s,sh,e)::r,tm,bl,used=>match tm[s]? with
  |some (.w (.one (.con (.slice none 0 0))))=>match sc lo r tm bl used with
   |some (l,u)=>some (.const 0:: .const 0:: .const (-1)::l,u)
   |none=>none
  |some (.w (.one (.sl b aQ o ro len cap)))=>match bl[b]? with
   |some ([.rows ei off code dn kind],t)=>cond (mc sh ei&&aA kind 2&&I.beq o (.const 0)&&I.beq off (.const 0)&&I.beq ro (.const 0)&&I.beq cap dn&&aA t.1 e&&aA aQ sh.length&&bw lo b&& !(used.any (aA b)))
    (match sc lo r tm bl (b::used)with
    |some (l,u)=>some (code::len::cap::l,u)
    |none=>none) none
   |_=>none
  |_=>none
def kT:List Nat->List ar->List ar
 |[],bl=>bl
 |b::r,bl=>match bl[b]? with
  |some ([.rows sh off code cap _],t)=>kT r (cO bl b ([.rows sh off code cap 0],t))
  |_=>kT r bl
def xG:List (Nat×Int×Int)->List V->M (List V)
 |[],tm=>pure tm
 |(s,lo,hi)::r,tm=>match tm[s]? with
  |some (.w (.one (.int k x)))=>cond (decide (lo<=x.lo)&&decide (x.hi<=hi)) (xG r tm) (bind (eZ 39 [x.l,.const lo,.const hi]) λ_=>xG r (pN tm s (.w (.one (.int k ⟨x.l,lo,hi⟩)))))
  |_=>xG r tm
def Db (tm:List V):List Nat->M (List I)
 |[]=>pure []
 |s::r=>match tm[s]? with
  |some (.w (.one (.bool e)))=>bind (match e with| .lit v=>pure (.const (cond v 1 0))|e=>yu e) λl=>bind (Db tm r) λls=>pure (l::ls)
  |_=>fail
def rh:List Nat->Nat->List V->List V
 |[],_,tm=>tm
 |s::r,v,tm=>rh r (v+1) (pN tm s (.w (.one (.bool (.eq (.var v) (.const 1))))))
def pw:List (Nat×List aw×aN)->Nat->List V->List ar->List V×List ar
 |[],_,tm,bl=>(tm,bl)
 |(s,sh,e)::r,v,tm,bl=>pw r (v+3) (pN tm s (.w (.one (.sl bl.length sh.length (.const 0) (.const 0) (.var (v+1)) (.var (v+2)))))) (bl++[([.rows sh (.const 0) (.var v) (.var (v+2)) 2],(e,false))])
def G2 (l:List Nat):List (Int×Int):=l.map λ_=>(0,1)
noncomputable def xu (l:List (Nat×List aw×aN)):List (Int×Int):=l.flatMap λ_=>[(0,bZ),(0,9223372036854775807),(-1,9223372036854775807)]
noncomputable def FD:List (Nat×List aw×Nat)->List ar->M (List ar)
 |[],bl=>pure bl
 |(b,sh,c)::r,bl=>match bl[b]? with
  |some (C,t)=>cond (bJ C) (cond (!t.2&&aA C.length (c*sh.length)&&k0 sh&&bw c 1000000) (bind (vo sh (lW sh.length c C) (.const 0)) λcode=>FD r (cO bl b ([.rows sh (.const 0) code (.const c) 2],t))) fail) (FD r bl)
  |none=>fail
def y8:List (Nat×List aw)->List V->List ar->Option (List I)
 |[],_,_=>some []
 |(s,sh)::r,tm,bl=>match tm[s]? with
  |some (.w (.one (.con (.slice none 0 0))))=>match y8 r tm bl with
   |some l=>some (.const 0:: .const 0:: .const (-1)::l)
   |none=>none
  |some (.w (.one (.sl b aQ o ro len cap)))=>match bl[b]? with
   |some ([.rows ei off code dn kind],t)=>cond (mc sh ei&&aA kind 1&&I.beq o off&&I.beq ro (.const 0)&&I.beq cap dn&&aA aQ sh.length)
    (match y8 r tm bl with
    |some l=>some (code::len::cap::l)
    |none=>none) none
   |_=>none
  |_=>none
def IY:Nat->M Unit
 |0=>pure ()
 |k+1=>λn zE=> .nat n (IY k (n+1) zE)
def headD:List (Nat×List aw)->Nat->Nat->List V->List ar->List V×List ar
 |[],_,_,tm,bl=>(tm,bl)
 |(s,sh)::r,v,u,tm,bl=>headD r (v+3) (u+1) (pN tm s (.w (.one (.sl bl.length sh.length (.var u) (.const 0) (.var (v+1)) (.var (v+2)))))) (bl++[([.rows sh (.var u) (.var v) (.var (v+2)) 1],(0,false))])
noncomputable def y7 (l:List (Nat×List aw)):List (Int×Int):=l.flatMap λ_=>[(0,bZ),(0,9223372036854775807),(-1,9223372036854775807)]
noncomputable def Ph (li:dC) (body:Nat->List V->List ar->p2->T) (n:Nat) (tm:List V) (bl:List ar) (k:p2):T:=
 FD li.Qe bl n λbl n=>xG li.ints tm n λtm n=>Db tm li.oJ n λlb n=>match hs li.eN li.ints 0 (n+1) tm,sc 0 li.nV tm bl [],y8 li.kr tm bl with
 |some (j0,l1,b1),some (la,us),some iR=>match hb li.cells 0 (n+1+l1.length) (kT us bl)with
  |none=> .stuck
  |some (dS,l2,b2)=>cond (!(kM j0 j0&&kL dS dS)) .stuck <| .loop n (l1++l2++(lb++la++iR)) (n+1) (b1++b2++(G2 li.oJ++xu li.nV++y7 li.kr))
   (IY li.kr.length (n+1+l1.length+l2.length+(lb++la++iR).length) λ_ N=>
   let d:=headD li.kr (n+1+l1.length+l2.length+(lb++la).length) (n+1+l1.length+l2.length+(lb++la++iR).length) (rh li.oJ (n+1+l1.length+l2.length) j0) dS
   let e:=pw li.nV (n+1+l1.length+l2.length+lb.length) d.1 d.2
   body N e.1 e.2 λx n' bR aR=>match x with
   | .normal=>xG li.ints bR n' λbR n'=>Db bR li.oJ n' λXo n'=>match hs li.eN li.ints 0 (n+1) bR,sc bl.length li.nV bR aR [],y8 li.kr bR aR with
    |some (uU,v1,_),some (O5,_),some XB=>match hb li.cells 0 (n+1+v1.length) (aR.take bl.length)with
     |none=> .stuck
     |some (mD,v2,_)=>cond (kM j0 uU&&kL dS mD) (.again n (v1++v2++(Xo++O5++XB))) .stuck
    |_,_,_=> .stuck
   |x=>k x n' bR aR)
 |_,_,_=> .stuck
noncomputable def kK (P:bm) (gl:dO) (cal:eg) (inl:iy) (li:Nat->Option dC) (rounds:Nat):Code->Nat->List V->List ar->p2->T
 | .skip,n,tm,bl,k=>k .normal n tm bl
 | .region _ ops draw,n,tm,bl,k=>cond draw
  (let h:=Eb P cal ops
   cond (B2 ops h&&Kk P (ops.toList.take h)) (AG P gl cal ops (ops.toList.take h) n tm bl λn' bR=>C3 P (ops.toList.take h) n' bR bl λn' bR aR=>BC P gl cal inl ops (ops.toList.drop h) n' bR aR (k .normal)) (cond (bw (ops.toList.filter λo=> !Pj o).length 12) (tC P gl cal inl ops (Ec ops tm bl) (gb (Ec ops tm bl) 0 bl) ops.size (th ops.size false) n tm bl (k .normal)) .stuck))
  (BC P gl cal inl ops ops.toList n tm bl (k .normal))
 | .seq a b,n,tm,bl,k=>kK P gl cal inl li rounds a n tm bl λx n' bR aR=>match x with
  | .normal=>kK P gl cal inl li rounds b n' bR aR k
  |x=>k x n' bR aR
 | .cond c a b,n,tm,bl,k=>match bM tm c with
  | .w (.one (.bool e))=>match e with
   | .lit v=>cond v (kK P gl cal inl li rounds a n tm bl k) (kK P gl cal inl li rounds b n tm bl k)
   |e=> .mE e (kK P gl cal inl li rounds a n (pP e true tm) bl k) (kK P gl cal inl li rounds b n (pP e false tm) bl k)
  |_=> .stuck
 | .block id c,n,tm,bl,k=>kK P gl cal inl li rounds c n tm bl λx n' bR aR=>match x with
  | .exit v7=>cond (aA v7 id) (k .normal n' bR aR) (k (.exit v7) n' bR aR)
  |x=>k x n' bR aR
 | .loop c,n,tm,bl,k=>match(Ah c).bind li with
  |some l=>Ph l (λn tm bl k=>kK P gl cal inl li rounds c n tm bl k) n tm bl k
  |none=>P7 (λn tm bl k=>kK P gl cal inl li rounds c n tm bl k) rounds n tm bl k
 | .exit id,n,tm,bl,k=>k (.exit id) n tm bl
 | .ret,n,tm,bl,k=>k .ret n tm bl
 |_,_,_,_,_=> .stuck
def FA (P:bm) (gl:dO) (bl:List ar) (tm:List V):ResultVar->Option W
 | .tmp t=>match tm[t]? with|some (.w u)=>some u|_=>none
 | .cell a t=>match tm[a]? with
  |some (.w (.one p))=>match z6 bl gl p,hL P t,eA P t with
   |some cs,some true,some k=>cond (bw k cs.length) (some (.agg (cs.take k))) none
   |some (x::_),some false,_=>some (.one x)
   |_,_,_=>none
  |_=>none
def za (P:bm) (gl:dO) (bl:List ar) (tm:List V):List ResultVar->Option (List W)
 |[]=>some []
 |r::s=>match FA P gl bl tm r,za P gl bl tm s with|some u,some l=>some (u::l)|_,_=>none
def PE (tm:List V):List ResultVar->Option V
 |[.tmp t]=>match tm[t]? with
  |some (.nm f c)=>some (.nm f c)
  |some (.mT b l lo)=>some (.mT b l lo)
  |_=>none
 |_=>none
def Fy (P:bm) (gl:dO) (fn:Func) (n:Nat) (tm:List V) (bl:List ar) (k:RK):T:=
 match za P gl bl tm fn.results.toList with
 |some [u]=>k n (.w u) bl
 |some l=>k n (.fq l) bl
 |none=>match PE tm fn.results.toList with
  |some v=>k n v bl
  |none=> .stuck
def BQ:Nat->List V
 |0=>[]
 |n+1=> .fq []::BQ n
noncomputable def G0 (P:bm) (gl:dO) (cal:eg) (inl:iy) (li:cy->Nat->Option dC) (rounds:Nat):iy:=
 λf n vs bl k=>match P.funcs[f]? with
  |none=> .stuck
  |some fn=>match fn.body with
   |none=> .stuck
   |some c=>cond (!(fn.name== "runtime.NumGoroutine")&&bw vs.length fn.ntmps) (kK P gl cal inl (li f) rounds c n (vs++BQ (fn.ntmps-vs.length)) bl λx n' bR aR=>match x with
    | .exit _=> .stuck
    |_=>Fy P gl fn n' bR aR k) .stuck
noncomputable def G9 (P:bm) (gl:dO) (cal:eg) (li:cy->Nat->Option dC) (rounds:Nat):Nat->iy
 |0=>λ_ _ _ _ _=> .stuck
 |d+1=>G0 P gl cal (G9 P gl cal li rounds d) li rounds
abbrev jO:=cy->Option (Nat->List V->List ar->RK->T)
noncomputable def PG (bc:jO) (inl:iy):iy:=λf n vs bl k=>match bc f with
 |some g=>g n vs bl k
 |none=>inl f n vs bl k
noncomputable def vr (bc:jO) (P:bm) (gl:dO) (cal:eg) (li:cy->Nat->Option dC) (rounds:Nat):Nat->iy
 |0=>λ_ _ _ _ _=> .stuck
 |d+1=>G0 P gl cal (PG bc (vr bc P gl cal li rounds d)) li rounds
end Go.bg
