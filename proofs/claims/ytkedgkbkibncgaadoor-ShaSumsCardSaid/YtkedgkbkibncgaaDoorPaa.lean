/- Texts as numbers. -/
import GoSem.ClaimData
import GoSem.Op.String
import Derived.WalkKit
import Derived.Laws.StructEq
import Derived.ChangeKeysEq
import Derived.Laws.Tables
import Derived.Laws.Strings2
import Derived.Laws.Concat
import Derived.Laws.Cover1
import Derived.Laws.Cover3
import Derived.Laws.BytesArg
import Derived.StillTail
import Derived.OrdersHeld

set_option linter.unusedVariables false
set_option linter.unusedSimpArgs false
namespace Go.bx
def j0:List UInt8->Nat
 |[]=>0
 |b::r=>(b.toNat+1)+257*j0 r
def sA:Nat->Nat->List UInt8
 |0,_=>[]
 |f+1,n=>match n with
  |0=>[]
  |k+1=>UInt8.ofNat (k% 257)::sA f ((k+1)/257)
theorem Er (b:UInt8) (r:List UInt8):j0 (b::r)=(b.toNat+1)+257*j0 r:=rfl
theorem Sz (b:UInt8) (r:List UInt8):j0 (b::r)=(b.toNat+257*j0 r)+1:=by rw[Er];omega
theorem Qe:∀(l:List UInt8) (f:Nat),l.length<=f->sA f (j0 l)=l
 |[],0,_=>rfl
 |[],f+1,_=>rfl
 |b::r,0,h=>by simp at h
 |b::r,f+1,h=>by
  have hb:=b.toNat_lt
  rw[Sz]
  show UInt8.ofNat ((b.toNat+257*j0 r)% 257)::sA f ((b.toNat+257*j0 r+1)/257)=b::r
  have e1:(b.toNat+257*j0 r)% 257=b.toNat:=by omega
  have e2:(b.toNat+257*j0 r+1)/257=j0 r:=by omega
  rw[e1,e2,Qe r f (by simpa using h)]
  simp
theorem Qf:∀(f n k:Nat),n<257^k->(sA f n).length<=k
 |0,_,_,_=>by simp[sA]
 |f+1,0,k,_=>by simp[sA]
 |f+1,n+1,0,h=>by simp at h
 |f+1,n+1,k+1,h=>by
  have:(n+1)/257<257^k:=by rw[Nat.div_lt_iff_lt_mul (by decide)];rw[Nat.pow_succ]at h;exact h
  have ih:=Qf f ((n+1)/257) k this
  simp only[sA,List.length_cons]
  omega
theorem L9:∀(l:List UInt8),j0 l<257^l.length
 |[]=>by simp[j0]
 |b::r=>by
  have ih:=L9 r
  have hb:=b.toNat_lt
  unfold j0
  rw[List.length_cons,Nat.pow_succ]
  omega
theorem L8:∀(l:List UInt8),l.length<=j0 l
 |[]=>by simp
 |b::r=>by
  have ih:=L8 r
  unfold j0
  rw[List.length_cons]
  omega
theorem Ma:∀(l:List UInt8),0<l.length->2^(l.length-1)<=j0 l
 |[b],_=>by rw[Er];show 1<=_;omega
 |b::c::r,_=>by
  have ih:=Ma (c::r) (by simp)
  rw[Er b]
  simp only[List.length_cons,Nat.add_sub_cancel]at ih⊢
  rw[Nat.pow_succ]
  omega
def aI (z:Int):List UInt8:=sA (Nat.log2 z.toNat+1) z.toNat
def fT (l:List UInt8):Int:=j0 l
theorem ri (l:List UInt8):aI (fT l)=l:=by
 unfold aI fT
 rw[Int.toNat_natCast]
 apply Qe
 by_cases h:l.length=0
 ·omega
 ·have h1:=Ma l (by omega)
  have h2:j0 l≠0:=by have:=L8 l;omega
  have h3:=(Nat.le_log2 h2).2 h1
  omega
theorem qz (l:List UInt8):0<=fT l:=Int.natCast_nonneg _
theorem Rd (k:Nat):∃H:Int,(∀l:List UInt8,l.length<=k->fT l<=H)/\∀z:Int,z<=H->(aI z).length<=k:=by
 refine⟨(257^k:Nat)-1,λl h=>?_,λz h=>?_⟩
 ·have h1:=L9 l
  have h2:257^l.length<=257^k:=Nat.pow_le_pow_right (by decide) h
  unfold fT
  omega
 ·unfold aI
  apply Qf
  have:=Nat.pow_pos (n:=k) (show 0<257 by decide)
  omega
def iE:Nat:=140737488351232
theorem DO:∃H:Int,(∀l:List UInt8,l.length<=iE->fT l<=H)/\∀z:Int,z<=H->(aI z).length<=iE:=Rd iE
noncomputable def gn:Int:=Classical.choose DO
theorem pa {l:List UInt8} (h:l.length<=iE):fT l<=gn:=(Classical.choose_spec DO).1 l h
theorem yw {z:Int} (h:z<=gn):(aI z).length<=iE:=(Classical.choose_spec DO).2 z h
theorem DP:0<=gn:=by have:=pa (l:=[]) (by simp);exact this
def n5 (l:List UInt8):List UInt8:=cond (Nat.ble l.length 1000000) l []
theorem XW (l:List UInt8):0<=fT (n5 l)/\fT (n5 l)<=gn:=by
 refine⟨qz _,pa ?_⟩
 unfold n5
 cases h:Nat.ble l.length 1000000 with
 |true=>have:=Nat.le_of_ble_eq_true h;simp only[cond_true];unfold iE;omega
 |false=>simp
def cJ (l:List UInt8):ByteArray:=⟨l.toArray⟩
def qq (z:Int):Nat:=if 0<=z then 2*z.toNat else 2*(-z).toNat-1
def sG (n:Nat):Int:=if n% 2=0 then((n/2:Nat):Int)else-(((n+1)/2:Nat):Int)
theorem afR (z:Int):sG (qq z)=z:=by
 unfold qq sG
 split
 ·rw[if_pos (by omega)];omega
 ·rw[if_neg (by omega)];omega
def lc:List Nat->Nat
 |[]=>0
 |x::r=>2^x*(2*lc r+1)
def lJ:Nat->Nat->Nat
 |0,_=>0
 |f+1,n=>if n% 2=0 then lJ f (n/2)+1 else 0
theorem QK (k:Nat):∀(x f:Nat),x<f->lJ f (2^x*(2*k+1))=x
 |0,f+1,_=>by
  unfold lJ
  rw[if_neg (by rw[Nat.pow_zero,Nat.one_mul];omega)]
 |x+1,f+1,h=>by
  unfold lJ
  have e:2^(x+1)*(2*k+1)=2*(2^x*(2*k+1)):=by rw[Nat.pow_succ,Nat.mul_comm (2^x) 2,Nat.mul_assoc]
  rw[e,if_pos (by omega),Nat.mul_div_cancel_left _ (by decide),QK k x f (by omega)]
def aF:Nat->Nat->List Nat
 |0,_=>[]
 |f+1,n=>if n=0 then []else lJ n n::aF f (n/2^lJ n n/2)
theorem YL (x:Nat):x<2^x:=Nat.lt_two_pow_self
theorem Hg:∀l:List Nat,l.length<=lc l
 |[]=>Nat.le_refl _
 |x::r=>by
  have ih:=Hg r
  unfold lc
  have h1:1<=2^x:=Nat.one_le_two_pow
  have h2:2*lc r+1<=2^x*(2*lc r+1):=Nat.le_mul_of_pos_left _ h1
  rw[List.length_cons]
  omega
theorem Hi:∀(l:List Nat) (f:Nat),l.length<=f->aF f (lc l)=l
 |[],0,_=>rfl
 |[],f+1,_=>by simp[aF,lc]
 |x::r,0,h=>by simp at h
 |x::r,f+1,h=>by
  have h1:1<=2^x:=Nat.one_le_two_pow
  have h2:2^x<=2^x*(2*lc r+1):=Nat.le_mul_of_pos_right _ (by omega)
  have h3:=YL x
  have hz:lc (x::r)≠0:=by
   have hl:lc (x::r)=2^x*(2*lc r+1):=rfl
   omega
  have ht:lJ (lc (x::r)) (lc (x::r))=x:=by
   show lJ (2^x*(2*lc r+1)) (2^x*(2*lc r+1))=x
   exact QK _ _ _ (by omega)
  unfold aF
  rw[if_neg hz,ht]
  have e:lc (x::r)/2^x/2=lc r:=by
   have hl:lc (x::r)=2^x*(2*lc r+1):=rfl
   rw[hl,Nat.mul_div_cancel_left _ (by omega)]
   omega
  rw[e,Hi r f (by simpa using h)]
theorem Hf (X:Nat):∀k:Nat,∃B,∀l:List Nat,l.length<=k->(∀x∈l,x<=X)->lc l<=B
 |0=>⟨0,λl h _=>by
  have:l=[]:=List.length_eq_zero_iff.1 (by omega)
  subst this;exact Nat.le_refl _⟩
 |k+1=>by
  obtain⟨B,hB⟩:=Hf X k
  refine⟨2^X*(2*B+1),λl h hx=>?_⟩
  cases l with
  |nil=>exact Nat.zero_le _
  |cons x r=>
   unfold lc
   have h1:=hB r (by simpa using h) λy hy=>hx y (List.mem_cons_of_mem _ hy)
   exact Nat.mul_le_mul (Nat.pow_le_pow_right (by decide) (hx x (by simp))) (by omega)
def rc (l:List (List Int)):Int:=(lc (l.map λrow=>lc (row.map qq)):Nat)
def ab (z:Int):List (List Int):=(aF z.toNat z.toNat).map λn=>(aF n n).map sG
theorem YP (l:List Int):(l.map qq).map sG=l:=by
 rw[List.map_map]
 conv=>rhs;rw[<-List.map_id l]
 exact List.map_congr_left λz _=>afR z
theorem eh (l:List (List Int)):ab (rc l)=l:=by
 unfold ab rc
 rw[Int.toNat_natCast,Hi _ _ (Hg _),List.map_map]
 conv=>rhs;rw[<-List.map_id l]
 refine List.map_congr_left λrow _=>?_
 simp only[Function.comp,id]
 rw[Hi _ _ (Hg _),YP]
theorem eR (l:List (List Int)):0<=rc l:=Int.natCast_nonneg _
def Ia (row:List Int):Prop:=row.length<=100/\∀z∈row,-18446744073709551616-gn<=z/\z<=18446744073709551616+gn
theorem LC:∃H:Int,∀l:List (List Int),l.length<=maxLen->(∀row∈l,Ia row)->rc l<=H:=by
 obtain⟨B,hB⟩:=Hf (2*(18446744073709551616+gn).toNat) 100
 obtain⟨C,lq⟩:=Hf B maxLen
 refine⟨(C:Nat),λl h hr=>?_⟩
 unfold rc
 have:=lq (l.map λrow=>lc (row.map qq)) (by simpa using h) λx hx=>by
  obtain⟨row,fO,rfl⟩:=List.mem_map.1 hx
  refine hB _ (by simpa using(hr row fO).1) λy hy=>?_
  obtain⟨z,hz,rfl⟩:=List.mem_map.1 hy
  have h1:=(hr row fO).2 z hz
  have h2:=DP
  unfold qq
  split<;>omega
 omega
noncomputable def aw:Int:=Classical.choose LC
theorem m7 {l:List (List Int)} (h:l.length<=maxLen) (hr:∀row∈l,Ia row):rc l<=aw:=Classical.choose_spec LC l h hr
inductive az where
 |int (k:IntKind) (lo hi:Int)
 |str
 |bool
def az.beq:az->az->Bool
 |int k lo hi,int aM O8 kW=>decide (k=aM)&&decide (lo=O8)&&decide (hi=kW)
 |str,str=>true
 |bool,bool=>true
 |_,_=>false
theorem az.beq_eq:∀{a b:az},az.beq a b=true->a=b
 |int k lo hi,int aM O8 kW,h=>by
  simp only[az.beq,Bool.and_eq_true,decide_eq_true_eq]at h
  rw[h.1.1,h.1.2,h.2]
 |str,str,_=>rfl
 |bool,bool,_=>rfl
 |int ..,str,h=>by cases h
 |int ..,bool,h=>by cases h
 |str,int ..,h=>by cases h
 |str,bool,h=>by cases h
 |bool,int ..,h=>by cases h
 |bool,str,h=>by cases h
def lf:List az->List az->Bool
 |[],[]=>true
 |a::r,b::s=>az.beq a b&&lf r s
 |_,_=>false
theorem rk:∀{a b:List az},lf a b=true->a=b
 |[],[],_=>rfl
 |a::r,b::s,h=>by
  simp only[lf,Bool.and_eq_true]at h
  rw[az.beq_eq h.1,rk h.2]
 |[],_::_,h=>by cases h
 |_::_,[],h=>by cases h
noncomputable def az.dJ:az->Int×Int
 |int _ lo hi=>(lo,hi)
 |str=>(0,gn)
 |bool=>(0,1)
def az.val:az->Int->Value
 |int k _ _,z=> .int k z
 |str,z=> .string (cJ (aI z))
 |bool,z=> .bool (decide (z=1))
def aa:Nat->List Int->Int
 |0,[s]=>(aI s).length
 |1,[s,i]=>((aI s).getD i.toNat 0).toNat
 |2,[s,a,b]=>fT (((aI s).drop a.toNat).take (b.toNat-a.toNat))
 |3,[s,t]=>fT (aI s++aI t)
 |4,[s,t]=>if aI s=aI t then 1 else 0
 |5,[s,t]=>if Op.bytesLess (aI s) (aI t)=true then 1 else 0
 |20,[c]=>(ab c).length
 |21,[c,i,j]=>((ab c).getD i.toNat []).getD j.toNat 0
 |22,[c,a,b]=>rc (((ab c).drop a.toNat).take (b.toNat-a.toNat))
 |23,c::row=>rc (ab c++[row])
 |24,[c,e]=>rc (ab c++ab e)
 |25,c::i::row=>rc ((ab c).set i.toNat row)
 |26,n::row=>rc (List.replicate n.toNat row)
 |27,[s]=>rc ((aI s).map λb=>[(b.toNat:Int)])
 |34,[c,a,b]=>fT ((((ab c).drop a.toNat).take (b.toNat-a.toNat)).map λrow=>UInt8.ofNat (row.getD 0 0).toNat)
 |37,[x,y]=>x*2^y.toNat
 |38,[x,y]=>x% y
 |76,[x,y]=>x/y
 |33,[r,a,c]=>if a=c then r else r+a
 |29,[c,i,j,v]=>rc ((ab c).set i.toNat (((ab c).getD i.toNat []).set j.toNat v))
 |42,c::i::j::vs=>rc ((ab c).set i.toNat (((ab c).getD i.toNat []).take j.toNat++vs++((ab c).getD i.toNat []).drop (j.toNat+vs.length)))
 |43,[s,i]=>if UInt8.ofNat i.toNat∈aI s then 1 else 0
 |61,c::a::k::row=>rc ((ab c).take a.toNat++List.replicate k.toNat row++(ab c).drop (a.toNat+k.toNat))
 |62,[a,b]=>min a b
 |63,[c,a,s]=>rc ((ab c).take a.toNat++ab s++(ab c).drop (a.toNat+(ab s).length))
 |28,[c]=>fT ((ab c).map λrow=>UInt8.ofNat (row.getD 0 0).toNat)
 |_,_=>0
noncomputable def yS:Nat->List Int->Prop
 |70,[l,c]=>c∣l
 |71,z::_=>(ab z).length<=1000000000
 |72,z::_=>64∣(ab z).length/\(ab z).length<=1000001000
 |73,z::_=>128∣(ab z).length/\(ab z).length<=1000001000
 |74,[i,l]=>0<=i/\i<l
 |78,[x,y,z,c]=>0<=x/\x<=y/\y<=z/\z<=c
 |79,[l,c]=>l<=c
 |75,l=>∀z∈l,(ab z).length<=100000000
 |77,[x]=>0<=x
 |80,[c,a,k]=>0<=a/\0<=k/\a+k<=(ab c).length
 |81,l=>(aI (l.getD 5 0)).length<=1000000000
 |82,_=>True
 |83,r::_=>0<(ab r).length/\(ab r).length<=1000000000
 |_,_=>False
def U:Nat->List Int->Prop
 |1,[s,i]=>0<=i/\i<(aI s).length
 |2,[s,a,b]=>0<=a/\a<=b/\b<=(aI s).length
 |3,[s,t]=>(aI s).length+(aI t).length<=iE
 |21,[c,i]=>0<=i/\i<(ab c).length
 |30,[i,n]=>0<=i/\i<n
 |31,[c,n]=>n=(ab c).length
 |32,[a,b,n]=>0<=a/\a<=b/\b<=n
 |22,[c,a,b]=>0<=a/\a<=b/\b<=(ab c).length
 |35,[c,a,b]=>(0<=a/\a<=b/\b<=(ab c).length)/\b-a<=140737488351232
 |36,[y]=>0<y
 |39,[x,l,h]=>l<=x/\x<=h
 |40,[a,b]=>0<=a->0<=b
 |41,[s]=>(aI s).length<=4294967280
 |44,[w,s]=>aI w=[]∨(aI s).length<=4294967280
 |23,[c,k]=>(ab c).length+k<=1073741824
 |26,[n]=>0<=n/\n<=1073741824
 |48,r::_=>(ab r).length<=1099511627776
 |50,s::_=>(aI s).length<=1073741824
 |49,[l,c]=>0<=l/\l<=c/\c<=1073741824
 |64,[p,q,r,l]=>0<=p/\p<=q/\q<=r/\r<=l/\0<l
 |65,[c,a,k]=>0<=a/\0<k/\a+k<=(ab c).length
 |66,r::_=>(ab r).length<=1000000
 |68,[l,c]=>l<=c∨l=0
 |67,[c,i,k]=>((ab c).getD i.toNat []).length=k.toNat
 |53,[c,l]=>c<0->l=0
 |52,[c,a,b]=>0<=a/\a<b/\b<=(ab c).length/\(ab c).length<=1073741824
 |51,[c,i,r]=>(0<=i/\i<=(ab c).length)/\(ab r).length=1/\(ab c).length+1<=1073741824
 |op,l=>yS op l
end Go.bx
namespace Go.bx
abbrev Env:=Nat->Int
def cF (ρ:Env) (n:Nat) (z:Int):Env:=λi=>cond (Nat.beq i n) z (ρ i)
def bn (ρ:Env):Nat->List Int->Env
 |_,[]=>ρ
 |n,z::zs=>bn (cF ρ n z) (n+1) zs
def agree (n:Nat) (ρ ae:Env):Prop:=∀i,i<n->ae i=ρ i
theorem agree.refl (n:Nat) (ρ:Env):agree n ρ ρ:=λ_ _=>rfl
theorem agree.trans {n n':Nat} {ρ ae oi:Env} (h:agree n ρ ae) (h':agree n' ae oi) (hn:n<=n'):agree n ρ oi:=
 λi hi=>(h' i (by omega)).trans (h i hi)
theorem agree.mono {n n':Nat} {ρ ae:Env} (h:agree n' ρ ae) (hn:n<=n'):agree n ρ ae:=λi hi=>h i (by omega)
theorem hh (ρ:Env) (n:Nat) (z:Int):cF ρ n z n=z:=by simp[cF]
theorem I3 (ρ:Env) {n i:Nat} (z:Int) (h:i≠n):cF ρ n z i=ρ i:=by
 unfold cF
 cases hb:Nat.beq i n with
 |false=>rfl
 |true=>exact absurd (Nat.eq_of_beq_eq_true hb) h
theorem agree.cF (n:Nat) (ρ:Env) (z:Int):agree n ρ (cF ρ n z):=λi hi=>I3 ρ z (by omega)
theorem agree.bn:∀(zs:List Int) (n:Nat) (ρ:Env),agree n ρ (bn ρ n zs)
 |[],n,ρ=>agree.refl n ρ
 |z::zs,n,ρ=>(agree.cF n ρ z).trans (agree.bn zs (n+1) _) (by omega)
structure I where
 c:Int
 fu:List (Int×Nat)
def fA (ρ:Env):List (Int×Nat)->Int
 |[]=>0
 |(k,i)::r=>k*ρ i+fA ρ r
def I.den (ρ:Env) (l:I):Int:=fA ρ l.fu+l.c
def ui (k:Int) (i:Nat):List (Int×Nat)->List (Int×Nat)
 |[]=>[(k,i)]
 |(aM,j)::r=>cond (Nat.blt i j) ((k,i)::(aM,j)::r) (cond (Nat.beq i j) (cond (k+aM==0) r ((k+aM,i)::r)) ((aM,j)::ui k i r))
def wi:List (Int×Nat)->List (Int×Nat)->List (Int×Nat)
 |[],l=>l
 |(k,i)::r,l=>ui k i (wi r l)
def sC (m:Int):List (Int×Nat)->List (Int×Nat)
 |[]=>[]
 |(k,i)::r=>(m*k,i)::sC m r
theorem Mo (ρ:Env) (k:Int) (i:Nat):∀l,fA ρ (ui k i l)=k*ρ i+fA ρ l
 |[]=>rfl
 |(aM,j)::r=>by
  unfold ui
  cases h1:Nat.blt i j with
  |true=>rfl
  |false=>
   cases h2:Nat.beq i j with
   |true=>
    have e:i=j:=Nat.eq_of_beq_eq_true h2
    subst e
    cases h3:(k+aM==0)with
    |true=>
     have h3:k+aM=0:=by simpa using h3
     simp only[cond_true,cond_false,fA]
     rw[<-Int.add_assoc,<-Int.add_mul,h3];simp
    |false=>simp only[cond_true,cond_false,fA];rw[Int.add_mul];omega
   |false=>simp only[cond_false,fA,Mo ρ k i r];omega
theorem Mm (ρ:Env):∀l l',fA ρ (wi l l')=fA ρ l+fA ρ l'
 |[],l'=>by simp[wi,fA]
 |(k,i)::r,l'=>by simp only[wi,Mo,fA,Mm ρ r l'];omega
theorem Mp (ρ:Env) (m:Int):∀l,fA ρ (sC m l)=m*fA ρ l
 |[]=>by simp[sC,fA]
 |(k,i)::r=>by simp only[sC,fA,Mp ρ m r];rw[Int.mul_add,Int.mul_assoc]
def m1 (n:Nat) (l:List (Int×Nat)):Prop:=∀t∈l,t.2<n
theorem m1.mono {n n':Nat} {l} (h:m1 n l) (hn:n<=n'):m1 n' l:=λt ht=>Nat.lt_of_lt_of_le (h t ht) hn
theorem Qh {n:Nat} {k:Int} {i:Nat} (hi:i<n):∀{l},m1 n l->m1 n (ui k i l)
 |[],_=>by intro t ht;simp[ui]at ht;subst ht;exact hi
 |(aM,j)::r,h=>by
  have hr:m1 n r:=λt ht=>h t (List.mem_cons_of_mem _ ht)
  have hj:j<n:=h (aM,j) (by simp)
  have ih:=Qh (k:=k) hi hr
  unfold ui
  intro t ht
  cases h1:Nat.blt i j<;>cases h2:Nat.beq i j<;>cases h3:(k+aM==0)<;>simp only[h1,h2,h3,cond_true,cond_false,List.mem_cons]at ht<;>
   first
   |(rcases ht with rfl|ht<;>first|exact hi|exact hj|(exact hr t ht)|(exact ih t ht)|(rcases ht with rfl|ht<;>first|exact hj|exact hr t ht))
   |exact hr t ht
theorem Qg {n:Nat}:∀{l l'},m1 n l->m1 n l'->m1 n (wi l l')
 |[],_,_,h'=>h'
 |(k,i)::r,_,h,h'=>Qh (k:=k) (i:=i) (h (k,i) (by simp)) (Qg (l:=r) (λt ht=>h t (List.mem_cons_of_mem _ ht)) h')
theorem Qi {n:Nat} {m:Int}:∀{l},m1 n l->m1 n (sC m l)
 |[],_=>λt ht=>by simp[sC]at ht
 |(k,i)::r,h=>by
  intro t ht
  simp only[sC,List.mem_cons]at ht
  rcases ht with rfl|ht
  ·exact h (k,i) (by simp)
  ·exact Qi (λt ht=>h t (List.mem_cons_of_mem _ ht)) t ht
theorem Mn {n:Nat} {ρ ae:Env} (h:agree n ρ ae):∀{l},m1 n l->fA ae l=fA ρ l
 |[],_=>rfl
 |(k,i)::r,hs=>by
  simp only[fA,h i (hs (k,i) (by simp)),Mn h (l:=r) (λt ht=>hs t (List.mem_cons_of_mem _ ht))]
namespace I
def const (c:Int):I:=⟨c,[]⟩
def var (n:Nat):I:=⟨0,[(1,n)]⟩
def add (a b:I):I:=⟨a.c+b.c,wi a.fu b.fu⟩
def smul (m:Int) (a:I):I:=cond (m==0) ⟨0,[]⟩ ⟨m*a.c,sC m a.fu⟩
def sub (a b:I):I:=a.add (b.smul (-1))
def cT (a:I):Option Int:=match a.fu with|[]=>some a.c|_=>none
def aV (n:Nat) (a:I):Prop:=m1 n a.fu
def wv:List (Int×Nat)->List (Int×Nat)->Bool
 |[],[]=>true
 |(k,i)::r,(aM,Ae)::r'=>k==aM&&Nat.beq i Ae&&wv r r'
 |_,_=>false
def beq (a b:I):Bool:=a.c==b.c&&wv a.fu b.fu
theorem LS:∀{a b},wv a b=true->a=b
 |[],[],_=>rfl
 |(k,i)::r,(aM,Ae)::r',h=>by
  simp only[wv,Bool.and_eq_true,beq_iff_eq]at h
  obtain⟨⟨h1,h2⟩,h3⟩:=h
  rw[h1,Nat.eq_of_beq_eq_true h2,LS h3]
 |[],_::_,h=>by simp[wv]at h
 |_::_,[],h=>by simp[wv]at h
theorem beq_eq {a b:I} (h:beq a b=true):a=b:=by
 simp only[beq,Bool.and_eq_true,beq_iff_eq]at h
 cases a;cases b
 simp only at h
 rw[h.1,LS h.2]
theorem aH (ρ:Env) (c:Int):(const c).den ρ=c:=by simp[const,den,fA]
theorem bV (ρ:Env) (n:Nat):(var n).den ρ=ρ n:=by simp[var,den,fA]
theorem den_add (ρ:Env) (a b:I):(a.add b).den ρ=a.den ρ+b.den ρ:=by simp only[add,den,Mm];omega
theorem jh (ρ:Env) (m:Int) (a:I):(a.smul m).den ρ=m*a.den ρ:=by
 unfold smul
 cases h:(m==0)with
 |true=>have h:m=0:=by simpa using h
        subst h;simp[den,fA]
 |false=>simp only[cond_false,den,Mp,Int.mul_add]
theorem j3 (ρ:Env) (a b:I):(a.sub b).den ρ=a.den ρ-b.den ρ:=by simp only[sub,den_add,jh];omega
theorem fU {ρ:Env} {a:I} {c:Int} (h:a.cT=some c):a.den ρ=c:=by
 unfold cT at h
 cases ha:a.fu with
 |nil=>simp[ha]at h;simp[den,ha,fA,h]
 |cons x r=>simp[ha]at h
theorem ch (n:Nat) (c:Int):(const c).aV n:=λt ht=>by simp[const]at ht
theorem dN {n i:Nat} (h:i<n):(var i).aV n:=λt ht=>by simp[var]at ht;subst ht;exact h
theorem p4 {n:Nat} {a b:I} (ha:a.aV n) (hb:b.aV n):(a.add b).aV n:=Qg ha hb
theorem rj {n:Nat} {m:Int} {a:I} (ha:a.aV n):(a.smul m).aV n:=by
 unfold smul
 cases(m==0)with
 |true=>exactλt ht=>by simp at ht
 |false=>exact Qi ha
theorem sB {n:Nat} {a b:I} (ha:a.aV n) (hb:b.aV n):(a.sub b).aV n:=p4 ha (rj hb)
theorem aV.mono {n n':Nat} {a:I} (h:a.aV n) (hn:n<=n'):a.aV n':=m1.mono h hn
theorem bj {n:Nat} {ρ ae:Env} (h:agree n ρ ae) {a:I} (ha:a.aV n):a.den ae=a.den ρ:=by simp only[den,Mn h ha]
end I
structure a6 where
 l:I
 lo:Int
 hi:Int
def a6.ok (n:Nat) (ρ:Env) (x:a6):Prop:=x.l.aV n/\x.lo<=x.l.den ρ/\x.l.den ρ<=x.hi
theorem a6.ok.agree {n n':Nat} {ρ ae:Env} {x:a6} (h:x.ok n ρ) (ha:agree n ρ ae) (hn:n<=n'):x.ok n' ae:=
 ⟨h.1.mono hn,by rw[I.bj ha h.1];exact h.2.1,by rw[I.bj ha h.1];exact h.2.2⟩
def a6.const (c:Int):a6:=⟨.const c,c,c⟩
theorem a6.j1 (n:Nat) (ρ:Env) (c:Int):(a6.const c).ok n ρ:=⟨I.ch n c,by simp[a6.const,I.aH],by simp[a6.const,I.aH]⟩
inductive aR where
 |lit (b:Bool)
 |eq (a b:I)
 |lt (a b:I)
 |le (a b:I)
 |not (a:aR)
 |and (a b:aR)
 |iff (a b:aR)
namespace aR
def den (ρ:Env):aR->Bool
 |lit b=>b
 |eq a b=>decide (a.den ρ=b.den ρ)
 |lt a b=>decide (a.den ρ<b.den ρ)
 |le a b=>decide (a.den ρ<=b.den ρ)
 |not a=> !a.den ρ
 |and a b=>a.den ρ&&b.den ρ
 |iff a b=>a.den ρ==b.den ρ
def aV (n:Nat):aR->Prop
 |lit _=>True
 |eq a b|lt a b|le a b=>a.aV n/\b.aV n
 |not a=>a.aV n
 |and a b=>a.aV n/\b.aV n
 |iff a b=>a.aV n/\b.aV n
theorem aV.mono {n n':Nat} (hn:n<=n'):∀{b:aR},b.aV n->b.aV n'
 |lit _,_=>trivial
 |eq _ _,h|lt _ _,h|le _ _,h=>⟨h.1.mono hn,h.2.mono hn⟩
 |not a,h=>aV.mono (b:=a) hn h
 |and a b,h=>⟨aV.mono (b:=a) hn h.1,aV.mono (b:=b) hn h.2⟩
 |iff a b,h=>⟨aV.mono (b:=a) hn h.1,aV.mono (b:=b) hn h.2⟩
theorem bj {n:Nat} {ρ ae:Env} (ha:agree n ρ ae):∀{b:aR},b.aV n->b.den ae=b.den ρ
 |lit _,_=>rfl
 |eq _ _,h|lt _ _,h|le _ _,h=>by simp only[den,I.bj ha h.1,I.bj ha h.2]
 |not a,h=>by simp only[den,bj (b:=a) ha h]
 |and a b,h=>by simp only[den,bj (b:=a) ha h.1,bj (b:=b) ha h.2]
 |iff a b,h=>by simp only[den,bj (b:=a) ha h.1,bj (b:=b) ha h.2]
def beq:aR->aR->Bool
 |lit a,lit b=>a==b
 |eq a b,eq c d|lt a b,lt c d|le a b,le c d=>I.beq a c&&I.beq b d
 |not a,not b=>beq a b
 |and a b,and c d|iff a b,iff c d=>beq a c&&beq b d
 |_,_=>false
theorem beq_eq:∀{a b:aR},beq a b=true->a=b
 |lit a,b,h=>by cases b<;>simp[beq]at h;rw[h]
 |eq a b,c,h=>by cases c<;>simp[beq]at h;rw[I.beq_eq h.1,I.beq_eq h.2]
 |lt a b,c,h=>by cases c<;>simp[beq]at h;rw[I.beq_eq h.1,I.beq_eq h.2]
 |le a b,c,h=>by cases c<;>simp[beq]at h;rw[I.beq_eq h.1,I.beq_eq h.2]
 |not a,c,h=>by cases c<;>simp[beq]at h;rw[beq_eq h]
 |and a b,c,h=>by cases c<;>simp[beq]at h;rw[beq_eq h.1,beq_eq h.2]
 |iff a b,c,h=>by cases c<;>simp[beq]at h;rw[beq_eq h.1,beq_eq h.2]
def mkNot:aR->aR
 |lit b=>lit (!b)
 |not a=>a
 |a=>not a
def mkAnd:aR->aR->aR
 |lit true,b=>b
 |lit false,_=>lit false
 |a,lit true=>a
 |a,lit false=>cond true (lit false) a
 |a,b=>and a b
def mkIff (a b:aR):aR:=
 match a with
 |lit true=>b
 |lit false=>mkNot b
 |_=>match b with
  |lit true=>a
  |lit false=>mkNot a
  |_=>cond (beq a b) (lit true) (iff a b)
theorem pj (ρ:Env) (a:aR):(mkNot a).den ρ= !a.den ρ:=by cases a<;>simp[mkNot,den]
theorem p5 {n:Nat} {a:aR} (h:a.aV n):(mkNot a).aV n:=by cases a<;>exact h
theorem BM (ρ:Env) (a b:aR):(mkAnd a b).den ρ=(a.den ρ&&b.den ρ):=by
 unfold mkAnd;split<;>simp[den]
theorem Dq {n:Nat} {a b:aR} (ha:a.aV n) (hb:b.aV n):(mkAnd a b).aV n:=by
 unfold mkAnd;split<;>first|exact hb|exact ha|trivial|exact⟨ha,hb⟩
theorem EL (ρ:Env) (a b:aR):(mkIff a b).den ρ=(a.den ρ==b.den ρ):=by
 unfold mkIff
 split
 ·simp[den]
 ·rw[pj];simp[den]
 ·split
  ·simp[den]
  ·rw[pj];simp[den]
  ·cases h:beq a b with
   |true=>have:=beq_eq h;subst this;simp[den]
   |false=>rfl
theorem Io {n:Nat} {a b:aR} (ha:a.aV n) (hb:b.aV n):(mkIff a b).aV n:=by
 unfold mkIff
 split
 ·exact hb
 ·exact p5 hb
 ·split
  ·exact ha
  ·exact p5 ha
  ·cases beq a b with
   |true=>trivial
   |false=>exact⟨ha,hb⟩
def wQ (d:I) (f:Int->Bool) (e:aR):aR:=match d.cT with|some c=>lit (f c)|none=>e
def mkLt (a b:a6):aR:=cond (decide (a.hi<b.lo)) (lit true) (cond (decide (b.hi<=a.lo)) (lit false) (wQ (a.l.sub b.l) (λc=>decide (c<0)) (lt a.l b.l)))
def mkLe (a b:a6):aR:=cond (decide (a.hi<=b.lo)) (lit true) (cond (decide (b.hi<a.lo)) (lit false) (wQ (a.l.sub b.l) (λc=>decide (c<=0)) (le a.l b.l)))
def mkEq (a b:a6):aR:=cond (decide (a.hi<b.lo)) (lit false) (cond (decide (b.hi<a.lo)) (lit false) (cond (a.lo==a.hi&&b.lo==b.hi&&a.lo==b.lo) (lit true) (cond (I.beq a.l b.l) (lit true) (wQ (a.l.sub b.l) (λc=>decide (c=0)) (eq a.l b.l)))))
theorem EK {n:Nat} {ρ:Env} {d:I} {f:Int->Bool} {e:aR} (h:e.den ρ=f (d.den ρ)) (hs:e.aV n):(wQ d f e).den ρ=e.den ρ/\(wQ d f e).aV n:=by
 unfold wQ
 split
 ·rename_i c hc
  exact⟨by rw[h,I.fU hc];rfl,trivial⟩
 ·exact⟨rfl,hs⟩
theorem BN {n:Nat} {ρ:Env} {a b:a6} (ha:a.ok n ρ) (hb:b.ok n ρ):(mkLt a b).den ρ=decide (a.l.den ρ<b.l.den ρ)/\(mkLt a b).aV n:=by
 have h1:=ha.2;have h2:=hb.2
 unfold mkLt
 by_cases c1:a.hi<b.lo
 ·simp only[decide_eq_true c1,cond_true,den,aV,and_true];symm;simp;omega
 ·by_cases bb:b.hi<=a.lo
  ·simp only[decide_eq_false c1,decide_eq_true bb,cond_true,cond_false,den,aV,and_true];symm;simp;omega
  ·simp only[decide_eq_false c1,decide_eq_false bb,cond_false]
   have:=EK (n:=n) (ρ:=ρ) (d:=a.l.sub b.l) (f:=λc=>decide (c<0)) (e:=lt a.l b.l) (by simp only[den,I.j3];congr 1;simp;omega) ⟨ha.1,hb.1⟩
   exact⟨this.1,this.2⟩
theorem Mr {n:Nat} {ρ:Env} {a b:a6} (ha:a.ok n ρ) (hb:b.ok n ρ):(mkLe a b).den ρ=decide (a.l.den ρ<=b.l.den ρ)/\(mkLe a b).aV n:=by
 have h1:=ha.2;have h2:=hb.2
 unfold mkLe
 by_cases c1:a.hi<=b.lo
 ·simp only[decide_eq_true c1,cond_true,den,aV,and_true];symm;simp;omega
 ·by_cases bb:b.hi<a.lo
  ·simp only[decide_eq_false c1,decide_eq_true bb,cond_true,cond_false,den,aV,and_true];symm;simp;omega
  ·simp only[decide_eq_false c1,decide_eq_false bb,cond_false]
   have:=EK (n:=n) (ρ:=ρ) (d:=a.l.sub b.l) (f:=λc=>decide (c<=0)) (e:=le a.l b.l) (by simp only[den,I.j3];congr 1;simp;omega) ⟨ha.1,hb.1⟩
   exact⟨this.1,this.2⟩
theorem nT {n:Nat} {ρ:Env} {a b:a6} (ha:a.ok n ρ) (hb:b.ok n ρ):(mkEq a b).den ρ=decide (a.l.den ρ=b.l.den ρ)/\(mkEq a b).aV n:=by
 have h1:=ha.2;have h2:=hb.2
 unfold mkEq
 by_cases c1:a.hi<b.lo
 ·simp only[decide_eq_true c1,cond_true,den,aV,and_true];symm;simp;omega
 ·by_cases bb:b.hi<a.lo
  ·simp only[decide_eq_false c1,decide_eq_true bb,cond_true,cond_false,den,aV,and_true];symm;simp;omega
  ·cases bJ:(a.lo==a.hi&&b.lo==b.hi&&a.lo==b.lo)with
   |true=>
    simp only[Bool.and_eq_true,beq_iff_eq]at bJ
    simp only[decide_eq_false c1,decide_eq_false bb,cond_false,cond_true,den,aV,and_true];symm;simp;omega
   |false=>
    cases cg:I.beq a.l b.l with
    |true=>simp only[decide_eq_false c1,decide_eq_false bb,cond_false,cond_true,den,aV,and_true,I.beq_eq cg];simp
    |false=>
     simp only[decide_eq_false c1,decide_eq_false bb,cond_false]
     have:=EK (n:=n) (ρ:=ρ) (d:=a.l.sub b.l) (f:=λc=>decide (c=0)) (e:=eq a.l b.l) (by simp only[den,I.j3];congr 1;simp;omega) ⟨ha.1,hb.1⟩
     exact⟨this.1,this.2⟩
end aR
end Go.bx
namespace Go.bx
inductive A where
 |int (k:IntKind) (x:a6)
 |bool (b:aR)
 |ptr (b off:Nat)
 |kj (b off:Nat) (aJ:a6)
 |gptr (g off:Nat)
 |wT (g off:Nat) (aJ:a6)
 |slc (b off len cap:Nat)
 |con (v:Value)
 |str (l:I)
 |rows (sh:List az) (off code cap:I) (kind:Nat)
 |sl (b aN:Nat) (o ro len cap:I)
 |ep (b aN:Nat) (o i:I) (j:Nat)
inductive W where
 |one (a:A)
 |agg (l:List A)
inductive V where
 |w (x:W)
 |eF (l:List W)
 |any
 |k7 (b len lo:Nat)
 |ll (f:Nat) (gp:List A)
def av (op:BinOp) (k:IntKind) (x y:Int):Int:=
 match op with
 | .and=>k.wrap (BitVec.ofInt k.bits x&&&BitVec.ofInt k.bits y).toNat
 | .or=>k.wrap (BitVec.ofInt k.bits x|||BitVec.ofInt k.bits y).toNat
 | .xor=>k.wrap (BitVec.ofInt k.bits x^^^BitVec.ofInt k.bits y).toNat
 | .andNot=>k.wrap (BitVec.ofInt k.bits x&&&~~~(BitVec.ofInt k.bits y)).toNat
 |_=>0
inductive T where
 |stuck
 |leaf (v:V)
 |div (n:Nat) (x:I) (d lo hi:Int) (r:T)
 |mul (n:Nat) (x y:I) (lo hi:Int) (r:T)
 |bit (n:Nat) (op:BinOp) (k:IntKind) (x y:I) (r:T)
 |shr (n:Nat) (x y:I) (lo hi:Int) (r:T)
 |AH (n:Nat) (cs:List I) (aJ:I) (lo hi:Int) (r:T)
 |qy (b:aR) (t e:T)
 |call (id:Nat) (args:List I) (n:Nat) (bds:List (Int×Int)) (r:T)
 |loop (gV:Nat) (init:List I) (n:Nat) (bds:List (Int×Int)) (r:T)
 |again (gV:Nat) (vals:List I)
 |both (a b:T)
 |fn (n:Nat) (op:Nat) (args:List I) (lo hi:Int) (r:T)
 |nS (op:Nat) (args:List I) (r:T)
 |rp (n:Nat) (lo hi:Int) (r:T)
 |nat (n:Nat) (r:T)
 |qv (op:Nat) (args:List I) (r:T)
 |ind (n:Nat) (b:aR) (r:T)
def mE:List (Int×Int)->(List Int->Prop)->Prop
 |[],P=>P []
 |(l,h)::b,P=>∀r:Int,l<=r->r<=h->mE b (λrs=>P (r::rs))
def bd:List (Int×Int)->List Int->Prop
 |[],[]=>True
 |(l,h)::b,r::rs=>l<=r/\r<=h/\bd b rs
 |_,_=>False
theorem jX:∀{b:List (Int×Int)} {P:List Int->Prop} {rs:List Int},mE b P->bd b rs->P rs
 |[],_,[],h,_=>h
 |(l,u)::b,P,r::rs,h,hi=>jX (b:=b) (P:=λrs=>P (r::rs)) (h r hi.1 hi.2.1) hi.2.2
 |[],_,_::_,_,hi=>hi.elim
 |(_,_)::_,_,[],_,hi=>hi.elim
abbrev c5:=Nat->List Int->Prop
def c5.set (A:c5) (gV:Nat) (p:List Int->Prop):c5:=λi=>cond (Nat.beq i gV) p (A i)
def T.holds (S:Nat->List Int->List Int->Prop) (L:V->Env->Prop):T->c5->Env->Prop
 |stuck,_,_=>False
 |leaf v,_,ρ=>L v ρ
 |div n x d lo hi r,A,ρ=>∀q:Int,lo<=q->q<=hi->0<=x.den ρ-d*q->x.den ρ-d*q<d->r.holds S L A (cF ρ n q)
 |mul n x y lo hi r,A,ρ=>∀p:Int,lo<=p->p<=hi->p=x.den ρ*y.den ρ->r.holds S L A (cF ρ n p)
 |bit n op k x y r,A,ρ=>∀z:Int,0<=z->z<=k.max->z=av op k (x.den ρ) (y.den ρ)->r.holds S L A (cF ρ n z)
 |shr n x y lo hi r,A,ρ=>∀z:Int,lo<=z->z<=hi->z=x.den ρ/2^(y.den ρ).toNat->r.holds S L A (cF ρ n z)
 |AH n cs aJ lo hi r,A,ρ=>∀z:Int,lo<=z->z<=hi->z=(cs.map (·.den ρ)).getD (aJ.den ρ).toNat 0->r.holds S L A (cF ρ n z)
 |qy b t e,A,ρ=>(b.den ρ=true->t.holds S L A ρ)/\(b.den ρ=false->e.holds S L A ρ)
 |call id args n bds r,A,ρ=>mE bds λrs=>S id (args.map (·.den ρ)) rs->r.holds S L A (bn ρ n rs)
 |loop gV init n bds r,A,ρ=>∃(cz:List Int->Prop) (dh:List Int->Nat),cz (init.map (·.den ρ))/\
  mE bds λzs=>cz zs->r.holds S L (A.set gV λvs=>cz vs/\dh vs<dh zs) (bn ρ n zs)
 |again gV vals,A,ρ=>A gV (vals.map (·.den ρ))
 |both a b,A,ρ=>a.holds S L A ρ/\b.holds S L A ρ
 |fn n op args lo hi r,A,ρ=>∀z:Int,lo<=z->z<=hi->z=aa op (args.map (·.den ρ))->r.holds S L A (cF ρ n z)
 |nS op args r,A,ρ=>U op (args.map (·.den ρ))/\r.holds S L A ρ
 |rp n lo hi r,A,ρ=>∀z:Int,lo<=z->z<=hi->r.holds S L A (cF ρ n z)
 |nat n r,A,ρ=>∀z:Int,0<=z->r.holds S L A (cF ρ n z)
 |qv op args r,A,ρ=>U op (args.map (·.den ρ))->r.holds S L A ρ
 |ind n b r,A,ρ=>∀z:Int,0<=z->z<=1->b.den ρ=decide (z=1)->r.holds S L A (cF ρ n z)
abbrev M (α:Type):=Nat->(α->Nat->T)->T
namespace M
variable {α β:Type}
def pure (a:α):M α:=λn k=>k a n
def bind (x:M α) (f:α->M β):M β:=λn k=>x n λa n'=>f a n' k
def fail:M α:=λ_ _=> .stuck
def ak (S:Nat->List Int->List Int->Prop) (L:V->Env->Prop) (x:M α) (n:Nat) (ρ:Env) (R:Env->Nat->α->Prop):Prop:=
 ∀A k,(x n k).holds S L A ρ->∃ae n' a,n<=n'/\agree n ρ ae/\R ae n' a/\(k a n').holds S L A ae
variable {S:Nat->List Int->List Int->Prop} {L:V->Env->Prop} {n:Nat} {ρ:Env}
theorem ak.pure {a:α} {R:Env->Nat->α->Prop} (h:R ρ n a):ak S L (M.pure a) n ρ R:=
 λ_ _ hk=>⟨ρ,n,a,Nat.le_refl _,agree.refl _ _,h,hk⟩
theorem ak.fail {R:Env->Nat->α->Prop}:ak S L (M.fail:M α) n ρ R:=λ_ _ hk=>hk.elim
theorem ak.bind {x:M α} {f:α->M β} {R:Env->Nat->α->Prop} {R':Env->Nat->β->Prop} (hx:ak S L x n ρ R)
 (hf:∀ae n' a,n<=n'->agree n ρ ae->R ae n' a->ak S L (f a) n' ae R'):ak S L (M.bind x f) n ρ R':=by
 intro A k hk
 obtain⟨ae,n',a,hn,ha,hR,ig⟩:=hx A _ hk
 obtain⟨oi,x1,b,pC,ib,ns,Wf⟩:=hf ae n' a hn ha hR A k ig
 exact⟨oi,x1,b,Nat.le_trans hn pC,ha.trans ib hn,ns,Wf⟩
theorem ak.mono {x:M α} {R R':Env->Nat->α->Prop} (hx:ak S L x n ρ R) (h:∀ae n' a,n<=n'->agree n ρ ae->R ae n' a->R' ae n' a):ak S L x n ρ R':=by
 intro A k hk
 obtain⟨ae,n',a,hn,ha,hR,ig⟩:=hx A k hk
 exact⟨ae,n',a,hn,ha,h _ _ _ hn ha hR,ig⟩
end M
open M
section
variable {S:Nat->List Int->List Int->Prop} {L:V->Env->Prop} {n:Nat} {ρ:Env}
def s6:List I->Option (List Int)
 |[]=>some []
 |l::r=>match l.cT,s6 r with|some c,some s=>some (c::s)|_,_=>none
theorem D5 {ρ:Env}:∀{l:List I} {cs:List Int},s6 l=some cs->l.map (·.den ρ)=cs
 |[],cs,h=>by simp[s6]at h;subst h;rfl
 |l::r,cs,h=>by
  simp only[s6]at h
  cases h1:l.cT with
  |none=>simp[h1]at h
  |some c=>
   cases h2:s6 r with
   |none=>simp[h1,h2]at h
   |some s=>
    simp only[h1,h2,Option.some.injEq]at h
    subst h
    simp only[List.map_cons,I.fU h1,D5 h2]
def dz (op:Nat) (args:List I) (lo hi:Int):M I:=λn k=>match Nat.ble op 5,s6 args with
 |true,some cs=>k (.const (aa op cs)) n
 |_,_=> .fn n op args lo hi (k (.var n) (n+1))
def BI:Nat->List Int->Bool
 |1,[s,i]=>decide (0<=i)&&decide (i<(aI s).length)
 |2,[s,a,b]=>decide (0<=a)&&decide (a<=b)&&decide (b<=(aI s).length)
 |3,[s,t]=>Nat.ble ((aI s).length+(aI t).length) 1000000
 |30,[i,n]=>decide (0<=i)&&decide (i<n)
 |32,[a,b,n]=>decide (0<=a)&&decide (a<=b)&&decide (b<=n)
 |39,[x,l,h]=>decide (l<=x)&&decide (x<=h)
 |_,_=>false
theorem SS {op:Nat} {cs:List Int} (h:BI op cs=true):U op cs:=by
 unfold BI at h
 split at h
 ·simp only[Bool.and_eq_true,decide_eq_true_eq]at h;exact h
 ·simp only[Bool.and_eq_true,decide_eq_true_eq]at h;exact⟨h.1.1,h.1.2,h.2⟩
 ·have h:=Nat.le_of_ble_eq_true h
  show _<=iE
  unfold iE;omega
 ·simp only[Bool.and_eq_true,decide_eq_true_eq]at h;exact h
 ·simp only[Bool.and_eq_true,decide_eq_true_eq]at h;exact⟨h.1.1,h.1.2,h.2⟩
 ·simp only[Bool.and_eq_true,decide_eq_true_eq]at h;exact h
 ·cases h
def dY (op:Nat) (args:List I):M Unit:=λn k=>match s6 args with
 |some cs=>cond (BI op cs) (k () n) (.nS op args (k () n))
 |none=> .nS op args (k () n)
theorem en {op:Nat} {args:List I} {lo hi:Int} (h1:lo<=aa op (args.map (·.den ρ))) (h2:aa op (args.map (·.den ρ))<=hi):
 ak S L (dz op args lo hi) n ρ λae n' l=>l.aV n'/\l.den ae=aa op (args.map (·.den ρ)):=by
 intro A k hk
 unfold dz at hk
 split at hk
 ·rename_i cs _ cx
  exact⟨_,n,_,Nat.le_refl _,agree.refl _ _,⟨I.ch _ _,by rw[I.aH,D5 cx]⟩,hk⟩
 ·exact⟨_,n+1,_,Nat.le_succ _,agree.cF _ _ _,⟨I.dN (Nat.lt_succ_self n),by simp[I.bV,hh]⟩,hk _ h1 h2 rfl⟩
theorem eQ {op:Nat} {args:List I} {α:Type} {x:M α} {R:Env->Nat->α->Prop} (h:U op (args.map (·.den ρ))->ak S L x n ρ R):ak S L (bind (dY op args) λ_=>x) n ρ R:=by
 intro A k hk
 unfold M.bind dY at hk
 split at hk
 ·rename_i cs cx
  cases hb:BI op cs with
  |true=>
   rw[hb]at hk
   exact h (by rw[D5 cx];exact SS hb) A k hk
  |false=>
   rw[hb]at hk
   exact h hk.1 A k hk.2
 ·exact h hk.1 A k hk.2
def pn (x:a6) (d:Int):M a6:=λn k=>
 cond (d==1) (k x n) <| cond (x.lo/d==x.hi/d) (k (.const (x.lo/d)) n) (.div n x.l d (x.lo/d) (x.hi/d) (k ⟨.var n,x.lo/d,x.hi/d⟩ (n+1)))
theorem yV {x:a6} {d:Int} (hd:0<d) (hx:x.ok n ρ):ak S L (pn x d) n ρ λae n' q=>q.ok n' ae/\q.l.den ae=x.l.den ρ/d/\(q.lo=x.lo/d/\q.hi=x.hi/d):=by
 intro A k hk
 have h1:=Int.ediv_le_ediv hd hx.2.1
 have h2:=Int.ediv_le_ediv hd hx.2.2
 unfold pn at hk
 cases Fs:(d==1)with
 |true=>
  have e:d=1:=by simpa using Fs
  subst e
  simp only[Fs,cond_true]at hk
  exact⟨ρ,n,x,Nat.le_refl _,agree.refl _ _,⟨hx,by simp,by simp,by simp⟩,hk⟩
 |false=>
 simp only[Fs,cond_false]at hk
 cases hc:(x.lo/d==x.hi/d)with
 |true=>
  simp only[hc,cond_true]at hk
  have hc:x.lo/d=x.hi/d:=by simpa using hc
  exact⟨ρ,n,_,Nat.le_refl _,agree.refl _ _,⟨a6.j1 _ _ _,by simp only[a6.const,I.aH];omega,rfl,hc⟩,hk⟩
 |false=>
  simp only[hc,cond_false,T.holds]at hk
  have hm:=Int.emod_nonneg (x.l.den ρ) (show d≠0 by omega)
  have qR:=Int.emod_lt_of_pos (x.l.den ρ) hd
  have he:=Int.mul_ediv_add_emod (x.l.den ρ) d
  refine⟨_,n+1,_,Nat.le_succ _,agree.cF _ _ _,⟨⟨I.dN (Nat.lt_succ_self n),?_,?_⟩,?_,rfl,rfl⟩,hk (x.l.den ρ/d) h1 h2 (by omega) (by omega)⟩<;>
   simp only[I.bV,hh]<;>omega
def Hu (x:a6) (d:Int):M a6:=
 bind (pn x d) λq=>pure ⟨x.l.sub (q.l.smul d),cond (q.lo==q.hi) (x.lo-d*q.lo) 0,cond (q.lo==q.hi) (x.hi-d*q.lo) (d-1)⟩
theorem Pp {x:a6} {d:Int} (hd:0<d) (hx:x.ok n ρ):ak S L (Hu x d) n ρ λae n' q=>q.ok n' ae/\q.l.den ae=x.l.den ρ% d:=by
 refine(yV hd hx).bind λae n' q hn ha ⟨hq,he,oJ,ahJ⟩=>ak.pure ?_
 have iT:=hx.agree ha hn
 have hm:=Int.emod_nonneg (x.l.den ρ) (show d≠0 by omega)
 have qR:=Int.emod_lt_of_pos (x.l.den ρ) hd
 have ahI:=Int.mul_ediv_add_emod (x.l.den ρ) d
 have oB:(x.l.sub (q.l.smul d)).den ae=x.l.den ρ% d:=by
  rw[I.j3,I.jh,I.bj ha hx.1,he];omega
 refine⟨⟨I.sB iT.1 (I.rj hq.1),?_,?_⟩,oB⟩
 ·cases hc:(q.lo==q.hi)with
  |true=>
   have hc:q.lo=q.hi:=by simpa using hc
   have:q.l.den ae=q.lo:=by have:=hq.2;omega
   simp only[cond_true,I.j3,I.jh,this];have:=iT.2.1;omega
  |false=>simp only[cond_false,oB];omega
 ·cases hc:(q.lo==q.hi)with
  |true=>
   have hc:q.lo=q.hi:=by simpa using hc
   have:q.l.den ae=q.lo:=by have:=hq.2;omega
   simp only[cond_true,I.j3,I.jh,this];have:=iT.2.2;omega
  |false=>simp only[cond_false,oB];omega
def two (k:IntKind):Int:=match k with| .i8| .u8=>256| .i16| .u16=>65536| .i32| .u32=>4294967296| .i64| .u64=>18446744073709551616
theorem oe (k:IntKind):two k=(2:Int)^k.bits:=by cases k<;>rfl
def half (k:IntKind):Int:=cond k.signed (two k/2) 0
theorem DD (k:IntKind) (x:Int):k.wrap x=(x+half k)% two k-half k:=by
 cases k<;>simp only[IntKind.wrap,IntKind.signed,IntKind.bits,half,two,cond_true,cond_false,Bool.true_and,Bool.false_and]<;>
  simp<;>(try split)<;>omega
def qc (k:IntKind) (x:a6):M a6:=
 cond (decide (-half k<=x.lo)&&decide (x.hi<two k-half k)) (pure x)
  (bind (Hu ⟨x.l.add (.const (half k)),x.lo+half k,x.hi+half k⟩ (two k)) λr=>pure ⟨r.l.add (.const (-half k)),r.lo-half k,r.hi-half k⟩)
theorem sI {k:IntKind} {x:a6} (hx:x.ok n ρ):ak S L (qc k x) n ρ λae n' q=>q.ok n' ae/\q.l.den ae=k.wrap (x.l.den ρ):=by
 have ht:0<two k:=by cases k<;>decide
 unfold qc
 cases hc:(decide (-half k<=x.lo)&&decide (x.hi<two k-half k))with
 |true=>
  simp only[Bool.and_eq_true,decide_eq_true_eq]at hc
  refine ak.pure ⟨hx,?_⟩
  have h1:=hx.2
  rw[DD,Int.emod_eq_of_lt (by omega) (by omega)];omega
 |false=>
  refine(Pp (x:=⟨x.l.add (.const (half k)),x.lo+half k,x.hi+half k⟩) ht ⟨I.p4 hx.1 (I.ch _ _),?_,?_⟩).bind λae n' r hn ha ⟨hr,he⟩=>ak.pure ?_
  ·rw[I.den_add,I.aH];have:=hx.2.1;simp only;omega
  ·rw[I.den_add,I.aH];have:=hx.2.2;simp only;omega
  ·have e:(r.l.add (.const (-half k))).den ae=k.wrap (x.l.den ρ):=by
    rw[I.den_add,I.aH,he,I.den_add,I.aH,DD];omega
   refine⟨⟨I.p4 hr.1 (I.ch _ _),?_,?_⟩,e⟩<;>simp only[I.den_add,I.aH]<;>have:=hr.2<;>omega
def mulM (x y:a6):M a6:=λn k=>
 match x.l.cT,y.l.cT with
 |some c,_=>cond (decide (0<=c)) (k ⟨y.l.smul c,c*y.lo,c*y.hi⟩ n) .stuck
 |none,some c=>cond (decide (0<=c)) (k ⟨x.l.smul c,c*x.lo,c*x.hi⟩ n) .stuck
 |none,none=>cond (decide (0<=x.lo)&&decide (0<=y.lo)) (.mul n x.l y.l (x.lo*y.lo) (x.hi*y.hi) (k ⟨.var n,x.lo*y.lo,x.hi*y.hi⟩ (n+1))) .stuck
theorem Pq {x y:a6} (hx:x.ok n ρ) (hy:y.ok n ρ):ak S L (mulM x y) n ρ λae n' q=>q.ok n' ae/\q.l.den ae=x.l.den ρ*y.l.den ρ:=by
 intro A k hk
 unfold mulM at hk
 cases h1:x.l.cT with
 |some c=>
  simp only[h1]at hk
  by_cases hc:0<=c
  ·simp only[decide_eq_true hc,cond_true]at hk
   refine⟨ρ,n,_,Nat.le_refl _,agree.refl _ _,⟨⟨I.rj hy.1,?_,?_⟩,?_⟩,hk⟩
   ·simp only[I.jh];exact Int.mul_le_mul_of_nonneg_left hy.2.1 hc
   ·simp only[I.jh];exact Int.mul_le_mul_of_nonneg_left hy.2.2 hc
   ·simp only[I.jh,I.fU h1]
  ·simp only[decide_eq_false hc,cond_false,T.holds]at hk
 |none=>
  cases h2:y.l.cT with
  |some c=>
   simp only[h1,h2]at hk
   by_cases hc:0<=c
   ·simp only[decide_eq_true hc,cond_true]at hk
    refine⟨ρ,n,_,Nat.le_refl _,agree.refl _ _,⟨⟨I.rj hx.1,?_,?_⟩,?_⟩,hk⟩
    ·simp only[I.jh];exact Int.mul_le_mul_of_nonneg_left hx.2.1 hc
    ·simp only[I.jh];exact Int.mul_le_mul_of_nonneg_left hx.2.2 hc
    ·simp only[I.jh,I.fU h2];exact Int.mul_comm _ _
   ·simp only[decide_eq_false hc,cond_false,T.holds]at hk
  |none=>
   simp only[h1,h2]at hk
   cases hc:(decide (0<=x.lo)&&decide (0<=y.lo))with
   |false=>simp only[hc,cond_false,T.holds]at hk
   |true=>
    simp only[hc,cond_true,T.holds]at hk
    simp only[Bool.and_eq_true,decide_eq_true_eq]at hc
    have bh:x.lo*y.lo<=x.l.den ρ*y.l.den ρ:=Int.mul_le_mul hx.2.1 hy.2.1 hc.2 (by have:=hx.2.1;omega)
    have a2:x.l.den ρ*y.l.den ρ<=x.hi*y.hi:=Int.mul_le_mul hx.2.2 hy.2.2 (by have:=hy.2.1;omega) (by have:=hx.2;omega)
    refine⟨_,n+1,_,Nat.le_succ _,agree.cF _ _ _,⟨⟨I.dN (Nat.lt_succ_self n),?_,?_⟩,?_⟩,hk _ bh a2 rfl⟩<;>simp only[I.bV,hh]<;>assumption
def wy (op:BinOp) (k:IntKind) (x y:a6):M a6:=λn c=>
 cond k.signed .stuck (.bit n op k x.l y.l (c ⟨.var n,0,k.max⟩ (n+1)))
theorem af3 {k:IntKind} (hk:k.signed=false) (x:Int):0<=k.wrap x/\k.wrap x<=k.max:=by
 cases k<;>simp[IntKind.signed]at hk<;>simp[IntKind.wrap,IntKind.signed,IntKind.bits,IntKind.max]<;>omega
theorem Sj {k:IntKind} (hk:k.signed=false) (op:BinOp) (x y:Int):0<=av op k x y/\av op k x y<=k.max:=by
 unfold av
 split
 iterate 4 exact af3 hk _
 cases k<;>simp[IntKind.signed]at hk<;>simp[IntKind.max,IntKind.signed,IntKind.bits]
theorem Bt {op:BinOp} {k:IntKind} {x y:a6}:ak S L (wy op k x y) n ρ λae n' q=>q.ok n' ae/\q.l.den ae=av op k (x.l.den ρ) (y.l.den ρ):=by
 intro A c hk
 unfold wy at hk
 cases hs:k.signed with
 |true=>simp only[hs,cond_true,T.holds]at hk
 |false=>
  simp only[hs,cond_false,T.holds]at hk
  have hb:=Sj hs op (x.l.den ρ) (y.l.den ρ)
  refine⟨_,n+1,_,Nat.le_succ _,agree.cF _ _ _,⟨⟨I.dN (Nat.lt_succ_self n),?_,?_⟩,?_⟩,hk _ hb.1 hb.2 rfl⟩<;>simp only[I.bV,hh]<;>first|exact hb.1|exact hb.2
def CV (c:Int):Option (Int×Int):=
 match c with
 | .ofNat 0=>none
 | .ofNat c=>
  let b:=2^(Nat.log2 c+1)
  let a:=b-c
  cond (Nat.beq (2^Nat.log2 a) a) (some (a,b)) none
 |_=>none
theorem bv_and {w:Nat} (x y:Int):((BitVec.ofInt w x&&&BitVec.ofInt w y).toNat:Int)=(((x% 2^w).toNat&&&(y% 2^w).toNat:Nat):Int):=by
 rw[BitVec.toNat_and,BitVec.toNat_ofInt,BitVec.toNat_ofInt]
 congr
theorem So {w:Nat} (x y:Int):((BitVec.ofInt w x|||BitVec.ofInt w y).toNat:Int)=(((x% 2^w).toNat|||(y% 2^w).toNat:Nat):Int):=by
 rw[BitVec.toNat_or,BitVec.toNat_ofInt,BitVec.toNat_ofInt]
 congr
theorem R6 (x a b:Nat) (ahE:a<=b):x&&&(2^b-2^a)=2^a*(x/2^a)-2^b*(x/2^b):=by
 have e1:2^b-2^a=2^a*(2^(b-a)-1):=by
  rw[Nat.mul_sub,<-Nat.pow_add,Nat.mul_one];congr 2;omega
 have e2:x&&&(2^b-2^a)=2^a*(x/2^a% 2^(b-a)):=by
  rw[e1]
  apply Nat.eq_of_testBit_eq
  intro i
  rw[Nat.testBit_and,Nat.mul_comm (2^a) (2^(b-a)-1),Nat.mul_comm (2^a),Nat.testBit_mul_two_pow,Nat.testBit_mul_two_pow,Nat.testBit_two_pow_sub_one,Nat.testBit_mod_two_pow,Nat.testBit_div_two_pow]
  by_cases h:a<=i
  ·simp only[h,decide_true,Bool.true_and]
   rw[show i-a+a=i by omega,Bool.and_comm]
  ·simp[h]
 rw[e2]
 have e3:x/2^b=x/2^a/2^(b-a):=by
  rw[Nat.div_div_eq_div_mul,<-Nat.pow_add];congr 2;omega
 have eC:2^b=2^a*2^(b-a):=by rw[<-Nat.pow_add];congr 1;omega
 have tj:=Nat.div_add_mod (x/2^a) (2^(b-a))
 rw[e3,eC,Nat.mul_assoc,<-Nat.mul_sub]
 congr 1
 omega
theorem YQ {c a b:Int} (h:CV c=some (a,b)):∃i j:Nat,i<=j/\a=2^i/\b=2^j/\c=b-a/\0<a/\0<b:=by
 unfold CV at h
 split at h
 ·cases h
 ·rename_i c hc
  have hc0:c≠0:=λe=>hc (by rw[e])
  cases hb:Nat.beq (2^Nat.log2 (2^(Nat.log2 c+1)-c)) (2^(Nat.log2 c+1)-c)with
  |false=>simp[hb]at h
  |true=>
   simp only[hb,cond_true,Option.some.injEq,Prod.mk.injEq]at h
   obtain⟨rfl,rfl⟩:=h
   have e:=Nat.eq_of_beq_eq_true hb
   have hlt:c<2^(Nat.log2 c+1):=Nat.lt_log2_self
   have hp:0<2^Nat.log2 (2^(Nat.log2 c+1)-c):=Nat.two_pow_pos _
   refine⟨Nat.log2 (2^(Nat.log2 c+1)-c),Nat.log2 c+1,?_,?_,?_,?_,?_,?_⟩
   ·rcases Nat.lt_or_ge (Nat.log2 c+1) (Nat.log2 (2^(Nat.log2 c+1)-c))with ah|ah
    ·have:=Nat.pow_lt_pow_right (a:=2) (by omega) ah
     omega
    ·exact ah
   ·rw[<-e];simp
   ·simp
   ·have:((2^(Nat.log2 c+1)-c:Nat):Int)=((2^(Nat.log2 c+1):Nat):Int)-(c:Int):=by omega
    simp only[Int.ofNat_eq_natCast]
    omega
   ·omega
   ·have:0<2^(Nat.log2 c+1):=Nat.two_pow_pos _
    omega
 ·cases h
def andM (x:a6) (a b:Int):M a6:=
 bind (pn x a) λp=>bind (pn x b) λq=>
  pure ⟨(p.l.smul a).sub (q.l.smul b),cond (q.lo==q.hi) (a*p.lo-b*q.lo) 0,cond (q.lo==q.hi) (a*p.hi-b*q.lo) (b-a)⟩
theorem R5 {x:a6} {i j:Nat} (zE:i<=j) (hx:x.ok n ρ) (h0:0<=x.lo):ak S L (andM x (2^i) (2^j)) n ρ λae n' q=>q.ok n' ae/\q.l.den ae=((x.l.den ρ).toNat&&&(2^j-2^i):Nat):=by
 have hi:(0:Int)<2^i:=by have:=Nat.two_pow_pos i;exact_mod_cast this
 have hj:(0:Int)<2^j:=by have:=Nat.two_pow_pos j;exact_mod_cast this
 refine(yV hi hx).bind λax aG p eD dj ⟨hp,ep,_,_⟩=>?_
 refine(yV hj (hx.agree dj eD)).bind λbg dC q dF cK ⟨hq,eq,_,_⟩=>ak.pure ?_
 rw[I.bj dj hx.1]at eq
 have zN:=hp.agree cK dF
 have Th:p.l.den bg=x.l.den ρ/2^i:=by rw[I.bj cK hp.1,ep]
 obtain⟨X,hX⟩:=Int.eq_ofNat_of_zero_le (show 0<=x.l.den ρ by have:=hx.2.1;omega)
 have e:((p.l.smul (2^i)).sub (q.l.smul (2^j))).den bg=((x.l.den ρ).toNat&&&(2^j-2^i):Nat):=by
  rw[I.j3,I.jh,I.jh,Th,eq,hX,Int.toNat_natCast,R6 X i j zE]
  have h1:2^j*(X/2^j)<=2^i*(X/2^i):=by
   have e3:X/2^j=X/2^i/2^(j-i):=by rw[Nat.div_div_eq_div_mul,<-Nat.pow_add];congr 2;omega
   have eC:2^j=2^i*2^(j-i):=by rw[<-Nat.pow_add];congr 1;omega
   rw[e3]
   conv=>lhs;rw[eC,Nat.mul_assoc]
   exact Nat.mul_le_mul_left _ (Nat.mul_div_le _ _)
  rw[Int.ofNat_sub h1]
  simp
 refine⟨⟨I.sB (I.rj zN.1) (I.rj hq.1),?_,?_⟩,e⟩
 ·cases hc:(q.lo==q.hi)with
  |true=>
   have hc:q.lo=q.hi:=by simpa using hc
   have h1:q.l.den bg=q.lo:=by have:=hq.2;omega
   simp only[cond_true,I.j3,I.jh,h1]
   have:=Int.mul_le_mul_of_nonneg_left zN.2.1 (Int.le_of_lt hi);omega
  |false=>simp only[cond_false,e];omega
 ·cases hc:(q.lo==q.hi)with
  |true=>
   have hc:q.lo=q.hi:=by simpa using hc
   have h1:q.l.den bg=q.lo:=by have:=hq.2;omega
   simp only[cond_true,I.j3,I.jh,h1]
   have:=Int.mul_le_mul_of_nonneg_left zN.2.2 (Int.le_of_lt hi);omega
  |false=>
   simp only[cond_false,e]
   have h2:(x.l.den ρ).toNat&&&(2^j-2^i)<=2^j-2^i:=Nat.and_le_right
   have h3:2^i<=2^j:=Nat.pow_le_pow_right (by omega) zE
   have h4:((2^j-2^i:Nat):Int)=2^j-2^i:=by rw[Int.ofNat_sub h3];simp
   omega
end
end Go.bx
namespace Go.bx
open M
def A.den (ρ:Env) (m:Nat->Nat):A->Value
 | .int k x=> .int k (x.l.den ρ)
 | .bool b=> .bool (b.den ρ)
 | .ptr b off=> .pointer (some ⟨m b,off,none⟩)
 | .kj b off aJ=> .pointer (some ⟨m b,off+(aJ.l.den ρ).toNat,none⟩)
 | .gptr g off=> .pointer (some ⟨g,off,none⟩)
 | .wT g off aJ=> .pointer (some ⟨g,off+(aJ.l.den ρ).toNat,none⟩)
 | .slc b off len cap=> .slice (some ⟨m b,off,none⟩) len cap
 | .con v=>v
 | .str l=> .string (cJ (aI (l.den ρ)))
 | .rows _ _ code _ _=> .int .u8 (code.den ρ)
 | .sl b aN o ro len cap=>if cap.den ρ<0 then .slice none 0 0 else .slice (some ⟨m b,(o.den ρ).toNat+(ro.den ρ).toNat*aN,none⟩) (len.den ρ).toNat (cap.den ρ).toNat
 | .ep b aN o i j=> .pointer (some ⟨m b,(o.den ρ).toNat+(i.den ρ).toNat*aN+j,none⟩)
def vr (o ro len cap:Int):Prop:=(0<=o/\0<=ro/\0<=len/\len<=9223372036854775807)/\(-1<=cap/\ro+cap<=9223372036854775807)/\(cap<0->len=0)/\(0<=cap->len<=cap)
def A.ok (n nb:Nat) (ρ:Env):A->Prop
 | .int _ x=>x.ok n ρ
 | .bool b=>b.aV n
 | .ptr b _=>b<nb
 | .kj b _ aJ=>b<nb/\aJ.ok n ρ/\0<=aJ.lo
 | .gptr .. =>True
 | .wT _ _ aJ=>aJ.ok n ρ/\0<=aJ.lo
 | .slc b .. =>b<nb
 | .con v=>v.oneCell'=true
 | .str l=>l.aV n/\0<=l.den ρ/\l.den ρ<=gn
 | .rows _ off code cap _=>(off.aV n/\code.aV n/\cap.aV n)/\(0<=code.den ρ/\code.den ρ<=aw)/\-1<=cap.den ρ/\cap.den ρ<=9223372036854775807
 | .sl b _ o ro len cap=>b<nb/\(o.aV n/\ro.aV n/\len.aV n/\cap.aV n)/\vr (o.den ρ) (ro.den ρ) (len.den ρ) (cap.den ρ)
 | .ep b _ o i _=>b<nb/\(o.aV n/\i.aV n)/\0<=o.den ρ/\0<=i.den ρ
theorem A.ok.ext {n n' nb il:Nat} {ρ ae:Env} {a:A} (h:a.ok n nb ρ) (ha:agree n ρ ae) (hn:n<=n') (hb:nb<=il):a.ok n' il ae:=by
 cases a<;>simp only[A.ok]at h⊢
 ·exact h.agree ha hn
 ·exact aR.aV.mono hn h
 ·omega
 ·exact⟨by omega,h.2.1.agree ha hn,h.2.2⟩
 ·exact⟨h.1.agree ha hn,h.2⟩
 ·omega
 ·exact h
 ·exact⟨h.1.mono hn,by rw[I.bj ha h.1];exact h.2⟩
 ·obtain⟨⟨h1,h2,h3⟩,h4⟩:=h
  exact⟨⟨h1.mono hn,h2.mono hn,h3.mono hn⟩,by rw[I.bj ha h2,I.bj ha h3];exact h4⟩
 ·obtain⟨h1,⟨h2,h3,h4,h5⟩,h6⟩:=h
  exact⟨by omega,⟨h2.mono hn,h3.mono hn,h4.mono hn,h5.mono hn⟩,by rw[I.bj ha h2,I.bj ha h3,I.bj ha h4,I.bj ha h5];exact h6⟩
 ·obtain⟨h1,⟨h2,h3⟩,h4⟩:=h
  exact⟨by omega,⟨h2.mono hn,h3.mono hn⟩,by rw[I.bj ha h2,I.bj ha h3];exact h4⟩
theorem A.iy {n nb:Nat} {ρ ae:Env} {m m':Nat->Nat} {a:A} (h:a.ok n nb ρ) (ha:agree n ρ ae) (hm:∀b,b<nb->m' b=m b):a.den ae m'=a.den ρ m:=by
 cases a<;>simp only[A.ok]at h<;>simp only[A.den]
 ·rw[I.bj ha h.1]
 ·rw[aR.bj ha h]
 ·rw[hm _ h]
 ·rw[hm _ h.1,I.bj ha h.2.1.1]
 ·rw[I.bj ha h.1.1]
 ·rw[hm _ h]
 ·rw[I.bj ha h.1]
 ·rw[I.bj ha h.1.2.1]
 ·obtain⟨h1,⟨h2,h3,h4,h5⟩,h6⟩:=h
  rw[hm _ h1,I.bj ha h2,I.bj ha h3,I.bj ha h4,I.bj ha h5]
 ·rw[hm _ h.1,I.bj ha h.2.1.1,I.bj ha h.2.1.2]
theorem A.C2 {n nb:Nat} {ρ:Env} {m:Nat->Nat} {a:A} (h:a.ok n nb ρ):(a.den ρ m).oneCell'=true:=by
 cases a<;>first|rfl|exact h|(simp only[A.den];split<;>rfl)
def W.den (ρ:Env) (m:Nat->Nat):W->Value
 | .one a=>a.den ρ m
 | .agg l=> .agg (l.map (A.den ρ m)).toArray
def W.ok (n nb:Nat) (ρ:Env):W->Prop
 | .one a=>a.ok n nb ρ
 | .agg l=>∀a∈l,a.ok n nb ρ
theorem W.ok.ext {n n' nb il:Nat} {ρ ae:Env} {x:W} (h:x.ok n nb ρ) (ha:agree n ρ ae) (hn:n<=n') (hb:nb<=il):x.ok n' il ae:=by
 cases x with
 |one a=>exact A.ok.ext h ha hn hb
 |agg l=>exactλa h'=>(h a h').ext ha hn hb
theorem oT {n nb:Nat} {ρ ae:Env} {m m':Nat->Nat} {l:List A} (h:∀a∈l,a.ok n nb ρ) (ha:agree n ρ ae) (hm:∀b,b<nb->m' b=m b):l.map (A.den ae m')=l.map (A.den ρ m):=
 List.map_congr_left λa h'=>A.iy (h a h') ha hm
theorem W.iy {n nb:Nat} {ρ ae:Env} {m m':Nat->Nat} {x:W} (h:x.ok n nb ρ) (ha:agree n ρ ae) (hm:∀b,b<nb->m' b=m b):x.den ae m'=x.den ρ m:=by
 cases x with
 |one a=>exact A.iy h ha hm
 |agg l=>simp only[W.den,oT h ha hm]
def V.rel (ρ:Env) (m:Nat->Nat):V->Value->Prop
 | .w x,v=>v=x.den ρ m
 | .eF l,v=>v= .tuple (l.map (W.den ρ m)).toArray
 | .any,_=>True
 | .k7 b len lo,v=>∃c:Nat,lo<=c/\v= .slice (some ⟨m b,0,none⟩) len c
 | .ll f gp,v=>v= .func (.func f) #[] (gp.map (A.den ρ m)).toArray
def V.ok (n nb:Nat) (ρ:Env):V->Prop
 | .w x=>x.ok n nb ρ
 | .eF l=>∀x∈l,x.ok n nb ρ
 | .any=>True
 | .k7 b _ _=>b<nb
 | .ll _ gp=>∀a∈gp,A.ok n nb ρ a
theorem V.ok.ext {n n' nb il:Nat} {ρ ae:Env} {x:V} (h:x.ok n nb ρ) (ha:agree n ρ ae) (hn:n<=n') (hb:nb<=il):x.ok n' il ae:=by
 cases x with
 |w x=>exact W.ok.ext h ha hn hb
 |eF l=>exactλa h'=>(h a h').ext ha hn hb
 |any=>trivial
 |k7 b len lo=>exact Nat.lt_of_lt_of_le h hb
 |ll f gp=>exactλa h'=>(h a h').ext ha hn hb
theorem V.rel.ext {n nb:Nat} {ρ ae:Env} {m m':Nat->Nat} {x:V} {v:Value} (hr:x.rel ρ m v) (h:x.ok n nb ρ) (ha:agree n ρ ae) (hm:∀b,b<nb->m' b=m b):x.rel ae m' v:=by
 cases x with
 |w x=>simp only[V.rel]at hr⊢;rw[W.iy h ha hm];exact hr
 |eF l=>simp only[V.rel]at hr⊢;rw[hr];congr 2;exact(List.map_congr_left λa h'=>W.iy (h a h') ha hm).symm
 |any=>trivial
 |k7 b len lo=>obtain⟨c,h1,h2⟩:=hr;exact⟨c,h1,by rw[hm b h];exact h2⟩
 |ll f gp=>simp only[V.rel]at hr⊢;rw[hr];congr 2;exact(List.map_congr_left λa h'=>A.iy (h a h') ha hm).symm
section
variable {S:Nat->List Int->List Int->Prop} {L:V->Env->Prop} {n:Nat} {ρ:Env}
def Bl (s:Int):List (Int×Nat)->Bool
 |[]=>true
 |(k,_)::r=>k% s==0&&Bl s r
theorem LI {s:Int} (ρ:Env):∀{l},Bl s l=true->fA ρ l% s=0
 |[],_=>by simp[fA]
 |(k,i)::r,h=>by
  simp only[Bl,Bool.and_eq_true,beq_iff_eq]at h
  have h1:=LI ρ h.2
  obtain⟨c,hc⟩:=Int.dvd_of_emod_eq_zero h.1
  obtain⟨d,hd⟩:=Int.dvd_of_emod_eq_zero h1
  simp only[fA,hc,hd,Int.mul_assoc]
  rw[<-Int.mul_add];exact Int.mul_emod_right _ _
def I.qt (s:Int) (l:I):Bool:=l.c% s==0&&Bl s l.fu
theorem I.D4 {s:Int} (ρ:Env) {l:I} (h:l.qt s=true):l.den ρ% s=0:=by
 simp only[qt,Bool.and_eq_true,beq_iff_eq]at h
 have h1:=LI ρ h.2
 obtain⟨c,hc⟩:=Int.dvd_of_emod_eq_zero h.1
 obtain⟨d,hd⟩:=Int.dvd_of_emod_eq_zero h1
 simp only[den,hc,hd]
 rw[<-Int.mul_add];exact Int.mul_emod_right _ _
def rP (h:Int):Nat:=2^(Nat.log2 h.toNat+1)
theorem LG {x h:Int} (hx:x<=h) (h0:0<=x):x<(rP h:Int):=by
 have:h.toNat<2^(Nat.log2 h.toNat+1):=Nat.lt_log2_self
 unfold rP;omega
theorem cZ {c:Bool} {α:Type} {x:M α} {R:Env->Nat->α->Prop} (h:c=true->ak S L x n ρ R):ak S L (cond c x fail) n ρ R:=by
 cases c with
 |true=>exact h rfl
 |false=>exact ak.fail
def hU (k:IntKind):Int:=two k-half k
theorem Ai (k:IntKind):hU k<=two k:=by cases k<;>decide
theorem O4 (k:IntKind):∃i:Nat,hU k=2^i/\i<=k.bits:=by cases k<;>first|exact⟨7,by decide,by decide⟩|exact⟨8,by decide,by decide⟩|exact⟨15,by decide,by decide⟩|exact⟨16,by decide,by decide⟩|exact⟨31,by decide,by decide⟩|exact⟨32,by decide,by decide⟩|exact⟨63,by decide,by decide⟩|exact⟨64,by decide,by decide⟩
def Bk (x:I):List Nat->Nat
 |[]=>1
 |i::r=>cond (x.qt (2^i)) (2^i) (Bk x r)
def orM (k:IntKind) (x y:a6):M a6:=
 cond (!(decide (0<=x.lo)&&decide (0<=y.lo)&&decide (x.hi<hU k)&&decide (y.hi<hU k))) (cond (decide (0<=x.lo)&&decide (x.hi<hU k)) (
  let s:=Bk x.l [24,18,16,12,8,6,4]
  cond (x.l.qt s&&decide (y.hi<hU k)&&decide (x.hi+s<hU k)) (bind (dY 30 [y.l,.const s]) λ_=>pure ⟨x.l.add y.l,x.lo,x.hi+s⟩) fail) fail) <|
 cond (x.l.qt (rP y.hi)) (pure ⟨x.l.add y.l,x.lo+y.lo,cond (decide (x.hi+y.hi<two k)) (x.hi+y.hi) (two k-1)⟩) <|
 cond (y.l.qt (rP x.hi)) (pure ⟨x.l.add y.l,x.lo+y.lo,cond (decide (x.hi+y.hi<two k)) (x.hi+y.hi) (two k-1)⟩) (wy .or k x y)
theorem HI {X Y s:Nat} (hs:∃i,s=2^i) (hx:X% s=0) (hy:Y<s):X|||Y=X+Y:=by
 obtain⟨i,rfl⟩:=hs
 have e:=Nat.div_add_mod X (2^i)
 rw[hx,Nat.add_zero]at e
 rw[<-e,<-Nat.two_pow_add_eq_or_of_lt hy]
theorem AM {k:IntKind} {z:Int} (h0:0<=z) (h1:z<hU k):k.wrap z=z:=by
 rw[DD]
 have ah:0<=half k:=by cases k<;>decide
 unfold hU at h1
 rw[Int.emod_eq_of_lt (by omega) (by omega)]
 omega
theorem Ef {k:IntKind} {x y:Int} (hx:0<=x) (hy:0<=y) (hx2:x<hU k) (qV:y<hU k):av .or k x y=((x.toNat|||y.toNat:Nat):Int):=by
 have hl:=Ai k
 have z8:x<2^k.bits:=by rw[<-oe];omega
 have Ab:y<2^k.bits:=by rw[<-oe];omega
 obtain⟨i,hi,_⟩:=O4 k
 obtain⟨X,rfl⟩:=Int.eq_ofNat_of_zero_le hx
 obtain⟨Y,rfl⟩:=Int.eq_ofNat_of_zero_le hy
 have hX:X<2^i:=by rw[hi]at hx2;exact_mod_cast hx2
 have hY:Y<2^i:=by rw[hi]at qV;exact_mod_cast qV
 have h1:X|||Y<2^i:=Nat.or_lt_two_pow hX hY
 unfold av
 simp only
 rw[So,Int.emod_eq_of_lt hx z8,Int.emod_eq_of_lt hy Ab]
 simp only[Int.toNat_natCast]
 exact AM (by omega) (by rw[hi];exact_mod_cast h1)
theorem wx {k:IntKind} {x y:Int} (hx:0<=x) (hy:0<=y) (hx2:x<hU k) (qV:y<two k):av .and k x y=((x.toNat&&&y.toNat:Nat):Int):=by
 have hl:=Ai k
 have z8:x<2^k.bits:=by rw[<-oe];omega
 have Ab:y<2^k.bits:=by rw[<-oe];omega
 obtain⟨X,rfl⟩:=Int.eq_ofNat_of_zero_le hx
 obtain⟨Y,rfl⟩:=Int.eq_ofNat_of_zero_le hy
 have h1:X&&&Y<=X:=Nat.and_le_left
 unfold av
 simp only
 rw[bv_and,Int.emod_eq_of_lt hx z8,Int.emod_eq_of_lt hy Ab]
 simp only[Int.toNat_natCast]
 exact AM (by omega) (by omega)
theorem toNat_mod {x:Int} {s:Nat} (hx:0<=x) (h:x% (s:Int)=0):x.toNat% s=0:=by
 obtain⟨X,rfl⟩:=Int.eq_ofNat_of_zero_le hx
 simp only[Int.toNat_natCast]
 exact_mod_cast h
theorem aas {k:IntKind} {x y:a6} (hx:x.ok n ρ) (hy:y.ok n ρ):ak S L (orM k x y) n ρ λae n' q=>q.ok n' ae/\q.l.den ae=av .or k (x.l.den ρ) (y.l.den ρ):=by
 unfold orM
 cases hc:(!(decide (0<=x.lo)&&decide (0<=y.lo)&&decide (x.hi<hU k)&&decide (y.hi<hU k)))with
 |true=>
  simp only[cond_true]
  refine cZ λh1=>cZ λh2=>eQ λh3=>ak.pure ?_
  simp only[Bool.and_eq_true,decide_eq_true_eq]at h1 h2
  simp only[List.map_cons,List.map_nil,U,I.aH]at h3
  obtain⟨⟨h4,h6⟩,h5⟩:=h2
  have wB:=hx.2;have L4:=hy.2
  generalize hs:Bk x.l [24,18,16,12,8,6,4]=s at*
  have hm:=I.D4 ρ h4
  have WI:∃i,s=2^i:=by
   rw[<-hs]
   generalize [24,18,16,12,8,6,4]=l
   induction l with
   |nil=>exact⟨0,rfl⟩
   |cons i r ih=>
    unfold Bk
    cases x.l.qt (2^i)with
    |true=>exact⟨i,rfl⟩
    |false=>exact ih
  have e:x.l.den ρ+y.l.den ρ=av .or k (x.l.den ρ) (y.l.den ρ):=by
   rw[Ef (by omega) h3.1 (by omega) (by omega),HI WI (toNat_mod (by omega) hm) (by omega)];omega
  exact⟨⟨I.p4 hx.1 hy.1,by simp only[I.den_add];omega,by simp only[I.den_add];omega⟩,by rw[I.den_add];exact e⟩
 |false=>
  simp only[Bool.not_eq_false',Bool.and_eq_true,decide_eq_true_eq]at hc
  obtain⟨⟨⟨h1,h2⟩,wW⟩,ahD⟩:=hc
  have Gk:=Ai k
  have h3:x.hi<two k:=by omega
  have h4:y.hi<two k:=by omega
  have wB:=hx.2;have L4:=hy.2
  have hb:=Ef (k:=k) (x:=x.l.den ρ) (y:=y.l.den ρ) (by omega) (by omega) (by omega) (by omega)
  have hlt:av .or k (x.l.den ρ) (y.l.den ρ)<two k:=by
   have e1:x.l.den ρ<2^k.bits:=by rw[<-oe];omega
   have e2:y.l.den ρ<2^k.bits:=by rw[<-oe];omega
   have h1:(x.l.den ρ).toNat|||(y.l.den ρ).toNat<2^k.bits:=Nat.or_lt_two_pow (by
    have:(x.l.den ρ).toNat=x.l.den ρ:=by omega
    exact_mod_cast (show((x.l.den ρ).toNat:Int)<2^k.bits by omega)) (by exact_mod_cast (show((y.l.den ρ).toNat:Int)<2^k.bits by omega))
   rw[hb,oe]
   exact_mod_cast h1
  have ok:∀q:Int,q=av .or k (x.l.den ρ) (y.l.den ρ)->x.l.den ρ+y.l.den ρ=q->(a6.mk (x.l.add y.l) (x.lo+y.lo) (cond (decide (x.hi+y.hi<two k)) (x.hi+y.hi) (two k-1))).ok n ρ:=λq Cv pE=>⟨I.p4 hx.1 hy.1,by simp only[I.den_add];omega,by
   simp only[I.den_add]
   cases hd:decide (x.hi+y.hi<two k)with
   |true=>simp only[cond_true];omega
   |false=>simp only[cond_false];omega⟩
  simp only[cond_false]
  cases h5:x.l.qt (rP y.hi)with
  |true=>
   have hm:=I.D4 ρ h5
   have hl:=LG L4.2 (by omega)
   have hs:x.l.den ρ+y.l.den ρ=av .or k (x.l.den ρ) (y.l.den ρ):=by
    rw[hb,HI (s:=rP y.hi) ⟨_,rfl⟩ (toNat_mod (by omega) hm) (by omega)];omega
   exact ak.pure ⟨ok _ rfl hs,by rw[I.den_add];exact hs⟩
  |false=>
   simp only[cond_false]
   cases h6:y.l.qt (rP x.hi)with
   |true=>
    have hm:=I.D4 ρ h6
    have hl:=LG wB.2 (by omega)
    have hs:x.l.den ρ+y.l.den ρ=av .or k (x.l.den ρ) (y.l.den ρ):=by
     rw[hb,Nat.or_comm,HI (s:=rP x.hi) ⟨_,rfl⟩ (toNat_mod (by omega) hm) (by omega)];omega
    exact ak.pure ⟨ok _ rfl hs,by rw[I.den_add];exact hs⟩
   |false=>exact Bt
def Bp (k:IntKind) (x:a6) (c:Int):M a6:=
 match CV c with
 |some (a,b)=>cond (!(decide (0<=x.lo)&&decide (x.hi<hU k)&&decide (c<two k)&&decide (0<=c))) fail (andM x a b)
 |none=>cond (c==0&&decide (0<=x.lo)&&decide (x.hi<hU k)) (pure (.const 0)) fail
theorem LL {k:IntKind} {x:a6} {c:Int} (hx:x.ok n ρ):ak S L (Bp k x c) n ρ λae n' q=>q.ok n' ae/\q.l.den ae=av .and k (x.l.den ρ) c:=by
 unfold Bp
 have wB:=hx.2
 cases hm:CV c with
 |some p=>
  obtain⟨a,b⟩:=p
  simp only
  cases hc:(!(decide (0<=x.lo)&&decide (x.hi<hU k)&&decide (c<two k)&&decide (0<=c)))with
  |true=>exact ak.fail
  |false=>
   simp only[Bool.not_eq_false',Bool.and_eq_true,decide_eq_true_eq]at hc
   obtain⟨⟨⟨h1,h2⟩,h3⟩,h4⟩:=hc
   obtain⟨i,j,zE,rfl,rfl,Ce,_,_⟩:=YQ hm
   refine(R5 zE hx h1).mono λae n' q _ _ ⟨ho,he⟩=>⟨ho,?_⟩
   rw[he,wx (by omega) h4 (by omega) h3]
   congr 2
   have h3:2^i<=2^j:=Nat.pow_le_pow_right (by omega) zE
   have h5:((2^j-2^i:Nat):Int)=2^j-2^i:=by rw[Int.ofNat_sub h3];simp
   omega
 |none=>
  simp only
  cases hc:(c==0&&decide (0<=x.lo)&&decide (x.hi<hU k))with
  |false=>exact ak.fail
  |true=>
   simp only[Bool.and_eq_true,beq_iff_eq,decide_eq_true_eq]at hc
   obtain⟨⟨rfl,h1⟩,h2⟩:=hc
   refine ak.pure ⟨a6.j1 _ _ _,?_⟩
   rw[wx (by omega) (Int.le_refl _) (by omega) (by cases k<;>decide)]
   simp[a6.const,I.aH]
theorem Si (k:IntKind) (x y:Int):av .and k x y=av .and k y x:=by simp only[av,BitVec.and_comm]
def D8 (k:IntKind) (x y:a6):M a6:=
 match y.l.cT,x.l.cT with
 |some c,_=>Bp k x c
 |none,some c=>Bp k y c
 |none,none=>wy .and k x y
theorem R4 {k:IntKind} {x y:a6} (hx:x.ok n ρ) (hy:y.ok n ρ):ak S L (D8 k x y) n ρ λae n' q=>q.ok n' ae/\q.l.den ae=av .and k (x.l.den ρ) (y.l.den ρ):=by
 unfold D8
 cases h1:y.l.cT with
 |some c=>simp only[I.fU h1];exact LL hx
 |none=>
  cases h2:x.l.cT with
  |some c=>simp only[I.fU h2];rw[Si];exact LL hy
  |none=>exact Bt
def Iv (x y:a6):M a6:=λn k=> .shr n x.l y.l 0 x.hi (k ⟨.var n,0,x.hi⟩ (n+1))
theorem ac9 {x y:a6} (hx:x.ok n ρ) (h0:0<=x.lo):ak S L (Iv x y) n ρ λae n' q=>q.ok n' ae/\q.l.den ae=x.l.den ρ/2^(y.l.den ρ).toNat:=by
 intro A k hk
 simp only[Iv,T.holds]at hk
 have hp:(0:Int)<2^(y.l.den ρ).toNat:=by have:=Nat.two_pow_pos (y.l.den ρ).toNat;exact_mod_cast this
 have b0:0<=x.l.den ρ:=by have:=hx.2;omega
 have bh:0<=x.l.den ρ/2^(y.l.den ρ).toNat:=Int.ediv_nonneg b0 (Int.le_of_lt hp)
 have a2:x.l.den ρ/2^(y.l.den ρ).toNat<=x.hi:=Int.le_trans (Int.ediv_le_self _ b0) hx.2.2
 exact⟨_,n+1,_,Nat.le_succ _,agree.cF _ _ _,⟨⟨I.dN (Nat.lt_succ_self n),by simp only[I.bV,hh];exact bh,by simp only[I.bV,hh];exact a2⟩,by simp only[I.bV,hh]⟩,hk _ bh a2 rfl⟩
def isInt (k:IntKind) (x:M a6):M A:=bind x λr=>pure (.int k r)
def sw (x:a6):M a6:=cond (decide (0<=x.lo)) (pure x) (bind (dY 77 [x.l]) λ_=>pure ⟨x.l,0,x.hi⟩)
def Hv (x y:a6):M a6:=match x.l.cT,y.l.cT with
 |none,none=>bind (sw x) λx=>bind (sw y) λy=>mulM x y
 |_,_=>mulM x y
def a6.wI (y:a6):Option Int:=match y.l.cT with
 |some c=>some c
 |none=>cond (decide (y.lo=y.hi)) (some y.lo) none
theorem a6.Mq {n:Nat} {ρ:Env} {y:a6} {c:Int} (hy:y.ok n ρ) (h:y.wI=some c):y.l.den ρ=c:=by
 unfold a6.wI at h
 cases hc:y.l.cT with
 |some d=>simp only[hc,Option.some.injEq]at h;rw[I.fU hc,h]
 |none=>
  simp only[hc]at h
  cases hd:decide (y.lo=y.hi)with
  |false=>simp[hd]at h
  |true=>
   simp only[hd,cond_true,Option.some.injEq]at h
   have h1:y.lo=y.hi:=by simpa using hd
   have:=hy.2.1;have:=hy.2.2
   omega
def Ee (op:BinOp) (k:IntKind) (x:a6) (aM:IntKind) (y:a6):M A:=
 match op with
 | .shl=>match y.wI with
  |some c=>cond (decide (0<=c)) (let s:Int:=2^min c.toNat k.bits;isInt k (qc k ⟨x.l.smul s,x.lo*s,x.hi*s⟩)) fail
  |none=>cond (decide (0<=x.lo)&&decide (0<=y.lo)&&decide (y.hi<=62)&&decide (x.hi*2^y.hi.toNat<hU k)) (isInt k (bind (dz 37 [x.l,y.l] 0 (x.hi*2^y.hi.toNat)) λl=>pure ⟨l,0,x.hi*2^y.hi.toNat⟩)) fail
 | .shr=>match y.wI with
  |some c=>cond (decide (0<=c)) (isInt k (pn x (2^min c.toNat k.bits))) fail
  |none=>cond (decide (0<=x.lo)&&decide (0<=y.lo)&&decide (y.hi<=(k.bits:Int))) (isInt k (Iv x y)) fail
 | .add=>cond (decide (k=aM)) (isInt k (qc k ⟨x.l.add y.l,x.lo+y.lo,x.hi+y.hi⟩)) fail
 | .sub=>cond (decide (k=aM)) (isInt k (qc k ⟨x.l.sub y.l,x.lo-y.hi,x.hi-y.lo⟩)) fail
 | .mul=>cond (decide (k=aM)) (isInt k (bind (Hv x y) (qc k))) fail
 | .quo=>match y.l.cT with
  |some c=>cond (decide (k=aM)&&decide (0<c)) (bind (sw x) λx=>isInt k (bind (pn x c) (qc k))) fail
  |none=>cond (decide (k=aM)) (bind (sw x) λx=>bind (dY 36 [y.l]) λ_=>isInt k (bind (bind (dz 76 [x.l,y.l] 0 x.hi) λl=>pure ⟨l,0,x.hi⟩) (qc k))) fail
 | .rem=>match y.l.cT with
  |some c=>cond (decide (k=aM)&&decide (0<c)) (bind (sw x) λx=>isInt k (Hu x c)) fail
  |none=>cond (decide (k=aM)) (bind (sw x) λx=>bind (dY 36 [y.l]) λ_=>isInt k (bind (dz 38 [x.l,y.l] 0 (cond (decide (y.hi-1<=x.hi)) (y.hi-1) x.hi)) λl=>pure ⟨l,0,cond (decide (y.hi-1<=x.hi)) (y.hi-1) x.hi⟩)) fail
 | .and=>cond (decide (k=aM)) (isInt k (D8 k x y)) fail
 | .or=>cond (decide (k=aM)) (isInt k (orM k x y)) fail
 | .xor=>cond (decide (k=aM)) (isInt k (wy .xor k x y)) fail
 | .andNot=>cond (decide (k=aM)) (isInt k (wy .andNot k x y)) fail
 | .eql=>cond (decide (k=aM)) (pure (.bool (.mkEq x y))) fail
 | .neq=>cond (decide (k=aM)) (pure (.bool (.mkNot (.mkEq x y)))) fail
 | .lss=>cond (decide (k=aM)) (pure (.bool (.mkLt x y))) fail
 | .leq=>cond (decide (k=aM)) (pure (.bool (.mkLe x y))) fail
 | .gtr=>cond (decide (k=aM)) (pure (.bool (.mkLt y x))) fail
 | .geq=>cond (decide (k=aM)) (pure (.bool (.mkLe y x))) fail
theorem l9 {k:IntKind} {x:M a6} {R:Env->Nat->A->Prop} {v:Int} (h:ak S L x n ρ λae n' q=>q.ok n' ae/\q.l.den ae=v)
 (hR:∀ae n' (q:a6),n<=n'->agree n ρ ae->q.ok n' ae->q.l.den ae=v->R ae n' (.int k q)):ak S L (isInt k x) n ρ R:=
 h.bind λae n' q hn ha ⟨ho,he⟩=>ak.pure (hR ae n' q hn ha ho he)
theorem x5 {x:a6} (hx:x.ok n ρ):ak S L (sw x) n ρ λae n' q=>q.ok n' ae/\q.l=x.l/\q.hi=x.hi/\0<=q.lo/\x.l.den ae=x.l.den ρ:=by
 unfold sw
 cases h:decide (0<=x.lo)with
 |true=>exact ak.pure ⟨hx,rfl,rfl,of_decide_eq_true h,rfl⟩
 |false=>
  refine eQ λhk=>ak.pure ⟨⟨hx.1,?_,hx.2.2⟩,rfl,rfl,Int.le_refl _,rfl⟩
  simpa [U,yS]using hk
theorem YY {x y:a6} (hx:x.ok n ρ) (hy:y.ok n ρ):ak S L (Hv x y) n ρ λae n' q=>q.ok n' ae/\q.l.den ae=x.l.den ρ*y.l.den ρ:=by
 unfold Hv
 split
 ·refine(x5 hx).bind λax aG eS eD dj ⟨iT,ex,_,_,ni⟩=>(x5 (hy.agree dj eD)).bind λbg dC iv dF cK ⟨GP,y1,_,_,Tl⟩=>(Pq (iT.agree cK dF) GP).mono λee lB q _ _ ⟨h1,h2⟩=>⟨h1,?_⟩
  rw[h2,y1,Tl,I.bj dj hy.1,I.bj cK iT.1,ex,ni]
 ·exact Pq hx hy
theorem Sh {nb:Nat} {m:Nat->Nat} (P:Program) {op:BinOp} {k aM:IntKind} {x y:a6} (t:TypeId) (hx:x.ok n ρ) (hy:y.ok n ρ):
 ak S L (Ee op k x aM y) n ρ λae n' a=>a.ok n' nb ae/\∀w,(binOp op t (.int k (x.l.den ρ)) (.int aM (y.l.den ρ))).run P w= .ok (a.den ae m) w:=by
 have aS:∀s:Nat,(0:Int)<2^s:=λs=>by have:=Nat.two_pow_pos s;exact_mod_cast this
 cases op<;>simp only[Ee]
 case shl=>
  cases hc:y.wI with
  |none=>
   refine cZ λh0=>?_
   simp only[Bool.and_eq_true,decide_eq_true_eq]at h0
   obtain⟨⟨⟨h1,h2⟩,h3⟩,h4⟩:=h0
   have ud:=hx.2;have sc:=hy.2
   have hp:=aS (y.l.den ρ).toNat
   have e1:(0:Int)<=x.l.den ρ*2^(y.l.den ρ).toNat:=Int.mul_nonneg (by omega) (Int.le_of_lt hp)
   have e2:x.l.den ρ*2^(y.l.den ρ).toNat<=x.hi*2^y.hi.toNat:=Int.mul_le_mul ud.2 (by
    have:=Nat.pow_le_pow_right (n:=2) (by decide) (show(y.l.den ρ).toNat<=y.hi.toNat by omega)
    exact_mod_cast this) (Int.le_of_lt hp) (by omega)
   have hf:aa 37 ([x.l,y.l].map (·.den ρ))=x.l.den ρ*2^(y.l.den ρ).toNat:=rfl
   refine l9 (v:=x.l.den ρ*2^(y.l.den ρ).toNat) ((en (by rw[hf];exact e1) (by rw[hf];exact e2)).bind λax aG l _ _ ⟨g1,g2⟩=>ak.pure ⟨⟨g1,by simp only;rw[g2,hf];exact e1,by simp only;rw[g2,hf];exact e2⟩,by simp only;rw[g2,hf]⟩) λae n' q _ _ ho he=>⟨ho,λw=>?_⟩
   simp only[A.den,he,binOp,Op.shift]
   have VE:(y.l.den ρ).toNat<=k.bits∨x.l.den ρ=0:=by
    rcases Nat.le_total (y.l.den ρ).toNat k.bits with h|h
    ·exact .inl h
    ·refine .inr ?_
     have h5:x.l.den ρ*2^(y.l.den ρ).toNat<hU k:=by omega
     have h6:=Ai k
     rw[oe]at h6
     have h7:(2:Int)^k.bits<=2^(y.l.den ρ).toNat:=by
      have:=Nat.pow_le_pow_right (n:=2) (by decide) h
      exact_mod_cast this
     rcases Int.lt_or_le 0 (x.l.den ρ)with h8|h8
     ·have:(1:Int)*2^(y.l.den ρ).toNat<=x.l.den ρ*2^(y.l.den ρ).toNat:=Int.mul_le_mul_of_nonneg_right (by omega) (Int.le_of_lt hp)
      omega
     ·omega
   rw[if_neg (by omega)]
   rcases VE with h|h
   ·rw[show min (y.l.den ρ).toNat k.bits=(y.l.den ρ).toNat by omega]
    simp[AM e1 (show x.l.den ρ*2^(y.l.den ρ).toNat<hU k by omega)]
   ·have hw:k.wrap 0=0:=by cases k<;>decide
    simp[h,hw]
  |some c=>
   refine cZ λh0=>?_
   simp only[decide_eq_true_eq]at h0
   have hp:=aS (min c.toNat k.bits)
   refine l9 (sI (x:=⟨x.l.smul (2^min c.toNat k.bits),x.lo*2^min c.toNat k.bits,x.hi*2^min c.toNat k.bits⟩) ⟨I.rj hx.1,?_,?_⟩) λae n' q _ _ ho he=>⟨ho,λw=>?_⟩
   ·simp only[I.jh];rw[Int.mul_comm];exact Int.mul_le_mul_of_nonneg_left hx.2.1 (Int.le_of_lt hp)
   ·simp only[I.jh];rw[Int.mul_comm x.hi];exact Int.mul_le_mul_of_nonneg_left hx.2.2 (Int.le_of_lt hp)
   ·simp only[A.den,he,I.jh,a6.Mq hy hc,binOp,Op.shift]
    rw[if_neg (by omega)]
    simp[Int.mul_comm]
 case shr=>
  cases hc:y.wI with
  |some c=>
   refine cZ λh0=>?_
   simp only[decide_eq_true_eq]at h0
   have hp:=aS (min c.toNat k.bits)
   refine l9 ((yV hp hx).mono λ_ _ q _ _ h=>⟨h.1,h.2.1⟩) λae n' q _ _ ho he=>⟨ho,λw=>?_⟩
   simp only[A.den,he,a6.Mq hy hc,binOp,Op.shift]
   rw[if_neg (by omega)]
   simp[Int.fdiv_eq_ediv_of_nonneg _ (Int.le_of_lt hp)]
  |none=>
   refine cZ λh0=>?_
   simp only[Bool.and_eq_true,decide_eq_true_eq]at h0
   refine l9 (ac9 hx h0.1.1) λae n' q _ _ ho he=>⟨ho,λw=>?_⟩
   have sc:=hy.2
   simp only[A.den,he,binOp,Op.shift]
   rw[if_neg (by omega),show min (y.l.den ρ).toNat k.bits=(y.l.den ρ).toNat by omega]
   simp[Int.fdiv_eq_ediv_of_nonneg _ (Int.le_of_lt (aS _))]
 case add=>
  refine cZ λh0=>?_
  simp only[decide_eq_true_eq]at h0;subst h0
  have ud:=hx.2;have sc:=hy.2
  refine l9 (sI (x:=⟨x.l.add y.l,x.lo+y.lo,x.hi+y.hi⟩) ⟨I.p4 hx.1 hy.1,by simp only[I.den_add];omega,by simp only[I.den_add];omega⟩) λae n' q _ _ ho he=>⟨ho,λw=>?_⟩
  simp[A.den,he,I.den_add,binOp,Op.intArith]
 case sub=>
  refine cZ λh0=>?_
  simp only[decide_eq_true_eq]at h0;subst h0
  have ud:=hx.2;have sc:=hy.2
  refine l9 (sI (x:=⟨x.l.sub y.l,x.lo-y.hi,x.hi-y.lo⟩) ⟨I.sB hx.1 hy.1,by simp only[I.j3];omega,by simp only[I.j3];omega⟩) λae n' q _ _ ho he=>⟨ho,λw=>?_⟩
  simp[A.den,he,I.j3,binOp,Op.intArith]
 case mul=>
  refine cZ λh0=>?_
  simp only[decide_eq_true_eq]at h0;subst h0
  refine l9 (v:=k.wrap (x.l.den ρ*y.l.den ρ)) ((YY hx hy).bind λax aG p _ _ ⟨hp,ep⟩=>by rw[<-ep];exact sI hp) λae n' q _ _ ho he=>⟨ho,λw=>?_⟩
  simp[A.den,he,binOp,Op.intArith]
 case quo=>
  cases hc:y.l.cT with
  |none=>
   refine cZ λh0=>(x5 hx).bind λbC ey eS lZ qJ ⟨iT,ex,EW,oJ,ni⟩=>eQ λhk=>?_
   have h0:=of_decide_eq_true h0
   subst h0
   simp only[List.map_cons,List.map_nil,U]at hk
   have Ac:=I.bj qJ hy.1
   have ud:=iT.2
   have e1:=Int.ediv_nonneg (show 0<=eS.l.den bC by omega) (Int.le_of_lt hk)
   have e3:eS.l.den bC/y.l.den bC<=eS.l.den bC:=by
    have h5:=Int.ediv_le_self (y.l.den bC) (show 0<=eS.l.den bC by omega)
    exact h5
   have eC:eS.l.den bC/y.l.den bC<=eS.hi:=by omega
   have hf:aa 76 ([eS.l,y.l].map (·.den bC))=eS.l.den bC/y.l.den bC:=rfl
   refine l9 (v:=k.wrap (eS.l.den bC/y.l.den bC)) (((en (by rw[hf];exact e1) (by rw[hf];exact eC)).bind λax aG l _ _ ⟨g1,g2⟩=>ak.pure (R:=λae n' (q:a6)=>q.ok n' ae/\q.l.den ae=eS.l.den bC/y.l.den bC) ⟨⟨g1,by simp only;rw[g2,hf];exact e1,by simp only;rw[g2,hf];exact eC⟩,by simp only;rw[g2,hf]⟩).bind λax aG p _ _ ⟨hp,ep⟩=>by rw[<-ep];exact sI hp) λae n' q _ _ ho he=>⟨ho,λw=>?_⟩
   simp only[A.den,he,binOp,Op.intDiv]
   have Xk:0<y.l.den ρ:=Ac▸hk
   have uc:0<=x.l.den ρ:=by rw[<-ni,<-ex];omega
   rw[Ac,ex,ni,if_neg (by simp),if_neg (by omega),Int.tdiv_eq_ediv_of_nonneg uc]
   simp
  |some c=>
   refine cZ λh0=>(x5 hx).bind λbC ey eS lZ qJ ⟨iT,ex,EW,oJ,ni⟩=>?_
   simp only[Bool.and_eq_true,decide_eq_true_eq]at h0
   obtain⟨h0,h1⟩:=h0
   subst h0
   have ud:=iT.2
   refine l9 (v:=k.wrap (eS.l.den bC/c)) ((yV h1 iT).bind λax aG p _ _ ⟨hp,ep,_⟩=>by rw[<-ep];exact sI hp) λae n' q _ _ ho he=>⟨ho,λw=>?_⟩
   have uc:0<=x.l.den ρ:=by rw[<-ni,<-ex];omega
   simp only[A.den,he,I.fU hc,binOp,Op.intDiv]
   rw[ex,ni,if_neg (by simp),if_neg (by omega),Int.tdiv_eq_ediv_of_nonneg uc]
   simp
 case rem=>
  cases hc:y.l.cT with
  |none=>
   refine cZ λh0=>(x5 hx).bind λbC ey eS lZ qJ ⟨iT,ex,EW,oJ,ni⟩=>eQ λhk=>?_
   have h0:=of_decide_eq_true h0
   subst h0
   simp only[List.map_cons,List.map_nil,U]at hk
   have Ac:=I.bj qJ hy.1
   have ud:=iT.2;have sc:=(hy.agree qJ lZ).2
   have e1:=Int.emod_nonneg (eS.l.den bC) (show y.l.den bC≠0 by omega)
   have e2:=Int.emod_lt_of_pos (eS.l.den bC) hk
   have e3:eS.l.den bC% y.l.den bC<=eS.l.den bC:=by
    have h5:=Int.mul_ediv_add_emod (eS.l.den bC) (y.l.den bC)
    have h6:=Int.mul_nonneg (Int.le_of_lt hk) (Int.ediv_nonneg (show 0<=eS.l.den bC by omega) (Int.le_of_lt hk))
    omega
   have hf:aa 38 ([eS.l,y.l].map (·.den bC))=eS.l.den bC% y.l.den bC:=rfl
   have eC:eS.l.den bC% y.l.den bC<=cond (decide (y.hi-1<=eS.hi)) (y.hi-1) eS.hi:=by
    cases decide (y.hi-1<=eS.hi)with
    |true=>simp only[cond_true];omega
    |false=>simp only[cond_false];omega
   refine l9 (v:=eS.l.den bC% y.l.den bC) ((en (by rw[hf];exact e1) (by rw[hf];exact eC)).bind λax aG l _ _ ⟨g1,g2⟩=>ak.pure ⟨⟨g1,by simp only;rw[g2,hf];exact e1,by simp only;rw[g2,hf];exact eC⟩,by simp only;rw[g2,hf]⟩) λae n' q _ _ ho he=>⟨ho,λw=>?_⟩
   simp only[A.den,he,binOp,Op.intDiv]
   have Xk:0<y.l.den ρ:=Ac▸hk
   have uc:0<=x.l.den ρ:=by rw[<-ni,<-ex];omega
   rw[Ac,ex,ni,if_neg (by simp),if_neg (by omega),Int.tmod_eq_emod_of_nonneg uc]
   simp
  |some c=>
   refine cZ λh0=>(x5 hx).bind λbC ey eS lZ qJ ⟨iT,ex,EW,oJ,ni⟩=>?_
   simp only[Bool.and_eq_true,decide_eq_true_eq]at h0
   obtain⟨h0,h1⟩:=h0
   subst h0
   have ud:=iT.2
   refine l9 (Pp h1 iT) λae n' q _ _ ho he=>⟨ho,λw=>?_⟩
   have uc:0<=x.l.den ρ:=by rw[<-ni,<-ex];omega
   simp only[A.den,he,I.fU hc,binOp,Op.intDiv]
   rw[ex,ni,if_neg (by simp),if_neg (by omega),Int.tmod_eq_emod_of_nonneg uc]
   simp
 case and=>
  refine cZ λh0=>?_
  simp only[decide_eq_true_eq]at h0;subst h0
  refine l9 (R4 hx hy) λae n' q _ _ ho he=>⟨ho,λw=>?_⟩
  simp[A.den,he,binOp,Op.intBits,av]
 case or=>
  refine cZ λh0=>?_
  simp only[decide_eq_true_eq]at h0;subst h0
  refine l9 (aas hx hy) λae n' q _ _ ho he=>⟨ho,λw=>?_⟩
  simp[A.den,he,binOp,Op.intBits,av]
 case xor=>
  refine cZ λh0=>?_
  simp only[decide_eq_true_eq]at h0;subst h0
  refine l9 Bt λae n' q _ _ ho he=>⟨ho,λw=>?_⟩
  simp[A.den,he,binOp,Op.intBits,av]
 case andNot=>
  refine cZ λh0=>?_
  simp only[decide_eq_true_eq]at h0;subst h0
  refine l9 Bt λae n' q _ _ ho he=>⟨ho,λw=>?_⟩
  simp[A.den,he,binOp,Op.intBits,av]
 all_goals
  refine cZ λh0=>?_
  simp only[decide_eq_true_eq]at h0;subst h0
  have e1:=aR.nT hx hy
  have e2:=aR.BN hx hy
  have e3:=aR.Mr hx hy
  have eC:=aR.BN hy hx
  have tj:=aR.Mr hy hx
  refine ak.pure ⟨?_,λw=>?_⟩
  ·first|exact e1.2|exact aR.p5 e1.2|exact e2.2|exact e3.2|exact eC.2|exact tj.2
  ·simp[A.den,aR.pj,e1.1,e2.1,e3.1,eC.1,tj.1,binOp,Op.intCmp]
   try rfl
end
end Go.bx
namespace Go.bx
open M
abbrev ar:=List A×(TypeId×Bool)
abbrev c6:=List (Nat×List (IntKind×Int))
structure cP where
 b:World
 r:World
 ex:Nat->Prop
 ro:Nat->Prop
 ds:List Deferred
def bu:List A->Bool
 |[.rows _ _ _ _ _]=>false
 |_=>true
noncomputable def a1 (ρ:Env):List A->Nat
 |[.rows _ _ _ cap k]=>if cap.den ρ<0 then 0 else k
 |_=>2
def b5:List az->List Int->Prop
 |[],[]=>True
 |c::sh,z::r=>(c.dJ.1<=z/\z<=c.dJ.2)/\b5 sh r
 |_,_=>False
def dD:List az->List Int->List Value
 |c::sh,z::r=>c.val z::dD sh r
 |_,_=>[]
def bk (sh:List az) (rows:List (List Int)):List Value:=rows.flatMap (dD sh)
def jy (cells:Array Value) (off:Nat) (sh:List az) (rows:List (List Int)):Prop:=
 (∀row∈rows,b5 sh row)/\∃pre post,cells.toList=pre++bk sh rows++post/\pre.length=off
theorem b5.len:∀{sh:List az} {row:List Int},b5 sh row->row.length=sh.length
 |[],[],_=>rfl
 |_::_,_::_,h=>by simp[b5.len h.2]
 |[],_::_,h=>h.elim
 |_::_,[],h=>h.elim
theorem b5.get:∀{sh:List az} {row:List Int} {j:Nat} {c:az},b5 sh row->sh[j]?=some c->∃z,row[j]?=some z/\c.dJ.1<=z/\z<=c.dJ.2/\(dD sh row)[j]?=some (c.val z)
 |c'::sh,z::r,0,c,h,hc=>by
  simp only[List.getElem?_cons_zero,Option.some.injEq]at hc
  subst hc
  exact⟨z,rfl,h.1.1,h.1.2,rfl⟩
 |c'::sh,z::r,j+1,c,h,hc=>b5.get (sh:=sh) (row:=r) (j:=j) h.2 (by simpa using hc)
 |[],_,_,_,_,hc=>by simp at hc
 |_::_,[],_,_,h,_=>h.elim
theorem ye:∀{sh:List az} {row:List Int},b5 sh row->(dD sh row).length=sh.length
 |[],[],_=>rfl
 |_::_,_::_,h=>by simp[dD,ye h.2]
 |[],_::_,h=>h.elim
 |_::_,[],h=>h.elim
theorem j5 {sh:List az}:∀{rows:List (List Int)},(∀row∈rows,b5 sh row)->(bk sh rows).length=rows.length*sh.length
 |[],_=>by simp[bk]
 |r::rs,h=>by
  have ih:=j5 (rows:=rs) λrow hr=>h row (List.mem_cons_of_mem _ hr)
  have h1:=ye (h r (by simp))
  simp only[bk,List.flatMap_cons,List.length_append,List.length_cons]at ih⊢
  rw[ih,h1,Nat.succ_mul];omega
theorem Fe {sh:List az}:∀{rows:List (List Int)} {i j:Nat} {row:List Int} {v:Value},(∀row∈rows,b5 sh row)->rows[i]?=some row->(dD sh row)[j]?=some v->(bk sh rows)[i*sh.length+j]?=some v
 |r::rs,0,j,row,v,h,hi,hj=>by
  simp only[List.getElem?_cons_zero,Option.some.injEq]at hi
  subst hi
  have hlt:=(List.getElem?_eq_some_iff.1 hj).1
  simp only[bk,List.flatMap_cons,Nat.zero_mul,Nat.zero_add]
  rw[List.getElem?_append_left hlt];exact hj
 |r::rs,i+1,j,row,v,h,hi,hj=>by
  have ih:=Fe (rows:=rs) (i:=i) (λrow hr=>h row (List.mem_cons_of_mem _ hr)) (by simpa using hi) hj
  have h1:=ye (h r (by simp))
  simp only[bk,List.flatMap_cons]at ih⊢
  rw[List.getElem?_append_right (by rw[h1,Nat.succ_mul];omega),h1,Nat.succ_mul]
  rw[show i*sh.length+sh.length+j-sh.length=i*sh.length+j by omega];exact ih
 |[],i,_,_,_,_,hi,_=>by simp at hi
theorem ou (sh:List az) (a b:List (List Int)):bk sh (a++b)=bk sh a++bk sh b:=by simp[bk]
def qs (kind:Nat) (fz:Nat×Nat) (n:Nat):Prop:=(kind=2/\fz=(0,0))∨(kind≠2/\fz=(n,n+1))
theorem qs.two {fz:Nat×Nat} {n:Nat} (h:qs 2 fz n):fz=(0,0):=by
 rcases h with h|h
 ·exact h.2
 ·exact absurd rfl h.1
theorem qs.Ak {n:Nat}:qs 2 (0,0) n:= .inl ⟨rfl,rfl⟩
def m8 (w0:cP) (ρ:Env) (g:Nat) (sh:List az) (off code cap:I) (kind:Nat) (t:TypeId) (w:World):Prop:=
 kind≠0->(cap.den ρ<0->ab (code.den ρ)=[])/\(0<=cap.den ρ->(w0.ex g∨w0.ro g∨w0.r.heap.size<=g)/\∃cells t' fz,w.heap[g]?=some (.cells cells t' fz)/\(0<=off.den ρ/\jy cells (off.den ρ).toNat sh (ab (code.den ρ)))/\
  (2<=kind->t'=t/\off.den ρ=0/\qs kind fz cells.size/\cells.size=(cap.den ρ).toNat*sh.length/\w0.b.heap.size<=g/\(w0.ex g∨w0.r.heap.size<=g)))
structure Mem (w0:cP) (ρ:Env) (m:Nat->Nat) (bl:List ar) (w:World):Prop where
 ext:w0.b.Extends w
 fs:w.os=w0.r.os
 gU:w.tape=w0.r.tape
 fX:w.output=w0.r.output
 dW:w0.r.heap.size<=w.heap.size
 fg:∀i:Nat,i<w0.r.heap.size->¬w0.ex i->w.heap[i]?=w0.r.heap[i]?
 dV:∀(i:Nat) (cs:List A) (t:TypeId×Bool),bl[i]?=some (cs,t)->bu cs=true->w0.b.heap.size<=m i/\(w0.ex (m i)∨w0.r.heap.size<=m i)/\∃r:List Value,(t.2=false->r=[])/\w.heap[m i]?=some (.cells (cs.map (A.den ρ m)++r).toArray t.1 (0,0))
 rws:∀(i:Nat) (sh:List az) (off code cap:I) (kind:Nat) (t:TypeId×Bool),bl[i]?=some ([.rows sh off code cap kind],t)->m8 w0 ρ (m i) sh off code cap kind t.1 w
 inj:∀(i j:Nat) (p q:ar),bl[i]?=some p->bl[j]?=some q->m i=m j->i=j∨(a1 ρ p.1<=1/\a1 ρ q.1<=1)∨a1 ρ p.1=0∨a1 ρ q.1=0
theorem Mem.lt {w0:cP} {ρ:Env} {m:Nat->Nat} {bl:List ar} {w:World} (h:Mem w0 ρ m bl w) {i:Nat} {p:ar} (hi:bl[i]?=some p) (hk:a1 ρ p.1≠0):m i<w.heap.size:=by
 obtain⟨cs,t⟩:=p
 by_cases ho:bu cs=true
 ·obtain⟨_,_,r,_,h2⟩:=h.dV i cs t hi ho
  exact(Array.getElem?_eq_some_iff.1 h2).1
 ·unfold bu at ho
  split at ho
  ·rename_i sh off code cap k
   simp only[a1]at hk
   split at hk
   ·exact absurd rfl hk
   ·rename_i cd
    obtain⟨_,cells,t',fz,h2,_⟩:=(h.rws i _ _ _ _ _ t hi hk).2 (by omega)
    exact(Array.getElem?_eq_some_iff.1 h2).1
  ·exact absurd rfl ho
theorem ik {ρ:Env} {cs:List A} (h:bu cs=true):a1 ρ cs=2:=by
 unfold bu at h
 unfold a1
 split<;>simp_all
def b4 (n nb:Nat) (ρ:Env) (bl:List ar):Prop:=∀p∈bl,∀a∈p.1,A.ok n nb ρ a
def bB (gl:c6) (w0:cP):Prop:=∀g cs,(g,cs)∈gl->g<w0.b.heap.size/\∃t rY,w0.b.heap[g]?=some (.cells (cs.map λp=>Value.int p.1 p.2).toArray t rY)
theorem b4.ext {n n' nb il:Nat} {ρ ae:Env} {bl:List ar} (h:b4 n nb ρ bl) (ha:agree n ρ ae) (hn:n<=n') (hb:nb<=il):b4 n' il ae bl:=
 λp hp a h'=>(h p hp a h').ext ha hn hb
theorem m8.kE {w0:cP} {n nb:Nat} {ρ ae:Env} {g:Nat} {sh:List az} {off code cap:I} {kind:Nat} {t:TypeId} {w:World} (h:m8 w0 ρ g sh off code cap kind t w) (bf:(A.rows sh off code cap kind).ok n nb ρ) (ha:agree n ρ ae):m8 w0 ae g sh off code cap kind t w:=by
 unfold m8 at*
 rw[I.bj ha bf.1.1,I.bj ha bf.1.2.1,I.bj ha bf.1.2.2]
 exact h
theorem nz {n nb:Nat} {ρ ae:Env} {cs:List A} (bf:∀a∈cs,A.ok n nb ρ a) (ha:agree n ρ ae):a1 ae cs=a1 ρ cs:=by
 unfold a1
 split
 ·rename_i sh off code cap k
  have h1:A.ok n nb ρ (.rows sh off code cap k):=bf _ (by simp)
  rw[I.bj ha h1.1.2.2]
 ·rfl
theorem agree.sym {n:Nat} {ρ ae:Env} (h:agree n ρ ae):agree n ae ρ:=λi hi=>(h i hi).symm
theorem Mem.kE {w0:cP} {n:Nat} {ρ ae:Env} {m:Nat->Nat} {bl:List ar} {w:World} (h:Mem w0 ρ m bl w) (hb:b4 n bl.length ρ bl) (ha:agree n ρ ae):Mem w0 ae m bl w:=
 ⟨h.ext,h.fs,h.gU,h.fX,h.dW,h.fg,λi cs t hi ho=>by
  obtain⟨h1,h2,r,hr,h3⟩:=h.dV i cs t hi ho
  exact⟨h1,h2,r,hr,by rw[oT (hb _ (List.mem_of_getElem? hi)) ha (λ_ _=>rfl)];exact h3⟩,
  λi sh off code cap kind t hi=>(h.rws i sh off code cap kind t hi).kE (hb _ (List.mem_of_getElem? hi) _ (by simp)) ha,λi j p q hi hj he=>by
   rw[nz (hb _ (List.mem_of_getElem? hi)) ha,nz (hb _ (List.mem_of_getElem? hj)) ha]
   exact h.inj i j p q hi hj he⟩
theorem m8.grow {w0:cP} {ρ:Env} {g:Nat} {sh:List az} {off code cap:I} {kind:Nat} {t:TypeId} {w w':World} (h:m8 w0 ρ g sh off code cap kind t w) (he:kind≠0->0<=cap.den ρ->w'.heap[g]?=w.heap[g]?):m8 w0 ρ g sh off code cap kind t w':=by
 intro hk
 obtain⟨h1,h2⟩:=h hk
 refine⟨h1,λhc=>?_⟩
 rw[he hk hc]
 exact h2 hc
theorem mS {ρ:Env} {sh:List az} {off code cap:I} {k:Nat} (hk:k≠0) (hc:0<=cap.den ρ):a1 ρ [.rows sh off code cap k]=k:=by
 simp only[a1]
 rw[if_neg (by omega)]
theorem Mem.grow {w0:cP} {ρ:Env} {m:Nat->Nat} {bl:List ar} {w w':World} (h:Mem w0 ρ m bl w) (he:w.Extends w'):Mem w0 ρ m bl w':=
 ⟨h.ext.trans he,he.os.trans h.fs,he.tape.trans h.gU,he.output.trans h.fX,Nat.le_trans h.dW he.size,λi hi hx=>(he.block i (Nat.lt_of_lt_of_le hi h.dW)).trans (h.fg i hi hx),λi cs t hi ho=>by
  obtain⟨h1,h2,r,hr,h3⟩:=h.dV i cs t hi ho
  exact⟨h1,h2,r,hr,by rw[he.block _ (h.lt hi (by rw[ik ho];decide))];exact h3⟩,λi sh off code cap kind t hi=>(h.rws i sh off code cap kind t hi).grow λhk hc=>he.block _ (h.lt hi (by simp only[mS hk hc];exact hk)),h.inj⟩
theorem Mem.ne {w0:cP} {ρ:Env} {m:Nat->Nat} {bl:List ar} {w:World} (h:Mem w0 ρ m bl w) {i j:Nat} {p q:ar} (hi:bl[i]?=some p) (hj:bl[j]?=some q) (hp:2<=a1 ρ p.1) (hq:a1 ρ q.1≠0) (hne:i≠j):m i≠m j:=λe=>by
 rcases h.inj i j p q hi hj e with h|h|h|h
 ·exact hne h
 ·omega
 ·omega
 ·exact hq h
def cW (n nb:Nat) (ρ:Env) (m:Nat->Nat) (tm:List V) (tmps:Array Value):Prop:=
 tm.length=tmps.size/\∀(i:Nat) (v:V),tm[i]?=some v->v.ok n nb ρ/\∃x,tmps[i]?=some x/\v.rel ρ m x
theorem cW.ext {n n' nb il:Nat} {ρ ae:Env} {m m':Nat->Nat} {tm:List V} {tmps:Array Value} (h:cW n nb ρ m tm tmps) (ha:agree n ρ ae) (hn:n<=n') (hb:nb<=il) (hm:∀b,b<nb->m' b=m b):cW n' il ae m' tm tmps:=
 ⟨h.1,λi v hv=>by obtain⟨h1,x,h2,h3⟩:=h.2 i v hv;exact⟨h1.ext ha hn hb,x,h2,h3.ext h1 ha hm⟩⟩
def nE:List V->Nat->V->List V
 |[],_,_=>[]
 |_::r,0,v=>v::r
 |x::r,i+1,v=>x::nE r i v
theorem It:∀(l:List V) (i:Nat) (v:V),nE l i v=l.set i v
 |[],_,_=>rfl
 |_::_,0,_=>rfl
 |_::r,i+1,v=>by simp[nE,It r i v]
def dQ (tm:List V) (d:Option Tmp) (v:V):List V:=match d with|some d=>nE tm d v|none=>tm
theorem cW.put {n nb:Nat} {ρ:Env} {m:Nat->Nat} {tm:List V} {a:Act} {v:V} {x:Value} (h:cW n nb ρ m tm a.tmps) (d:Option Tmp) (hv:v.ok n nb ρ) (hx:v.rel ρ m x):cW n nb ρ m (dQ tm d v) (a.put d x).tmps:=by
 cases d with
 |none=>exact h
 |some d=>
  simp only[dQ,Act.put,It]
  refine⟨by simp[h.1],λi u hu=>?_⟩
  rw[List.getElem?_set]at hu
  by_cases hd:d=i
  ·subst hd
   simp only[if_true]at hu
   split at hu
   ·rename_i hlt
    simp only[Option.some.injEq]at hu
    subst hu
    exact⟨hv,x,by simp[<-h.1,hlt],hx⟩
   ·cases hu
  ·rw[if_neg hd]at hu
   obtain⟨h1,y,h2,h3⟩:=h.2 i u hu
   exact⟨h1,y,by rw[Array.getElem?_setIfInBounds_ne (by omega)];exact h2,h3⟩
def wH:Value->Option A
 | .int k n=>some (.int k (.const n))
 | .bool b=>some (.bool (.lit b))
 | .string s=>cond (Nat.ble s.size 1000000) (some (.str (.const (fT s.data.toList)))) none
 |v=>cond v.oneCell' (some (.con v)) none
theorem Mi {v:Value} {a:A} (h:wH v=some a) (n nb:Nat) (ρ:Env) (m:Nat->Nat):a.ok n nb ρ/\a.den ρ m=v:=by
 unfold wH at h
 split at h
 ·simp only[Option.some.injEq]at h;subst h;exact⟨a6.j1 _ _ _,by simp[A.den,a6.const,I.aH]⟩
 ·simp only[Option.some.injEq]at h;subst h;exact⟨trivial,rfl⟩
 ·rename_i s
  cases hc:Nat.ble s.size 1000000 with
  |false=>simp[hc]at h
  |true=>
   simp only[hc,cond_true,Option.some.injEq]at h
   subst h
   have hl:s.data.toList.length<=iE:=by
    have:=Nat.le_of_ble_eq_true hc
    have h2:s.data.toList.length=s.size:=by simp
    unfold iE;omega
   refine⟨⟨I.ch _ _,by rw[I.aH];exact qz _,by rw[I.aH];exact pa hl⟩,?_⟩
   simp[A.den,I.aH,ri,cJ]
 ·cases hc:v.oneCell' with
  |false=>simp[hc]at h
  |true=>simp only[hc,cond_true,Option.some.injEq]at h;subst h;exact⟨hc,rfl⟩
def qC:List Value->Option (List A)
 |[]=>some []
 |v::r=>match wH v,qC r with|some a,some l=>some (a::l)|_,_=>none
theorem qD:∀{vs:List Value} {l:List A},qC vs=some l->∀(n nb:Nat) (ρ:Env) (m:Nat->Nat),(∀a∈l,A.ok n nb ρ a)/\l.map (A.den ρ m)=vs
 |[],l,h,n,nb,ρ,m=>by simp[qC]at h;subst h;simp
 |v::r,l,h,n,nb,ρ,m=>by
  simp only[qC]at h
  cases h1:wH v with
  |none=>simp[h1]at h
  |some a=>
   cases h2:qC r with
   |none=>simp[h1,h2]at h
   |some l'=>
    simp only[h1,h2,Option.some.injEq]at h
    subst h
    have e1:=Mi h1 n nb ρ m
    have e2:=qD h2 n nb ρ m
    exact⟨λa ha=>by rcases List.mem_cons.1 ha with rfl|ha;exact e1.1;exact e2.1 a ha,by simp[e1.2,e2.2]⟩
def BK:Value->V
 | .agg cs=>match qC cs.toList with|some l=> .w (.agg l)|none=> .any
 | .tuple _=> .any
 |v=>match wH v with|some a=> .w (.one a)|none=> .any
theorem SZ (v:Value) (n nb:Nat) (ρ:Env) (m:Nat->Nat):(BK v).ok n nb ρ/\(BK v).rel ρ m v:=by
 unfold BK
 split
 ·rename_i cs
  cases h:qC cs.toList with
  |none=>exact⟨trivial,trivial⟩
  |some l=>have e:=qD h n nb ρ m;exact⟨e.1,by simp[V.rel,W.den,e.2]⟩
 ·exact⟨trivial,trivial⟩
 ·cases h:wH v with
  |none=>exact⟨trivial,trivial⟩
  |some a=>have e:=Mi h n nb ρ m;exact⟨e.1,by simp[V.rel,W.den,e.2]⟩
def bw (tm:List V):Operand->V
 | .tmp t=>(tm[t]?).getD .any
 | .const v=>BK v
 | .global g=> .w (.one (.gptr g 0))
 | .func f=> .w (.one (.con (.func (.func f) #[] #[])))
theorem bO {n nb:Nat} {ρ:Env} {m:Nat->Nat} {tm:List V} {a:Act} (h:cW n nb ρ m tm a.tmps) (x:Operand):(bw tm x).ok n nb ρ/\(bw tm x).rel ρ m (a.eval x):=by
 cases x with
 |tmp t=>
  simp only[bw,Act.eval]
  cases ht:tm[t]? with
  |none=>exact⟨trivial,trivial⟩
  |some v=>
   obtain⟨h1,y,h2,h3⟩:=h.2 t v ht
   exact⟨h1,by simp only[Option.getD_some];rw[show a.tmps.getD t undef=y by simp[h2]];exact h3⟩
 |const v=>exact SZ v n nb ρ m
 |global g=>exact⟨trivial,rfl⟩
 |func f=>exact⟨rfl,rfl⟩
def fY (P:Program) (t:TypeId):Option Bool:=
 match P.underlying t with|some (.struct _)=>some true|some (.array _ _)=>some true|some _=>some false|none=>none
def dE (P:Program) (t:TypeId):Option Nat:=match P.info? t with|some i=>some i.size|none=>none
theorem lF {P:Program} {t:TypeId} {b:Bool} (h:fY P t=some b) (w:World):(isAgg t).run P w= .ok b w:=by
 unfold fY at h
 cases hu:P.underlying t with
 |none=>simp[hu]at h
 |some d=>cases d<;>simp[hu]at h<;>subst h<;>simp[isAgg,run_underlying hu]
theorem fH {P:Program} {t:TypeId} {k:Nat} (h:dE P t=some k) (w:World):(sizeOf t).run P w= .ok k w:=by
 unfold dE at h
 cases hi:P.info? t with
 |none=>simp[hi]at h
 |some i=>simp[hi]at h;subst h;simp[sizeOf,typeInfo,hi]
def wD (bl:List ar) (gl:c6):A->Option (List A)
 | .ptr b off=>match bl[b]? with|some (cs,_)=>cond (bu cs) (some (cs.drop off)) none|none=>none
 | .gptr g off=>match gl.find? (λp=>Nat.beq p.1 g)with|some (_,cs)=>some ((cs.drop off).map λp=> .int p.1 (.const p.2))|none=>none
 |_=>none
theorem gz (g o j:Nat):(⟨g,o,none⟩:Addr).add j=⟨g,o+j,none⟩:=by unfold Addr.add;split<;>simp_all
theorem Ez {w0:cP} {w:World} {n:Nat} {ρ:Env} {m:Nat->Nat} {bl:List ar} {gl:c6} {p:A} {cs:List A} (hm:Mem w0 ρ m bl w) (hb:b4 n bl.length ρ bl) (hg:bB gl w0) (h:wD bl gl p=some cs):
 ∃g o,p.den ρ m= .pointer (some ⟨g,o,none⟩)/\(∀a∈cs,A.ok n bl.length ρ a)/\∀j a,cs[j]?=some a->w.cell? ⟨g,o+j,none⟩=some (a.den ρ m):=by
 unfold wD at h
 split at h
 ·rename_i b off
  cases aA:bl[b]? with
  |none=>simp[aA]at h
  |some q=>
   obtain⟨C,t⟩:=q
   simp only[aA]at h
   cases iQ:bu C with
   |false=>simp[iQ]at h
   |true=>
   simp only[iQ,cond_true,Option.some.injEq]at h
   subst h
   obtain⟨h1,_,r,_,h2⟩:=hm.dV b C t aA iQ
   refine⟨m b,off,rfl,λa ha=>hb _ (List.mem_of_getElem? aA) a (List.mem_of_mem_drop ha),λj a hj=>?_⟩
   rw[List.getElem?_drop]at hj
   have hlt:off+j<C.length:=(List.getElem?_eq_some_iff.1 hj).1
   simp only[World.cell?,h2,Option.isSome_none,Bool.false_eq_true,if_false,List.getElem?_toArray]
   rw[List.getElem?_append_left (by simpa using hlt),List.getElem?_map,hj];rfl
 ·rename_i g off
  cases hf:gl.find? (λp=>Nat.beq p.1 g)with
  |none=>simp[hf]at h
  |some q=>
   obtain⟨gA,C⟩:=q
   simp only[hf,Option.some.injEq]at h
   subst h
   have pz:gA=g:=by have:=List.find?_some hf;exact Nat.eq_of_beq_eq_true this
   subst pz
   obtain⟨h1,t,rY,h2⟩:=hg gA C (List.mem_of_find?_eq_some hf)
   refine⟨gA,off,rfl,λa ha=>?_,λj a hj=>?_⟩
   ·obtain⟨p,_,rfl⟩:=List.mem_map.1 ha;exact a6.j1 _ _ _
   ·rw[List.getElem?_map,List.getElem?_drop]at hj
    cases hq:C[off+j]? with
    |none=>simp[hq]at hj
    |some q=>
     simp only[hq,Option.map_some,Option.some.injEq]at hj
     subst hj
     have:=hm.ext.cell ⟨gA,off+j,none⟩ h1
     rw[this]
     simp[World.cell?,h2,hq,A.den,a6.const,I.aH]
 ·cases h
def Hm (P:Program) (bl:List ar) (gl:c6) (ty:TypeId) (p:A):M V:=
 match wD bl gl p,fY P ty,dE P ty with
 |some cs,some true,some k=>cond (Nat.ble k cs.length) (pure (.w (.agg (cs.take k)))) fail
 |some (a::_),some false,_=>pure (.w (.one a))
 |_,_,_=>fail
section
variable {S:Nat->List Int->List Int->Prop} {L:V->Env->Prop} {n:Nat} {ρ:Env} {m:Nat->Nat} {bl:List ar} {gl:c6} {w0:cP} {P:Program}
def jf (w0:cP) (m:Nat->Nat) (bl:List ar) (n:Nat) (ρ:Env) (run:World->Result Value) (ae:Env) (n':Nat) (v:V):Prop:=
 v.ok n' bl.length ae/\∃val,v.rel ae m val/\∀w,Mem w0 ρ m bl w->run w= .ok val w
theorem YI (hb:b4 n bl.length ρ bl) (hg:bB gl w0) (hex:∃w,Mem w0 ρ m bl w) (ty:TypeId) (p:A):ak S L (Hm P bl gl ty p) n ρ (jf w0 m bl n ρ λw=>(Instr.loadAt ty (p.den ρ m)).run P w):=by
 obtain⟨qd,hx⟩:=hex
 unfold Hm
 cases hc:wD bl gl p with
 |none=>exact ak.fail
 |some cs=>
  obtain⟨g,o,hp,bf,_⟩:=Ez hx hb hg hc
  have hcell:∀w,Mem w0 ρ m bl w->∀j a,cs[j]?=some a->w.cell? ⟨g,o+j,none⟩=some (a.den ρ m):=λw hw=>by
   obtain⟨gA,bI,r9,_,h'⟩:=Ez hw hb hg hc
   rw[hp]at r9
   simp only[Value.pointer.injEq,Option.some.injEq,Addr.mk.injEq,and_true]at r9
   obtain⟨rfl,rfl⟩:=r9
   exact h'
  cases ha:fY P ty with
  |none=>exact ak.fail
  |some b=>
   cases b with
   |true=>
    cases hs:dE P ty with
    |none=>exact ak.fail
    |some k=>
     refine cZ λhk=>ak.pure ⟨λa h=>bf a (List.mem_of_mem_take h),_,rfl,λw hw=>?_⟩
     have hk:k<=cs.length:=Nat.le_of_ble_eq_true hk
     have hl:=run_loadCells_list (P:=P) w ⟨g,o,none⟩ ((cs.take k).map (A.den ρ m)) λj v hj=>by
      rw[gz]
      rw[List.getElem?_map]at hj
      cases hq:(cs.take k)[j]? with
      |none=>simp[hq]at hj
      |some a=>
       simp only[hq,Option.map_some,Option.some.injEq]at hj
       subst hj
       refine hcell w hw j a ?_
       rw[List.getElem?_take]at hq
       split at hq
       ·exact hq
       ·cases hq
     simp only[List.length_map,List.length_take,Nat.min_eq_left hk]at hl
     simp[Instr.loadAt,Instr.sureAddr,hp,loadVar,lF ha,fH hs,hl,W.den]
   |false=>
    cases cs with
    |nil=>exact ak.fail
    |cons a r=>
     refine ak.pure ⟨bf a (by simp),_,rfl,λw hw=>?_⟩
     have:=hcell w hw 0 a rfl
     simp only[Nat.add_zero]at this
     simp[Instr.loadAt,Instr.sureAddr,hp,loadVar,lF ha,this,W.den]
def kY (k:IntKind):List A->Option (List a6)
 |[]=>some []
 | .int aM x::r=>cond (decide (k=aM)) (match kY k r with|some l=>some (x::l)|none=>none) none
 |_::_=>none
theorem OK {k:IntKind}:∀{cs:List A} {l:List a6},kY k cs=some l->cs=l.map (.int k)
 |[],l,h=>by simp[kY]at h;subst h;rfl
 | .int aM x::r,l,h=>by
  simp only[kY]at h
  by_cases hk:k=aM
  ·subst hk
   simp only[decide_true,cond_true]at h
   cases h1:kY k r with
   |none=>simp[h1]at h
   |some l'=>simp only[h1,Option.some.injEq]at h;subst h;simp[OK h1]
  ·simp[hk]at h
 | .bool _::_,_,h=>by simp[kY]at h
 | .ptr .. ::_,_,h=>by simp[kY]at h
 | .kj .. ::_,_,h=>by simp[kY]at h
 | .gptr .. ::_,_,h=>by simp[kY]at h
 | .slc .. ::_,_,h=>by simp[kY]at h
 | .con _::_,_,h=>by simp[kY]at h
 | .str _::_,_,h=>by simp[kY]at h
 | .rows .. ::_,_,h=>by simp[kY]at h
 | .sl .. ::_,_,h=>by simp[kY]at h
 | .ep .. ::_,_,h=>by simp[kY]at h
def xZ:List a6->Int
 |[]=>0
 |[x]=>x.lo
 |x::r=>min x.lo (xZ r)
def xY:List a6->Int
 |[]=>0
 |[x]=>x.hi
 |x::r=>max x.hi (xY r)
theorem Pm {n:Nat} {ρ:Env}:∀{l:List a6},(∀x∈l,x.ok n ρ)->∀x∈l,xZ l<=x.l.den ρ/\x.l.den ρ<=xY l
 |[],_,x,hx=>by simp at hx
 |[y],h,x,hx=>by
  simp at hx;subst hx
  have:=(h x (by simp)).2
  exact this
 |y::z::r,h,x,hx=>by
  have ih:=Pm (l:=z::r) (λx hx=>h x (List.mem_cons_of_mem _ hx))
  simp only[xZ,xY]
  rcases List.mem_cons.1 hx with rfl|hx
  ·have:=(h x (by simp)).2;omega
  ·have:=ih x hx;omega
def kindOf (P:Program) (ty:TypeId):Option IntKind:=match P.underlying ty with|some (.int k)=>some k|_=>none
def pS:List Int->Int
 |[]=>0
 |[x]=>x
 |x::r=>cond (decide (x<=pS r)) x (pS r)
def pR:List Int->Int
 |[]=>0
 |[x]=>x
 |x::r=>cond (decide (pR r<=x)) x (pR r)
theorem Pn:∀(l:List Int),∀z∈l,pS l<=z/\z<=pR l
 |[],_,h=>by cases h
 |[x],z,h=>by simp at h;subst h;simp[pS,pR]
 |x::y::r,z,h=>by
  unfold pS pR
  have ih:=Pn (y::r)
  rcases List.mem_cons.1 h with rfl|h
  ·refine⟨?_,?_⟩
   ·cases hc:decide (z<=pS (y::r))with
    |true=>simp
    |false=>simp at hc⊢;omega
   ·cases hc:decide (pR (y::r)<=z)with
    |true=>simp
    |false=>simp at hc⊢;omega
  ·have:=ih z h
   refine⟨?_,?_⟩
   ·cases hc:decide (x<=pS (y::r))with
    |true=>simp at hc⊢;omega
    |false=>simp;exact this.1
   ·cases hc:decide (pR (y::r)<=x)with
    |true=>simp at hc⊢;omega
    |false=>simp;exact this.2
def Is (P:Program) (bl:List ar) (ty:TypeId) (b off:Nat) (aJ:a6):M V:=λn c=>
 match bl[b]?,kindOf P ty with
 |some (cs,_),some k=>match kY k ((cs.drop off).take (aJ.hi.toNat+1))with
  |some l=>cond (Nat.beq l.length (aJ.hi.toNat+1)&&decide (0<=aJ.lo)&&bu cs) (.AH n (l.map (·.l)) aJ.l (xZ l) (xY l) (c (.w (.one (.int k ⟨.var n,xZ l,xY l⟩))) (n+1))) .stuck
  |none=> .stuck
 |_,_=> .stuck
theorem ac1 (hb:b4 n bl.length ρ bl) (ty:TypeId) (b off:Nat) {aJ:a6} (zG:aJ.ok n ρ):ak S L (Is P bl ty b off aJ) n ρ (jf w0 m bl n ρ λw=>(Instr.loadAt ty ((A.kj b off aJ).den ρ m)).run P w):=by
 intro Q8 c hk
 unfold Is at hk
 cases aA:bl[b]? with
 |none=>simp[aA,T.holds]at hk
 |some q=>
  obtain⟨cs,t⟩:=q
  cases eM:kindOf P ty with
  |none=>simp[aA,eM,T.holds]at hk
  |some k=>
   cases hi:kY k ((cs.drop off).take (aJ.hi.toNat+1))with
   |none=>simp[aA,eM,hi,T.holds]at hk
   |some l=>
    cases hc:(Nat.beq l.length (aJ.hi.toNat+1)&&decide (0<=aJ.lo)&&bu cs)with
    |false=>simp[aA,eM,hi,hc,T.holds]at hk
    |true=>
     simp only[aA,eM,hi,hc,cond_true,T.holds]at hk
     simp only[Bool.and_eq_true,decide_eq_true_eq]at hc
     obtain⟨hc,hq⟩:=hc
     have hlen:=Nat.eq_of_beq_eq_true hc.1
     have e:=OK hi
     have wB:=zG.2
     have hlt:(aJ.l.den ρ).toNat<l.length:=by omega
     have Wy:∀x∈l,x.ok n ρ:=λx hx=>by
      have:A.int k x∈(cs.drop off).take (aJ.hi.toNat+1):=by rw[e];exact List.mem_map_of_mem hx
      exact hb _ (List.mem_of_getElem? aA) _ (List.mem_of_mem_drop (List.mem_of_mem_take this))
     have hz:((l.map (·.l)).map (·.den ρ)).getD (aJ.l.den ρ).toNat 0=(l[(aJ.l.den ρ).toNat]).l.den ρ:=by
      simp[List.getD,hlt]
     have hS:=Pm Wy _ (List.getElem_mem hlt)
     refine⟨_,n+1,_,Nat.le_succ _,agree.cF _ _ _,(show jf w0 m bl n ρ _ (cF ρ n (((l.map (·.l)).map (·.den ρ)).getD (aJ.l.den ρ).toNat 0)) (n+1) (.w (.one (.int k ⟨.var n,xZ l,xY l⟩))) from⟨⟨I.dN (Nat.lt_succ_self n),?_,?_⟩,_,rfl,?_⟩),hk _ (by rw[hz];exact hS.1) (by rw[hz];exact hS.2) rfl⟩
     ·simp only[I.bV,hh,hz];exact hS.1
     ·simp only[I.bV,hh,hz];exact hS.2
     ·intro w hw
      obtain⟨_,_,r,_,h2⟩:=hw.dV b cs t aA hq
      have hu:fY P ty=some false:=by
       unfold kindOf at eM
       unfold fY
       cases hq:P.underlying ty with
       |none=>simp[hq]at eM
       |some d=>cases d<;>simp[hq]at eM<;>rfl
      have cx:cs[off+(aJ.l.den ρ).toNat]?=some (.int k (l[(aJ.l.den ρ).toNat])):=by
       have h3:((cs.drop off).take (aJ.hi.toNat+1))[(aJ.l.den ρ).toNat]?=some (.int k (l[(aJ.l.den ρ).toNat])):=by rw[e];simp[hlt]
       rw[List.getElem?_take,if_pos (by omega),List.getElem?_drop]at h3
       exact h3
      have hcell:w.cell? ⟨m b,off+(aJ.l.den ρ).toNat,none⟩=some (.int k ((l[(aJ.l.den ρ).toNat]).l.den ρ)):=by
       have Wk:off+(aJ.l.den ρ).toNat<cs.length:=(List.getElem?_eq_some_iff.1 cx).1
       simp only[World.cell?,h2,Option.isSome_none,Bool.false_eq_true,if_false,List.getElem?_toArray]
       rw[List.getElem?_append_left (by simpa using Wk),List.getElem?_map,cx];rfl
      simp only[W.den,A.den,I.bV,hh,hz];simp[Instr.loadAt,Instr.sureAddr,loadVar,lF hu,hcell]
def Ir (P:Program) (gl:c6) (ty:TypeId) (g off:Nat) (aJ:a6):M V:=λn c=>
 match gl.find? (λp=>Nat.beq p.1 g),kindOf P ty with
 |some (_,cs),some k=>cond (((cs.drop off).take (aJ.hi.toNat+1)).all (λp=>decide (p.1=k))&&Nat.beq ((cs.drop off).take (aJ.hi.toNat+1)).length (aJ.hi.toNat+1)&&decide (0<=aJ.lo))
  (.AH n (((cs.drop off).take (aJ.hi.toNat+1)).map λp=> .const p.2) aJ.l (pS (((cs.drop off).take (aJ.hi.toNat+1)).map (·.2))) (pR (((cs.drop off).take (aJ.hi.toNat+1)).map (·.2)))
    (c (.w (.one (.int k ⟨.var n,pS (((cs.drop off).take (aJ.hi.toNat+1)).map (·.2)),pR (((cs.drop off).take (aJ.hi.toNat+1)).map (·.2))⟩))) (n+1))) .stuck
 |_,_=> .stuck
theorem ac0 (hg:bB gl w0) (ty:TypeId) (g off:Nat) {aJ:a6} (zG:aJ.ok n ρ):ak S L (Ir P gl ty g off aJ) n ρ (jf w0 m bl n ρ λw=>(Instr.loadAt ty ((A.wT g off aJ).den ρ m)).run P w):=by
 intro Q8 c hk
 unfold Ir at hk
 cases hf:gl.find? (λp=>Nat.beq p.1 g)with
 |none=>simp[hf,T.holds]at hk
 |some q=>
  obtain⟨gA,cs⟩:=q
  have pz:gA=g:=by have:=List.find?_some hf;exact Nat.eq_of_beq_eq_true this
  subst pz
  cases eM:kindOf P ty with
  |none=>simp[hf,eM,T.holds]at hk
  |some k=>
   simp only[hf,eM]at hk
   generalize lq:(cs.drop off).take (aJ.hi.toNat+1)=C at hk
   cases hc:(C.all (λp=>decide (p.1=k))&&Nat.beq C.length (aJ.hi.toNat+1)&&decide (0<=aJ.lo))with
   |false=>simp[hc,T.holds]at hk
   |true=>
    simp only[hc,cond_true,T.holds]at hk
    simp only[Bool.and_eq_true,decide_eq_true_eq]at hc
    obtain⟨⟨c1,bb⟩,bJ⟩:=hc
    have bb:=Nat.eq_of_beq_eq_true bb
    have wB:=zG.2
    have hlt:(aJ.l.den ρ).toNat<C.length:=by omega
    have hz:((C.map λp=>I.const p.2).map (·.den ρ)).getD (aJ.l.den ρ).toNat 0=(C[(aJ.l.den ρ).toNat]).2:=by
     simp[List.getD,hlt,I.aH]
    have hS:=Pn (C.map (·.2)) _ (List.mem_map_of_mem (List.getElem_mem hlt))
    refine⟨_,n+1,_,Nat.le_succ _,agree.cF _ _ _,(show jf w0 m bl n ρ _ (cF ρ n (((C.map λp=>I.const p.2).map (·.den ρ)).getD (aJ.l.den ρ).toNat 0)) (n+1) (.w (.one (.int k ⟨.var n,pS (C.map (·.2)),pR (C.map (·.2))⟩))) from⟨⟨I.dN (Nat.lt_succ_self n),?_,?_⟩,_,rfl,?_⟩),hk _ (by rw[hz];exact hS.1) (by rw[hz];exact hS.2) rfl⟩
    ·simp only[I.bV,hh,hz];exact hS.1
    ·simp only[I.bV,hh,hz];exact hS.2
    ·intro w hw
     have hu:fY P ty=some false:=by
      unfold kindOf at eM
      unfold fY
      cases hq:P.underlying ty with
      |none=>simp[hq]at eM
      |some d=>cases d<;>simp[hq]at eM<;>rfl
     have hP:(C[(aJ.l.den ρ).toNat]).1=k:=by simpa using List.all_eq_true.1 c1 _ (List.getElem_mem hlt)
     have cx:cs[off+(aJ.l.den ρ).toNat]?=some (C[(aJ.l.den ρ).toNat]):=by
      have h3:C[(aJ.l.den ρ).toNat]?=some (C[(aJ.l.den ρ).toNat]):=List.getElem?_eq_getElem hlt
      have h4:C[(aJ.l.den ρ).toNat]?=cs[off+(aJ.l.den ρ).toNat]?:=by rw[<-lq,List.getElem?_take,if_pos (by omega),List.getElem?_drop]
      rw[<-h4,h3]
     obtain⟨Cj,t,rY,Cf⟩:=hg gA cs (List.mem_of_find?_eq_some hf)
     have hcell:w.cell? ⟨gA,off+(aJ.l.den ρ).toNat,none⟩=some (.int k (C[(aJ.l.den ρ).toNat]).2):=by
      rw[hw.ext.cell _ Cj]
      simp only[World.cell?,Cf,Option.isSome_none,Bool.false_eq_true,if_false,List.getElem?_toArray]
      rw[List.getElem?_map,cx,Option.map_some,hP]
     simp only[W.den,A.den,I.bV,hh,hz];simp[Instr.loadAt,Instr.sureAddr,loadVar,lF hu,hcell]
end
end Go.bx
namespace Go.bx
open M
abbrev dm:=FuncId->Option (List ar->List V->M V)
def s3 (P:Program) (o:Oper) (a:Act) (w:World) (val:Value):Prop:=
 (execOp a.eval o).run P w= .ok (.value val) w∨
 ∃f args,(execOp a.eval o).run P w= .ok (.enter f args) w/\Calls P f args w λe lh=>e= .returned val/\w.Extends lh
def yv (P:Program) (f:FuncId) (args:Array Value) (w:World) (val:Value):Prop:=
 (callFunc f args).run P w= .ok (.value val) w∨
 ((callFunc f args).run P w= .ok (.enter f args) w/\Calls P f args w λe lh=>e= .returned val/\w.Extends lh)
def dn (ρ:Env) (m:Nat->Nat):List V->List Value->Prop
 |[],[]=>True
 |v::r,x::s=>v.rel ρ m x/\dn ρ m r s
 |_,_=>False
def eP (S:Nat->List Int->List Int->Prop) (P:Program) (gl:c6) (w0:cP) (cal:dm):Prop:=
 ∀f g,cal f=some g->∀(L:V->Env->Prop) (n:Nat) (ρ:Env) (m:Nat->Nat) (bl:List ar) (vs:List V) (xs:List Value),b4 n bl.length ρ bl->(∃w,Mem w0 ρ m bl w)->(∀v∈vs,v.ok n bl.length ρ)->dn ρ m vs xs->
  ak S L (g bl vs) n ρ λae n' v=>v.ok n' bl.length ae/\∃val,v.rel ae m val/\∀w,Mem w0 ρ m bl w->yv P f xs.toArray w val
def y2 (P:Program) (s:TypeId) (f:Nat):Option Field:=match P.underlying s with|some (.struct eo)=>eo[f]?|_=>none
def nf (P:Program) (t:TypeId):Option (Nat×TypeId):=match P.underlying t with|some (.array n e)=>some (n,e)|_=>none
def fI (P:Program) (t:TypeId):Option TypeId:=match P.underlying t with|some (.slice e)=>some e|_=>none
def Da (P:Program) (t:TypeId) (l:List A) (off:Nat):M V:=
 match fY P t,dE P t with
 |some true,some k=>pure (.w (.agg ((l.drop off).take k)))
 |some false,_=>match l[off]? with|some a=>pure (.w (.one a))|none=>fail
 |_,_=>fail
def GU (P:Program) (t:TypeId) (x:V) (aJ:a6):M V:=
 match x with
 | .w (.one (.ptr b off))=>match nf P t with
  |some (len,e)=>match dE P e with
   |some s=>match aJ.l.cT with
    |some i=>cond (decide (0<=i)&&decide (i<len)) (pure (.w (.one (.ptr b (off+i.toNat*s))))) fail
    |none=>cond (Nat.beq s 1&&decide (0<=aJ.lo)&&decide (aJ.hi<len)) (pure (.w (.one (.kj b off aJ)))) fail
   |none=>fail
  |none=>fail
 | .w (.one (.gptr g off))=>match nf P t with
  |some (len,e)=>match dE P e with
   |some s=>match aJ.l.cT with
    |some i=>cond (decide (0<=i)&&decide (i<len)) (pure (.w (.one (.gptr g (off+i.toNat*s))))) fail
    |none=>cond (Nat.beq s 1) (bind (dY 74 [aJ.l,.const len]) λ_=>pure (.w (.one (.wT g off ⟨aJ.l,0,(len:Int)-1⟩)))) fail
   |none=>fail
  |none=>fail
 | .w (.one (.slc b off len _))=>match fI P t with
  |some e=>match dE P e with
   |some s=>match aJ.l.cT with
    |some i=>cond (decide (0<=i)&&decide (i<len)) (pure (.w (.one (.ptr b (off+i.toNat*s))))) fail
    |none=>cond (Nat.beq s 1&&decide (0<=aJ.lo)&&decide (aJ.hi<len)) (pure (.w (.one (.kj b off aJ)))) fail
   |none=>fail
  |none=>fail
 | .k7 b len _=>match fI P t with
  |some e=>match dE P e with
   |some s=>match aJ.l.cT with
    |some i=>cond (decide (0<=i)&&decide (i<len)) (pure (.w (.one (.ptr b (i.toNat*s))))) fail
    |none=>fail
   |none=>fail
  |none=>fail
 |_=>fail
def q8:List V->Option (List A)
 |[]=>some []
 | .w (.one a)::r=>match q8 r with|some l=>some (a::l)|none=>none
 |_::_=>none
def rV:List A->List A->Option aR
 |[],[]=>some (.lit true)
 | .int k x::r,.int aM y::r'=>cond (decide (k=aM)) (match rV r r' with|some b=>some (.mkAnd (.mkEq x y) b)|none=>none) none
 |_,_=>none
def E2 (P:Program) (t:TypeId) (x y:List A):Option aR:=
 match nf P t with
 |some (len,e)=>match kindOf P e,dE P e with
  |some _,some 1=>cond (Nat.beq x.length len&&Nat.beq y.length len&& !P.eqGuardType P.depth t) (rV x y) none
  |_,_=>none
 |none=>none
def wO (P:Program):Nat->List Field->Bool
 |_,[]=>true
 |i,f::r=>(f.name != "_")&&Nat.beq f.offset i&&wO P (i+1) r
noncomputable def nh (P:Program):List Field->List A->List A->M aR
 |[],[],[]=>pure (.lit true)
 |f::eo,.int k a::xs,.int aM b::fJ=>match kindOf P f.type with
  |some k2=>cond (decide (k=aM)) (bind (nh P eo xs fJ) λr=>pure (.mkAnd (.mkEq a b) r)) fail
  |none=>fail
 |f::eo,.str a::xs,.str b::fJ=>match P.underlying f.type with
  |some .string=>bind (dz 4 [a,b] 0 1) λl=>bind (nh P eo xs fJ) λr=>pure (.mkAnd (.mkEq ⟨l,0,1⟩ (.const 1)) r)
  |_=>fail
 |_,_,_=>fail
noncomputable def BQ (P:Program) (g:TypeId->List A->List A->M aR):Nat->List Field->List A->List A->M aR
 |_,[],_,_=>pure (.lit true)
 |o,f::eo,x,y=>match dE P f.type with
  |some s=>cond ((f.name != "_")&&Nat.beq f.offset o) (bind (g f.type (x.take s) (y.take s)) λb=>bind (BQ P g (o+s) eo (x.drop s) (y.drop s)) λr=>pure (.mkAnd b r)) fail
  |none=>fail
noncomputable def wM (P:Program):Nat->TypeId->List A->List A->M aR
 |0,_,_,_=>fail
 |d+1,t,x,y=>match P.underlying t with
  |some (.int k)=>match x,y with
   |[.int k1 a],[.int k2 b]=>cond (decide (k1=k2)) (pure (.mkEq a b)) fail
   |_,_=>fail
  |some .string=>match x,y with
   |[.str a],[.str b]=>bind (dz 4 [a,b] 0 1) λl=>pure (.mkEq ⟨l,0,1⟩ (.const 1))
   |_,_=>fail
  |some .bool=>match x,y with
   |[.bool a],[.bool b]=>pure (.mkIff a b)
   |_,_=>fail
  |some (.struct eo)=>cond (!P.stoodInHeld t) (BQ P (wM P d) 0 eo.toList x y) fail
  |_=>fail
noncomputable def BR (P:Program) (t:TypeId) (x y:List A):M aR:=
 match P.underlying t with
 |some (.struct eo)=>cond (wO P 0 eo.toList&& !P.stoodInHeld t&& !P.eqGuardType P.depth t) (cond (eo.toList.all λf=>match P.underlying f.type with|some (.int _)=>true|some .string=>true|_=>false) (nh P eo.toList x y) (wM P 8 t x y))
  (cond (!P.eqGuardType P.depth t) (wM P 8 t x y) fail)
 |_=>fail
noncomputable def II (op:BinOp) (a b:I):M V:=
 match op with
 | .add=>bind (dY 3 [a,b]) λ_=>bind (dz 3 [a,b] 0 gn) λl=>pure (.w (.one (.str l)))
 | .eql=>bind (dz 4 [a,b] 0 1) λl=>pure (.w (.one (.bool (.mkEq ⟨l,0,1⟩ (.const 1)))))
 | .neq=>bind (dz 4 [a,b] 0 1) λl=>pure (.w (.one (.bool (.mkNot (.mkEq ⟨l,0,1⟩ (.const 1))))))
 | .lss=>bind (dz 5 [a,b] 0 1) λl=>pure (.w (.one (.bool (.mkEq ⟨l,0,1⟩ (.const 1)))))
 | .geq=>bind (dz 5 [a,b] 0 1) λl=>pure (.w (.one (.bool (.mkNot (.mkEq ⟨l,0,1⟩ (.const 1))))))
 |_=>fail
def Qw (s:I):M V:=bind (dz 0 [s] 0 9223372036854775807) λl=>pure (.w (.one (.int .i64 ⟨l,0,9223372036854775807⟩)))
def Qv (s i:I):M V:=bind (dY 1 [s,i]) λ_=>bind (dz 1 [s,i] 0 255) λl=>pure (.w (.one (.int .u8 ⟨l,0,255⟩)))
noncomputable def Dz (s a b:I):M V:=bind (dY 2 [s,a,b]) λ_=>bind (dz 2 [s,a,b] 0 gn) λl=>pure (.w (.one (.str l)))
def l8 (v:V):Option I:=match v with| .w (.one (.int _ a))=>some a.l|_=>none
noncomputable def IJ (tm:List V) (s:I) (lo hi:Option Operand):M V:=
 match(match lo with|none=>some (I.const 0)|some x=>l8 (bw tm x))with
 |none=>fail
 |some a=>match hi with
  |none=>bind (dz 0 [s] 0 9223372036854775807) λb=>Dz s a b
  |some y=>match l8 (bw tm y)with
   |some b=>Dz s a b
   |none=>fail
noncomputable def LV (P:Program) (op:BinOp) (t:TypeId) (x y:V):M V:=
 match x,y with
 | .w (.one (.int k a)),.w (.one (.int aM b))=>bind (Ee op k a aM b) λr=>pure (.w (.one r))
 | .w (.agg a),.w (.agg b)=>match op,E2 P t a b with
  | .eql,some e=>pure (.w (.one (.bool e)))
  | .neq,some e=>pure (.w (.one (.bool (.mkNot e))))
  | .eql,none=>bind (BR P t a b) λe=>pure (.w (.one (.bool e)))
  | .neq,none=>bind (BR P t a b) λe=>pure (.w (.one (.bool (.mkNot e))))
  |_,_=>fail
 | .w (.one (.str a)),.w (.one (.str b))=>II op a b
 | .w (.one (.bool a)),.w (.one (.bool b))=>match op,P.underlying t with
  | .eql,some .bool=>pure (.w (.one (.bool (.mkIff a b))))
  | .neq,some .bool=>pure (.w (.one (.bool (.mkNot (.mkIff a b)))))
  |_,_=>fail
 |_,_=>fail
def QN (op:UnOp) (x:V):M V:=
 match op,x with
 | .not,.w (.one (.bool b))=>pure (.w (.one (.bool (.mkNot b))))
 | .xor,.w (.one (.int k a))=>cond (!k.signed&&decide (0<=a.lo)&&decide (a.hi<two k)) (pure (.w (.one (.int k ⟨(I.const (two k-1)).sub a.l,two k-1-a.hi,two k-1-a.lo⟩)))) fail
 | .neg,.w (.one (.int k a))=>bind (qc k ⟨a.l.smul (-1),-a.hi,-a.lo⟩) λr=>pure (.w (.one (.int k r)))
 |_,_=>fail
def Mj (P:Program) (src dst:TypeId) (x:V):M V:=
 match P.underlying src,P.underlying dst,x with
 |some _,some .string,.w (.one (.int _ a))=>match a.l.cT with
  |some c=>cond (Nat.ble (Utf8.encode c).size 1000) (pure (.w (.one (.str (.const (fT (Utf8.encode c).data.toList)))))) fail
  |none=>fail
 |_,_,_=>match P.underlying src,kindOf P dst,x with
 |some _,some k,.w (.one (.int _ a))=>bind (qc k a) λr=>pure (.w (.one (.int k r)))
 |_,_,_=>fail
def BJ (v:V):Option Int:=match v with| .w (.one (.int _ a))=>a.l.cT|_=>none
def C4 (tm:List V):Option Operand->Option (Option Int)
 |none=>some none
 |some x=>match BJ (bw tm x)with|some c=>some (some c)|none=>none
def Qo (P:Program) (t:TypeId) (x:V) (lo hi:Option Int):M V:=
 match x,nf P t with
 | .w (.one (.ptr b off)),some (n,e)=>match dE P e with
  |some s=>cond (decide (0<=lo.getD 0)&&decide (lo.getD 0<=hi.getD n)&&decide (hi.getD n<=n)&&decide (lo.getD 0<n)) (pure (.w (.one (.slc b (off+(lo.getD 0).toNat*s) ((hi.getD n).toNat-(lo.getD 0).toNat) (n-(lo.getD 0).toNat))))) fail
  |none=>fail
 | .w (.one (.slc b off len cap)),none=>match fI P t with
  |some e=>match dE P e with
   |some s=>cond (decide (0<=lo.getD 0)&&decide (lo.getD 0<=hi.getD len)&&decide (hi.getD len<=cap)&&decide (lo.getD 0<cap)) (pure (.w (.one (.slc b (off+(lo.getD 0).toNat*s) ((hi.getD len).toNat-(lo.getD 0).toNat) (cap-(lo.getD 0).toNat))))) fail
   |none=>fail
  |none=>fail
 |_,_=>fail
def Pt (x:V):M V:=
 match x with
 | .w (.one (.ptr b o))=>pure (.w (.one (.ptr b o)))
 | .w (.one (.kj b o i))=>pure (.w (.one (.kj b o i)))
 | .w (.one (.gptr g o))=>pure (.w (.one (.gptr g o)))
 |_=>fail
def W.cells:W->List A
 | .one a=>[a]
 | .agg l=>l
def jW (P:Program) (t:TypeId):Option (List A):=
 match P.info? t with
 |some i=>match i.zero with
  |some z=>qC z.cells.toList
  |none=>none
 |none=>none
def pq (place:Nat->Option (Nat×Nat)):List A->List (Nat×V)->Option (List A)
 |cells,[]=>some cells
 |cells,(i,.w u)::r=>match place i with
  |some (off,size)=>cond (Nat.beq u.cells.length size&&Nat.ble (off+size) cells.length) (pq place (cells.take off++u.cells++cells.drop (off+size)) r) none
  |none=>none
 |_,_::_=>none
def El (P:Program) (t:TypeId) (parts:List (Nat×V)):Option (List A):=
 match jW P t,P.underlying t with
 |some z,some (.array _ e)=>match dE P e with
  |some s=>pq (λi=>some (i*s,s)) z parts
  |none=>none
 |some z,some (.struct fields)=>match fields.toList.mapM (λf=>(P.info? f.type).map λi=>(f.offset,i.size))with
  |some places=>pq (places.toArray[·]?) z parts
  |none=>none
 |_,_=>none
noncomputable def HV (P:Program) (cal:dm) (gl:c6) (bl:List ar) (tm:List V) (o:Oper):M V:=
 match o.op with
 | .move x| .assign x=>pure (bw tm x)
 | .load t x=>match bw tm x with
  | .w (.one (.kj b off aJ))=>Is P bl t b off aJ
  | .w (.one (.wT g off aJ))=>Ir P gl t g off aJ
  | .w (.one p)=>Hm P bl gl t p
  |_=>fail
 | .nilCheck x=>Pt (bw tm x)
 | .pick c x y=>match bw tm c with
  | .w (.one (.bool (.lit v)))=>pure (cond v (bw tm x) (bw tm y))
  |_=>fail
 | .binOp op t x y _=>LV P op t (bw tm x) (bw tm y)
 | .unOp op _ x=>QN op (bw tm x)
 | .convert s d x=>Mj P s d (bw tm x)
 | .indexAddr t x aJ=>match bw tm aJ with
  | .w (.one (.int _ i))=>GU P t (bw tm x) i
  |_=>fail
 | .index t x aJ=>match bw tm x with
  | .w (.one (.str s))=>match P.underlying t,l8 (bw tm aJ)with
   |some .string,some i=>Qv s i
   |_,_=>fail
  |_=>match bw tm x,BJ (bw tm aJ),nf P t with
   | .w (.agg l),some i,some (len,e)=>match dE P e with
    |some s=>cond (decide (0<=i)&&decide (i<len)) (Da P e l (i.toNat*s)) fail
    |none=>fail
   |_,_,_=>fail
 | .fieldAddr s x f=>match bw tm x,y2 P s f with
  | .w (.one (.ptr b off)),some fd=>match dE P fd.type with
   |some (_+1)=>pure (.w (.one (.ptr b (off+fd.offset))))
   |_=>fail
  |_,_=>fail
 | .field s x f=>match bw tm x,y2 P s f with
  | .w (.agg l),some fd=>Da P fd.type l fd.offset
  |_,_=>fail
 | .extract x i=>match bw tm x with
  | .eF l=>match l[i]? with|some u=>pure (.w u)|none=>fail
  |_=>fail
 | .slice t x lo hi none=>match bw tm x,P.underlying t with
  | .w (.one (.str s)),some .string=>IJ tm s lo hi
  |_,_=>match C4 tm lo,C4 tm hi with
   |some l,some h=>Qo P t (bw tm x) l h
   |_,_=>fail
 | .call c=>match c.callee with
  | .value (.func f)=>match cal f with
   |some g=>g bl (c.args.toList.map (bw tm))
   |none=>fail
  | .builtin .len=>match c.args.toList,c.argTypes.toList with
   |[x],[t]=>match bw tm x,P.underlying t with
    | .w (.one (.str s)),some .string=>Qw s
    |_,_=>match bw tm x,fI P t with
     | .w (.one (.slc _ _ len _)),some _=>pure (.w (.one (.int .i64 (.const len))))
     | .k7 _ len _,some _=>pure (.w (.one (.int .i64 (.const len))))
     |_,_=>fail
   |_,_=>fail
  |_=>fail
 | .makeFunc (.func f) first gp=>match first.toList,q8 (gp.toList.map (bw tm))with
  |[],some l=>pure (.ll f l)
  |_,_=>fail
 | .build t parts=>match El P t (parts.toList.map λp=>(p.1,bw tm p.2))with
  |some l=>pure (.w (.agg l))
  |none=>fail
 | .sliceToArrayPointer t x=>match bw tm x,nf P t with
  | .k7 b len _,some (k,_)=>cond (Nat.ble k len) (pure (.w (.one (.ptr b 0)))) fail
  | .w (.one (.slc b off len _)),some (k,_)=>cond (Nat.ble k len) (pure (.w (.one (.ptr b off)))) fail
  |_,_=>fail
 |_=>fail
section
variable {S:Nat->List Int->List Int->Prop} {L:V->Env->Prop} {n:Nat} {ρ:Env} {m:Nat->Nat} {bl:List ar} {gl:c6} {w0:cP} {P:Program} {tm:List V} {a:Act}
def je (w0:cP) (m:Nat->Nat) (bl:List ar) (n:Nat) (ρ:Env) (P:Program) (o:Oper) (a:Act) (ae:Env) (n':Nat) (v:V):Prop:=
 v.ok n' bl.length ae/\∃val,v.rel ae m val/\∀w,Mem w0 ρ m bl w->s3 P o a w val
theorem je.of_run {o:Oper} {s:Sem Value} {ae:Env} {n':Nat} {v:V} (he:execOp a.eval o=(do pure (Next.value (<-s)))) (h:jf w0 m bl n ρ (λw=>s.run P w) ae n' v):je w0 m bl n ρ P o a ae n' v:=by
 obtain⟨h1,val,h2,h3⟩:=h
 exact⟨h1,val,h2,λw hw=> .inl (by rw[he];simp[h3 w hw])⟩
theorem W.BG {n nb:Nat} {ρ:Env} {m:Nat->Nat} (u:W) (hu:u.ok n nb ρ):(u.den ρ m).cells=(u.cells.map (A.den ρ m)).toArray:=by
 cases u with
 |one a=>
  have:=A.C2 (m:=m) hu
  simp only[W.den,W.cells,List.map_cons,List.map_nil]
  generalize A.den ρ m a=v at*
  cases v<;>first|rfl|simp[Value.oneCell']at this
 |agg l=>simp[W.den,W.cells,Value.cells]
theorem W.wE {n nb:Nat} {ρ:Env} {u:W} (hu:u.ok n nb ρ):∀a∈u.cells,A.ok n nb ρ a:=by
 cases u with
 |one a=>intro x hx;simp[W.cells]at hx;subst hx;exact hu
 |agg l=>exact hu
def Bh (n nb:Nat) (ρ:Env) (m:Nat->Nat):List (Nat×V)->List (Nat×Value)->Prop
 |[],[]=>True
 |p::r,q::s=>(p.1=q.1/\V.ok n nb ρ p.2/\V.rel ρ m p.2 q.2)/\Bh n nb ρ m r s
 |_,_=>False
theorem MU (off:Nat):∀(src:List Value) (dst:Array Value) (k:Nat),off+k+src.length<=dst.size->
 ((src.zipIdx k).foldl (λcs (c,j)=>cs.setIfInBounds (off+j) c) dst)=(dst.toList.take (off+k)++src++dst.toList.drop (off+k+src.length)).toArray
 |[],dst,k,h=>by simp
 |c::src,dst,k,h=>by
  simp only[List.length_cons]at h
  rw[List.zipIdx_cons,List.foldl_cons,MU off src _ (k+1) (by simp;omega)]
  congr 1
  simp only[Array.toList_setIfInBounds,List.length_cons]
  have h1:off+k<dst.toList.length:=by simp;omega
  rw[List.take_set,show off+(k+1)=off+k+1 by omega,List.drop_set_of_lt (by omega),List.take_add_one,List.getElem?_eq_getElem h1]
  rw[show off+k+1+src.length=off+k+(src.length+1) by omega]
  simp only[Option.toList_some]
  rw[List.set_append_right _ _ (by simp;omega)]
  have hm:min (off+k) dst.size=off+k:=Nat.min_eq_left (by omega)
  simp[hm]
theorem BW {n nb:Nat} {ρ:Env} {m:Nat->Nat} {place:Nat->Option (Nat×Nat)}:∀{parts:List (Nat×V)} {vals:List (Nat×Value)} {cells l:List A},pq place cells parts=some l->(∀a∈cells,A.ok n nb ρ a)->
 Bh n nb ρ m parts vals->(∀a∈l,A.ok n nb ρ a)/\Instr.fill place (cells.map (A.den ρ m)).toArray vals=some (l.map (A.den ρ m)).toArray
 |[],[],cells,l,h,hc,_=>by simp[pq]at h;subst h;exact⟨hc,rfl⟩
 |(i,.w u)::r,(Ae,x)::s,cells,l,h,hc,⟨⟨e1,e2,e3⟩,hr⟩=>by
  simp only at e1;subst e1
  simp only[V.rel]at e3
  have e3:x=u.den ρ m:=e3
  subst e3
  simp only[pq]at h
  cases hp:place i with
  |none=>simp[hp]at h
  |some q=>
   obtain⟨off,size⟩:=q
   simp only[hp]at h
   cases hq:(Nat.beq u.cells.length size&&Nat.ble (off+size) cells.length)with
   |false=>simp[hq]at h
   |true=>
    simp only[hq,cond_true]at h
    simp only[Bool.and_eq_true]at hq
    have q1:=Nat.eq_of_beq_eq_true hq.1
    have aP:=Nat.le_of_ble_eq_true hq.2
    have r3:=W.BG (m:=m) u e2
    obtain⟨g1,g2⟩:=BW (m:=m) h (λa ha=>by
     rcases List.mem_append.1 ha with ha|ha
     ·rcases List.mem_append.1 ha with ha|ha
      ·exact hc a (List.mem_of_mem_take ha)
      ·exact W.wE e2 a ha
     ·exact hc a (List.mem_of_mem_drop ha)) hr
    refine⟨g1,?_⟩
    simp only[Instr.fill,hp,r3,List.size_toArray,List.length_map,q1]
    rw[if_neg (by simp;omega)]
    rw[<-g2]
    congr 1
    have:=MU off (u.cells.map (A.den ρ m)) (cells.map (A.den ρ m)).toArray 0 (by simp;omega)
    simp only[Nat.add_zero]at this
    rw[<-Array.foldl_toList]
    simp only[Array.toList_zipIdx]
    rw[this]
    simp[List.map_take,List.map_drop,q1]
 |(_,.eF _)::_,_,_,_,h,_,_=>by simp[pq]at h
 |(_,.any)::_,_,_,_,h,_,_=>by simp[pq]at h
 |[],_::_,_,_,_,_,hr=>hr.elim
 |(_,.w _)::_,[],_,_,_,_,hr=>hr.elim
theorem Sn {n nb:Nat} {ρ:Env} {m:Nat->Nat} {t:TypeId} {parts:List (Nat×V)} {vals:List (Nat×Value)} {l:List A} (h:El P t parts=some l)
 (hr:Bh n nb ρ m parts vals):(∀a∈l,A.ok n nb ρ a)/\P.built t vals=some (l.map (A.den ρ m)).toArray:=by
 unfold El at h
 unfold Program.built
 cases hz:jW P t with
 |none=>simp[hz]at h
 |some z=>
  unfold jW at hz
  cases hi:P.info? t with
  |none=>simp[hi]at hz
  |some it=>
   simp only[hi]at hz
   cases sd:it.zero with
   |none=>simp[sd]at hz
   |some z0=>
    simp only[sd]at hz
    have xm:=qD hz n nb ρ m
    have hz1:z0.cells=(z.map (A.den ρ m)).toArray:=by rw[xm.2]
    cases hu:P.underlying t with
    |none=>simp[jW,hi,sd,hz,hu]at h
    |some d=>
     cases d<;>try(simp[jW,hi,sd,hz,hu]at h;done)
     case array len e=>
      simp only[jW,hi,sd,hz,hu,dE]at h
      cases F8:P.info? e with
      |none=>simp[F8]at h
      |some ahX=>
       simp only[F8]at h
       simp only[sd,F8,hz1]
       exact BW h xm.1 hr
     case struct fields=>
      simp only[jW,hi,sd,hz,hu]at h
      cases hp:fields.toList.mapM (λf=>(P.info? f.type).map λi=>(f.offset,i.size))with
      |none=>simp[hp]at h
      |some places=>
       simp only[hp]at h
       simp only[sd,hp,hz1]
       exact BW h xm.1 hr
theorem PH {t:TypeId} {l:List A} {off:Nat} (hl:∀x∈l,A.ok n bl.length ρ x):ak S L (Da P t l off) n ρ (jf w0 m bl n ρ λw=>(part t (l.map (A.den ρ m)).toArray off).run P w):=by
 unfold Da
 cases h1:fY P t with
 |none=>exact ak.fail
 |some b=>
  cases b with
  |true=>
   cases h2:dE P t with
   |none=>exact ak.fail
   |some k=>
    refine ak.pure ⟨λx hx=>hl x (List.mem_of_mem_drop (List.mem_of_mem_take hx)),_,rfl,λw _=>?_⟩
    simp[part,lF h1,fH h2,W.den,List.map_take,List.map_drop,List.take_drop]
    try congr 1
  |false=>
   cases h3:l[off]? with
   |none=>exact ak.fail
   |some x=>
    refine ak.pure ⟨hl x (List.mem_of_getElem? h3),_,rfl,λw _=>?_⟩
    simp[part,lF h1,h3,W.den]
theorem oj {t:TypeId} {len:Nat} {e:TypeId} (h:nf P t=some (len,e)):P.underlying t=some (.array len e):=by
 unfold nf at h
 cases hu:P.underlying t with
 |none=>simp[hu]at h
 |some d=>cases d<;>simp[hu]at h<;>simp[h]
theorem eE {t e:TypeId} (h:fI P t=some e):P.underlying t=some (.slice e):=by
 unfold fI at h
 cases hu:P.underlying t with
 |none=>simp[hu]at h
 |some d=>cases d<;>simp[hu]at h<;>simp[h]
theorem G9 {t:TypeId} {k:IntKind} (h:kindOf P t=some k):P.underlying t=some (.int k):=by
 unfold kindOf at h
 cases hu:P.underlying t with
 |none=>simp[hu]at h
 |some d=>cases d<;>simp[hu]at h<;>simp[h]
theorem E6 {s:TypeId} {f:Nat} {fd:Field} (h:y2 P s f=some fd):∃eo,P.underlying s=some (.struct eo)/\eo[f]?=some fd:=by
 unfold y2 at h
 cases hu:P.underlying s with
 |none=>simp[hu]at h
 |some d=>cases d<;>simp[hu]at h<;>exact⟨_,rfl,h⟩
theorem Xv {t:TypeId} {x:V} {k:IntKind} {aJ:a6} {X:Value} (hx:x.ok n bl.length ρ) (hX:x.rel ρ m X) (hi:aJ.ok n ρ):
 ak S L (GU P t x aJ) n ρ (jf w0 m bl n ρ λw=>(Instr.indexAt t X (.int k (aJ.l.den ρ))).run P w):=by
 unfold GU
 split
 ·rename_i b off
  simp only[V.rel,W.den,A.den]at hX;subst hX
  cases h1:nf P t with
  |none=>exact ak.fail
  |some q=>
   obtain⟨len,e⟩:=q
   cases h2:dE P e with
   |none=>simp only[h2];exact ak.fail
   |some s=>
    simp only[h2]
    cases h3:aJ.l.cT with
    |some i=>
     refine cZ λhc=>ak.pure ⟨hx,_,rfl,λw _=>?_⟩
     simp only[Bool.and_eq_true,decide_eq_true_eq]at hc
     simp[Instr.indexAt,asIntOf,run_underlying (oj h1),Instr.sureAddr,I.fU h3,hc,fH h2,gz,W.den,A.den]
    |none=>
     refine cZ λhc=>ak.pure ⟨?_,_,rfl,λw _=>?_⟩
     ·simp only[Bool.and_eq_true,decide_eq_true_eq]at hc
      exact⟨hx,hi,hc.1.2⟩
     ·simp only[Bool.and_eq_true,decide_eq_true_eq]at hc
      have hs:=Nat.eq_of_beq_eq_true hc.1.1
      subst hs
      have bo:=hi.2
      have c1:0<=aJ.l.den ρ:=by omega
      have bb:aJ.l.den ρ<len:=by omega
      simp[Instr.indexAt,asIntOf,run_underlying (oj h1),Instr.sureAddr,c1,bb,fH h2,gz,W.den,A.den]
 ·rename_i g off
  simp only[V.rel,W.den,A.den]at hX;subst hX
  cases h1:nf P t with
  |none=>exact ak.fail
  |some q=>
   obtain⟨len,e⟩:=q
   cases h2:dE P e with
   |none=>simp only[h2];exact ak.fail
   |some s=>
    simp only[h2]
    cases h3:aJ.l.cT with
    |some i=>
     refine cZ λhc=>ak.pure ⟨trivial,_,rfl,λw _=>?_⟩
     simp only[Bool.and_eq_true,decide_eq_true_eq]at hc
     simp[Instr.indexAt,asIntOf,run_underlying (oj h1),Instr.sureAddr,I.fU h3,hc,fH h2,gz,W.den,A.den]
    |none=>
     refine cZ λhc=>eQ λhq=>ak.pure ⟨?_,_,rfl,λw _=>?_⟩
     ·simp only[List.map_cons,List.map_nil,I.aH,U,yS]at hq
      exact⟨⟨hi.1,by show(0:Int)<=_;exact hq.1,by show _<=((len:Int)-1);have:=hq.2;simp only;omega⟩,Int.le_refl _⟩
     ·simp only[List.map_cons,List.map_nil,I.aH,U,yS]at hq
      have hs:=Nat.eq_of_beq_eq_true hc
      subst hs
      simp[Instr.indexAt,asIntOf,run_underlying (oj h1),Instr.sureAddr,hq.1,hq.2,fH h2,gz,W.den,A.den]
 ·rename_i b off len cap
  simp only[V.rel,W.den,A.den]at hX;subst hX
  cases h1:fI P t with
  |none=>exact ak.fail
  |some e=>
   cases h2:dE P e with
   |none=>simp only[h2];exact ak.fail
   |some s=>
    simp only[h2]
    cases h3:aJ.l.cT with
    |some i=>
     refine cZ λhc=>ak.pure ⟨hx,_,rfl,λw _=>?_⟩
     simp only[Bool.and_eq_true,decide_eq_true_eq]at hc
     simp[Instr.indexAt,asIntOf,run_underlying (eE h1),Instr.sureAddr,I.fU h3,hc,fH h2,gz,W.den,A.den]
    |none=>
     refine cZ λhc=>ak.pure ⟨?_,_,rfl,λw _=>?_⟩
     ·simp only[Bool.and_eq_true,decide_eq_true_eq]at hc
      exact⟨hx,hi,hc.1.2⟩
     ·simp only[Bool.and_eq_true,decide_eq_true_eq]at hc
      have hs:=Nat.eq_of_beq_eq_true hc.1.1
      subst hs
      have bo:=hi.2
      have c1:0<=aJ.l.den ρ:=by omega
      have bb:aJ.l.den ρ<len:=by omega
      simp[Instr.indexAt,asIntOf,run_underlying (eE h1),Instr.sureAddr,c1,bb,fH h2,gz,W.den,A.den]
 ·rename_i b len lo
  obtain⟨c,_,hX⟩:=hX
  subst hX
  cases h1:fI P t with
  |none=>exact ak.fail
  |some e=>
   cases h2:dE P e with
   |none=>simp only[h2];exact ak.fail
   |some s=>
    simp only[h2]
    cases h3:aJ.l.cT with
    |some i=>
     refine cZ λhc=>ak.pure ⟨hx,_,rfl,λw _=>?_⟩
     simp only[Bool.and_eq_true,decide_eq_true_eq]at hc
     simp[Instr.indexAt,asIntOf,run_underlying (eE h1),Instr.sureAddr,I.fU h3,hc,fH h2,gz,W.den,A.den]
    |none=>exact ak.fail
 ·exact ak.fail
theorem aam {vs:List V}:∀{l:List A} {xs:List Value},q8 vs=some l->(∀v∈vs,V.ok n bl.length ρ v)->dn ρ m vs xs->(∀a∈l,A.ok n bl.length ρ a)/\xs=l.map (A.den ρ m):=by
 induction vs with
 |nil=>
  intro l xs h _ hr
  simp[q8]at h;subst h
  cases xs with
  |nil=>exact⟨λ_ h=>by simp at h,rfl⟩
  |cons _ _=>exact hr.elim
 |cons v r ih=>
  intro l xs h bf hr
  cases xs with
  |nil=>cases v<;>exact hr.elim
  |cons x s=>
   cases v with
   |w y=>
    cases y with
    |agg q=>simp[q8]at h
    |one a=>
     cases h1:q8 r with
     |none=>simp[q8,h1]at h
     |some l'=>
      simp only[q8,h1,Option.some.injEq]at h
      subst h
      obtain⟨e1,e2⟩:=ih h1 (λv hv=>bf v (List.mem_cons_of_mem _ hv)) hr.2
      have h0:x=a.den ρ m:=hr.1
      exact⟨λb hb=>by rcases List.mem_cons.1 hb with rfl|hb;exact bf (.w (.one b)) (by simp);exact e1 b hb,by rw[h0,e2];rfl⟩
   |_=>simp[q8]at h
theorem Tj {e:TypeId} {k:IntKind} (he:P.underlying e=some (.int k)) (d:Nat) (xs fJ:Array Value) (w:World):∀(l l':List A) (i:Nat) (b:aR),rV l l'=some b->(∀x∈l,A.ok n bl.length ρ x)->(∀x∈l',A.ok n bl.length ρ x)->
 xs.toList.drop i=l.map (A.den ρ m)->fJ.toList.drop i=l'.map (A.den ρ m)->b.aV n/\(Op.eqItems (d+1) e 1 xs fJ (List.range' i l.length)).run P w= .ok (b.den ρ) w:=by
 intro l
 induction l with
 |nil=>
  intro l' i b h _ _ _ _
  cases l' with
  |nil=>simp[rV]at h;subst h;exact⟨trivial,by simp[Op.eqItems,aR.den]⟩
  |cons y r'=>simp[rV]at h
 |cons x r ih=>
  intro l' i b h hl r5 hx hy
  cases l' with
  |nil=>cases x<;>simp[rV]at h
  |cons y r'=>
   cases x<;>cases y<;>simp only[rV]at h<;>try(cases h;done)
   rename_i k1 x k2 y
   by_cases hk:k1=k2
   ·subst hk
    simp only[decide_true,cond_true]at h
    cases hr:rV r r' with
    |none=>simp[hr]at h
    |some b6=>
     simp only[hr,Option.some.injEq]at h
     subst h
     have WB:x.ok n ρ:=hl (.int k1 x) (by simp)
     have WC:y.ok n ρ:=r5 (.int k1 y) (by simp)
     have e1:=aR.nT WB WC
     have y9:xs[i]?=some (.int k1 (x.l.den ρ)):=by
      have:=congrArg List.head? hx
      simpa [A.den]using this
     have za:fJ[i]?=some (.int k1 (y.l.den ρ)):=by
      have:=congrArg List.head? hy
      simpa [A.den]using this
     have th:xs.toList.drop (i+1)=r.map (A.den ρ m):=by
      have:=congrArg List.tail hx
      simpa using this
     have aE:fJ.toList.drop (i+1)=r'.map (A.den ρ m):=by
      have:=congrArg List.tail hy
      simpa using this
     obtain⟨s2,dM⟩:=ih r' (i+1) b6 hr (λz hz=>hl z (List.mem_cons_of_mem _ hz)) (λz hz=>r5 z (List.mem_cons_of_mem _ hz)) th aE
     refine⟨aR.Dq e1.2 s2,?_⟩
     simp only[List.length_cons,List.range'_succ,Op.eqItems,Sem.run_bind]
     have uC:(part e xs (i*1)).run P w= .ok (.int k1 (x.l.den ρ)) w:=by simp[part,isAgg,run_underlying he,y9]
     have uD:(part e fJ (i*1)).run P w= .ok (.int k1 (y.l.den ρ)) w:=by simp[part,isAgg,run_underlying he,za]
     simp only[uC,uD,Result.andThen_ok,run_equalIn_int w d e k1 k _ _ he,aR.BM,e1.1]
     by_cases hq:x.l.den ρ=y.l.den ρ
     ·simp[hq,dM]
     ·simp[hq]
   ·simp[hk]at h
theorem MC {t:TypeId} {x y:List A} {b:aR} (h:E2 P t x y=some b) (hx:∀z∈x,A.ok n bl.length ρ z) (hy:∀z∈y,A.ok n bl.length ρ z):
 b.aV n/\P.eqGuardType P.depth t=false/\∀w,(Op.equalIn 10000 t (.agg (x.map (A.den ρ m)).toArray) (.agg (y.map (A.den ρ m)).toArray)).run P w= .ok (b.den ρ) w:=by
 unfold E2 at h
 cases h1:nf P t with
 |none=>simp[h1]at h
 |some q=>
  obtain⟨len,e⟩:=q
  simp only[h1]at h
  cases h2:kindOf P e with
  |none=>simp[h2]at h
  |some k=>
   cases h3:dE P e with
   |none=>simp[h2,h3]at h
   |some s=>
    match s,h3 with
    |0,h3=>simp[h2,h3]at h
    |s+2,h3=>simp[h2,h3]at h
    |1,h3=>
     simp only[h2,h3]at h
     cases hc:(Nat.beq x.length len&&Nat.beq y.length len&& !P.eqGuardType P.depth t)with
     |false=>simp[hc]at h
     |true=>
      simp only[hc,cond_true]at h
      simp only[Bool.and_eq_true,Bool.not_eq_true']at hc
      have hl:=Nat.eq_of_beq_eq_true hc.1.1
      have V9:∃i,P.info? e=some i/\P.cellsOf e=1:=by
       unfold dE at h3
       cases hq:P.info? e with
       |none=>simp[hq]at h3
       |some i=>simp[hq]at h3;exact⟨i,rfl,by simp[Program.cellsOf,hq,h3]⟩
      obtain⟨i,qP,cE⟩:=V9
      have hsp:=λw=>Tj (P:=P) (bl:=bl) (n:=n) (ρ:=ρ) (m:=m) (G9 h2) 9998 (x.map (A.den ρ m)).toArray (y.map (A.den ρ m)).toArray w x y 0 b h hx hy (by simp) (by simp)
      refine⟨(hsp default).1,hc.2,λw=>?_⟩
      rw[show(10000:Nat)=9999+1 from rfl,run_equalIn_array w 9999 _ _ (oj h1) qP,cE,List.range_eq_range',<-hl]
      exact(hsp w).2
theorem s8 (l:List UInt8):(cJ l).toList=l:=ByteArray.toList_mk l
theorem qw (l:List UInt8):(cJ l).size=l.length:=by simp[cJ,ByteArray.size]
theorem LU (l l':List UInt8):(l==l')=decide ((if l=l' then(1:Int)else 0)=1):=by
 by_cases h:l=l'
 ·subst h;simp
 ·rw[if_neg h];simp[h]
theorem yM (p:Prop) [Decidable p]:(0:Int)<=(if p then 1 else 0)/\(if p then(1:Int)else 0)<=1:=by split<;>decide
theorem OY (b:Bool):b=decide ((if b=true then(1:Int)else 0)=1):=by cases b<;>rfl
theorem adt {op:BinOp} {t:TypeId} {x y:Operand} {p q:I} (hp:(A.str p).ok n bl.length ρ) (hq:(A.str q).ok n bl.length ρ):
 ak S L (II op p q) n ρ (jf w0 m bl n ρ λw=>(do eqGuard op t x y (.string (cJ (aI (p.den ρ)))) (.string (cJ (aI (q.den ρ))));binOp op t (.string (cJ (aI (p.den ρ)))) (.string (cJ (aI (q.den ρ)))):Sem Value).run P w):=by
 have bo:=yM (aI (p.den ρ)=aI (q.den ρ))
 have cj:=yM (Op.bytesLess (aI (p.den ρ)) (aI (q.den ρ))=true)
 unfold II
 split
 ·refine eQ λhc=>?_
  have hc:(aI (p.den ρ)).length+(aI (q.den ρ)).length<=iE:=hc
  have hl:(aI (p.den ρ)++aI (q.den ρ)).length<=iE:=by simpa using hc
  refine(en (op:=3) (args:=[p,q]) (qz _) (pa hl)).bind λax aG l _ _ ⟨h1,h2⟩=>?_
  have h2:l.den ax=fT (aI (p.den ρ)++aI (q.den ρ)):=h2
  refine ak.pure ⟨⟨h1,by rw[h2];exact qz _,by rw[h2];exact pa hl⟩,_,rfl,λw _=>?_⟩
  have hr:=run_string_add_sum (P:=P) w (cJ (aI (p.den ρ))) (cJ (aI (q.den ρ))) (by rw[qw,qw];unfold iE at hc;omega)
  simp only[eqGuard,binOp_string_add,W.den,A.den,h2,ri]
  simp[hr]
  exact ByteArray.mk_append_mk _ _
 ·refine(en (op:=4) (args:=[p,q]) bo.1 bo.2).bind λax aG l _ _ ⟨h1,h2⟩=>?_
  have h2:l.den ax=if aI (p.den ρ)=aI (q.den ρ)then 1 else 0:=h2
  have e:=aR.nT (n:=aG) (ρ:=ax) (a:=⟨l,0,1⟩) (b:= .const 1) ⟨h1,by simp only[h2];exact bo.1,by simp only[h2];exact bo.2⟩ (a6.j1 _ _ _)
  refine ak.pure ⟨e.2,_,rfl,λw _=>?_⟩
  simp only[W.den,A.den,binOp_string_eql,s8]
  rw[e.1]
  simp only[h2,a6.const,I.aH,LU]
  simp[eqGuard]
 ·refine(en (op:=4) (args:=[p,q]) bo.1 bo.2).bind λax aG l _ _ ⟨h1,h2⟩=>?_
  have h2:l.den ax=if aI (p.den ρ)=aI (q.den ρ)then 1 else 0:=h2
  have e:=aR.nT (n:=aG) (ρ:=ax) (a:=⟨l,0,1⟩) (b:= .const 1) ⟨h1,by simp only[h2];exact bo.1,by simp only[h2];exact bo.2⟩ (a6.j1 _ _ _)
  refine ak.pure ⟨aR.p5 e.2,_,rfl,λw _=>?_⟩
  simp only[W.den,A.den,aR.pj,binOp_string_neq,s8]
  rw[e.1]
  simp only[h2,a6.const,I.aH,LU]
  simp[eqGuard]
 ·refine(en (op:=5) (args:=[p,q]) cj.1 cj.2).bind λax aG l _ _ ⟨h1,h2⟩=>?_
  have h2:l.den ax=if Op.bytesLess (aI (p.den ρ)) (aI (q.den ρ))=true then 1 else 0:=h2
  have e:=aR.nT (n:=aG) (ρ:=ax) (a:=⟨l,0,1⟩) (b:= .const 1) ⟨h1,by simp only[h2];exact cj.1,by simp only[h2];exact cj.2⟩ (a6.j1 _ _ _)
  refine ak.pure ⟨e.2,_,rfl,λw _=>?_⟩
  simp only[W.den,A.den,binOp_string_lss,s8]
  rw[e.1]
  simp only[h2,a6.const,I.aH]
  rw[<-OY]
  simp[eqGuard]
 ·refine(en (op:=5) (args:=[p,q]) cj.1 cj.2).bind λax aG l _ _ ⟨h1,h2⟩=>?_
  have h2:l.den ax=if Op.bytesLess (aI (p.den ρ)) (aI (q.den ρ))=true then 1 else 0:=h2
  have e:=aR.nT (n:=aG) (ρ:=ax) (a:=⟨l,0,1⟩) (b:= .const 1) ⟨h1,by simp only[h2];exact cj.1,by simp only[h2];exact cj.2⟩ (a6.j1 _ _ _)
  refine ak.pure ⟨aR.p5 e.2,_,rfl,λw _=>?_⟩
  simp only[W.den,A.den,aR.pj,binOp_string_geq,s8]
  rw[e.1]
  simp only[h2,a6.const,I.aH]
  rw[<-OY]
  simp[eqGuard]
 ·exact ak.fail
theorem adv {t ty:TypeId} {p:I} (hu:P.underlying t=some .string) (hp:(A.str p).ok n bl.length ρ):
 ak S L (Qw p) n ρ (jf w0 m bl n ρ λw=>(Builtin.len_ #[t] ty #[.string (cJ (aI (p.den ρ)))]).run P w):=by
 have hl:=yw hp.2.2
 unfold iE at hl
 refine(en (op:=0) (args:=[p]) (Int.natCast_nonneg _) (by show((aI (p.den ρ)).length:Int)<=_;omega)).bind λax aG l _ _ ⟨h1,h2⟩=>?_
 have h2:l.den ax=((aI (p.den ρ)).length:Int):=h2
 refine ak.pure ⟨⟨h1,by simp only[h2];omega,by simp only[h2];omega⟩,_,rfl,λw _=>?_⟩
 simp[Builtin.len_,run_underlying hu,goInt,W.den,A.den,h2,qw]
theorem adu {t:TypeId} {k:IntKind} {p i:I} (hu:P.underlying t=some .string) (hp:(A.str p).ok n bl.length ρ):
 ak S L (Qv p i) n ρ (jf w0 m bl n ρ λw=>(Instr.index t (.string (cJ (aI (p.den ρ)))) (.int k (i.den ρ))).run P w):=by
 refine eQ λhc=>?_
 have hc:0<=i.den ρ/\i.den ρ<((aI (p.den ρ)).length:Int):=hc
 have hlt:(i.den ρ).toNat<(aI (p.den ρ)).length:=by omega
 have hb:=((aI (p.den ρ)).getD (i.den ρ).toNat 0).toNat_lt
 refine(en (op:=1) (args:=[p,i]) (Int.natCast_nonneg _) (by show(((aI (p.den ρ)).getD (i.den ρ).toNat 0).toNat:Int)<=_;omega)).bind λax aG l _ _ ⟨h1,h2⟩=>?_
 have h2:l.den ax=(((aI (p.den ρ)).getD (i.den ρ).toNat 0).toNat:Int):=h2
 refine ak.pure ⟨⟨h1,by simp only[h2];omega,by simp only[h2];omega⟩,_,rfl,λw _=>?_⟩
 have e:(cJ (aI (p.den ρ)))[(i.den ρ).toNat]?=some ((aI (p.den ρ)).getD (i.den ρ).toNat 0):=by
  rw[ByteArray.getElem?_lt' _ _ (by rw[qw];exact hlt)]
  simp[cJ,List.getD,hlt]
  rfl
 simp[Instr.index,asIntOf,run_underlying hu,hc.1,e,W.den,A.den,h2]
theorem adx {p a b:I} (hp:(A.str p).ok n bl.length ρ):ak S L (Dz p a b) n ρ λae n' v=>v.ok n' bl.length ae/\v.rel ae m (.string ((cJ (aI (p.den ρ))).extract (a.den ρ).toNat (b.den ρ).toNat))/\0<=a.den ρ/\a.den ρ<=b.den ρ/\b.den ρ<=((aI (p.den ρ)).length:Int):=by
 refine eQ λhc=>?_
 have hc:0<=a.den ρ/\a.den ρ<=b.den ρ/\b.den ρ<=((aI (p.den ρ)).length:Int):=hc
 have hl:=yw hp.2.2
 have r6:(((aI (p.den ρ)).drop (a.den ρ).toNat).take ((b.den ρ).toNat-(a.den ρ).toNat)).length<=iE:=by simp;omega
 refine(en (op:=2) (args:=[p,a,b]) (qz _) (pa r6)).bind λax aG l _ _ ⟨h1,h2⟩=>?_
 have h2:l.den ax=fT (((aI (p.den ρ)).drop (a.den ρ).toNat).take ((b.den ρ).toNat-(a.den ρ).toNat)):=h2
 refine ak.pure ⟨⟨h1,by rw[h2];exact qz _,by rw[h2];exact pa r6⟩,?_,hc⟩
 show _=_
 simp only[W.den,A.den,h2,ri]
 congr 1
 exact ByteArray.extract_mk _ _ _
theorem uj {v:V} {l:I} {x:Value} (h:l8 v=some l) (hr:v.rel ρ m x) (bf:v.ok n bl.length ρ):∃k,x= .int k (l.den ρ)/\l.aV n:=by
 unfold l8 at h
 split at h
 ·rename_i k a
  simp only[Option.some.injEq]at h;subst h
  exact⟨k,hr,bf.1⟩
 ·cases h
theorem nG {k:IntKind} {i:Int} {y:Nat} {fo:BoundsCode} (p1:0<=i) (aS:i<=y) (w:World):(Instr.sliceBound (.int k i) y fo).run P w= .ok i.toNat w:=by
 simp[Instr.sliceBound,asIntOf,p1,aS]
theorem adw {t:TypeId} {p:I} {lo hi:Option Operand} (hu:P.underlying t=some .string) (hp:(A.str p).ok n bl.length ρ) (ht:cW n bl.length ρ m tm a.tmps):
 ak S L (IJ tm p lo hi) n ρ (jf w0 m bl n ρ λw=>(Instr.sliceAt t (.string (cJ (aI (p.den ρ)))) (lo.map a.eval) (hi.map a.eval) none).run P w):=by
 unfold IJ
 split
 ·exact ak.fail
 ·rename_i ea xc
  have oJ:∃f:Option Value,lo.map a.eval=f/\(f=none/\ea.den ρ=0∨∃k,f=some (.int k (ea.den ρ))):=by
   cases lo with
   |none=>simp only[Option.some.injEq]at xc;subst xc;exact⟨none,rfl,.inl ⟨rfl,I.aH _ _⟩⟩
   |some x=>
    obtain⟨k,hk,_⟩:=uj (m:=m) (bl:=bl) xc (bO ht x).2 (bO ht x).1
    exact⟨_,rfl,.inr ⟨k,by rw[<-hk];rfl⟩⟩
  obtain⟨MM,e1,fW⟩:=oJ
  have key:∀(dw:I) (ax:Env) (aG:Nat),n<=aG->agree n ρ ax->(hi.map a.eval=none/\dw.den ax=((aI (p.den ρ)).length:Int)∨∃k,hi.map a.eval=some (.int k (dw.den ax)))->ea.aV n->
   ak S L (Dz p ea dw) aG ax (jf w0 m bl n ρ λw=>(Instr.sliceAt t (.string (cJ (aI (p.den ρ)))) (lo.map a.eval) (hi.map a.eval) none).run P w):=λdw ax aG hn ha ah WS=>by
   have WD:(A.str p).ok aG bl.length ax:=hp.ext ha hn (Nat.le_refl _)
   have ep:p.den ax=p.den ρ:=I.bj ha hp.1
   have wL:ea.den ax=ea.den ρ:=I.bj ha WS
   refine(adx (m:=m) (bl:=bl) (a:=ea) (b:=dw) WD).mono λbg dC v _ _ ⟨q1,aP,bA,cM,iX⟩=>⟨q1,_,aP,λw _=>?_⟩
   rw[ep,wL]at*
   have lW:(Instr.sliceBounds false (cJ (aI (p.den ρ))).size (cJ (aI (p.den ρ))).size MM (hi.map a.eval) none).run P w= .ok ((ea.den ρ).toNat,(dw.den ax).toNat,(cJ (aI (p.den ρ))).size) w:=by
    rw[qw]
    rcases fW with⟨rfl,hz⟩|⟨k,rfl⟩<;>rcases ah with⟨h1,h2⟩|⟨k2,h1⟩
    ·rw[h1,hz,h2];simp[Instr.sliceBounds]
    ·rw[h1,hz];simp[Instr.sliceBounds,nG (P:=P) (by omega:0<=dw.den ax) iX]
    ·rw[h1,h2];simp[Instr.sliceBounds,nG (P:=P) (y:=(aI (p.den ρ)).length) bA (by omega)]
    ·rw[h1];simp[Instr.sliceBounds,nG (P:=P) (by omega:0<=dw.den ax) iX,nG (P:=P) (y:=(dw.den ax).toNat) bA (by omega)]
   rw[e1]
   simp[Instr.sliceAt,Instr.slice,run_underlying hu,lW]
  have xd:ea.aV n:=by
   cases lo with
   |none=>simp only[Option.some.injEq]at xc;subst xc;exact I.ch _ _
   |some x=>exact(uj (m:=m) (bl:=bl) xc (bO ht x).2 (bO ht x).1).choose_spec.2
  cases hi with
  |none=>
   have hl:=yw hp.2.2
   unfold iE at hl
   exact(en (op:=0) (args:=[p]) (Int.natCast_nonneg _) (by show((aI (p.den ρ)).length:Int)<=_;omega)).bind λax aG l hn ha ⟨h1,h2⟩=>key l ax aG hn ha (.inl ⟨rfl,h2⟩) xd
  |some y=>
   simp only
   cases hy:l8 (bw tm y)with
   |none=>exact ak.fail
   |some b=>
    obtain⟨k,hk,_⟩:=uj (m:=m) (bl:=bl) hy (bO ht y).2 (bO ht y).1
    exact key b ρ n (Nat.le_refl _) (agree.refl _ _) (.inr ⟨k,by rw[<-hk];rfl⟩) xd
theorem Be {xs:List Operand} (h:cW n bl.length ρ m tm a.tmps):dn ρ m (xs.map (bw tm)) (xs.map a.eval):=by
 induction xs with
 |nil=>trivial
 |cons x r ih=>exact⟨(bO h x).2,ih⟩
theorem Il {c:Call} {f:FuncId} (hc:c.callee= .value (.func f)) (o:Oper) (ho:o.op= .call c):execOp a.eval o=callFunc f (c.args.map a.eval):=by
 simp only[execOp,ho,resolve,hc,Act.eval,Deferred.ofValue]
 simp[invoke,bind_pure_comp]
theorem E1 {nb:Nat} {m:Nat->Nat}:∀(eo:List Field) (x y:List A) (i n:Nat) (ρ:Env),wO P i eo=true->(∀a∈x,A.ok n nb ρ a)->(∀a∈y,A.ok n nb ρ a)->
 ak S L (nh P eo x y) n ρ λae n' b=>b.aV n'/\∀(w:World) (d:Nat) (xs fJ:Array Value),xs.toList.drop i=x.map (A.den ρ m)->fJ.toList.drop i=y.map (A.den ρ m)->(Op.eqFields (d+1) xs fJ eo).run P w= .ok (b.den ae) w
 |[],[],[],i,n,ρ,_,_,_=>ak.pure ⟨trivial,λw d xs fJ _ _=>by simp[Op.eqFields,aR.den]⟩
 |f::eo,x::xs,y::fJ,i,n,ρ,hf,hx,hy=>by
  cases x with
  |int k a=>
   cases y with
   |int aM b=>
    unfold wO at hf
    simp only[Bool.and_eq_true,bne_iff_ne,ne_eq]at hf
    obtain⟨⟨hn,ho⟩,hf⟩:=hf
    have ho:=Nat.eq_of_beq_eq_true ho
    unfold nh
    split
    ·rename_i k2 kA
     have hu:=G9 kA
     refine cZ λhk=>?_
     have hk:k=aM:=by simpa using hk
     subst hk
     have Ao:a.ok n ρ:=hx (.int k a) (by simp)
     have ob:b.ok n ρ:=hy (.int k b) (by simp)
     refine(E1 (nb:=nb) (m:=m) eo xs fJ (i+1) n ρ hf (λz hz=>hx z (List.mem_cons_of_mem _ hz)) (λz hz=>hy z (List.mem_cons_of_mem _ hz))).bind λae n' r Cs er ⟨ay,dM⟩=>ak.pure ?_
     have e1:=aR.nT (Ao.agree er Cs) (ob.agree er Cs)
     refine⟨aR.Dq e1.2 ay,λw d kJ kK z6 z7=>?_⟩
     have y9:kJ[i]?=some (.int k (a.l.den ρ)):=by
      have:=congrArg List.head? z6
      simpa [A.den]using this
     have za:kK[i]?=some (.int k (b.l.den ρ)):=by
      have:=congrArg List.head? z7
      simpa [A.den]using this
     have th:kJ.toList.drop (i+1)=xs.map (A.den ρ m):=by
      have:=congrArg List.tail z6
      simpa using this
     have aE:kK.toList.drop (i+1)=fJ.map (A.den ρ m):=by
      have:=congrArg List.tail z7
      simpa using this
     have uC:(part f.type kJ f.offset).run P w= .ok (.int k (a.l.den ρ)) w:=by simp[part,isAgg,run_underlying hu,ho,y9]
     have uD:(part f.type kK f.offset).run P w= .ok (.int k (b.l.den ρ)) w:=by simp[part,isAgg,run_underlying hu,ho,za]
     have wL:a.l.den ae=a.l.den ρ:=by
      have:=A.iy (m:=m) (m':=m) (hx (.int k a) (by simp)) er (λ_ _=>rfl)
      simpa [A.den]using this
     have ot:b.l.den ae=b.l.den ρ:=by
      have:=A.iy (m:=m) (m':=m) (hy (.int k b) (by simp)) er (λ_ _=>rfl)
      simpa [A.den]using this
     simp only[Op.eqFields,ne_eq,hn,not_false_eq_true,if_true,Sem.run_bind,uC,uD,Result.andThen_ok,run_equalIn_int w d f.type k k2 _ _ hu,aR.BM,e1.1,wL,ot]
     by_cases hq:a.l.den ρ=b.l.den ρ
     ·simp[hq,dM w d kJ kK th aE]
     ·simp[hq]
    ·exact ak.fail
   |_=>unfold nh;exact ak.fail
  |str a=>
   cases y with
   |str b=>
    unfold wO at hf
    simp only[Bool.and_eq_true,bne_iff_ne,ne_eq]at hf
    obtain⟨⟨hn,ho⟩,hf⟩:=hf
    have ho:=Nat.eq_of_beq_eq_true ho
    unfold nh
    split
    ·rename_i hu
     have bo:=yM (aI (a.den ρ)=aI (b.den ρ))
     refine(en (op:=4) (args:=[a,b]) bo.1 bo.2).bind λax aG l eD tD ⟨h1,h2⟩=>?_
     have h2:l.den ax=if aI (a.den ρ)=aI (b.den ρ)then 1 else 0:=h2
     have hx1:∀z∈xs,A.ok aG nb ax z:=λz hz=>(hx z (List.mem_cons_of_mem _ hz)).ext tD eD (Nat.le_refl _)
     have Xl:∀z∈fJ,A.ok aG nb ax z:=λz hz=>(hy z (List.mem_cons_of_mem _ hz)).ext tD eD (Nat.le_refl _)
     have ol:(⟨l,0,1⟩:a6).ok aG ax:=⟨h1,by simp only[h2];exact bo.1,by simp only[h2];exact bo.2⟩
     refine(E1 (nb:=nb) (m:=m) eo xs fJ (i+1) aG ax hf hx1 Xl).bind λae n' r Cs er ⟨ay,dM⟩=>ak.pure ?_
     have e1:=aR.nT (n:=n') (ρ:=ae) (a:=⟨l,0,1⟩) (b:= .const 1) (ol.agree er Cs) (a6.j1 _ _ _)
     refine⟨aR.Dq e1.2 ay,λw d kJ kK z6 z7=>?_⟩
     have y9:kJ[i]?=some (.string (cJ (aI (a.den ρ)))):=by
      have:=congrArg List.head? z6
      simpa [A.den]using this
     have za:kK[i]?=some (.string (cJ (aI (b.den ρ)))):=by
      have:=congrArg List.head? z7
      simpa [A.den]using this
     have th:kJ.toList.drop (i+1)=xs.map (A.den ax m):=by
      have:=congrArg List.tail z6
      rw[List.map_congr_left (g:=A.den ρ m) λz hz=>A.iy (hx z (List.mem_cons_of_mem _ hz)) tD (λ_ _=>rfl)]
      simpa using this
     have aE:kK.toList.drop (i+1)=fJ.map (A.den ax m):=by
      have:=congrArg List.tail z7
      rw[List.map_congr_left (g:=A.den ρ m) λz hz=>A.iy (hy z (List.mem_cons_of_mem _ hz)) tD (λ_ _=>rfl)]
      simpa using this
     have uC:(part f.type kJ f.offset).run P w= .ok (.string (cJ (aI (a.den ρ)))) w:=by simp[part,isAgg,run_underlying hu,ho,y9]
     have uD:(part f.type kK f.offset).run P w= .ok (.string (cJ (aI (b.den ρ)))) w:=by simp[part,isAgg,run_underlying hu,ho,za]
     have el:l.den ae=l.den ax:=I.bj er h1
     have e2:(aR.mkEq ⟨l,0,1⟩ (.const 1)).den ae=decide (aI (a.den ρ)=aI (b.den ρ)):=by
      rw[e1.1]
      simp only[a6.const,I.aH,el,h2]
      by_cases hq:aI (a.den ρ)=aI (b.den ρ)<;>simp[hq]
     simp only[Op.eqFields,ne_eq,hn,not_false_eq_true,if_true,Sem.run_bind,uC,uD,Result.andThen_ok,run_equalIn_string w d f.type _ _ hu,aR.BM,e2,s8]
     by_cases hq:aI (a.den ρ)=aI (b.den ρ)
     ·simp[hq,dM w d kJ kK th aE]
     ·simp[hq]
    ·exact ak.fail
   |_=>unfold nh;exact ak.fail
  |_=>unfold nh;exact ak.fail
 |[],_::_,_,_,_,_,_,_,_=>by unfold nh;exact ak.fail
 |[],[],y::_,_,_,_,_,_,_=>by cases y<;>(unfold nh;exact ak.fail)
 |_::_,[],_,_,_,_,_,_,_=>by unfold nh;exact ak.fail
 |_::_,x::_,[],_,_,_,_,_,_=>by cases x<;>(unfold nh;exact ak.fail)
def yC (P:Program) (t:TypeId) (l:List Value) (v:Value):Prop:=(fY P t=some true/\v= .agg l.toArray)∨(fY P t=some false/\l=[v])
theorem PI {t:TypeId} {xs:Array Value} {o s:Nat} (hs:dE P t=some s) {v:Value} (h:yC P t ((xs.toList.drop o).take s) v) (w:World):(part t xs o).run P w= .ok v w:=by
 obtain⟨l⟩:=xs
 rcases h with⟨h1,rfl⟩|⟨h1,h2⟩
 ·simp[part,lF h1,fH hs,List.take_drop]
 ·have h3:(⟨l⟩:Array Value)[o]?=some v:=by
   have h4:=congrArg List.head? h2
   rw[<-Array.getElem?_toList]
   cases s with
   |zero=>simp at h2
   |succ s=>simpa [List.head?_take,List.head?_drop]using h4
  simp[part,lF h1,h3]
theorem MA {nb:Nat} {m:Nat->Nat} {g:TypeId->List A->List A->M aR} {D:Nat}
 (hg:∀(t:TypeId) (x y:List A) (n:Nat) (ρ:Env),(∀a∈x,A.ok n nb ρ a)->(∀a∈y,A.ok n nb ρ a)->ak S L (g t x y) n ρ λae n' b=>b.aV n'/\∃kJ kK,yC P t (x.map (A.den ρ m)) kJ/\yC P t (y.map (A.den ρ m)) kK/\∀w,(Op.equalIn D t kJ kK).run P w= .ok (b.den ae) w):
 ∀(eo:List Field) (x y:List A) (o n:Nat) (ρ:Env),(∀a∈x,A.ok n nb ρ a)->(∀a∈y,A.ok n nb ρ a)->
 ak S L (BQ P g o eo x y) n ρ λae n' b=>b.aV n'/\∀(w:World) (xs fJ:Array Value),xs.toList.drop o=x.map (A.den ρ m)->fJ.toList.drop o=y.map (A.den ρ m)->(Op.eqFields D xs fJ eo).run P w= .ok (b.den ae) w
 |[],x,y,o,n,ρ,_,_=>ak.pure ⟨trivial,λw xs fJ _ _=>by simp[Op.eqFields,aR.den]⟩
 |f::eo,x,y,o,n,ρ,hx,hy=>by
  unfold BQ
  cases hs:dE P f.type with
  |none=>exact ak.fail
  |some s=>
   simp only
   refine cZ λhc=>?_
   simp only[Bool.and_eq_true,bne_iff_ne,ne_eq]at hc
   obtain⟨hn,ho⟩:=hc
   have ho:=Nat.eq_of_beq_eq_true ho
   refine(hg f.type (x.take s) (y.take s) n ρ (λa ha=>hx a (List.mem_of_mem_take ha)) (λa ha=>hy a (List.mem_of_mem_take ha))).bind λax aG b eD dj ⟨bo,kJ,kK,cj,dU,yJ⟩=>?_
   refine(MA hg eo (x.drop s) (y.drop s) (o+s) aG ax (λa ha=>(hx a (List.mem_of_mem_drop ha)).ext dj eD (Nat.le_refl _)) (λa ha=>(hy a (List.mem_of_mem_drop ha)).ext dj eD (Nat.le_refl _))).bind λbg dC r dF cK ⟨ay,dM⟩=>ak.pure ⟨aR.Dq (bo.mono dF) ay,λw xs fJ dP ue=>?_⟩
   have uC:(part f.type xs f.offset).run P w= .ok kJ w:=PI hs (by rw[ho,dP,<-List.map_take];exact cj) w
   have uD:(part f.type fJ f.offset).run P w= .ok kK w:=PI hs (by rw[ho,ue,<-List.map_take];exact dU) w
   have th:xs.toList.drop (o+s)=(x.drop s).map (A.den ax m):=by
    rw[<-List.drop_drop,dP,<-List.map_drop]
    exact(oT (λa ha=>hx a (List.mem_of_mem_drop ha)) dj (λ_ _=>rfl)).symm
   have aE:fJ.toList.drop (o+s)=(y.drop s).map (A.den ax m):=by
    rw[<-List.drop_drop,ue,<-List.map_drop]
    exact(oT (λa ha=>hy a (List.mem_of_mem_drop ha)) dj (λ_ _=>rfl)).symm
   have ot:b.den bg=b.den ax:=aR.bj cK bo
   simp only[Op.eqFields,ne_eq,hn,not_false_eq_true,if_true,Sem.run_bind,uC,uD,Result.andThen_ok,yJ w,aR.BM,ot]
   cases hq:b.den ax with
   |true=>simp[dM w xs fJ th aE]
   |false=>simp
theorem MB {nb:Nat} {m:Nat->Nat}:∀(d:Nat) (t:TypeId) (x y:List A) (n:Nat) (ρ:Env),(∀a∈x,A.ok n nb ρ a)->(∀a∈y,A.ok n nb ρ a)->∀D,d<=D->
 ak S L (wM P d t x y) n ρ λae n' b=>b.aV n'/\∃kJ kK,yC P t (x.map (A.den ρ m)) kJ/\yC P t (y.map (A.den ρ m)) kK/\∀w,(Op.equalIn D t kJ kK).run P w= .ok (b.den ae) w
 |0,t,x,y,n,ρ,_,_,_,_=>ak.fail
 |d+1,t,x,y,n,ρ,hx,hy,D,iM=>by
  obtain⟨E,rfl⟩:∃E,D=E+1:=⟨D-1,by omega⟩
  unfold wM
  split
  ·rename_i k hu
   split
   ·rename_i k1 a k2 b
    refine cZ λhk=>?_
    have hk:k1=k2:=by simpa using hk
    subst hk
    have Ao:a.ok n ρ:=hx (.int k1 a) (by simp)
    have ob:b.ok n ρ:=hy (.int k1 b) (by simp)
    have e1:=aR.nT Ao ob
    have er:fY P t=some false:=by simp[fY,hu]
    refine ak.pure ⟨e1.2,_,_,.inr ⟨er,rfl⟩,.inr ⟨er,rfl⟩,λw=>?_⟩
    simp only[A.den]
    rw[run_equalIn_int w E t k1 k _ _ hu,e1.1]
    rfl
   ·exact ak.fail
  ·rename_i hu
   split
   ·rename_i a b
    have bo:=yM (aI (a.den ρ)=aI (b.den ρ))
    have er:fY P t=some false:=by simp[fY,hu]
    refine(en (op:=4) (args:=[a,b]) bo.1 bo.2).bind λax aG l eD tD ⟨h1,h2⟩=>ak.pure ?_
    have h2:l.den ax=if aI (a.den ρ)=aI (b.den ρ)then 1 else 0:=h2
    have ol:(⟨l,0,1⟩:a6).ok aG ax:=⟨h1,by simp only[h2];exact bo.1,by simp only[h2];exact bo.2⟩
    have e1:=aR.nT (n:=aG) (ρ:=ax) (a:=⟨l,0,1⟩) (b:= .const 1) ol (a6.j1 _ _ _)
    refine⟨e1.2,_,_,.inr ⟨er,rfl⟩,.inr ⟨er,rfl⟩,λw=>?_⟩
    simp only[A.den]
    rw[run_equalIn_string w E t _ _ hu,e1.1,s8,s8]
    simp only[a6.const,I.aH,h2]
    by_cases hq:aI (a.den ρ)=aI (b.den ρ)
    ·simp[hq]
    ·simp[hq]
   ·exact ak.fail
  ·rename_i hu
   split
   ·rename_i a b
    have er:fY P t=some false:=by simp[fY,hu]
    have Ao:a.aV n:=hx (.bool a) (by simp)
    have ob:b.aV n:=hy (.bool b) (by simp)
    refine ak.pure ⟨aR.Io Ao ob,_,_,.inr ⟨er,rfl⟩,.inr ⟨er,rfl⟩,λw=>?_⟩
    simp only[A.den]
    rw[run_equalIn_bool w E t _ _ hu,aR.EL]
   ·exact ak.fail
  ·rename_i eo hu
   refine cZ λhg=>?_
   have hg:P.stoodInHeld t=false:=by simpa using hg
   have er:fY P t=some true:=by simp[fY,hu]
   refine(MA (m:=m) (D:=E) (λt x y n ρ h1 h2=>MB d t x y n ρ h1 h2 E (by omega)) eo.toList x y 0 n ρ hx hy).mono λae n' b _ _ ⟨h1,h2⟩=>⟨h1,_,_,.inl ⟨er,rfl⟩,.inl ⟨er,rfl⟩,λw=>?_⟩
   have hf:P.fieldsOf t=eo:=by simp[Program.fieldsOf,hu]
   rw[run_equalIn_struct w E t _ _ (by rw[hf];exact hu) hg,hf]
   exact h2 w _ _ (by simp) (by simp)
  ·exact ak.fail
theorem MD {nb:Nat} {m:Nat->Nat} {t:TypeId} {x y:List A} (hx:∀a∈x,A.ok n nb ρ a) (hy:∀a∈y,A.ok n nb ρ a):
 ak S L (BR P t x y) n ρ λae n' b=>b.aV n'/\P.eqGuardType P.depth t=false/\∀w,(Op.equalIn 10000 t (.agg (x.map (A.den ρ m)).toArray) (.agg (y.map (A.den ρ m)).toArray)).run P w= .ok (b.den ae) w:=by
 unfold BR
 split
 ·rename_i eo hu
  have kz:fY P t=some true:=by simp[fY,hu]
  have deep:P.eqGuardType P.depth t=false->ak S L (wM P 8 t x y) n ρ λae n' b=>b.aV n'/\P.eqGuardType P.depth t=false/\∀w,(Op.equalIn 10000 t (.agg (x.map (A.den ρ m)).toArray) (.agg (y.map (A.den ρ m)).toArray)).run P w= .ok (b.den ae) w:=λhg=>
   (MB (m:=m) 8 t x y n ρ hx hy 10000 (by decide)).mono λae n' b _ _ ⟨h1,kJ,kK,h2,h3,h4⟩=>⟨h1,hg,λw=>by
     rcases h2 with⟨_,rfl⟩|⟨h2,_⟩
     ·rcases h3 with⟨_,rfl⟩|⟨h3,_⟩
      ·exact h4 w
      ·rw[kz]at h3;cases h3
     ·rw[kz]at h2;cases h2⟩
  cases hg:(wO P 0 eo.toList&& !P.stoodInHeld t&& !P.eqGuardType P.depth t)with
  |true=>
   simp only[cond_true]
   simp only[Bool.and_eq_true,Bool.not_eq_true']at hg
   generalize (eo.toList.all λf=>match P.underlying f.type with|some (.int _)=>true|some .string=>true|_=>false)=flat
   cases flat with
   |true=>
    simp only[cond_true]
    refine(E1 (nb:=nb) (m:=m) eo.toList x y 0 n ρ hg.1.1 hx hy).mono λae n' b _ _ ⟨h1,h2⟩=>⟨h1,hg.2,λw=>?_⟩
    have hf:P.fieldsOf t=eo:=by simp[Program.fieldsOf,hu]
    rw[run_equalIn_struct w 9999 t _ _ (by rw[hf];exact hu) hg.1.2,hf]
    exact h2 w 9998 _ _ (by simp) (by simp)
   |false=>exact deep hg.2
  |false=>
   simp only[cond_false]
   refine cZ λhg2=>deep (by simpa using hg2)
 ·exact ak.fail
theorem abO {cal:dm} (ck:eP S P gl w0 cal) (hb:b4 n bl.length ρ bl) (hg:bB gl w0) (hex:∃w,Mem w0 ρ m bl w) (ht:cW n bl.length ρ m tm a.tmps) (o:Oper):
 ak S L (HV P cal gl bl tm o) n ρ (je w0 m bl n ρ P o a):=by
 unfold HV
 split
 case h_1 x h=>
  exact ak.pure ⟨(bO ht x).1,_,(bO ht x).2,λw _=> .inl (by simp[execOp,h])⟩
 case h_2 x h=>
  exact ak.pure ⟨(bO ht x).1,_,(bO ht x).2,λw _=> .inl (by simp[execOp,h])⟩
 case h_3 t x h=>
  have hx:=bO ht x
  have he:execOp a.eval o=(do pure (Next.value (<-Instr.loadAt t (a.eval x)))):=by simp only[execOp,h]
  split
  ·rename_i b off aJ hv
   rw[hv]at hx
   have cu:a.eval x=(A.kj b off aJ).den ρ m:=hx.2
   rw[cu]at he
   exact(ac1 hb t b off hx.1.2.1).mono λ_ _ _ _ _ hq=>je.of_run he hq
  ·rename_i g off aJ hv
   rw[hv]at hx
   have cu:a.eval x=(A.wT g off aJ).den ρ m:=hx.2
   rw[cu]at he
   exact(ac0 hg t g off hx.1.1).mono λ_ _ _ _ _ hq=>je.of_run he hq
  ·rename_i p _ _ hv
   rw[hv]at hx
   have cu:a.eval x=p.den ρ m:=hx.2
   rw[cu]at he
   exact(YI hb hg hex t p).mono λ_ _ _ _ _ hq=>je.of_run he hq
  ·exact ak.fail
 case h_4 x h=>
  have hx:=bO ht x
  unfold Pt
  split<;>first
   |exact ak.fail
   |(rename_i hv
     rw[hv]at hx
     refine ak.pure ⟨hx.1,_,rfl,λw _=> .inl ?_⟩
     have cu:=hx.2
     simp only[V.rel,W.den,A.den]at cu
     simp[execOp,h,cu,W.den,A.den])
 case h_5 c x y h=>
  have hc:=bO ht c
  split
  ·rename_i v hv
   rw[hv]at hc
   have e1:a.eval c= .bool v:=hc.2
   cases v with
   |true=>exact ak.pure ⟨(bO ht x).1,_,(bO ht x).2,λw _=> .inl (by simp[execOp,h,e1,asBool])⟩
   |false=>exact ak.pure ⟨(bO ht y).1,_,(bO ht y).2,λw _=> .inl (by simp[execOp,h,e1,asBool])⟩
  ·exact ak.fail
 case h_6 op t x y t' h=>
  have hx:=bO ht x
  have hy:=bO ht y
  unfold LV
  split
  ·rename_i k p aM q l7 hT
   rw[l7]at hx;rw[hT]at hy
   have e1:a.eval x= .int k (p.l.den ρ):=hx.2
   have e2:a.eval y= .int aM (q.l.den ρ):=hy.2
   refine(Sh (nb:=bl.length) (m:=m) P t hx.1 hy.1).bind λax aG r _ _ ⟨h1,h2⟩=>ak.pure ⟨h1,_,rfl,λw _=> .inl ?_⟩
   have eL:(eqGuard op t x y (.int k (p.l.den ρ)) (.int aM (q.l.den ρ))).run P w= .ok () w:=by cases op<;>simp[eqGuard]
   simp only[execOp,h,e1,e2]
   simp[eL,h2,W.den]
  ·rename_i p q l7 hT
   rw[l7]at hx;rw[hT]at hy
   have e1:a.eval x= .agg (p.map (A.den ρ m)).toArray:=hx.2
   have e2:a.eval y= .agg (q.map (A.den ρ m)).toArray:=hy.2
   split
   ·rename_i b heq
    obtain⟨s1,g1,ay⟩:=MC (m:=m) heq hx.1 hy.1
    refine ak.pure ⟨s1,_,rfl,λw _=> .inl ?_⟩
    simp only[execOp,h,e1,e2]
    simp[run_eqGuard_agg w .eql t x y _ _ g1,run_eql_struct,ay,W.den,A.den]
   ·rename_i b heq
    obtain⟨s1,g1,ay⟩:=MC (m:=m) heq hx.1 hy.1
    refine ak.pure ⟨aR.p5 s1,_,rfl,λw _=> .inl ?_⟩
    simp only[execOp,h,e1,e2]
    simp[run_eqGuard_agg w .neq t x y _ _ g1,run_neq_struct,ay,W.den,A.den,aR.pj]
   ·rename_i heq
    refine(MD (m:=m) (t:=t) hx.1 hy.1).bind λae n' r _ _ ⟨ay,g1,dM⟩=>ak.pure ⟨ay,_,rfl,λw _=> .inl ?_⟩
    simp only[execOp,h,e1,e2]
    simp[run_eqGuard_agg w .eql t x y _ _ g1,run_eql_struct,dM,W.den,A.den]
   ·rename_i heq
    refine(MD (m:=m) (t:=t) hx.1 hy.1).bind λae n' r _ _ ⟨ay,g1,dM⟩=>ak.pure ⟨aR.p5 ay,_,rfl,λw _=> .inl ?_⟩
    simp only[execOp,h,e1,e2]
    simp[run_eqGuard_agg w .neq t x y _ _ g1,run_neq_struct,dM,W.den,A.den,aR.pj]
   ·exact ak.fail
  ·rename_i p q l7 hT
   rw[l7]at hx;rw[hT]at hy
   have e1:a.eval x= .string (cJ (aI (p.den ρ))):=hx.2
   have e2:a.eval y= .string (cJ (aI (q.den ρ))):=hy.2
   have he:execOp a.eval o=(do pure (Next.value (<-(do eqGuard op t x y (.string (cJ (aI (p.den ρ)))) (.string (cJ (aI (q.den ρ))));binOp op t (.string (cJ (aI (p.den ρ)))) (.string (cJ (aI (q.den ρ)))):Sem Value)))):=by simp only[execOp,h,e1,e2]
   exact(adt (op:=op) (t:=t) (x:=x) (y:=y) (w0:=w0) (m:=m) hx.1 hy.1).mono λ_ _ _ _ _ hq=>je.of_run he hq
  ·rename_i p q l7 hT
   rw[l7]at hx;rw[hT]at hy
   have e1:a.eval x= .bool (p.den ρ):=hx.2
   have e2:a.eval y= .bool (q.den ρ):=hy.2
   have eL:(eqGuard op t x y (.bool (p.den ρ)) (.bool (q.den ρ))).run P=λw=> .ok () w:=by funext w;cases op<;>simp[eqGuard]
   split
   ·rename_i hu
    refine ak.pure ⟨aR.Io hx.1 hy.1,_,rfl,λw _=> .inl ?_⟩
    simp only[execOp,h,e1,e2]
    simp[eL,run_eql_bool w t _ _ hu,W.den,A.den,aR.EL]
   ·rename_i hu
    refine ak.pure ⟨aR.p5 (aR.Io hx.1 hy.1),_,rfl,λw _=> .inl ?_⟩
    simp only[execOp,h,e1,e2]
    simp[eL,run_neq_bool w t _ _ hu,W.den,A.den,aR.EL,aR.pj]
   ·exact ak.fail
  ·exact ak.fail
 case h_7 op t x h=>
  have hx:=bO ht x
  unfold QN
  split
  ·rename_i b hv
   rw[hv]at hx
   have e1:a.eval x= .bool (b.den ρ):=hx.2
   refine ak.pure ⟨aR.p5 hx.1,_,rfl,λw _=> .inl ?_⟩
   simp[execOp,h,e1,Op.unary,W.den,A.den,aR.pj]
  ·rename_i k p hv
   rw[hv]at hx
   have e1:a.eval x= .int k (p.l.den ρ):=hx.2
   refine cZ λhc=>?_
   simp only[Bool.and_eq_true,Bool.not_eq_true',decide_eq_true_eq]at hc
   have hp:=hx.1
   have L2:=a6.ok.agree (n':=n) hp (agree.refl n ρ) (Nat.le_refl _)
   have cj:=L2.2
   have e2:((I.const (two k-1)).sub p.l).den ρ=two k-1-p.l.den ρ:=by rw[I.j3,I.aH]
   refine ak.pure ⟨⟨I.sB (I.ch _ _) L2.1,by simp only[e2];omega,by simp only[e2];omega⟩,_,rfl,λw _=> .inl ?_⟩
   have key:k.wrap (BitVec.ofInt k.bits (if k.signed=true then-1 else k.max)^^^BitVec.ofInt k.bits (p.l.den ρ)).toNat=two k-1-p.l.den ρ:=by
    have hk:=hc.1.1
    obtain⟨X,hX⟩:=Int.eq_ofNat_of_zero_le (show 0<=p.l.den ρ by omega)
    have hlt:X<2^k.bits:=by
     have:(X:Int)<2^k.bits:=by rw[<-oe,<-hX];omega
     exact_mod_cast this
    have hall:(BitVec.ofInt k.bits (if k.signed=true then-1 else k.max))=BitVec.allOnes k.bits:=by
     cases k<;>simp[IntKind.signed]at hk<;>rfl
    rw[hall,BitVec.allOnes_xor,BitVec.toNat_not,hX,BitVec.toNat_ofInt]
    have e3:((X:Int)% ((2^k.bits:Nat):Int)).toNat=X:=by
     rw[Int.emod_eq_of_lt (by omega) (by exact_mod_cast hlt)];rfl
    rw[e3,DD]
    have ah:half k=0:=by simp[half,hk]
    have h2:two k=((2^k.bits:Nat):Int):=by rw[oe];simp
    rw[ah,h2,Int.add_zero,Int.sub_zero,Int.emod_eq_of_lt (by omega) (by omega)]
    omega
   simp only[execOp,h,e1,Op.unary,Op.intBits,W.den,A.den,e2]
   simp at key
   simp[key]
  ·rename_i k p hv
   rw[hv]at hx
   have e1:a.eval x= .int k (p.l.den ρ):=hx.2
   have cj:=a6.ok.agree (n':=n) hx.1 (agree.refl n ρ) (Nat.le_refl _)
   have dU:=cj.2
   have e2:(p.l.smul (-1)).den ρ=-p.l.den ρ:=by rw[I.jh];omega
   refine(sI (k:=k) (x:=⟨p.l.smul (-1),-p.hi,-p.lo⟩) ⟨I.rj cj.1,by simp only[e2];omega,by simp only[e2];omega⟩).bind λax aG r _ _ ⟨h1,h2⟩=>ak.pure ⟨h1,_,rfl,λw _=> .inl ?_⟩
   simp only[e2]at h2
   simp[execOp,h,e1,Op.unary,Op.intArith,W.den,A.den,h2]
  ·exact ak.fail
 case h_8 s d x h=>
  have hx:=bO ht x
  unfold Mj
  split
  ·rename_i aM p hu hk hv
   rw[hv]at hx
   have e1:a.eval x= .int aM (p.l.den ρ):=hx.2
   split
   ·rename_i c hc
    refine cZ λhsz=>?_
    have hl:(Utf8.encode c).data.toList.length<=iE:=by
     have:=Nat.le_of_ble_eq_true hsz
     have h2:(Utf8.encode c).data.toList.length=(Utf8.encode c).size:=by simp
     unfold iE;omega
    refine ak.pure ⟨⟨I.ch _ _,by rw[I.aH];exact qz _,by rw[I.aH];exact pa hl⟩,_,rfl,λw _=> .inl ?_⟩
    simp[execOp,h,e1,convert,run_underlying hu,run_underlying hk,Conv.intToString,W.den,A.den,I.aH,ri,cJ,I.fU hc]
   ·exact ak.fail
  ·split
   rotate_left
   ·exact ak.fail
   rename_i k aM p hu hk hv
   rw[hv]at hx
   have e1:a.eval x= .int aM (p.l.den ρ):=hx.2
   refine(sI (k:=k) hx.1).bind λax aG r _ _ ⟨h1,h2⟩=>ak.pure ⟨h1,_,rfl,λw _=> .inl ?_⟩
   simp[execOp,h,e1,convert,run_underlying hu,run_underlying (G9 hk),Conv.intToInt,W.den,A.den,h2]
 case h_9 t x aJ h=>
  have hx:=bO ht x
  have hi:=bO ht aJ
  split
  ·rename_i k i hv
   rw[hv]at hi
   have e1:a.eval aJ= .int k (i.l.den ρ):=hi.2
   have he:execOp a.eval o=(do pure (Next.value (<-Instr.indexAt t (a.eval x) (.int k (i.l.den ρ))))):=by simp only[execOp,h,e1]
   exact(Xv hx.1 hx.2 hi.1).mono λ_ _ _ _ _ hq=>je.of_run he hq
  ·exact ak.fail
 case h_10 t x aJ h=>
  have hx:=bO ht x
  have hi:=bO ht aJ
  split
  ·rename_i s hv
   rw[hv]at hx
   have e1:a.eval x= .string (cJ (aI (s.den ρ))):=hx.2
   split
   ·rename_i i hu pv
    obtain⟨k,hk,_⟩:=uj (m:=m) (bl:=bl) pv hi.2 hi.1
    have he:execOp a.eval o=(do pure (Next.value (<-Instr.index t (.string (cJ (aI (s.den ρ)))) (.int k (i.den ρ))))):=by simp only[execOp,h,e1,hk]
    exact(adu (w0:=w0) (m:=m) hu hx.1).mono λ_ _ _ _ _ hq=>je.of_run he hq
   ·exact ak.fail
  split
  ·rename_i l i len e hv pv wZ
   rw[hv]at hx
   have e1:a.eval x= .agg (l.map (A.den ρ m)).toArray:=hx.2
   have e2:∃k,a.eval aJ= .int k i:=by
    unfold BJ at pv
    split at pv
    ·rename_i k p hT
     rw[hT]at hi
     have:a.eval aJ= .int k (p.l.den ρ):=hi.2
     exact⟨k,by rw[this,I.fU pv]⟩
    ·cases pv
   obtain⟨k,e2⟩:=e2
   split
   ·rename_i s hs
    refine cZ λhc=>?_
    simp only[Bool.and_eq_true,decide_eq_true_eq]at hc
    refine(PH (w0:=w0) (m:=m) (bl:=bl) hx.1).mono λax aG v _ _ ⟨q1,val,aP,bA⟩=>⟨q1,val,aP,λw hw=> .inl ?_⟩
    have:=bA w hw
    simp[execOp,h,e1,e2,Instr.index,asIntOf,run_underlying (oj wZ),hc,fH hs,this]
   ·exact ak.fail
  ·exact ak.fail
 case h_11 s x f h=>
  have hx:=bO ht x
  split
  ·rename_i b off fd hv hf
   rw[hv]at hx
   have e1:a.eval x= .pointer (some ⟨m b,off,none⟩):=hx.2
   obtain⟨eo,hu,zv⟩:=E6 hf
   split
   ·rename_i k hs
    refine ak.pure ⟨hx.1,_,rfl,λw _=> .inl ?_⟩
    simp[execOp,h,e1,Instr.fieldAt,run_underlying hu,zv,Instr.sureAddr,fieldPlace,fH hs,gz,W.den,A.den]
   ·exact ak.fail
  ·exact ak.fail
 case h_12 s x f h=>
  have hx:=bO ht x
  split
  ·rename_i l fd hv hf
   rw[hv]at hx
   have e1:a.eval x= .agg (l.map (A.den ρ m)).toArray:=hx.2
   obtain⟨eo,hu,zv⟩:=E6 hf
   refine(PH (w0:=w0) (m:=m) (bl:=bl) hx.1).mono λax aG v _ _ ⟨q1,val,aP,bA⟩=>⟨q1,val,aP,λw hw=> .inl ?_⟩
   have:=bA w hw
   simp[execOp,h,e1,Instr.field,asAgg,run_underlying hu,zv,this]
  ·exact ak.fail
 case h_13 x i h=>
  have hx:=bO ht x
  split
  ·rename_i l hv
   rw[hv]at hx
   have e1:a.eval x= .tuple (l.map (W.den ρ m)).toArray:=hx.2
   split
   ·rename_i u hu
    refine ak.pure ⟨hx.1 u (List.mem_of_getElem? hu),_,rfl,λw _=> .inl ?_⟩
    simp[execOp,h,e1,Instr.extract,hu]
   ·exact ak.fail
  ·exact ak.fail
 case h_14 t x lo hi h=>
  have hx:=bO ht x
  split
  ·rename_i s hv hu
   rw[hv]at hx
   have e1:a.eval x= .string (cJ (aI (s.den ρ))):=hx.2
   have he:execOp a.eval o=(do pure (Next.value (<-Instr.sliceAt t (.string (cJ (aI (s.den ρ)))) (lo.map a.eval) (hi.map a.eval) none))):=by simp only[execOp,h,e1];rfl
   exact(adw (w0:=w0) (m:=m) hu hx.1 ht).mono λ_ _ _ _ _ hq=>je.of_run he hq
  have key:∀(y:Option Operand) (c:Option Int),C4 tm y=some c->∃f:Int->Value,(∀c,∃k,f c= .int k c)/\y.map a.eval=c.map f:=by
   intro y c hy
   unfold C4 at hy
   cases y with
   |none=>simp at hy;subst hy;exact⟨λc=> .int .i64 c,λc=>⟨_,rfl⟩,rfl⟩
   |some y=>
    simp only at hy
    have hi:=bO ht y
    unfold BJ at hy
    split at hy
    ·rename_i c' hq
     split at hq
     ·rename_i k p hT
      simp only[Option.some.injEq]at hy;subst hy
      rw[hT]at hi
      have:a.eval y= .int k (p.l.den ρ):=hi.2
      exact⟨λc=> .int k c,λc=>⟨_,rfl⟩,by simp[this,I.fU hq]⟩
     ·cases hq
    ·cases hy
  split
  ·rename_i l ah h1 h2
   obtain⟨MM,MN,MO⟩:=key lo l h1
   obtain⟨agx,BV,MF⟩:=key hi ah h2
   unfold Qo
   split
   ·rename_i b off ux e hv wZ
    rw[hv]at hx
    have e1:a.eval x= .pointer (some ⟨m b,off,none⟩):=hx.2
    split
    ·rename_i s hs
     refine cZ λhc=>?_
     simp only[Bool.and_eq_true,decide_eq_true_eq]at hc
     refine ak.pure ⟨hx.1,_,rfl,λw _=> .inl ?_⟩
     have jF:(Instr.sliceBounds false ux ux (lo.map a.eval) (hi.map a.eval) none).run P w= .ok ((l.getD 0).toNat,(ah.getD ux).toNat,ux) w:=by
      rw[MO,MF]
      have c1:∀(k:IntKind) (i:Int) (y:Nat) (fo:BoundsCode),0<=i->i<=y->(Instr.sliceBound (.int k i) y fo).run P w= .ok i.toNat w:=λk i y fo p1 aS=>by
       simp[Instr.sliceBound,asIntOf,p1,aS]
      cases l with
      |none=>
       cases ah with
       |none=>simp[Instr.sliceBounds]
       |some h'=>
        obtain⟨aM,ig⟩:=BV h'
        simp only[Option.getD_none,Option.getD_some]at hc
        simp[Instr.sliceBounds,ig,c1 aM h' ux _ (by omega) (by omega)]
      |some l'=>
       obtain⟨k1,hP⟩:=MN l'
       cases ah with
       |none=>
        simp only[Option.getD_none,Option.getD_some]at hc
        simp[Instr.sliceBounds,hP,c1 k1 l' ux _ (by omega) (by omega)]
       |some h'=>
        obtain⟨aM,ig⟩:=BV h'
        simp only[Option.getD_some]at hc
        simp[Instr.sliceBounds,ig,hP,c1 aM h' ux _ (by omega) (by omega),c1 k1 l' h'.toNat _ (by omega) (by omega)]
     simp only[execOp,h,e1,Option.map_none,Instr.sliceAt]
     simp[run_underlying (oj wZ),Instr.sureAddr,jF,fH hs,gz,W.den,A.den]
     intro hq
     have h3:=hc.2
     omega
    ·exact ak.fail
   ·rename_i b off len cap hv wZ
    rw[hv]at hx
    have e1:a.eval x= .slice (some ⟨m b,off,none⟩) len cap:=hx.2
    split
    ·rename_i e l5
     split
     ·rename_i s hs
      refine cZ λhc=>?_
      simp only[Bool.and_eq_true,decide_eq_true_eq]at hc
      refine ak.pure ⟨hx.1,_,rfl,λw _=> .inl ?_⟩
      have jF:(Instr.sliceBounds true len cap (lo.map a.eval) (hi.map a.eval) none).run P w= .ok ((l.getD 0).toNat,(ah.getD len).toNat,cap) w:=by
       rw[MO,MF]
       have c1:∀(k:IntKind) (i:Int) (y:Nat) (fo:BoundsCode),0<=i->i<=y->(Instr.sliceBound (.int k i) y fo).run P w= .ok i.toNat w:=λk i y fo p1 aS=>by
        simp[Instr.sliceBound,asIntOf,p1,aS]
       cases l with
       |none=>
        cases ah with
        |none=>simp[Instr.sliceBounds]
        |some h'=>
         obtain⟨aM,ig⟩:=BV h'
         simp only[Option.getD_none,Option.getD_some]at hc
         simp[Instr.sliceBounds,ig,c1 aM h' cap _ (by omega) (by omega)]
       |some l'=>
        obtain⟨k1,hP⟩:=MN l'
        cases ah with
        |none=>
         simp only[Option.getD_none,Option.getD_some]at hc
         simp[Instr.sliceBounds,hP,c1 k1 l' len _ (by omega) (by omega)]
        |some h'=>
         obtain⟨aM,ig⟩:=BV h'
         simp only[Option.getD_some]at hc
         simp[Instr.sliceBounds,ig,hP,c1 aM h' cap _ (by omega) (by omega),c1 k1 l' h'.toNat _ (by omega) (by omega)]
      simp only[execOp,h,e1,Option.map_none,Instr.sliceAt]
      simp[run_underlying (eE l5),Instr.slice,jF,fH hs,gz,W.den,A.den]
      intro hq
      have h3:=hc.2
      omega
     ·exact ak.fail
    ·exact ak.fail
   ·exact ak.fail
  ·exact ak.fail
 case h_15 c h=>
  split
  ·rename_i f hc
   split
   ·rename_i g F6
    have kU:∀v∈c.args.toList.map (bw tm),V.ok n bl.length ρ v:=λv hv=>by
     obtain⟨x,_,rfl⟩:=List.mem_map.1 hv
     exact(bO ht x).1
    refine(ck f g F6 L n ρ m bl _ _ hb hex kU (Be (xs:=c.args.toList) ht)).mono λax aG v _ _ ⟨q1,val,aP,bA⟩=>⟨q1,val,aP,λw hw=>?_⟩
    have he:=Il (a:=a) hc o h
    have ha:(c.args.toList.map a.eval).toArray=c.args.map a.eval:=by
     rw[<-Array.toList_map]
    have cM:=bA w hw
    rw[ha]at cM
    rcases cM with cM|⟨cM,iX⟩
    ·exact .inl (by rw[he];exact cM)
    ·exact .inr ⟨f,_,by rw[he];exact cM,iX⟩
   ·exact ak.fail
  ·rename_i hc
   split
   ·rename_i x t dP iS
    have hx:=bO ht x
    split
    ·rename_i s hv hu
     rw[hv]at hx
     have e1:a.eval x= .string (cJ (aI (s.den ρ))):=hx.2
     have bh:c.args=#[x]:=by rw[<-Array.toArray_toList (xs:=c.args),dP]
     have a2:c.argTypes=#[t]:=by rw[<-Array.toArray_toList (xs:=c.argTypes),iS]
     have he:execOp a.eval o=(do pure (Next.value (<-Builtin.len_ #[t] o.type #[.string (cJ (aI (s.den ρ)))]))):=by
      simp[execOp,h,resolve,hc,bh,a2,e1,invoke,builtin]
     exact(adv (w0:=w0) (m:=m) hu hx.1).mono λ_ _ _ _ _ hq=>je.of_run he hq
    split
    ·rename_i b off len cap e hv hs
     rw[hv]at hx
     have e1:a.eval x= .slice (some ⟨m b,off,none⟩) len cap:=hx.2
     refine ak.pure ⟨a6.j1 _ _ _,_,rfl,λw _=> .inl ?_⟩
     have bh:c.args=#[x]:=by rw[<-Array.toArray_toList (xs:=c.args),dP]
     have a2:c.argTypes=#[t]:=by rw[<-Array.toArray_toList (xs:=c.argTypes),iS]
     simp[execOp,h,resolve,hc,bh,a2,e1,invoke,builtin,Builtin.len_,run_underlying (eE hs),goInt,W.den,A.den,a6.const,I.aH]
    ·rename_i b len lo e hv hs
     rw[hv]at hx
     obtain⟨j2,_,e1⟩:=hx.2
     refine ak.pure ⟨a6.j1 _ _ _,_,rfl,λw _=> .inl ?_⟩
     have bh:c.args=#[x]:=by rw[<-Array.toArray_toList (xs:=c.args),dP]
     have a2:c.argTypes=#[t]:=by rw[<-Array.toArray_toList (xs:=c.argTypes),iS]
     simp[execOp,h,resolve,hc,bh,a2,e1,invoke,builtin,Builtin.len_,run_underlying (eE hs),goInt,W.den,A.den,a6.const,I.aH]
    ·exact ak.fail
   ·exact ak.fail
  ·exact ak.fail
 case h_16 f first gp h=>
  split
  ·rename_i l hf hl
   obtain⟨g1,g2⟩:=aam (m:=m) hl (λv hv=>by obtain⟨x,_,rfl⟩:=List.mem_map.1 hv;exact(bO ht x).1) (Be (xs:=gp.toList) ht)
   have NW:first=#[]:=by rw[<-Array.toArray_toList (xs:=first),hf]
   have VG:gp.map a.eval=(l.map (A.den ρ m)).toArray:=by rw[<-g2,<-Array.toList_map]
   refine ak.pure ⟨g1,_,rfl,λw _=> .inl ?_⟩
   simp only[execOp,h,VG,NW]
   simp[Instr.makeFunc]
  ·exact ak.fail
 case h_17 t parts h=>
  split
  ·rename_i l hl
   obtain⟨g1,g2⟩:=Sn (n:=n) (nb:=bl.length) (ρ:=ρ) (m:=m) (vals:=(parts.map λ(i,x)=>(i,a.eval x)).toList) hl (by
    rw[Array.toList_map]
    generalize parts.toList=ps
    induction ps with
    |nil=>exact trivial
    |cons p r ih=>exact⟨⟨rfl,bO ht p.2⟩,ih⟩)
   refine ak.pure ⟨g1,_,rfl,λw _=> .inl ?_⟩
   simp only[execOp,h]
   simp[run_build w t _ _ g2,W.den]
  ·exact ak.fail
 case h_18 t x h=>
  have hx:=bO ht x
  split
  ·rename_i b len lo k e hv ha
   rw[hv]at hx
   refine cZ λhc=>ak.pure ⟨hx.1,_,rfl,λw _=> .inl ?_⟩
   obtain⟨c,fN,hc2⟩:=hx.2
   have hle:¬len<k:=by have:=Nat.le_of_ble_eq_true hc;omega
   simp only[execOp,h]
   rw[hc2]
   simp[Instr.arrayAt,run_underlying (oj ha),hle,W.den,A.den]
  ·rename_i b off len cap k e hv ha
   rw[hv]at hx
   refine cZ λhc=>ak.pure ⟨by simpa [V.ok,W.ok,A.ok]using hx.1,_,rfl,λw _=> .inl ?_⟩
   have hle:¬len<k:=by have:=Nat.le_of_ble_eq_true hc;omega
   have e1:a.eval x=_:=hx.2
   simp only[execOp,h]
   rw[e1]
   simp[Instr.arrayAt,run_underlying (oj ha),hle,W.den,A.den]
  ·exact ak.fail
 case h_19=>exact ak.fail
end
end Go.bx
namespace Go.bx
open M
noncomputable def BE (c:az) (code i:I) (j:Nat):M A:=
 match c with
 | .int k lo hi=>bind (dz 21 [code,i,.const j] lo hi) λl=>pure (.int k ⟨l,lo,hi⟩)
 | .str=>bind (dz 21 [code,i,.const j] 0 gn) λl=>pure (.str l)
 | .bool=>bind (dz 21 [code,i,.const j] 0 1) λl=>pure (.bool (.mkEq ⟨l,0,1⟩ (.const 1)))
noncomputable def BF (code i:I):Nat->List az->M (List A)
 |_,[]=>pure []
 |j,c::r=>bind (BE c code i j) λa=>bind (BF code i (j+1) r) λl=>pure (a::l)
noncomputable def Ic (c:az) (code:I):Nat->I->M (List A)
 |0,_=>pure []
 |q+1,i=>bind (dY 21 [code,i]) λ_=>bind (BE c code i 0) λa=>bind (Ic c code q (i.add (.const 1))) λl=>pure (a::l)
noncomputable def E0 (P:Program) (bl:List ar) (t:TypeId) (b aN:Nat) (o i:I) (j:Nat):M V:=
 match bl[b]? with
 |some ([.rows sh off code cap kind],_)=>cond (Nat.blt 0 kind&&Nat.beq aN sh.length&&I.beq o off) (bind (dY 21 [code,i]) λ_=>match fY P t,dE P t with
  |some true,some k=>cond (Nat.ble (j+k) sh.length) (bind (BF code i j ((sh.drop j).take k)) λl=>pure (.w (.agg l))) (match sh,j with
   |[c],0=>bind (Ic c code k i) λl=>pure (.w (.agg l))
   |_,_=>fail)
  |some false,_=>match sh[j]? with
   |some c=>bind (BE c code i j) λa=>pure (.w (.one a))
   |none=>fail
  |_,_=>fail) fail
 |_=>fail
def Iw (P:Program) (t:TypeId) (b aN:Nat) (o ro len:I) (aJ:I):M V:=
 match fI P t with
 |some e=>match dE P e with
  |some s=>cond (Nat.beq s aN) (bind (dY 30 [aJ,len]) λ_=>pure (.w (.one (.ep b aN o (ro.add aJ) 0)))) fail
  |none=>fail
 |none=>fail
def wm (op:Nat) (ls:List I):M Unit:=λn k=> .qv op ls (k () n)
def Iy (P:Program) (t:TypeId) (b aN:Nat) (o ro len cap:I) (x y:I):M V:=
 match fI P t with
 |some e=>match dE P e with
  |some s=>cond (Nat.beq s aN) (bind (dY 32 [x,y,len]) λ_=>match x.cT with
   |some 0=>pure (.w (.one (.sl b aN o ro y cap)))
   |_=>bind (wm 68 [len,cap]) λ_=>bind (dz 33 [ro,x,cap] 0 9223372036854775808) λr=>pure (.w (.one (.sl b aN o r (y.sub x) (cap.sub x))))) fail
  |none=>fail
 |none=>fail
def rT (tm:List V) (d:I):Option Operand->Option I
 |none=>some d
 |some x=>l8 (bw tm x)
def BA:List az->Bool
 |[.int .u8 lo hi]=>decide (lo=0)&&decide (hi=255)
 |_=>false
noncomputable def Ix (bl:List ar) (b aN:Nat) (o ro len:I):M V:=
 match bl[b]? with
 |some ([.rows sh off code cap kind],_)=>cond (Nat.blt 0 kind&&Nat.beq aN 1&&I.beq o off&&BA sh) (bind (dY 35 [code,ro,ro.add len]) λ_=>bind (dz 34 [code,ro,ro.add len] 0 gn) λl=>pure (.w (.one (.str l)))) fail
 |_=>fail
def Bw {α:Type} (b:aR) (x y:M α):M α:=λn k=>match b with
 | .lit v=>cond v (x n k) (y n k)
 |b=> .qy b (x n k) (y n k)
def Pl (k:IntKind) (x y:a6):M V:=Bw (.mkLt y x) (pure (.w (.one (.int k y)))) (pure (.w (.one (.int k x))))
def Pj (k:IntKind) (x y:a6):M V:=Bw (.mkLt x y) (pure (.w (.one (.int k y)))) (pure (.w (.one (.int k x))))
def kt:List A->Option (List Bool)
 |[]=>some []
 | .bool (.lit b)::r=>match kt r with|some l=>some (b::l)|none=>none
 |_::_=>none
def qW:Nat->List Bool->List UInt8
 |_,[]=>[]
 |i,b::r=>cond b (UInt8.ofNat i::qW (i+1) r) (qW (i+1) r)
def Iq (bl:List ar) (b off:Nat) (aJ:a6):M V:=
 match bl[b]? with
 |some (cs,_)=>match kt ((cs.drop off).take (aJ.hi.toNat+1))with
  |some l=>cond (Nat.beq l.length (aJ.hi.toNat+1)&&Nat.ble aJ.hi.toNat 255&&decide (0<=aJ.lo)&&bu cs) (bind (dz 43 [.const (fT (qW 0 l)),aJ.l] 0 1) λr=>pure (.w (.one (.bool (.mkEq ⟨r,0,1⟩ (.const 1)))))) fail
  |none=>fail
 |none=>fail
noncomputable def Ie (P:Program) (bl:List ar) (tm:List V) (o:Oper):Option (M V):=
 match o.op with
 | .load t x=>match bw tm x with
  | .w (.one (.ep b aN o i j))=>some (E0 P bl t b aN o i j)
  | .w (.one (.kj b off aJ))=>match P.underlying t with
   |some .bool=>some (Iq bl b off aJ)
   |_=>none
  |_=>none
 | .nilCheck x=>match bw tm x with
  | .w (.one (.ep b aN o i j))=>some (pure (.w (.one (.ep b aN o i j))))
  |_=>none
 | .indexAddr t x aJ=>match bw tm x,bw tm aJ with
  | .w (.one (.sl b aN o ro len cap)),.w (.one (.int _ i))=>some (Iw P t b aN o ro len i.l)
  |_,_=>none
 | .sliceToArrayPointer t x=>match bw tm x,nf P t with
  | .w (.one (.sl b aN o ro len cap)),some (k,_)=>some (cond (Nat.blt 0 k) (bind (dY 30 [.const ((k:Int)-1),len]) λ_=>pure (.w (.one (.ep b aN o ro 0)))) fail)
  |_,_=>none
 | .fieldAddr s x f=>match bw tm x,y2 P s f with
  | .w (.one (.ep b aN o i j)),some fd=>match dE P fd.type with
   |some (_+1)=>some (pure (.w (.one (.ep b aN o i (j+fd.offset)))))
   |_=>none
  |_,_=>none
 | .slice t x lo hi none=>match bw tm x with
  | .w (.one (.sl b aN o ro len cap))=>match rT tm (.const 0) lo,rT tm len hi with
   |some p,some q=>some (Iy P t b aN o ro len cap p q)
   |_,_=>none
  |_=>none
 | .convert s d x=>match bw tm x,fI P s,P.underlying d with
  | .w (.one (.sl b aN o ro len cap)),some e,some .string=>match P.underlying e with
   |some (.int .u8)=>some (Ix bl b aN o ro len)
   |_=>none
  |_,_,_=>none
 | .call c=>match c.callee with
  | .builtin .len=>match c.args.toList,c.argTypes.toList with
   |[x],[t]=>match bw tm x,fI P t with
    | .w (.one (.sl b aN o ro len cap)),some _=>some (pure (.w (.one (.int .i64 ⟨len,0,9223372036854775807⟩))))
    |_,_=>none
   |_,_=>none
  | .builtin .min=>match c.args.toList with
   |[x,y]=>match bw tm x,bw tm y with
    | .w (.one (.int k p)),.w (.one (.int aM q))=>cond (decide (k=aM)) (some (Pl k p q)) none
    |_,_=>none
   |_=>none
  | .builtin .max=>match c.args.toList with
   |[x,y]=>match bw tm x,bw tm y with
    | .w (.one (.int k p)),.w (.one (.int aM q))=>cond (decide (k=aM)) (some (Pj k p q)) none
    |_,_=>none
   |_=>none
  |_=>none
 | .binOp op t x y _=>match fI P t,bw tm x,bw tm y with
  |some _,.w (.one (.sl b aN o ro len cap)),.w (.one (.con (.slice none 0 0)))=>match op with
   | .eql=>some (bind (wm 53 [cap,len]) λ_=>pure (.w (.one (.bool (.lt cap (.const 0))))))
   | .neq=>some (bind (wm 53 [cap,len]) λ_=>pure (.w (.one (.bool (.mkNot (.lt cap (.const 0)))))))
   |_=>none
  |_,_,_=>none
 |_=>none
def Bq (bl:List ar) (b off:Nat):Option (List az×I×Nat):=
 match bl[b]? with
 |some ([.rows sh o code cap kind],_)=>match cap.cT with
  |some c=>cond (Nat.beq off 0&&Nat.blt 0 kind&&I.beq o (.const 0)&&decide (0<=c)) (some (sh,code,c.toNat)) none
  |none=>none
 |_=>none
noncomputable def Bo (code:I) (sh:List az):Nat->Nat->M (List A)
 |_,0=>pure []
 |i,k+1=>bind (BF code (.const i) 0 sh) λa=>bind (Bo code sh (i+1) k) λl=>pure (a++l)
def Iz (P:Program) (t:TypeId) (b aN:Nat) (o ro len cap:I) (x y z:I):M V:=
 match fI P t with
 |some e=>match dE P e with
  |some s=>cond (Nat.beq s aN) (bind (cond (I.beq z len) (dY 78 [x,y,z,cap]) (dY 64 [x,y,z,len])) λ_=>bind (dz 33 [ro,x,z] 0 9223372036854775808) λr=>pure (.w (.one (.sl b aN o r (y.sub x) (z.sub x))))) fail
  |none=>fail
 |none=>fail
noncomputable def Dj (P:Program) (bl:List ar) (tm:List V) (o:Oper):Option (M V):=
 match o.op with
 | .indexAddr t x aJ=>match bw tm x,bw tm aJ with
  | .w (.one (.ptr b off)),.w (.one (.int _ i))=>match Bq bl b off,nf P t with
   |some (sh,code,c),some (len,e)=>match dE P e with
    |some s=>cond (Nat.beq s sh.length&&Nat.beq len c) (some (bind (dY 30 [i.l,.const len]) λ_=>pure (.w (.one (.ep b s (.const 0) i.l 0))))) none
    |none=>none
   |_,_=>none
  |_,_=>none
 | .load t x=>match bw tm x with
  | .w (.one (.ptr b off))=>match Bq bl b off,fY P t,dE P t with
   |some (sh,code,c),some true,some k=>cond (Nat.beq k (c*sh.length)) (some (bind (dY 31 [code,.const c]) λ_=>bind (Bo code sh 0 c) λl=>pure (.w (.agg l)))) none
   |_,_,_=>none
  |_=>none
 | .slice t x lo (some hi) (some b7)=>match bw tm x with
  | .w (.one (.sl b aN bI ro len cap))=>match rT tm (.const 0) lo,l8 (bw tm hi),l8 (bw tm b7)with
   |some p,some q,some r=>some (Iz P t b aN bI ro len cap p q r)
   |_,_,_=>none
  |_=>none
 | .call c=>match c.callee with
  | .builtin .len=>match c.args.toList,c.argTypes.toList with
   |[x],[t]=>match bw tm x,fI P t with
    | .w (.one (.con (.slice none 0 0))),some _=>some (pure (.w (.one (.int .i64 (.const 0)))))
    |_,_=>none
   |_,_=>none
  |_=>none
 |_=>none
noncomputable def BP (cal:dm) (bl:List ar) (tm:List V) (o:Oper):Option (M V):=
 match o.op with
 | .call c=>match c.callee with
  | .value (.tmp x)=>match bw tm (.tmp x)with
   | .w (.one (.con (.func (.func f) BT BU)))=>cond (Nat.beq BT.size 0&&Nat.beq BU.size 0) ((cal f).map λg=>g bl (c.args.toList.map (bw tm))) none
   |_=>none
  |_=>none
 |_=>none
noncomputable def rf (P:Program) (cal:dm) (gl:c6) (bl:List ar) (tm:List V) (o:Oper):M V:=
 match Ie P bl tm o with
 |some x=>x
 |none=>match Dj P bl tm o with
  |some x=>x
  |none=>match BP cal bl tm o with
   |some x=>x
   |none=>HV P cal gl bl tm o
theorem jy.get {cells:Array Value} {off:Nat} {sh:List az} {rows:List (List Int)} (h:jy cells off sh rows) {i j:Nat} {row:List Int} {v:Value} (hi:rows[i]?=some row) (hj:(dD sh row)[j]?=some v):cells[off+i*sh.length+j]?=some v:=by
 obtain⟨h1,pre,post,h2,h3⟩:=h
 have h4:=Fe h1 hi hj
 rw[<-Array.getElem?_toList,h2,List.append_assoc,List.getElem?_append_right (by omega),List.getElem?_append_left]
 ·rw[show off+i*sh.length+j-pre.length=i*sh.length+j by omega];exact h4
 ·have:=(List.getElem?_eq_some_iff.1 h4).1;omega
section
variable {S:Nat->List Int->List Int->Prop} {L:V->Env->Prop} {n:Nat} {ρ:Env} {m:Nat->Nat} {bl:List ar} {gl:c6} {w0:cP} {P:Program} {tm:List V} {a:Act}
theorem L3 {α:Type} {b:aR} {x y:M α} {R:Env->Nat->α->Prop} (h1:b.den ρ=true->ak S L x n ρ R) (h2:b.den ρ=false->ak S L y n ρ R):ak S L (Bw b x y) n ρ R:=by
 intro A k hk
 unfold Bw at hk
 cases hb:b.den ρ with
 |true=>
  cases b with
  |lit v=>simp only[aR.den]at hb;subst hb;exact h1 rfl A k hk
  |_=>exact h1 hb A k (hk.1 hb)
 |false=>
  cases b with
  |lit v=>simp only[aR.den]at hb;subst hb;exact h2 rfl A k hk
  |_=>exact h2 hb A k (hk.2 hb)
theorem Ey {nb:Nat} {c:az} {code i:I} {j:Nat} {z:Int} {row:List Int} (fO:(ab (code.den ρ))[(i.den ρ).toNat]?=some row) (hz:row[j]?=some z) (h1:c.dJ.1<=z) (h2:z<=c.dJ.2):
 ak S L (BE c code i j) n ρ λae n' x=>x.ok n' nb ae/\x.den ae m=c.val z:=by
 have hf:aa 21 ([code,i,I.const (j:Nat)].map (·.den ρ))=z:=by
  simp only[List.map_cons,List.map_nil,I.aH,aa,Int.toNat_natCast]
  simp[List.getD,fO,hz]
 cases c with
 |int k lo hi=>
  refine(en (by rw[hf];exact h1) (by rw[hf];exact h2)).bind λax aG l _ _ ⟨g1,g2⟩=>ak.pure ⟨⟨g1,?_,?_⟩,?_⟩
  ·rw[g2,hf];exact h1
  ·rw[g2,hf];exact h2
  ·simp only[A.den,az.val];rw[g2,hf]
 |str=>
  refine(en (by rw[hf];exact h1) (by rw[hf];exact h2)).bind λax aG l _ _ ⟨g1,g2⟩=>ak.pure ⟨⟨g1,?_,?_⟩,?_⟩
  ·rw[g2,hf];exact h1
  ·rw[g2,hf];exact h2
  ·simp only[A.den,az.val];rw[g2,hf]
 |bool=>
  refine(en (by rw[hf];exact h1) (by rw[hf];exact h2)).bind λax aG l _ _ ⟨g1,g2⟩=>ak.pure ?_
  have bf:a6.ok aG ax ⟨l,0,1⟩:=⟨g1,by simp only;rw[g2,hf];exact h1,by simp only;rw[g2,hf];exact h2⟩
  have e:=aR.nT bf (a6.j1 aG ax 1)
  refine⟨e.2,?_⟩
  simp only[A.den,az.val]
  rw[e.1]
  simp only[a6.const,I.aH]
  rw[g2,hf]
theorem EA {nb:Nat} {sh:List az} {row:List Int} (bf:b5 sh row):∀{r:List az} {n:Nat} {ρ:Env} {code i:I} {j:Nat},code.aV n->i.aV n->(ab (code.den ρ))[(i.den ρ).toNat]?=some row->(∀(x:Nat) (c:az),r[x]?=some c->sh[j+x]?=some c)->
 ak S L (BF code i j r) n ρ λae n' l=>(∀a∈l,A.ok n' nb ae a)/\l.length=r.length/\∀(x:Nat) (a:A),l[x]?=some a->(dD sh row)[j+x]?=some (a.den ae m)
 |[],n,ρ,code,i,j,_,_,_,_=>ak.pure ⟨λ_ h=>by simp at h,rfl,λx a h=>by simp at h⟩
 |c::r,n,ρ,code,i,j,zV,zW,fO,hr=>by
  have h0:=hr 0 c rfl
  obtain⟨z,h1,h2,h3,h4⟩:=bf.get h0
  refine(Ey (nb:=nb) (m:=m) fO h1 h2 h3).bind λax aG y hn ha ⟨g1,g2⟩=>?_
  refine(EA (nb:=nb) (r:=r) (n:=aG) (ρ:=ax) (code:=code) (i:=i) (j:=j+1) bf (zV.mono hn) (zW.mono hn) (by rw[I.bj ha zV,I.bj ha zW];exact fO) (λx c hx=>by
   have:=hr (x+1) c (by simpa using hx)
   rw[show j+1+x=j+(x+1) by omega];exact this)).bind λbg dC l dF cK ⟨k1,k2,k3⟩=>ak.pure ⟨λb hb=>?_,by simp[k2],λx b hb=>?_⟩
  ·rcases List.mem_cons.1 hb with rfl|hb
   ·exact g1.ext cK dF (Nat.le_refl _)
   ·exact k1 b hb
  ·cases x with
   |zero=>
    simp only[List.getElem?_cons_zero,Option.some.injEq]at hb
    subst hb
    rw[A.iy g1 cK (λ_ _=>rfl),g2];exact h4
   |succ x=>
    have:=k3 x b (by simpa using hb)
    rw[show j+(x+1)=j+1+x by omega];exact this
theorem P1 {nb:Nat} {c:az} {code:I}:∀{q n:Nat} {ρ:Env} {i:I},(∀row∈ab (code.den ρ),b5 [c] row)->code.aV n->i.aV n->
 ak S L (Ic c code q i) n ρ λae n' l=>(∀a∈l,A.ok n' nb ae a)/\l.length=q/\∀(x:Nat) (a:A),l[x]?=some a->∃row,(ab (code.den ρ))[(i.den ρ).toNat+x]?=some row/\(dD [c] row)[0]?=some (a.den ae m)
 |0,n,ρ,i,_,_,_=>ak.pure ⟨λ_ h=>by simp at h,rfl,λx a h=>by simp at h⟩
 |q+1,n,ρ,i,gB,zV,zW=>by
  refine eQ λhk=>?_
  simp only[List.map_cons,List.map_nil,U]at hk
  have hlt:(i.den ρ).toNat<(ab (code.den ρ)).length:=by omega
  have fO:(ab (code.den ρ))[(i.den ρ).toNat]?=some (ab (code.den ρ))[(i.den ρ).toNat]:=List.getElem?_eq_getElem hlt
  have bf:=gB _ (List.getElem_mem hlt)
  generalize (ab (code.den ρ))[(i.den ρ).toNat]=row at fO bf
  obtain⟨z,h1,h2,h3,h4⟩:=bf.get (show([c]:List az)[0]?=some c from rfl)
  refine(Ey (nb:=nb) (m:=m) fO h1 h2 h3).bind λax aG y hn ha ⟨g1,g2⟩=>?_
  have fr:=I.bj ha zV
  have hid:=I.bj ha zW
  refine(P1 (nb:=nb) (q:=q) (n:=aG) (ρ:=ax) (i:=i.add (.const 1)) (by rw[fr];exact gB) (zV.mono hn) (I.p4 (zW.mono hn) (I.ch _ _))).bind λbg dC l dF cK ⟨k1,k2,k3⟩=>ak.pure ⟨λb hb=>?_,by simp[k2],λx b hb=>?_⟩
  ·rcases List.mem_cons.1 hb with rfl|hb
   ·exact g1.ext cK dF (Nat.le_refl _)
   ·exact k1 b hb
  ·cases x with
   |zero=>
    simp only[List.getElem?_cons_zero,Option.some.injEq]at hb
    subst hb
    exact⟨row,by simpa using fO,by rw[A.iy g1 cK (λ_ _=>rfl),g2];exact h4⟩
   |succ x=>
    obtain⟨vo,ay,dM⟩:=k3 x b (by simpa using hb)
    rw[fr,I.den_add,I.aH,hid]at ay
    exact⟨vo,by rw[<-ay];congr 1;omega,dM⟩
theorem Ti (hb:b4 n bl.length ρ bl) (hex:∃w,Mem w0 ρ m bl w) (t:TypeId) {b aN:Nat} {o i:I} {j:Nat} (hx:(A.ep b aN o i j).ok n bl.length ρ):
 ak S L (E0 P bl t b aN o i j) n ρ (jf w0 m bl n ρ λw=>(Instr.loadAt t ((A.ep b aN o i j).den ρ m)).run P w):=by
 obtain⟨qd,n3⟩:=hex
 unfold E0
 split
 ·rename_i sh off code cap kind t' aA
  refine cZ λhc=>eQ λhk=>?_
  simp only[Bool.and_eq_true]at hc
  obtain⟨⟨c1,bb⟩,bJ⟩:=hc
  have c1:0<kind:=Nat.le_of_ble_eq_true c1
  have bb:=Nat.eq_of_beq_eq_true bb
  have bJ:=I.beq_eq bJ
  subst bJ
  have tZ:(A.rows sh o code cap kind).ok n bl.length ρ:=hb _ (List.mem_of_getElem? aA) _ (by simp)
  simp only[List.map_cons,List.map_nil,U]at hk
  have hlt:(i.den ρ).toNat<(ab (code.den ρ)).length:=by omega
  have fO:(ab (code.den ρ))[(i.den ρ).toNat]?=some (ab (code.den ρ))[(i.den ρ).toNat]:=List.getElem?_eq_getElem hlt
  generalize (ab (code.den ρ))[(i.den ρ).toNat]=row at fO
  have cd:0<=cap.den ρ:=by
   rcases Int.lt_or_le (cap.den ρ) 0 with h|h
   ·have:=(n3.rws b sh o code cap kind t' aA (by omega)).1 h
    rw[this]at hlt;simp at hlt
   ·exact h
  have iB:∀w,Mem w0 ρ m bl w->b5 sh row/\∀(x:Nat) (v:Value),(dD sh row)[x]?=some v->w.cell? ⟨m b,(o.den ρ).toNat+(i.den ρ).toNat*aN+x,none⟩=some v:=λw hw=>by
   obtain⟨_,cells,gv,fz,g1,⟨g2,g3⟩,_⟩:=(hw.rws b sh o code cap kind t' aA (by omega)).2 cd
   refine⟨g3.1 _ (List.mem_of_getElem? fO),λx v hv=>?_⟩
   have:=g3.get fO hv
   simp only[World.cell?,g1,Option.isSome_none,Bool.false_eq_true,if_false]
   rw[bb];exact this
  have gB:=(iB qd n3).1
  cases kz:fY P t with
  |none=>exact ak.fail
  |some R1=>
   cases R1 with
   |true=>
    cases hs:dE P t with
    |none=>exact ak.fail
    |some k=>
     simp only
     cases kA:Nat.ble (j+k) sh.length with
     |false=>
      simp only[cond_false]
      split
      ·rename_i c _
       have hall:∀row∈ab (code.den ρ),b5 [c] row:=by
        obtain⟨_,cells,gv,fz,g1,⟨g2,g3⟩,_⟩:=(n3.rws b [c] o code cap kind t' aA (by omega)).2 cd
        exact g3.1
       refine(P1 (nb:=bl.length) (m:=m) (q:=k) (i:=i) hall tZ.1.2.1 hx.2.1.2).bind λax aG l hn ha ⟨g1,g2,g3⟩=>ak.pure ⟨g1,_,rfl,λw hw=>?_⟩
       have hl:=run_loadCells_list (P:=P) w ⟨m b,(o.den ρ).toNat+(i.den ρ).toNat*aN+0,none⟩ (l.map (A.den ax m)) λx v hj=>by
        rw[gz]
        rw[List.getElem?_map]at hj
        cases hq:l[x]? with
        |none=>simp[hq]at hj
        |some y=>
         simp only[hq,Option.map_some,Option.some.injEq]at hj
         subst hj
         obtain⟨vo,ay,dM⟩:=g3 x y hq
         obtain⟨_,cells,gv,fz,e1,⟨e2,e3⟩,_⟩:=(hw.rws b [c] o code cap kind t' aA (by omega)).2 cd
         have:=e3.get ay dM
         simp only[World.cell?,e1,Option.isSome_none,Bool.false_eq_true,if_false]
         simp only[List.length_cons,List.length_nil]at bb this
         rw[bb]
         rw[<-this];congr 1;omega
       simp only[List.length_map,g2,Nat.add_zero]at hl
       simp[Instr.loadAt,Instr.sureAddr,A.den,loadVar,lF kz,fH hs,hl,W.den]
      ·exact ak.fail
     |true=>
     simp only[cond_true]
     have kA:=Nat.le_of_ble_eq_true kA
     refine(EA (nb:=bl.length) (m:=m) (r:=(sh.drop j).take k) gB tZ.1.2.1 hx.2.1.2 fO (λx c Aa=>by
      rw[List.getElem?_take]at Aa
      split at Aa
      ·rw[List.getElem?_drop]at Aa;exact Aa
      ·cases Aa)).bind λax aG l hn ha ⟨g1,g2,g3⟩=>ak.pure ⟨g1,_,rfl,λw hw=>?_⟩
     have hl:=run_loadCells_list (P:=P) w ⟨m b,(o.den ρ).toNat+(i.den ρ).toNat*aN+j,none⟩ (l.map (A.den ax m)) λx v hj=>by
      rw[gz]
      rw[List.getElem?_map]at hj
      cases hq:l[x]? with
      |none=>simp[hq]at hj
      |some y=>
       simp only[hq,Option.map_some,Option.some.injEq]at hj
       subst hj
       rw[Nat.add_assoc]
       exact(iB w hw).2 (j+x) _ (g3 x y hq)
     simp only[List.length_map,g2,List.length_take,List.length_drop,Nat.min_eq_left (show k<=sh.length-j by omega)]at hl
     simp[Instr.loadAt,Instr.sureAddr,A.den,loadVar,lF kz,fH hs,hl,W.den]
   |false=>
    cases hc:sh[j]? with
    |none=>simp only;exact ak.fail
    |some c=>
     simp only
     obtain⟨z,h1,h2,h3,h4⟩:=gB.get hc
     refine(Ey (nb:=bl.length) (m:=m) fO h1 h2 h3).bind λax aG y hn ha ⟨g1,g2⟩=>ak.pure ⟨g1,_,rfl,λw hw=>?_⟩
     have:=(iB w hw).2 j _ h4
     have Gw:(A.ep b aN o i j).den ρ m= .pointer (some ⟨m b,(o.den ρ).toNat+(i.den ρ).toNat*aN+j,none⟩):=rfl
     simp[Instr.loadAt,Instr.sureAddr,Gw,loadVar,lF kz,this,W.den,g2]
 ·exact ak.fail
theorem nF {b aN:Nat} {o ro len cap:I} (hx:(A.sl b aN o ro len cap).ok n bl.length ρ):∃p,(A.sl b aN o ro len cap).den ρ m= .slice p (len.den ρ).toNat (if cap.den ρ<0 then 0 else(cap.den ρ).toNat)/\(cap.den ρ<0->p=none)/\(0<=cap.den ρ->p=some ⟨m b,(o.den ρ).toNat+(ro.den ρ).toNat*aN,none⟩):=by
 obtain⟨_,_,_,_,h3,_⟩:=hx
 simp only[A.den]
 by_cases hc:cap.den ρ<0
 ·rw[if_pos hc,if_pos hc,h3 hc]
  exact⟨none,rfl,λ_=>rfl,λh=>by omega⟩
 ·rw[if_neg hc,if_neg hc]
  exact⟨_,rfl,λh=>absurd h hc,λ_=>rfl⟩
theorem adf {t:TypeId} {b aN:Nat} {o ro len cap aJ:I} {k:IntKind} (hx:(A.sl b aN o ro len cap).ok n bl.length ρ) (hi:aJ.aV n):
 ak S L (Iw P t b aN o ro len aJ) n ρ (jf w0 m bl n ρ λw=>(Instr.indexAt t ((A.sl b aN o ro len cap).den ρ m) (.int k (aJ.den ρ))).run P w):=by
 unfold Iw
 cases h1:fI P t with
 |none=>exact ak.fail
 |some e=>
  cases h2:dE P e with
  |none=>simp only[h2];exact ak.fail
  |some s=>
   simp only[h2]
   refine cZ λhs=>eQ λhk=>ak.pure ?_
   have hs:=Nat.eq_of_beq_eq_true hs
   subst hs
   simp only[List.map_cons,List.map_nil,U]at hk
   obtain⟨b8,⟨cO,ev,eO,fR⟩,⟨gh,js,jt,ju⟩,jT,eG,gg⟩:=hx
   have cd:¬(cap.den ρ<0):=λh=>by have:=eG h;omega
   refine⟨⟨b8,⟨cO,I.p4 ev hi⟩,gh,by rw[I.den_add];omega⟩,_,rfl,λw _=>?_⟩
   have bb:aJ.den ρ<((len.den ρ).toNat:Int):=by omega
   have e1:(ro.den ρ+aJ.den ρ).toNat=(ro.den ρ).toNat+(aJ.den ρ).toNat:=by omega
   simp only[A.den,if_neg cd,W.den,I.den_add,e1]
   simp[-Int.ofNat_toNat,Instr.indexAt,asIntOf,run_underlying (eE h1),hk.1,bb,fH h2,gz,Nat.add_mul,Nat.add_assoc]
theorem Eh {d:I} {y:Option Operand} {l:I} (h:rT tm d y=some l) (ht:cW n bl.length ρ m tm a.tmps):(y=none/\l=d)∨∃k,y.map a.eval=some (.int k (l.den ρ))/\l.aV n:=by
 cases y with
 |none=>exact .inl ⟨rfl,by simpa [rT]using h.symm⟩
 |some x=>
  obtain⟨k,hk,h2⟩:=uj (m:=m) (bl:=bl) h (bO ht x).2 (bO ht x).1
  exact .inr ⟨k,by rw[<-hk];rfl,h2⟩
theorem Br {op:Nat} {ls:List I} (h:U op (ls.map (·.den ρ))):ak S L (wm op ls) n ρ λae n' _=>ae=ρ/\n'=n:=λA k hk=>⟨ρ,n,(),Nat.le_refl _,agree.refl _ _,⟨rfl,rfl⟩,hk h⟩
theorem adi {t:TypeId} {b aN:Nat} {o ro len cap p q:I} {lo hi:Option Operand} (hx:(A.sl b aN o ro len cap).ok n bl.length ρ) (ht:cW n bl.length ρ m tm a.tmps) (hp:rT tm (.const 0) lo=some p) (hq:rT tm len hi=some q):
 ak S L (Iy P t b aN o ro len cap p q) n ρ (jf w0 m bl n ρ λw=>(Instr.sliceAt t ((A.sl b aN o ro len cap).den ρ m) (lo.map a.eval) (hi.map a.eval) none).run P w):=by
 unfold Iy
 cases h1:fI P t with
 |none=>exact ak.fail
 |some e=>
  cases h2:dE P e with
  |none=>simp only[h2];exact ak.fail
  |some s=>
   simp only[h2]
   refine cZ λhs=>eQ λhk=>?_
   have hs:=Nat.eq_of_beq_eq_true hs
   subst hs
   simp only[List.map_cons,List.map_nil,U]at hk
   obtain⟨k1,k2,k3⟩:=hk
   have iT:=hx
   obtain⟨b8,⟨cO,ev,eO,fR⟩,⟨gh,js,jt,ju⟩,⟨jT,jr⟩,eG,gg⟩:=hx
   have hsp:=Eh hp ht
   have Cx:=Eh hq ht
   have vq:p.aV n:=by rcases hsp with⟨_,rfl⟩|⟨_,_,h⟩;exact I.ch _ _;exact h
   have yi:q.aV n:=by rcases Cx with⟨_,rfl⟩|⟨_,_,h⟩;exact eO;exact h
   obtain⟨ptr,e1,e2,e3⟩:=nF (m:=m) iT
   have lW:∀w,(Instr.sliceBounds true (len.den ρ).toNat (if cap.den ρ<0 then 0 else(cap.den ρ).toNat) (lo.map a.eval) (hi.map a.eval) none).run P w= .ok ((p.den ρ).toNat,(q.den ρ).toNat,(if cap.den ρ<0 then 0 else(cap.den ρ).toNat)) w:=λw=>by
    have hle:(len.den ρ)<=((if cap.den ρ<0 then 0 else(cap.den ρ).toNat:Nat):Int):=by
     split
     ·rename_i h;rw[eG h];simp
     ·rename_i h;have:=gg (by omega);omega
    generalize (if cap.den ρ<0 then 0 else(cap.den ρ).toNat)=C at hle
    rcases hsp with⟨rfl,rfl⟩|⟨X4,r9,_⟩<;>rcases Cx with⟨rfl,rfl⟩|⟨X5,oK,_⟩
    ·simp[Instr.sliceBounds,I.aH]
    ·rw[oK];simp[Instr.sliceBounds,I.aH,nG (P:=P) (by omega:0<=q.den ρ) (by omega:q.den ρ<=(C:Int))]
    ·rw[r9];simp[Instr.sliceBounds,nG (P:=P) (y:=(q.den ρ).toNat) k1 (by omega)]
    ·rw[r9,oK];simp[Instr.sliceBounds,nG (P:=P) (by omega:0<=q.den ρ) (by omega:q.den ρ<=(C:Int)),nG (P:=P) (y:=(q.den ρ).toNat) k1 (by omega)]
   have hrun:∀(w:World) (r:Int),r=(if p.den ρ=cap.den ρ then ro.den ρ else ro.den ρ+p.den ρ)->
    (Instr.sliceAt t ((A.sl b s o ro len cap).den ρ m) (lo.map a.eval) (hi.map a.eval) none).run P w= .ok (if cap.den ρ-p.den ρ<0 then .slice none 0 0 else .slice (some ⟨m b,(o.den ρ).toNat+r.toNat*s,none⟩) (q.den ρ-p.den ρ).toNat (cap.den ρ-p.den ρ).toNat) w:=λw r hr=>by
    rw[e1]
    have eC:(q.den ρ).toNat-(p.den ρ).toNat=(q.den ρ-p.den ρ).toNat:=by omega
    simp only[Instr.sliceAt,Sem.run_bind,run_underlying (eE h1),Result.andThen_ok,Instr.slice,lW w,fH h2,Sem.run_pure,eC]
    by_cases hc:cap.den ρ<0
    ·have hl:=eG hc
     have Cu:p.den ρ=0:=by omega
     rw[if_pos hc,e2 hc,if_pos (by omega)]
     have:q.den ρ=0:=by omega
     simp[Cu,this,hc]
    ·rw[if_neg hc,e3 (by omega)]
     have fV:=gg (by omega)
     have w2:¬(cap.den ρ-p.den ρ<0):=by omega
     rw[if_neg w2]
     have tj:(cap.den ρ).toNat-(p.den ρ).toNat=(cap.den ρ-p.den ρ).toNat:=by omega
     rw[tj]
     by_cases zP:p.den ρ=cap.den ρ
     ·rw[if_pos zP]at hr
      have h7:(cap.den ρ).toNat=(p.den ρ).toNat:=by omega
      rw[if_pos h7,hr]
     ·rw[if_neg zP]at hr
      have h7:¬(cap.den ρ).toNat=(p.den ρ).toNat:=by omega
      rw[if_neg h7,hr]
      have j4:(ro.den ρ+p.den ρ).toNat=(ro.den ρ).toNat+(p.den ρ).toNat:=by omega
      rw[j4,Nat.add_mul,<-Nat.add_assoc]
      simp[gz]
   split
   ·rename_i h0
    have Cu:=I.fU h0 (ρ:=ρ)
    refine ak.pure ⟨⟨b8,⟨cO,ev,yi,fR⟩,⟨gh,js,by omega,by omega⟩,⟨jT,jr⟩,λh=>?_,λh=>?_⟩,_,rfl,λw _=>?_⟩
    ·have:=eG h;omega
    ·have:=gg h;omega
    ·have hr:=hrun w (ro.den ρ) (by rw[Cu];split<;>omega)
     rw[Cu]at hr
     simp only[Int.sub_zero]at hr
     simp only[W.den,A.den]at hr⊢
     exact hr
   ·have jF:(0:Int)<=aa 33 ([ro,p,cap].map (·.den ρ)):=by
     simp only[List.map_cons,List.map_nil,aa];split<;>omega
    have ji:aa 33 ([ro,p,cap].map (·.den ρ))<=9223372036854775808:=by
     simp only[List.map_cons,List.map_nil,aa]
     by_cases hc:cap.den ρ<0
     ·have:=eG hc;split<;>omega
     ·have:=gg (by omega);split<;>omega
    refine(Br (op:=68) (ls:=[len,cap]) (show len.den ρ<=cap.den ρ∨len.den ρ=0 from by
     by_cases hc:cap.den ρ<0
     ·exact .inr (eG hc)
     ·exact .inl (gg (by omega)))).bind λbC ey _ _ _ ⟨uf,lZ⟩=>?_
    have uf:=uf.symm;have lZ:=lZ.symm
    subst uf;subst lZ
    refine(en jF ji).bind λax aG r hn ha ⟨g1,g2⟩=>ak.pure ?_
    simp only[List.map_cons,List.map_nil,aa]at g2
    have bh:=I.bj ha cO;have a2:=I.bj ha yi;have a3:=I.bj ha vq;have a4:=I.bj ha fR
    refine⟨⟨b8,⟨cO.mono hn,g1,I.sB (yi.mono hn) (vq.mono hn),I.sB (fR.mono hn) (vq.mono hn)⟩,?_⟩,_,rfl,λw _=>?_⟩
    ·rw[I.j3,I.j3,bh,a2,a3,a4,g2]
     refine⟨⟨gh,?_,by omega,by omega⟩,⟨?_,?_⟩,λh=>?_,λh=>?_⟩
     ·split<;>omega
     ·by_cases hc:cap.den ρ<0
      ·have:=eG hc;omega
      ·have:=gg (by omega);omega
     ·split<;>omega
     ·by_cases hc:cap.den ρ<0
      ·have:=eG hc;omega
      ·have:=gg (by omega);omega
     ·by_cases hc:cap.den ρ<0
      ·have:=eG hc;omega
      ·have:=gg (by omega);omega
    ·refine(hrun w (r.den ax) g2).trans ?_
     simp only[W.den,A.den,I.j3,bh,a2,a3,a4]
theorem adg (hb:b4 n bl.length ρ bl) (hex:∃w,Mem w0 ρ m bl w) {src dst e:TypeId} (hs:P.underlying src=some (.slice e)) (he:P.underlying e=some (.int .u8)) (hd:P.underlying dst=some .string) {b aN:Nat} {o ro len cap:I} (hx:(A.sl b aN o ro len cap).ok n bl.length ρ):
 ak S L (Ix bl b aN o ro len) n ρ (jf w0 m bl n ρ λw=>(convert src dst ((A.sl b aN o ro len cap).den ρ m)).run P w):=by
 obtain⟨qd,n3⟩:=hex
 unfold Ix
 split
 ·rename_i sh off code cap' kind t' aA
  refine cZ λhc=>eQ λhk=>?_
  simp only[Bool.and_eq_true]at hc
  obtain⟨⟨⟨c1,bb⟩,bJ⟩,cg⟩:=hc
  have c1:0<kind:=Nat.le_of_ble_eq_true c1
  have bb:=Nat.eq_of_beq_eq_true bb
  have bJ:=I.beq_eq bJ
  subst bJ;subst bb
  simp only[List.map_cons,List.map_nil,U,I.den_add]at hk
  obtain⟨ptr,e1,e2,e3⟩:=nF (m:=m) hx
  obtain⟨b8,⟨cO,ev,eO,fR⟩,⟨gh,js,jt,ju⟩,⟨jT,jr⟩,eG,gg⟩:=hx
  generalize hR:ab (code.den ρ)=rows at hk
  have hnil:cap'.den ρ<0->rows=[]:=λh=>by rw[<-hR];exact(n3.rws b sh o code cap' kind t' aA (by omega)).1 h
  have dP:(((rows.drop (ro.den ρ).toNat).take (len.den ρ).toNat).map λrow=>row.getD 0 0).length=(len.den ρ).toNat:=by
   simp;omega
  have hf:aa 34 ([code,ro,ro.add len].map (·.den ρ))=fT ((((rows.drop (ro.den ρ).toNat).take (len.den ρ).toNat).map λrow=>row.getD 0 0).map λz=>UInt8.ofNat z.toNat):=by
   simp only[List.map_cons,List.map_nil,aa,I.den_add,hR]
   have:(ro.den ρ+len.den ρ).toNat-(ro.den ρ).toNat=(len.den ρ).toNat:=by omega
   rw[this,List.map_map];rfl
  generalize hX:(((rows.drop (ro.den ρ).toNat).take (len.den ρ).toNat).map λrow=>row.getD 0 0)=xs at dP hf
  have hl:(xs.map λz=>UInt8.ofNat z.toNat).length<=iE:=by
   have:(xs.map λz=>UInt8.ofNat z.toNat).length=(len.den ρ).toNat:=by simp[dP]
   unfold iE;omega
  refine(en (by rw[hf];exact qz _) (by rw[hf];exact pa hl)).bind λax aG l _ _ ⟨g1,g2⟩=>ak.pure ⟨⟨g1,by rw[g2,hf];exact qz _,by rw[g2,hf];exact pa hl⟩,_,rfl,λw hw=>?_⟩
  have hval:(W.one (A.str l)).den ax m= .string (strOfNums xs):=by
   simp only[W.den,A.den,g2,hf,ri]
   rfl
  rw[hval]
  show(convert src dst ((A.sl b 1 o ro len cap).den ρ m)).run P w=_
  rw[e1]
  by_cases cd:cap.den ρ<0
  ·have hl0:=eG cd
   rw[e2 cd,if_pos cd]
   have Oy:xs=[]:=List.eq_nil_of_length_eq_zero (by rw[dP,hl0];rfl)
   rw[Oy,run_convert_bytes_nil w src e hs he _ _ dst hd]
   rfl
  ·rw[e3 (by omega),if_neg cd]
   by_cases zo:cap'.den ρ<0
   ·have kX:=hnil zo
    have hl0:len.den ρ=0:=by rw[kX]at hk;simp at hk;omega
    have Oy:xs=[]:=List.eq_nil_of_length_eq_zero (by rw[dP,hl0];rfl)
    exact run_convert_bytes_arg w src e hs he (m b) _ _ _ xs dP (λi hi=>by rw[hl0]at hi;simp at hi) dst hd
   ·obtain⟨_,cells,gv,fz,k1,⟨k2,k3⟩,_⟩:=(hw.rws b sh o code cap' kind t' aA (by omega)).2 (by omega)
    refine run_convert_bytes_arg w src e hs he (m b) _ _ _ xs dP (λi hi=>?_) dst hd
    have hlt:(ro.den ρ).toNat+i<rows.length:=by omega
    have fO:(ab (code.den ρ))[(ro.den ρ).toNat+i]?=some rows[(ro.den ρ).toNat+i]:=by rw[hR];exact List.getElem?_eq_getElem hlt
    have jJ:∃lo hi,sh=[.int .u8 lo hi]:=by
     unfold BA at cg
     split at cg
     ·exact⟨_,_,rfl⟩
     ·cases cg
    obtain⟨lo,cE,rfl⟩:=jJ
    have tZ:=k3.1 _ (List.mem_of_getElem? fO)
    obtain⟨z,q1,_,_,cM⟩:=tZ.get (j:=0) (c:= .int .u8 lo cE) rfl
    have:=k3.get fO cM
    have hz:xs.getD i 0=z:=by
     rw[<-hX]
     have:i<(len.den ρ).toNat:=hi
     simp[List.getD,List.getElem?_take,this,hlt,q1]
    simp only[World.cell?,k1,Option.isSome_none,Bool.false_eq_true,if_false,hz]
    simp only[List.length_cons,List.length_nil,Nat.add_zero,Nat.zero_add,Nat.mul_one]at this
    rw[show(o.den ρ).toNat+(ro.den ρ).toNat*1+i=(o.den ρ).toNat+((ro.den ρ).toNat+i) by omega]
    exact this
 ·exact ak.fail
theorem YS {k:IntKind} {x y:a6} {t:TypeId} {fu:Array TypeId} (hx:x.ok n ρ) (hy:y.ok n ρ):ak S L (Pl k x y) n ρ (jf w0 m bl n ρ λw=>(Builtin.min_ fu t #[.int k (x.l.den ρ),.int k (y.l.den ρ)]).run P w):=by
 have e:=aR.BN hy hx
 have hr:∀w,(Builtin.min_ fu t #[.int k (x.l.den ρ),.int k (y.l.den ρ)]).run P w= .ok (.int k (if y.l.den ρ<x.l.den ρ then y.l.den ρ else x.l.den ρ)) w:=λw=>by
  simp[Builtin.min_,Builtin.min2]
 refine L3 (λhb=>ak.pure ⟨hy,_,rfl,λw _=>?_⟩) λhb=>ak.pure ⟨hx,_,rfl,λw _=>?_⟩
 ·rw[e.1]at hb
  simp only[hr,if_pos (of_decide_eq_true hb)];rfl
 ·rw[e.1]at hb
  simp only[hr,if_neg (of_decide_eq_false hb)];rfl
theorem YR {k:IntKind} {x y:a6} {t:TypeId} {fu:Array TypeId} (hx:x.ok n ρ) (hy:y.ok n ρ):ak S L (Pj k x y) n ρ (jf w0 m bl n ρ λw=>(Builtin.max_ fu t #[.int k (x.l.den ρ),.int k (y.l.den ρ)]).run P w):=by
 have e:=aR.BN hx hy
 have hr:∀w,(Builtin.max_ fu t #[.int k (x.l.den ρ),.int k (y.l.den ρ)]).run P w= .ok (.int k (if x.l.den ρ<y.l.den ρ then y.l.den ρ else x.l.den ρ)) w:=λw=>by
  simp[Builtin.max_,Builtin.max2]
 refine L3 (λhb=>ak.pure ⟨hy,_,rfl,λw _=>?_⟩) λhb=>ak.pure ⟨hx,_,rfl,λw _=>?_⟩
 ·rw[e.1]at hb
  simp only[hr,if_pos (of_decide_eq_true hb)];rfl
 ·rw[e.1]at hb
  simp only[hr,if_neg (of_decide_eq_false hb)];rfl
theorem L1:∀{cs:List A} {l:List Bool},kt cs=some l->cs=l.map λb=>A.bool (.lit b)
 |[],l,h=>by simp[kt]at h;subst h;rfl
 | .bool (.lit b)::r,l,h=>by
  simp only[kt]at h
  cases hr:kt r with
  |none=>simp[hr]at h
  |some l'=>
   simp only[hr,Option.some.injEq]at h
   subst h
   simp[L1 hr]
 | .bool (.eq ..)::_,_,h| .bool (.lt ..)::_,_,h| .bool (.le ..)::_,_,h| .bool (.not ..)::_,_,h| .bool (.and ..)::_,_,h| .bool (.iff ..)::_,_,h=>by simp[kt]at h
 | .int .. ::_,_,h=>by simp[kt]at h
 | .ptr .. ::_,_,h=>by simp[kt]at h
 | .kj .. ::_,_,h=>by simp[kt]at h
 | .gptr .. ::_,_,h=>by simp[kt]at h
 | .slc .. ::_,_,h=>by simp[kt]at h
 | .con _::_,_,h=>by simp[kt]at h
 | .str _::_,_,h=>by simp[kt]at h
 | .rows .. ::_,_,h=>by simp[kt]at h
 | .sl .. ::_,_,h=>by simp[kt]at h
 | .ep .. ::_,_,h=>by simp[kt]at h
theorem OC:∀(l:List Bool) (s:Nat),s+l.length<=256->∀i:Nat,i<256->(UInt8.ofNat i∈qW s l↔s<=i/\l[i-s]?=some true)
 |[],s,_,i,_=>by simp[qW]
 |b::r,s,h,i,hi=>by
  simp only[List.length_cons]at h
  have ih:=OC r (s+1) (by omega) i hi
  have hne:s≠i->UInt8.ofNat i≠UInt8.ofNat s:=λhne he=>by
   have:=congrArg UInt8.toNat he
   simp at this;omega
  have key:(s+1<=i/\r[i-(s+1)]?=some true)↔(s<i/\(b::r)[i-s]?=some true):=by
   constructor
   ·rintro⟨h1,h2⟩
    refine⟨h1,?_⟩
    rw[show i-s=(i-(s+1))+1 by omega];simpa using h2
   ·rintro⟨h1,h2⟩
    refine⟨h1,?_⟩
    rw[show i-s=(i-(s+1))+1 by omega]at h2;simpa using h2
  unfold qW
  cases b with
  |true=>
   simp only[cond_true,List.mem_cons,ih,key]
   by_cases he:s=i
   ·subst he;simp
   ·constructor
    ·rintro(h1|h1)
     ·exact absurd h1 (hne he)
     ·exact⟨by omega,h1.2⟩
    ·rintro⟨h1,h2⟩;exact .inr ⟨by omega,h2⟩
  |false=>
   simp only[cond_false,ih,key]
   by_cases he:s=i
   ·subst he;simp
   ·constructor
    ·rintro⟨h1,h2⟩;exact⟨by omega,h2⟩
    ·rintro⟨h1,h2⟩;exact⟨by omega,h2⟩
theorem acZ (hb:b4 n bl.length ρ bl) {ty:TypeId} (hu:P.underlying ty=some .bool) (b off:Nat) {aJ:a6} (zG:aJ.ok n ρ):ak S L (Iq bl b off aJ) n ρ (jf w0 m bl n ρ λw=>(Instr.loadAt ty ((A.kj b off aJ).den ρ m)).run P w):=by
 unfold Iq
 cases aA:bl[b]? with
 |none=>exact ak.fail
 |some q=>
  obtain⟨cs,t⟩:=q
  simp only
  cases hi:kt ((cs.drop off).take (aJ.hi.toNat+1))with
  |none=>exact ak.fail
  |some l=>
   refine cZ λhc=>?_
   simp only[Bool.and_eq_true,decide_eq_true_eq]at hc
   obtain⟨⟨⟨fN,hc2⟩,ahF⟩,hq⟩:=hc
   have hlen:=Nat.eq_of_beq_eq_true fN
   have ahC:=Nat.le_of_ble_eq_true hc2
   have e:=L1 hi
   have wB:=zG.2
   have hlt:(aJ.l.den ρ).toNat<l.length:=by omega
   have fC:fT (qW 0 l)=(I.const (fT (qW 0 l))).den ρ:=(I.aH _ _).symm
   have hf:aa 43 ([I.const (fT (qW 0 l)),aJ.l].map (·.den ρ))=if l[(aJ.l.den ρ).toNat]=true then 1 else 0:=by
    simp only[List.map_cons,List.map_nil,aa,I.aH,ri]
    have:=OC l 0 (by omega) (aJ.l.den ρ).toNat (by omega)
    simp only[Nat.sub_zero,Nat.zero_le,true_and,List.getElem?_eq_getElem hlt,Option.some.injEq]at this
    simp only[this]
   have bo:=yM (l[(aJ.l.den ρ).toNat]=true)
   refine(en (by rw[hf];exact bo.1) (by rw[hf];exact bo.2)).bind λax aG r hn ha ⟨g1,g2⟩=>?_
   rw[hf]at g2
   have e2:=aR.nT (n:=aG) (ρ:=ax) (a:=⟨r,0,1⟩) (b:= .const 1) ⟨g1,by simp only[g2];exact bo.1,by simp only[g2];exact bo.2⟩ (a6.j1 _ _ _)
   refine ak.pure ⟨e2.2,_,rfl,λw hw=>?_⟩
   obtain⟨_,_,yf,_,h2⟩:=hw.dV b cs t aA hq
   have cx:cs[off+(aJ.l.den ρ).toNat]?=some (.bool (.lit l[(aJ.l.den ρ).toNat])):=by
    have h1:((cs.drop off).take (aJ.hi.toNat+1))[(aJ.l.den ρ).toNat]?=some (.bool (.lit l[(aJ.l.den ρ).toNat])):=by rw[e];simp[hlt]
    rw[List.getElem?_take]at h1
    split at h1
    ·rw[List.getElem?_drop]at h1;exact h1
    ·cases h1
   have VJ:=(List.getElem?_eq_some_iff.1 cx).1
   have hcell:w.cell? ⟨m b,off+(aJ.l.den ρ).toNat,none⟩=some (.bool l[(aJ.l.den ρ).toNat]):=by
    simp only[World.cell?,h2,Option.isSome_none,Bool.false_eq_true,if_false,List.getElem?_toArray]
    rw[List.getElem?_append_left (by simpa using VJ),List.getElem?_map,cx];rfl
   have kz:fY P ty=some false:=by unfold fY;rw[hu]
   have Gw:(A.kj b off aJ).den ρ m= .pointer (some ⟨m b,off+(aJ.l.den ρ).toNat,none⟩):=rfl
   simp only[W.den,A.den]
   rw[e2.1]
   simp only[g2,a6.const,I.aH]
   have VD:decide ((if l[(aJ.l.den ρ).toNat]=true then(1:Int)else 0)=1)=l[(aJ.l.den ρ).toNat]:=by
    cases l[(aJ.l.den ρ).toNat]<;>rfl
   rw[VD]
   have WE:=Gw
   simp only[A.den]at WE
   simp[Instr.loadAt,Instr.sureAddr,loadVar,lF kz,hcell]
theorem acT (w:World) {t e:TypeId} (hu:P.underlying t=some (.slice e)) (p:Option Addr) (l c:Nat):(binOp .eql t (.slice p l c) (.slice none 0 0)).run P w= .ok (.bool p.isNone) w:=by
 have h:binOp .eql t (.slice p l c) (.slice none 0 0)=(do pure (.bool (<-Op.equal t (.slice p l c) (.slice none 0 0)))):=rfl
 rw[h]
 simp only[Sem.run_bind,run_equal_slice_nil w t e p l c hu,Result.andThen_ok,Sem.run_pure]
theorem acV (w:World) {t e:TypeId} (hu:P.underlying t=some (.slice e)) (p:Option Addr) (l c:Nat):(binOp .neq t (.slice p l c) (.slice none 0 0)).run P w= .ok (.bool !p.isNone) w:=by
 have h:binOp .neq t (.slice p l c) (.slice none 0 0)=(do pure (.bool (!(<-Op.equal t (.slice p l c) (.slice none 0 0))))):=rfl
 rw[h]
 simp only[Sem.run_bind,run_equal_slice_nil w t e p l c hu,Result.andThen_ok,Sem.run_pure]
theorem LO {b off:Nat} {sh:List az} {code:I} {c:Nat} (h:Bq bl b off=some (sh,code,c)):off=0/\∃cap kind t,bl[b]?=some ([.rows sh (.const 0) code cap kind],t)/\0<kind/\∀ρ,cap.den ρ=(c:Int):=by
 unfold Bq at h
 split at h
 ·rename_i dx o code' cap kind t aA
  split at h
  ·rename_i q hq
   cases hc:(Nat.beq off 0&&Nat.blt 0 kind&&I.beq o (.const 0)&&decide (0<=q))with
   |false=>rw[hc]at h;cases h
   |true=>
    rw[hc]at h
    simp only[cond_true,Option.some.injEq,Prod.mk.injEq]at h
    obtain⟨rfl,rfl,rfl⟩:=h
    simp only[Bool.and_eq_true,decide_eq_true_eq]at hc
    obtain⟨⟨⟨c1,bb⟩,bJ⟩,cg⟩:=hc
    have bJ:=I.beq_eq bJ
    subst bJ
    exact⟨Nat.eq_of_beq_eq_true c1,cap,kind,t,aA,Nat.le_of_ble_eq_true bb,λρ=>by rw[I.fU hq];omega⟩
  ·cases h
 ·cases h
theorem LK {nb:Nat} {sh:List az}:∀{k i:Nat} {n:Nat} {ρ:Env} {code:I},code.aV n->(∀row∈ab (code.den ρ),b5 sh row)->(ab (code.den ρ)).length=i+k->
 ak S L (Bo code sh i k) n ρ λae n' l=>(∀a∈l,A.ok n' nb ae a)/\l.length=k*sh.length/\∀(x:Nat) (a:A),l[x]?=some a->(bk sh (ab (code.den ρ)))[i*sh.length+x]?=some (a.den ae m)
 |0,i,n,ρ,code,_,_,_=>ak.pure ⟨λ_ h=>by simp at h,by simp,λx a h=>by simp at h⟩
 |k+1,i,n,ρ,code,hs,gB,hl=>by
  unfold Bo
  have hlt:i<(ab (code.den ρ)).length:=by omega
  have fO:(ab (code.den ρ))[i]?=some (ab (code.den ρ))[i]:=List.getElem?_eq_getElem hlt
  generalize (ab (code.den ρ))[i]=row at fO
  refine(EA (nb:=nb) (m:=m) (r:=sh) (j:=0) (i:= .const (i:Nat)) (code:=code) (gB row (List.mem_of_getElem? fO)) hs (I.ch _ _) (by rw[I.aH,Int.toNat_natCast];exact fO) (λx c hx=>by rw[Nat.zero_add];exact hx)).bind λax aG l1 eD dj ⟨g1,g2,g3⟩=>?_
  have e1:code.den ax=code.den ρ:=I.bj dj hs
  refine(LK (nb:=nb) (k:=k) (i:=i+1) (code:=code) (hs.mono eD) (by rw[e1];exact gB) (by rw[e1];omega)).bind λbg dC l2 dF cK ⟨k1,k2,k3⟩=>ak.pure ⟨λa ha=>?_,by rw[List.length_append,g2,k2,Nat.succ_mul];omega,λx a hx=>?_⟩
  ·rcases List.mem_append.1 ha with ha|ha
   ·exact(g1 a ha).ext cK dF (Nat.le_refl _)
   ·exact k1 a ha
  ·rw[List.getElem?_append]at hx
   split at hx
   ·rename_i hlt
    have:=g3 x a hx
    rw[Nat.zero_add]at this
    rw[A.iy (g1 a (List.mem_of_getElem? hx)) cK (λ_ _=>rfl)]
    exact Fe gB fO this
   ·rename_i gT
    have:=k3 (x-l1.length) a hx
    rw[e1,g2]at this
    rw[g2]at gT
    rw[show i*sh.length+x=(i+1)*sh.length+(x-sh.length) by rw[Nat.succ_mul];omega]
    exact this
theorem SR {α:Type} {p q r len cap:I} {f:Unit->M α} {R:Env->Nat->α->Prop} (tv:cap.den ρ<0->len.den ρ=0) (fV:0<=cap.den ρ->len.den ρ<=cap.den ρ) (h:(0<=p.den ρ/\p.den ρ<=q.den ρ/\q.den ρ<=r.den ρ/\r.den ρ<=cap.den ρ)->ak S L (f ()) n ρ R):
 ak S L (bind (cond (I.beq r len) (dY 78 [p,q,r,cap]) (dY 64 [p,q,r,len])) f) n ρ R:=by
 cases I.beq r len with
 |true=>exact eQ λhk=>h hk
 |false=>
  refine eQ λhk=>h ?_
  have hk:0<=p.den ρ/\p.den ρ<=q.den ρ/\q.den ρ<=r.den ρ/\r.den ρ<=len.den ρ/\0<len.den ρ:=hk
  have hc:0<=cap.den ρ:=by
   rcases Int.lt_or_le (cap.den ρ) 0 with h|h
   ·have:=tv h;omega
   ·exact h
  have:=fV hc
  omega
theorem adh {t:TypeId} {b aN:Nat} {o ro len cap p q r:I} {lo:Option Operand} {hi b7:Operand} (hx:(A.sl b aN o ro len cap).ok n bl.length ρ) (ht:cW n bl.length ρ m tm a.tmps) (hp:rT tm (.const 0) lo=some p) (hq:l8 (bw tm hi)=some q) (hr:l8 (bw tm b7)=some r):
 ak S L (Iz P t b aN o ro len cap p q r) n ρ (jf w0 m bl n ρ λw=>(Instr.sliceAt t ((A.sl b aN o ro len cap).den ρ m) (lo.map a.eval) (some (a.eval hi)) (some (a.eval b7))).run P w):=by
 unfold Iz
 cases h1:fI P t with
 |none=>exact ak.fail
 |some e=>
  cases h2:dE P e with
  |none=>simp only[h2];exact ak.fail
  |some s=>
   simp only[h2]
   refine cZ λhs=>SR (λh=>hx.2.2.2.2.1 h) (λh=>hx.2.2.2.2.2 h) λhk=>?_
   have hs:=Nat.eq_of_beq_eq_true hs
   subst hs
   obtain⟨k1,k2,k3,k4⟩:=hk
   have iT:=hx
   obtain⟨b8,⟨cO,ev,eO,fR⟩,⟨gh,js,jt,ju⟩,⟨jT,jr⟩,eG,gg⟩:=hx
   have hsp:=Eh hp ht
   have vq:p.aV n:=by rcases hsp with⟨_,rfl⟩|⟨_,_,h⟩;exact I.ch _ _;exact h
   obtain⟨X5,oK,yi⟩:=uj (m:=m) (bl:=bl) hq (bO ht hi).2 (bO ht hi).1
   obtain⟨ahZ,bG,Qj⟩:=uj (m:=m) (bl:=bl) hr (bO ht b7).2 (bO ht b7).1
   obtain⟨ptr,e1,e2,e3⟩:=nF (m:=m) iT
   have hc:¬(cap.den ρ<0):=by omega
   have fV:=gg (by omega)
   have wK:=e1
   rw[if_neg hc,e3 (by omega)]at wK
   have hf:aa 33 ([ro,p,r].map (·.den ρ))=(if p.den ρ=r.den ρ then ro.den ρ else ro.den ρ+p.den ρ):=rfl
   refine(en (by rw[hf];split<;>omega) (by rw[hf];split<;>omega)).bind λax aG yf hn ha ⟨g1,g2⟩=>ak.pure ?_
   rw[hf]at g2
   have bh:=I.bj ha cO;have a2:=I.bj ha yi;have a3:=I.bj ha vq;have a4:=I.bj ha Qj
   refine⟨⟨b8,⟨cO.mono hn,g1,I.sB (yi.mono hn) (vq.mono hn),I.sB (Qj.mono hn) (vq.mono hn)⟩,?_⟩,_,rfl,λw _=>?_⟩
   ·rw[I.j3,I.j3,bh,a2,a3,a4,g2]
    refine⟨⟨gh,?_,by omega,by omega⟩,⟨by omega,?_⟩,λh=>by omega,λh=>by omega⟩
    ·split<;>omega
    ·split<;>omega
   ·rw[wK]
    have lW:(Instr.sliceBounds true (len.den ρ).toNat (cap.den ρ).toNat (lo.map a.eval) (some (a.eval hi)) (some (a.eval b7))).run P w= .ok ((p.den ρ).toNat,(q.den ρ).toNat,(r.den ρ).toNat) w:=by
     rw[oK,bG]
     rcases hsp with⟨rfl,rfl⟩|⟨X4,r9,_⟩
     ·simp[Instr.sliceBounds,I.aH,nG (P:=P) (y:=(cap.den ρ).toNat) (by omega:0<=r.den ρ) (by omega),nG (P:=P) (y:=(r.den ρ).toNat) (by omega:0<=q.den ρ) (by omega)]
     ·rw[r9]
      simp[Instr.sliceBounds,nG (P:=P) (y:=(cap.den ρ).toNat) (by omega:0<=r.den ρ) (by omega),nG (P:=P) (y:=(r.den ρ).toNat) (by omega:0<=q.den ρ) (by omega),nG (P:=P) (y:=(q.den ρ).toNat) k1 (by omega)]
    have eC:(q.den ρ).toNat-(p.den ρ).toNat=(q.den ρ-p.den ρ).toNat:=by omega
    have tj:(r.den ρ).toNat-(p.den ρ).toNat=(r.den ρ-p.den ρ).toNat:=by omega
    simp only[Instr.sliceAt,Sem.run_bind,run_underlying (eE h1),Result.andThen_ok,Instr.slice,lW,fH h2,Sem.run_pure,eC,tj,W.den,A.den,I.j3,bh,a2,a3,a4,g2]
    rw[if_neg (show ¬(r.den ρ-p.den ρ<0) by omega)]
    by_cases zP:p.den ρ=r.den ρ
    ·rw[if_pos zP,if_pos (by omega)]
    ·rw[if_neg zP,if_neg (by omega)]
     have j4:(ro.den ρ+p.den ρ).toNat=(ro.den ρ).toNat+(p.den ρ).toNat:=by omega
     rw[j4,Nat.add_mul,<-Nat.add_assoc]
     simp[gz]
theorem ach (hb:b4 n bl.length ρ bl) (hex:∃w,Mem w0 ρ m bl w) (ht:cW n bl.length ρ m tm a.tmps) (o:Oper) {q:M V} (hq:Dj P bl tm o=some q):ak S L q n ρ (je w0 m bl n ρ P o a):=by
 obtain⟨qd,n3⟩:=hex
 unfold Dj at hq
 split at hq
 ·rename_i t x aJ h
  have hx:=bO ht x
  have hi:=bO ht aJ
  split at hq
  ·rename_i b off k i hv GL
   rw[hv]at hx;rw[GL]at hi
   split at hq
   ·rename_i sh code c len e tE wZ
    split at hq
    ·rename_i s hs
     cases hc:(Nat.beq s sh.length&&Nat.beq len c)with
     |false=>rw[hc]at hq;cases hq
     |true=>
      rw[hc]at hq
      simp only[cond_true,Option.some.injEq]at hq
      subst hq
      simp only[Bool.and_eq_true]at hc
      have bb:=Nat.eq_of_beq_eq_true hc.2
      subst bb
      obtain⟨rfl,cap,kind,cw,aA,hk,cd⟩:=LO tE
      refine eQ λCl=>ak.pure ?_
      simp only[List.map_cons,List.map_nil,U,I.aH]at Cl
      have cu:a.eval x= .pointer (some ⟨m b,0,none⟩):=hx.2
      have Gc:a.eval aJ= .int k (i.l.den ρ):=hi.2
      have Gd:a6.ok n ρ i:=hi.1
      have kC:b<bl.length:=hx.1
      refine⟨⟨kC,⟨I.ch _ _,Gd.1⟩,by rw[I.aH];omega,Cl.1⟩,_,rfl,λw _=> .inl ?_⟩
      have c1:i.l.den ρ<((len:Nat):Int):=Cl.2
      simp[execOp,h,cu,Gc,Instr.indexAt,asIntOf,run_underlying (oj wZ),Instr.sureAddr,Cl.1,c1,fH hs,gz,W.den,A.den,I.aH]
    ·cases hq
   ·cases hq
  ·cases hq
 ·rename_i t x h
  have hx:=bO ht x
  split at hq
  ·rename_i b off hv
   rw[hv]at hx
   split at hq
   ·rename_i sh code c k tE kz hs
    cases hc:(Nat.beq k (c*sh.length))with
    |false=>rw[hc]at hq;cases hq
    |true=>
     rw[hc]at hq
     simp only[cond_true,Option.some.injEq]at hq
     subst hq
     have hc:=Nat.eq_of_beq_eq_true hc
     subst hc
     obtain⟨rfl,cap,kind,cw,aA,hk,cd⟩:=LO tE
     refine eQ λCm=>?_
     simp only[List.map_cons,List.map_nil,U,I.aH]at Cm
     have dA:(A.rows sh (.const 0) code cap kind).ok n bl.length ρ:=hb _ (List.mem_of_getElem? aA) _ (by simp)
     have iB:∀w,Mem w0 ρ m bl w->∃cells t' fz,w.heap[m b]?=some (.cells cells t' fz)/\jy cells 0 sh (ab (code.den ρ)):=λw hw=>by
      obtain⟨_,cells,gv,fz,g1,⟨g2,g3⟩,_⟩:=(hw.rws b sh (.const 0) code cap kind cw aA (by omega)).2 (by rw[cd];omega)
      rw[I.aH]at g3
      exact⟨cells,gv,fz,g1,g3⟩
     obtain⟨_,_,_,_,WO⟩:=iB qd n3
     refine(LK (nb:=bl.length) (m:=m) (k:=c) (i:=0) dA.1.2.1 WO.1 (by omega)).bind λax aG l hn ha ⟨g1,g2,g3⟩=>ak.pure ⟨g1,_,rfl,λw hw=> .inl ?_⟩
     obtain⟨cells,gv,fz,q1,aP⟩:=iB w hw
     have hl:=run_loadCells_list (P:=P) w ⟨m b,0,none⟩ (l.map (A.den ax m)) λx v hj=>by
      rw[gz]
      rw[List.getElem?_map]at hj
      cases hq:l[x]? with
      |none=>simp[hq]at hj
      |some y=>
       simp only[hq,Option.map_some,Option.some.injEq]at hj
       subst hj
       have h3:=g3 x y hq
       rw[Nat.zero_mul,Nat.zero_add]at h3
       simp only[World.cell?,q1,Option.isSome_none,Bool.false_eq_true,if_false]
       obtain⟨_,pre,post,p1,aS⟩:=aP
       have iC:pre=[]:=List.eq_nil_of_length_eq_zero aS
       subst iC
       have hlt:=(List.getElem?_eq_some_iff.1 h3).1
       rw[<-Array.getElem?_toList,p1,List.nil_append,List.getElem?_append_left (by omega),Nat.zero_add]
       exact h3
     simp only[List.length_map,g2]at hl
     have cu:a.eval x= .pointer (some ⟨m b,0,none⟩):=hx.2
     simp[execOp,h,cu,Instr.loadAt,Instr.sureAddr,loadVar,lF kz,fH hs,hl,W.den]
   ·cases hq
  ·cases hq
 ·rename_i t x lo hi b7 h
  have hx:=bO ht x
  split at hq
  ·rename_i b aN off ro len cap hv
   rw[hv]at hx
   have cu:a.eval x=(A.sl b aN off ro len cap).den ρ m:=hx.2
   have he:execOp a.eval o=(do pure (Next.value (<-Instr.sliceAt t ((A.sl b aN off ro len cap).den ρ m) (lo.map a.eval) (some (a.eval hi)) (some (a.eval b7))))):=by simp only[execOp,h,cu];rfl
   split at hq
   ·rename_i p iq r hp oK hr
    cases hq
    exact(adh hx.1 ht hp oK hr).mono λ_ _ _ _ _ hq=>je.of_run he hq
   ·cases hq
  ·cases hq
 ·rename_i c h
  split at hq
  ·rename_i hc
   split at hq
   ·rename_i x t dP iS
    have hx:=bO ht x
    split at hq
    ·rename_i e hv hs
     cases hq
     rw[hv]at hx
     have cu:a.eval x= .slice none 0 0:=hx.2
     have bh:c.args=#[x]:=by rw[<-Array.toArray_toList (xs:=c.args),dP]
     have a2:c.argTypes=#[t]:=by rw[<-Array.toArray_toList (xs:=c.argTypes),iS]
     refine ak.pure ⟨a6.j1 _ _ _,_,rfl,λw _=> .inl ?_⟩
     simp[execOp,h,resolve,hc,bh,a2,cu,invoke,builtin,Builtin.len_,run_underlying (eE hs),goInt,W.den,A.den,a6.const,I.aH]
    ·cases hq
   ·cases hq
  ·cases hq
 ·cases hq
theorem HW {cal:dm} (ck:eP S P gl w0 cal) (hb:b4 n bl.length ρ bl) (hg:bB gl w0) (hex:∃w,Mem w0 ρ m bl w) (ht:cW n bl.length ρ m tm a.tmps) (o:Oper):
 ak S L (rf P cal gl bl tm o) n ρ (je w0 m bl n ρ P o a):=by
 unfold rf
 cases hq:Ie P bl tm o with
 |none=>
  simp only
  cases pE:Dj P bl tm o with
  |some q=>exact ach hb hex ht o pE
  |none=>
  simp only
  cases hd:BP cal bl tm o with
  |none=>exact abO ck hb hg hex ht o
  |some q=>
   simp only
   unfold BP at hd
   split at hd
   ·rename_i c ho
    split at hd
    ·rename_i x hc
     split at hd
     ·rename_i f BT BU hv
      cases hz:(Nat.beq BT.size 0&&Nat.beq BU.size 0)with
      |false=>rw[hz]at hd;cases hd
      |true=>
       rw[hz]at hd
       simp only[cond_true,Option.map_eq_some_iff]at hd
       obtain⟨g,F6,rfl⟩:=hd
       simp only[Bool.and_eq_true,Nat.beq_eq]at hz
       have e0:BT=#[]:=Array.eq_empty_of_size_eq_zero hz.1
       have e1:BU=#[]:=Array.eq_empty_of_size_eq_zero hz.2
       subst e0 e1
       have hx:=bO ht (.tmp x)
       rw[hv]at hx
       have cu:a.eval (.tmp x)= .func (.func f) #[] #[]:=hx.2
       have kU:∀v∈c.args.toList.map (bw tm),V.ok n bl.length ρ v:=λv hv=>by
        obtain⟨x,_,rfl⟩:=List.mem_map.1 hv
        exact(bO ht x).1
       have he:execOp a.eval o=callFunc f (c.args.map a.eval):=by
        simp only[execOp,ho,resolve,hc,cu,Deferred.ofValue]
        simp[invoke,bind_pure_comp]
       refine(ck f g F6 L n ρ m bl _ _ hb hex kU (Be (xs:=c.args.toList) ht)).mono λax aG v _ _ ⟨q1,val,aP,bA⟩=>⟨q1,val,aP,λw hw=>?_⟩
       have ha:(c.args.toList.map a.eval).toArray=c.args.map a.eval:=by
        rw[<-Array.toList_map]
       have cM:=bA w hw
       rw[ha]at cM
       rcases cM with cM|⟨cM,iX⟩
       ·exact .inl (by rw[he];exact cM)
       ·exact .inr ⟨f,_,by rw[he];exact cM,iX⟩
     ·cases hd
    ·cases hd
   ·cases hd
 |some q=>
  simp only
  unfold Ie at hq
  split at hq
  case h_1 t x h=>
   have hx:=bO ht x
   split at hq
   ·rename_i b aN off i j hv
    cases hq
    rw[hv]at hx
    have cu:a.eval x=(A.ep b aN off i j).den ρ m:=hx.2
    have he:execOp a.eval o=(do pure (Next.value (<-Instr.loadAt t ((A.ep b aN off i j).den ρ m)))):=by simp only[execOp,h,cu]
    exact(Ti hb hex t hx.1).mono λ_ _ _ _ _ hq=>je.of_run he hq
   ·rename_i b off aJ hv
    split at hq
    ·rename_i hu
     cases hq
     rw[hv]at hx
     have cu:a.eval x=(A.kj b off aJ).den ρ m:=hx.2
     have he:execOp a.eval o=(do pure (Next.value (<-Instr.loadAt t ((A.kj b off aJ).den ρ m)))):=by simp only[execOp,h,cu]
     exact(acZ hb hu b off hx.1.2.1).mono λ_ _ _ _ _ hq=>je.of_run he hq
    ·cases hq
   ·cases hq
  case h_2 x h=>
   have hx:=bO ht x
   split at hq
   ·rename_i b aN off i j hv
    cases hq
    rw[hv]at hx
    refine ak.pure ⟨hx.1,_,rfl,λw _=> .inl ?_⟩
    have cu:=hx.2
    simp only[V.rel,W.den,A.den]at cu
    simp[execOp,h,cu,W.den,A.den]
   ·cases hq
  case h_3 t x aJ h=>
   have hx:=bO ht x
   have hi:=bO ht aJ
   split at hq
   ·rename_i b aN off ro len cap k i hv GL
    cases hq
    rw[hv]at hx
    rw[GL]at hi
    have cu:a.eval x=(A.sl b aN off ro len cap).den ρ m:=hx.2
    have Gc:a.eval aJ= .int k (i.l.den ρ):=hi.2
    have he:execOp a.eval o=(do pure (Next.value (<-Instr.indexAt t ((A.sl b aN off ro len cap).den ρ m) (.int k (i.l.den ρ))))):=by simp only[execOp,h,cu,Gc]
    have Gd:a6.ok n ρ i:=hi.1
    exact(adf hx.1 Gd.1).mono λ_ _ _ _ _ hq=>je.of_run he hq
   ·cases hq
  case h_4 t x h=>
   have hx:=bO ht x
   split at hq
   ·rename_i b aN off ro len cap k e hv ha
    cases hq
    rw[hv]at hx
    refine cZ λhc=>eQ λhk=>?_
    have hc:0<k:=Nat.le_of_ble_eq_true hc
    simp only[List.map_cons,List.map_nil,I.aH,U]at hk
    have bf:A.ok n bl.length ρ (.sl b aN off ro len cap):=hx.1
    obtain⟨h1,⟨h2,h3,h4,h5⟩,h6⟩:=bf
    have cd:¬cap.den ρ<0:=λtR=>by have:=h6.2.2.1 tR;omega
    refine ak.pure ⟨⟨h1,⟨h2,h3⟩,h6.1.1,h6.1.2.1⟩,_,rfl,λw _=> .inl ?_⟩
    have cu:a.eval x=(A.sl b aN off ro len cap).den ρ m:=hx.2
    have hle:¬(len.den ρ).toNat<k:=by omega
    simp only[execOp,h]
    rw[cu]
    simp only[A.den,if_neg cd]
    simp[Instr.arrayAt,run_underlying (oj ha),hle,W.den,A.den]
   ·cases hq
  case h_5 s x f h=>
   have hx:=bO ht x
   split at hq
   ·rename_i b aN off i j fd hv hf
    rw[hv]at hx
    obtain⟨eo,hu,zv⟩:=E6 hf
    split at hq
    ·rename_i k hs
     cases hq
     refine ak.pure ⟨hx.1,_,rfl,λw _=> .inl ?_⟩
     have cu:=hx.2
     simp only[V.rel,W.den,A.den]at cu
     simp[execOp,h,cu,Instr.fieldAt,run_underlying hu,zv,Instr.sureAddr,fieldPlace,fH hs,gz,W.den,A.den,Nat.add_assoc]
    ·cases hq
   ·cases hq
  case h_6 t x lo hi h=>
   have hx:=bO ht x
   split at hq
   ·rename_i b aN off ro len cap hv
    rw[hv]at hx
    have cu:a.eval x=(A.sl b aN off ro len cap).den ρ m:=hx.2
    have he:execOp a.eval o=(do pure (Next.value (<-Instr.sliceAt t ((A.sl b aN off ro len cap).den ρ m) (lo.map a.eval) (hi.map a.eval) none))):=by simp only[execOp,h,cu];rfl
    split at hq
    ·rename_i p iq hp oK
     cases hq
     exact(adi hx.1 ht hp oK).mono λ_ _ _ _ _ hq=>je.of_run he hq
    ·cases hq
   ·cases hq
  case h_7 s d x h=>
   have hx:=bO ht x
   split at hq
   ·rename_i b aN off ro len cap e hv hs hd
    split at hq
    ·rename_i VR
     cases hq
     rw[hv]at hx
     have cu:a.eval x=(A.sl b aN off ro len cap).den ρ m:=hx.2
     have he:execOp a.eval o=(do pure (Next.value (<-convert s d ((A.sl b aN off ro len cap).den ρ m)))):=by simp only[execOp,h,cu]
     exact(adg hb hex (eE hs) VR hd hx.1).mono λ_ _ _ _ _ hq=>je.of_run he hq
    ·cases hq
   ·cases hq
  case h_8 c h=>
   split at hq
   ·rename_i hc
    split at hq
    ·rename_i x t dP iS
     have hx:=bO ht x
     split at hq
     ·rename_i b aN off ro len cap e hv hs
      cases hq
      rw[hv]at hx
      have cu:a.eval x=(A.sl b aN off ro len cap).den ρ m:=hx.2
      have kC:(A.sl b aN off ro len cap).ok n bl.length ρ:=hx.1
      obtain⟨ptr,e1,_,_⟩:=nF (m:=m) kC
      rw[e1]at cu
      obtain⟨b8,⟨cO,ev,eO,fR⟩,⟨gh,js,jt,ju⟩,_⟩:=kC
      have bh:c.args=#[x]:=by rw[<-Array.toArray_toList (xs:=c.args),dP]
      have a2:c.argTypes=#[t]:=by rw[<-Array.toArray_toList (xs:=c.argTypes),iS]
      refine ak.pure ⟨⟨eO,jt,ju⟩,_,rfl,λw _=> .inl ?_⟩
      have eC:((len.den ρ).toNat:Int)=len.den ρ:=by omega
      simp[-Int.ofNat_toNat,execOp,h,resolve,hc,bh,a2,cu,invoke,builtin,Builtin.len_,run_underlying (eE hs),goInt,W.den,A.den,eC]
     ·cases hq
    ·cases hq
   ·rename_i hc
    split at hq
    ·rename_i x y dP
     have hx:=bO ht x
     have hy:=bO ht y
     split at hq
     ·rename_i k p aM iq l7 hT
      by_cases j7:k=aM
      ·subst j7
       simp only[decide_true,cond_true]at hq
       cases hq
       rw[l7]at hx;rw[hT]at hy
       have e1:a.eval x= .int k (p.l.den ρ):=hx.2
       have e2:a.eval y= .int k (iq.l.den ρ):=hy.2
       have bh:c.args=#[x,y]:=by rw[<-Array.toArray_toList (xs:=c.args),dP]
       have he:execOp a.eval o=(do pure (Next.value (<-Builtin.min_ c.argTypes o.type #[.int k (p.l.den ρ),.int k (iq.l.den ρ)]))):=by
        simp[execOp,h,resolve,hc,bh,e1,e2,invoke,builtin]
       exact(YS hx.1 hy.1).mono λ_ _ _ _ _ hq=>je.of_run he hq
      ·simp[j7]at hq
     ·cases hq
    ·cases hq
   ·rename_i hc
    split at hq
    ·rename_i x y dP
     have hx:=bO ht x
     have hy:=bO ht y
     split at hq
     ·rename_i k p aM iq l7 hT
      by_cases j7:k=aM
      ·subst j7
       simp only[decide_true,cond_true]at hq
       cases hq
       rw[l7]at hx;rw[hT]at hy
       have e1:a.eval x= .int k (p.l.den ρ):=hx.2
       have e2:a.eval y= .int k (iq.l.den ρ):=hy.2
       have bh:c.args=#[x,y]:=by rw[<-Array.toArray_toList (xs:=c.args),dP]
       have he:execOp a.eval o=(do pure (Next.value (<-Builtin.max_ c.argTypes o.type #[.int k (p.l.den ρ),.int k (iq.l.den ρ)]))):=by
        simp[execOp,h,resolve,hc,bh,e1,e2,invoke,builtin]
       exact(YR hx.1 hy.1).mono λ_ _ _ _ _ hq=>je.of_run he hq
      ·simp[j7]at hq
     ·cases hq
    ·cases hq
   ·cases hq
  case h_9 op t x y gD h=>
   have hx:=bO ht x
   have hy:=bO ht y
   split at hq
   ·rename_i e b aN bI ro len cap hs l7 hT
    rw[l7]at hx;rw[hT]at hy
    have cu:a.eval x=(A.sl b aN bI ro len cap).den ρ m:=hx.2
    have oM:a.eval y= .slice none 0 0:=hy.2
    have kC:(A.sl b aN bI ro len cap).ok n bl.length ρ:=hx.1
    obtain⟨ptr,e1,e2,e3⟩:=nF (m:=m) kC
    rw[e1]at cu
    obtain⟨b8,⟨cO,ev,eO,fR⟩,_,_,eG,_⟩:=kC
    have has:U 53 ([cap,len].map (·.den ρ)):=eG
    have hp:ptr.isNone=decide (cap.den ρ<0):=by
     rcases Int.lt_or_le (cap.den ρ) 0 with h0|h0
     ·rw[e2 h0,decide_eq_true h0];rfl
     ·rw[e3 h0,decide_eq_false (by omega)];rfl
    split at hq
    ·cases hq
     refine(Br has).bind λax aG _ _ _ ⟨lz,hn⟩=>?_
     have lz:=lz.symm
     have hn:=hn.symm
     subst lz hn
     refine ak.pure ⟨⟨fR,I.ch _ _⟩,_,rfl,λw _=> .inl ?_⟩
     have zy:eqGuard .eql t x y (.slice ptr (len.den ρ).toNat (if cap.den ρ<0 then 0 else(cap.den ρ).toNat)) (.slice none 0 0)=Pure.pure ():=rfl
     have he:execOp a.eval o=(do pure (Next.value (<-binOp .eql t (.slice ptr (len.den ρ).toNat (if cap.den ρ<0 then 0 else(cap.den ρ).toNat)) (.slice none 0 0)))):=by
      simp only[execOp,h,cu,oM,zy,pure_bind]
     simp only[he,Sem.run_bind,acT w (eE hs),Result.andThen_ok,Sem.run_pure,hp]
     simp[W.den,A.den,aR.den,I.aH]
    ·cases hq
     refine(Br has).bind λax aG _ _ _ ⟨lz,hn⟩=>?_
     have lz:=lz.symm
     have hn:=hn.symm
     subst lz hn
     refine ak.pure ⟨aR.p5 ⟨fR,I.ch _ _⟩,_,rfl,λw _=> .inl ?_⟩
     have zy:eqGuard .neq t x y (.slice ptr (len.den ρ).toNat (if cap.den ρ<0 then 0 else(cap.den ρ).toNat)) (.slice none 0 0)=Pure.pure ():=rfl
     have he:execOp a.eval o=(do pure (Next.value (<-binOp .neq t (.slice ptr (len.den ρ).toNat (if cap.den ρ<0 then 0 else(cap.den ρ).toNat)) (.slice none 0 0)))):=by
      simp only[execOp,h,cu,oM,zy,pure_bind]
     simp only[he,Sem.run_bind,acV w (eE hs),Result.andThen_ok,Sem.run_pure,hp]
     simp[W.den,A.den,aR.den,aR.pj,I.aH]
    ·cases hq
   ·cases hq
  case h_10=>cases hq
end
end Go.bx
namespace Go.bx
def Ms (ops:Array Oper) (n:Nat):Bool:=
 (List.range n).all λi=>match ops[i]? with
   |none=>false
   |some h9=>(h9.after.all λe=> !Region.binds .any e||Nat.blt e.on i)&&(match h9.op with| .select .. =>false|_=>true)&&
    (List.range n).all λj=>Nat.beq i j||match ops[j]? with
      |none=>false
      |some cX=>match cX.dst with
       |none=>true
       |some d=>(!(h9.looksAt ops).contains d||Region.waitsFor .any ops i j||Region.waitsFor .any ops j i)&& !(match h9.dst with|some qE=>Nat.beq qE d|none=>false)
def FY (size n:Nat):Array Bool:=((List.range size).map λi=>Nat.blt i n).toArray
def wP (o:Oper):Bool:=match o.op with| .move _| .assign _| .extract _ _=>true|_=>false
def ov (ops:Array Oper) (i:Nat):Bool:=match ops[i]? with|some o=>wP o|none=>false
def ek (o:Oper):Bool:=match o.op,o.guard,o.dst with| .alloc _,none,some _=>true|_,_,_=>false
def nc (ops:Array Oper) (i:Nat):Bool:=match ops[i]? with|some o=>ek o|none=>false
def Ps (ops:Array Oper) (n:Nat):Bool:=
 (List.range n).all λi=> !nc ops i||match ops[i]? with
   |some h9=>match h9.dst with
    |some d=>(List.range n).all λj=>match ops[j]? with|some cX=> !(cX.looksAt ops).contains d|none=>true
    |none=>false
   |none=>false
def Qn (ops:Array Oper) (n:Nat):Bool:=
 (List.range n).all λi=>ov ops i||(List.range (n+1)).any λj=>Nat.blt i j&&Region.waitsFor .any ops j i&&(Nat.beq j n|| !ov ops j)
def Tx (ops:Array Oper) (n:Nat):Bool:=
 (List.range n).all λi=> !ov ops i||(List.range ops.size).all λj=>Nat.blt j n||Region.waitsFor .any ops j i||(match ops[i]?,ops[j]? with|some h9,some cX=>h9.apart ops cX|_,_=>false)
def yn (ops:Array Oper) (n:Nat):Bool:=
 Region.noSelect ops&&Tx ops n&&Ps ops n&&Ms ops n&&Nat.ble n ops.size&&(Nat.beq n ops.size||(Qn ops n&&Region.chainB .any ops n))&&Region.seqB .any ops (ops.size-n) n (FY ops.size n)
def calm (Q:Exit->Act->World->Prop):Exit->Act->World->Prop
 | .panic _,_,_=>False
 |e,a,w=>Q e a w
theorem mF {a b:Nat} (h:Nat.blt a b=true):a<b:=Nat.le_of_ble_eq_true h
theorem YK {a b:Nat} (h:a<b):Nat.blt a b=true:=Nat.ble_eq_true_of_le h
section
variable {P:Program} {ops:Array Oper} {C:World->Prop}
def pc (P:Program) (ops:Array Oper) (C:World->Prop) (o:Oper) (v:Value) (a:Act):Prop:=
 (Region.wanted o (yielded ops a.tmps)=true/\∀w,C w->s3 P o a w v)∨(Region.wanted o (yielded ops a.tmps)=false/\v=undef)
def sM (P:Program) (ops:Array Oper) (C:World->Prop) (F:Act->Prop):List Oper->Act->Prop
 |[],a=>F a
 |o::r,a=>cond (ek o) (sM P ops C F r a) (∃v,pc P ops C o v a/\sM P ops C F r (a.put o.dst v))
theorem HX {Q:Act->Prop}:∀(l:List Oper) (a:Act),sM P ops C Q l a->∃(as:Nat->Act) (vs:Nat->Value),as 0=a/\(∀i o,l[i]?=some o->(ek o=false->pc P ops C o (vs i) (as i)/\as (i+1)=(as i).put o.dst (vs i))/\(ek o=true->as (i+1)=as i))/\Q (as l.length)
 |[],a,h=>⟨λ_=>a,λ_=>undef,rfl,λi o hi=>by simp at hi,h⟩
 |o::r,a,h=>by
  unfold sM at h
  cases dt:ek o with
  |true=>
   simp only[dt,cond_true]at h
   obtain⟨as,vs,e0,hs,tz⟩:=HX r _ h
   refine⟨λi=>match i with|0=>a|i+1=>as i,λi=>match i with|0=>undef|i+1=>vs i,rfl,λi bI hi=>?_,tz⟩
   cases i with
   |zero=>
    simp at hi;subst hi
    exact⟨λh1=>by(rw[dt]at h1;cases h1),λ_=>e0⟩
   |succ i=>
    simp at hi
    exact hs i bI hi
  |false=>
   simp only[dt,cond_false]at h
   obtain⟨v,hy,h2⟩:=h
   obtain⟨as,vs,e0,hs,tz⟩:=HX r _ h2
   refine⟨λi=>match i with|0=>a|i+1=>as i,λi=>match i with|0=>v|i+1=>vs i,rfl,λi bI hi=>?_,tz⟩
   cases i with
   |zero=>
    simp at hi;subst hi
    exact⟨λ_=>⟨hy,e0⟩,λh1=>by(rw[dt]at h1;cases h1)⟩
   |succ i=>
    simp at hi
    exact hs i bI hi
theorem QS {Q:Exit->Act->World->Prop} {md:Region.Mode}:∀(f:Nat) (listed:Array Bool) (a:Act) (w:World),wpAny P md ops Q f listed a w->wpAny P md ops Q (f+1) listed a w
 |0,_,_,_,h=>⟨λ_=>h.2,λi hi=>by rw[h.1]at hi;cases hi⟩
 |f+1,_,_,_,h=>⟨h.1,λi hi=>wpOp_mono (λda w' h'=>QS f _ da w' h') (h.2 i hi)⟩
theorem QR {Q:Exit->Act->World->Prop} {md:Region.Mode} {listed:Array Bool} {a:Act} {w:World} {f iL:Nat} (h:wpAny P md ops Q f listed a w) (hle:f<=iL):wpAny P md ops Q iL listed a w:=by
 induction hle with
 |refl=>exact h
 |step _ ih=>exact QS _ _ _ _ ih
theorem Mk {α:Type} {p q:α->Bool}:∀{l:List α},(∀x∈l,q x=true->p x=true)->(∃x∈l,p x=true/\q x=false)->l.countP q<l.countP p
 |[],_,⟨x,hx,_⟩=>by simp at hx
 |y::r,h1,⟨x,hx,h2,h3⟩=>by
  have hle:r.countP q<=r.countP p:=List.countP_mono_left λz hz=>h1 z (List.mem_cons_of_mem _ hz)
  rw[List.countP_cons,List.countP_cons]
  rcases List.mem_cons.1 hx with rfl|hx
  ·simp[h2,h3];omega
  ·have ih:=Mk (l:=r) (λz hz=>h1 z (List.mem_cons_of_mem _ hz)) ⟨x,hx,h2,h3⟩
   have:=h1 y (by simp)
   cases hq:q y<;>cases hp:p y<;>simp[hq,hp]at this⊢<;>omega
theorem pk {n i:Nat} {h9:Oper} (h:Ms ops n=true) (hi:i<n) (ho:ops[i]?=some h9):
 (∀e∈h9.after,Region.binds .any e=true->e.on<i)/\(∀cs b,h9.op≠ .select cs b)/\
 ∀j cX d,j<n->j≠i->ops[j]?=some cX->cX.dst=some d->h9.dst≠some d/\(d∈h9.looksAt ops->Region.waitsFor .any ops i j=true∨Region.waitsFor .any ops j i=true):=by
 have h1:=List.all_eq_true.1 h i (List.mem_range.2 hi)
 simp only[ho,Bool.and_eq_true]at h1
 obtain⟨⟨h1,h2⟩,h3⟩:=h1
 refine⟨λe he hb=>?_,λcs b hc=>by simp[hc]at h2,λj cX d hj hne n2 hd=>?_⟩
 ·have:=Array.all_eq_true_iff_forall_mem.1 h1 e he
  simp only[hb,Bool.not_true,Bool.false_or]at this
  exact mF this
 ·have h4:=List.all_eq_true.1 h3 j (List.mem_range.2 hj)
  have h5:Nat.beq i j=false:=by cases hb:Nat.beq i j with|false=>rfl|true=>exact absurd (Nat.eq_of_beq_eq_true hb).symm hne
  simp only[h5,Bool.false_or,n2,hd,Bool.and_eq_true]at h4
  refine⟨λVP=>?_,λiB=>?_⟩
  ·have:=h4.2
   simp[VP]at this
  ·have:=h4.1
   have hc:(h9.looksAt ops).contains d=true:=by simpa using iB
   simp only[hc,Bool.not_true,Bool.false_or,Bool.or_eq_true]at this
   exact this
theorem RQ {a b:Act} (h1:a.defers=b.defers) (h2:∀t:Nat,a.tmps[t]?=b.tmps[t]?):a=b:=by
 cases a;cases b
 simp only at h1 h2
 rw[h1,Array.ext_getElem? h2]
theorem pW {a:Act} {o:Option Tmp} {v:Value} {t:Nat} (h:o≠some t):(a.put o v).tmps[t]?=a.tmps[t]?:=by
 cases o with
 |none=>rfl
 |some d=>simp only[Act.put];rw[Array.getElem?_setIfInBounds_ne (λe=>h (by rw[e]))]
theorem put_defers (a:Act) (o:Option Tmp) (v:Value):(a.put o v).defers=a.defers:=by cases o<;>rfl
theorem uB (a:Act) (o:Option Tmp) (v:Value):(a.put o v).tmps.size=a.tmps.size:=by cases o<;>simp[Act.put]
theorem Tv {o:Oper} {a:Act} {v:Value} {w:World} (hf:wP o=true) (lq:C w) (h:pc P ops C o v a):Yields P ops o v a:=by
 rcases h with⟨h1,h2⟩|h
 ·refine .inl ⟨h1,λw'=>?_⟩
  have h3:=h2 w lq
  unfold s3 at h3
  unfold wP at hf
  split at hf
  ·rename_i x ho
   simp only[execOp,ho,Sem.run_pure]at h3⊢
   rcases h3 with h3|⟨f,args,h3,_⟩
   ·simp only[Result.ok.injEq,Next.value.injEq,and_true]at h3;rw[h3]
   ·simp at h3
  ·rename_i x ho
   simp only[execOp,ho,Sem.run_pure]at h3⊢
   rcases h3 with h3|⟨f,args,h3,_⟩
   ·simp only[Result.ok.injEq,Next.value.injEq,and_true]at h3;rw[h3]
   ·simp at h3
  ·rename_i x i ho
   simp only[execOp,ho,Sem.run_bind]at h3⊢
   unfold Instr.extract at h3⊢
   cases hx:a.eval x<;>simp only[hx]at h3⊢<;>try(simp[Result.andThen]at h3;done)
   rename_i vs
   cases hv:vs[i]? with
   |none=>simp[hv,Result.andThen]at h3
   |some u=>simp[hv]at h3;simp[h3]
  ·cases hf
 ·exact .inr h
theorem ada {n:Nat} {listed:Array Bool} (hs:Qn ops n=true) (hc:Region.chainB .any ops n=true) (hn:n<ops.size) (inv:HeadInv .any ops n listed):
 ∀(d i:Nat),n-i=d->i<n->ov ops i=false->listed.getD i false=false->∀t,n<=t->t∉Region.ready .any ops listed:=by
 intro d
 induction d using Nat.strongRecOn with
 |_ d ih=>
  intro i hd hi fW nw t ht hr
  obtain⟨_,PB,Gv,hall⟩:=mem_ready.1 hr
  have W5:t<ops.size:=(Array.getElem?_eq_some_iff.1 Gv).1
  by_cases W6:t=n
  ·subst W6
   have h1:=List.all_eq_true.1 hs i (List.mem_range.2 hi)
   simp only[fW,Bool.false_or]at h1
   obtain⟨j,hj,n0⟩:=List.any_eq_true.1 h1
   simp only[Bool.and_eq_true,Bool.or_eq_true]at n0
   obtain⟨⟨N2,zH⟩,Ge⟩:=n0
   have N2:=mF N2
   obtain⟨cX,n2,e,he,hb,Ct⟩:=Region.waitsFor_spec zH
   have ahN:j<=t:=by have:=List.mem_range.1 hj;omega
   by_cases N5:j=t
   ·subst N5
    have:cX=PB:=Option.some.inj (n2.symm.trans Gv)
    subst this
    have h2:=hall e he hb
    rw[Ct,nw]at h2
    cases h2
   ·cases hl:listed.getD j false with
    |true=>
     have h2:=inv.closed j cX n2 hl e he hb
     rw[Ct,nw]at h2
     cases h2
    |false=>
     have V0:ov ops j=false:=by
      rcases Ge with h3|h3
      ·exact absurd (Nat.eq_of_beq_eq_true h3) N5
      ·simpa using h3
     exact ih (t-j) (by omega) j rfl (by omega) V0 hl t (Nat.le_refl _) hr
  ·have h1:=List.all_eq_true.1 hc t (List.mem_range.2 W5)
   simp only[Bool.or_eq_true,decide_eq_true_eq]at h1
   rcases h1 with h1|h1
   ·omega
   ·obtain⟨bI,fD,e,he,hb,Ct⟩:=Region.waitsFor_spec h1
    have:bI=PB:=Option.some.inj (fD.symm.trans Gv)
    subst this
    have h2:=hall e he hb
    rw[Ct,getD_both (inv.tail (t-1) (by omega) (by omega))]at h2
    cases h2
theorem Tu {o:Oper} (h:wP o=true):ek o=false:=by
 unfold wP at h
 unfold ek
 cases ho:o.op<;>simp only[ho]at h⊢<;>cases h
theorem Y7 {n i j:Nat} {h9 cX:Oper} {d:Tmp} (h:Ps ops n=true) (hi:i<n) (ho:ops[i]?=some h9) (dt:ek h9=true) (hd:h9.dst=some d) (hj:j<n) (n2:ops[j]?=some cX):d∉cX.looksAt ops:=by
 have h1:=List.all_eq_true.1 h i (List.mem_range.2 hi)
 have ha:nc ops i=true:=by simp[nc,ho,dt]
 simp only[ha,Bool.not_true,Bool.false_or,ho,hd]at h1
 have h2:=List.all_eq_true.1 h1 j (List.mem_range.2 hj)
 simp only[n2,Bool.not_eq_true']at h2
 intro hm
 have:(cX.looksAt ops).contains d=true:=by simpa using hm
 rw[this]at h2;cases h2
theorem af1 {Q:Exit->Act->World->Prop} {o:Oper} {i:Nat} {v:Value} {a:Act} {w:World} {K:Act->World->Prop} (hi:ops[i]?=some o) (lq:C w) (hy:pc P ops C o v a) (h:∀w',w.Extends w'->K (a.put o.dst v) w'):wpOp P ops Q i K a w:=by
 unfold wpOp
 simp only[hi]
 rcases hy with⟨h1,h2⟩|⟨h1,h2⟩
 ·rw[if_pos h1]
  refine .inl ?_
  unfold Oper.wp
  rcases h2 w lq with h3|⟨f,args,h3,h4⟩
  ·rw[h3];exact h w (World.Extends.refl w)
  ·rw[h3]
   refine h4.mono λe lh ⟨he,hx⟩=>?_
   subst he
   exact h lh hx
 ·rw[if_neg (by simp[h1]),<-h2]
  exact h w (World.Extends.refl w)
theorem pc.of_same {o:Oper} {v:Value} {a da:Act} (hy:pc P ops C o v a) (he:execOp da.eval o=execOp a.eval o) (hw:Region.wanted o (yielded ops da.tmps)=Region.wanted o (yielded ops a.tmps)):pc P ops C o v da:=by
 unfold pc s3 at*
 rw[he,hw]
 exact hy
structure LD (ops:Array Oper) (n:Nat) (S:Nat->Prop) (a nd b:Act) (ed:Nat->Nat):Prop where
 d:b.defers=a.defers
 aN:b.tmps.size=a.tmps.size
 q:∀t:Nat,(∃j o,j<n/\S j/\ops[j]?=some o/\ek o=false/\o.dst=some t)->b.tmps[t]?=nd.tmps[t]?
 al:∀(t:Nat) j o,j<n->S j->ops[j]?=some o->ek o=true->o.dst=some t->t<b.tmps.size->b.tmps[t]?=some (.pointer (some ⟨ed j,0,none⟩))
 no:∀t:Nat,(∀j o,j<n->S j->ops[j]?=some o->o.dst≠some t)->b.tmps[t]?=a.tmps[t]?
structure Fin (ops:Array Oper) (n:Nat) (nd b:Act) (ed:Nat->Nat):Prop where
 d:b.defers=nd.defers
 aN:b.tmps.size=nd.tmps.size
 al:∀(t:Nat) j o,j<n->ops[j]?=some o->ek o=true->o.dst=some t->t<b.tmps.size->b.tmps[t]?=some (.pointer (some ⟨ed j,0,none⟩))
 no:∀t:Nat,(∀j o,j<n->ops[j]?=some o->ek o=true->o.dst≠some t)->b.tmps[t]?=nd.tmps[t]?
def rK (ops:Array Oper) (n:Nat) (S:Nat->Prop) (Z:Nat->Obj) (ed:Nat->Nat) (aN:Nat) (w:World):Prop:=
 (∀j,j<n->S j->nc ops j=true->aN<=ed j/\w.heap[ed j]?=some (Z j))/\∀i j,i<n->j<n->S i->S j->nc ops i=true->nc ops j=true->ed i=ed j->i=j
theorem rK.grow {n:Nat} {S:Nat->Prop} {Z:Nat->Obj} {ed:Nat->Nat} {aN:Nat} {w w':World} (h:rK ops n S Z ed aN w) (he:w.Extends w'):rK ops n S Z ed aN w':=
 ⟨λj h1 h2 h3=>by
  obtain⟨h4,h5⟩:=h.1 j h1 h2 h3
  exact⟨h4,by rw[he.block _ (Array.getElem?_eq_some_iff.1 h5).1];exact h5⟩,h.2⟩
theorem af2 {Q:Exit->Act->World->Prop} {a:Act} {w:World} {l:List Oper} (n:Nat) (Z:Nat->Obj) (hm:P.follows .mixedOrders=true) (hB:yn l.toArray n=true) (lq:∀w',w.drew.Extends w'->C w')
 (tB:∀j o,j<n->l.toArray[j]?=some o->ek o=true->∀(b:Act) w',(execOp b.eval o).run P w'= .ok (.value (.pointer (some ⟨w'.heap.size,0,none⟩))) (w'.alloc (Z j)))
 (h:sM P l.toArray C (λnd=>∀ed b w',Fin l.toArray n nd b ed->w.drew.Extends w'->rK l.toArray n (λ_=>True) Z ed w.drew.heap.size w'->wpList P l.toArray (calm Q) (l.drop n) b w') (l.take n) a):wpAny P .any l.toArray (calm Q) l.toArray.size (Array.replicate l.toArray.size false) a {w with drawn:=w.drawn+1}:=by
 simp only[yn,Bool.and_eq_true]at hB
 obtain⟨⟨⟨⟨⟨⟨Wt,V2⟩,mO⟩,pw⟩,hle⟩,On⟩,WU⟩:=hB
 have hle:n<=l.length:=by simpa using Nat.le_of_ble_eq_true hle
 obtain⟨as,vs,e0,hs,aU⟩:=HX _ _ h
 have hlen:(l.take n).length=n:=by simp;omega
 rw[hlen]at aU
 have dB:∀i,i<n->∃o,l.toArray[i]?=some o/\(ek o=false->pc P l.toArray C o (vs i) (as i)/\as (i+1)=(as i).put o.dst (vs i))/\(ek o=true->as (i+1)=as i):=λi hi=>by
  have hlt:i<l.length:=by omega
  have h1:(l.take n)[i]?=some l[i]:=by rw[List.getElem?_take,if_pos hi,List.getElem?_eq_getElem hlt]
  have h2:=hs i _ h1
  exact⟨l[i],by simp[hlt],h2⟩
 have zq:∀i,i<=n->(as i).defers=a.defers/\(as i).tmps.size=a.tmps.size:=by
  intro i
  induction i with
  |zero=>intro _;rw[e0];exact⟨rfl,rfl⟩
  |succ i ih=>
   intro hi
   obtain⟨o,ho,h1,h2⟩:=dB i (by omega)
   cases dt:ek o with
   |true=>rw[h2 dt];exact ih (by omega)
   |false=>rw[(h1 dt).2,put_defers,uB];exact ih (by omega)
 have Nh:∀i,i<=n->∀t:Nat,(∀j o,j<i->l.toArray[j]?=some o->ek o=false->o.dst≠some t)->(as i).tmps[t]?=a.tmps[t]?:=by
  intro i
  induction i with
  |zero=>intro _ t _;rw[e0]
  |succ i ih=>
   intro hi t ij
   obtain⟨o,ho,h1,h2⟩:=dB i (by omega)
   have OD:=ih (by omega) t λj o hj=>ij j o (by omega)
   cases dt:ek o with
   |true=>rw[h2 dt];exact OD
   |false=>rw[(h1 dt).2,pW (ij i o (by omega) ho dt)];exact OD
 have Ng:∀(d i:Nat),i+d=n->∀t:Nat,(∃j o,j<i/\l.toArray[j]?=some o/\o.dst=some t)->(as n).tmps[t]?=(as i).tmps[t]?:=by
  intro d
  induction d with
  |zero=>intro i hi t _;rw[show i=n by omega]
  |succ d ih=>
   intro i hi t hj
   obtain⟨o,ho,h1,h2⟩:=dB i (by omega)
   rw[ih (i+1) (by omega) t (by obtain⟨j,o,h1,h2⟩:=hj;exact⟨j,o,by omega,h2⟩)]
   cases dt:ek o with
   |true=>rw[h2 dt]
   |false=>
    rw[(h1 dt).2]
    obtain⟨j,cX,zH,n0,Ge⟩:=hj
    exact pW ((pk pw (show i<n by omega) ho).2.2 j cX t (by omega) (by omega) n0 Ge).1
 have hsz:l.toArray.size=l.length:=by simp
 have main:∀(f:Nat) (listed:Array Bool) (b:Act) (cC:World) (ed:Nat->Nat),HeadInv .any l.toArray n listed->w.drew.Extends cC->
  LD l.toArray n (λj=>listed.getD j false=true) a (as n) b ed->rK l.toArray n (λj=>listed.getD j false=true) Z ed w.drew.heap.size cC->
  (List.range n).countP (λi=> !listed.getD i false)+(l.length-n)<=f->wpAny P .any l.toArray (calm Q) f listed b cC:=by
  intro f
  have done:∀(listed:Array Bool) (b:Act) (cC:World) (ed:Nat->Nat),HeadInv .any l.toArray n listed->w.drew.Extends cC->
   LD l.toArray n (λj=>listed.getD j false=true) a (as n) b ed->rK l.toArray n (λj=>listed.getD j false=true) Z ed w.drew.heap.size cC->(∀i,i<n->listed.getD i false=true)->
   wpAny P .any l.toArray (calm Q) (l.drop n).length listed b cC:=by
   intro listed b cC ed inv nW iO oy hall
   have hl:listed=FY l.toArray.size n:=by
    apply Array.ext_getElem?
    intro i
    unfold FY
    simp only[List.getElem?_toArray,List.getElem?_map]
    rcases Nat.lt_or_ge i l.length with hi|hi
    ·rw[List.getElem?_range (by simpa using hi)]
     have cE:i<listed.size:=by rw[inv.size];simpa using hi
     rcases Nat.lt_or_ge i n with db|db
     ·have:=hall i db
      simp[cE]at this
      simp[cE,this,YK db]
     ·have:=inv.tail i db (by simpa using hi)
      simp[cE]at this
      have hb:Nat.blt i n=false:=by cases hq:Nat.blt i n with|false=>rfl|true=>have:=mF hq;omega
      simp[cE,this,hb]
    ·have h1:listed.size<=i:=by rw[inv.size];simpa using hi
     have h2:(List.range l.toArray.size)[i]?=none:=by simp;omega
     rw[h2,Array.getElem?_eq_none h1];rfl
   have Cx:Region.seqB .any l.toArray (l.drop n).length n listed=true:=by rw[hl];simpa using WU
   refine wpAny_of_seq (P:=P) (md:= .any) (Q':=calm Q) (l.drop n) n listed b cC (λj=>by simp[List.getElem?_drop]) Cx (aU ed b cC ?_ nW ?_)
   ·refine⟨iO.d.trans (zq n (Nat.le_refl _)).1.symm,iO.aN.trans (zq n (Nat.le_refl _)).2.symm,λt j o h1 h3 h4 h5=>iO.al t j o h1 (hall j h1) h3 h4 h5,λt ij=>?_⟩
    by_cases hq:∃j o,j<n/\l.toArray[j]?=some o/\ek o=false/\o.dst=some t
    ·obtain⟨j,o,h1,h2,h3,h4⟩:=hq
     exact iO.q t ⟨j,o,h1,hall j h1,h2,h3,h4⟩
    ·have oK:∀j o,j<n->l.toArray[j]?=some o->ek o=false->o.dst≠some t:=λj o h1 h2 h3 h4=>hq ⟨j,o,h1,h2,h3,h4⟩
     rw[iO.no t λj o h1 _ h3=>(by
      cases dt:ek o with
      |true=>exact ij j o h1 h3 dt
      |false=>exact oK j o h1 h3 dt),Nh n (Nat.le_refl _) t oK]
   ·exact⟨λj h1 _ h3=>oy.1 j h1 (hall j h1) h3,λi j h1 h2 _ _ h5 h6=>oy.2 i j h1 h2 (hall i h1) (hall j h2) h5 h6⟩
  have LJ:∀(listed:Array Bool),(List.range n).countP (λi=> !listed.getD i false)=0->∀i,i<n->listed.getD i false=true:=λlisted hc i hi=>by
   cases hq:listed.getD i false with
   |true=>rfl
   |false=>
    have:0<(List.range n).countP (λi=> !listed.getD i false):=List.countP_pos_iff.2 ⟨i,List.mem_range.2 hi,by simp[hq]⟩
    omega
  induction f with
  |zero=>
   intro listed b cC ed inv nW iO oy hf
   have:=done listed b cC ed inv nW iO oy (LJ listed (by omega))
   exact QR this (by simp;omega)
  |succ f ih=>
   intro listed b cC ed inv nW iO oy hf
   by_cases VK:(List.range n).countP (λi=> !listed.getD i false)=0
   ·exact QR (done listed b cC ed inv nW iO oy (LJ listed VK)) (by simp;omega)
   ·
    have jj:∃i,i<n/\listed.getD i false=false:=by
     have h1:0<(List.range n).countP (λi=> !listed.getD i false):=by omega
     obtain⟨i,hi,hq⟩:=List.countP_pos_iff.1 h1
     exact⟨i,List.mem_range.1 hi,by simpa using hq⟩
    have hne:Region.ready .any l.toArray listed≠[]:=by
     have key:∀k,∀i,i<=k->i<n->listed.getD i false=false->Region.ready .any l.toArray listed≠[]:=by
      intro k
      induction k with
      |zero=>
       intro i Ga db hq hnil
       obtain⟨o,ho,_,_⟩:=dB i db
       have hlt:i<listed.size:=by rw[inv.size];exact(Array.getElem?_eq_some_iff.1 ho).1
       have:i∈Region.ready .any l.toArray listed:=mem_ready.2 ⟨getD_in hlt hq,o,ho,λe he hb=>by have:=(pk pw db ho).1 e he hb;omega⟩
       rw[hnil]at this;cases this
      |succ k GV=>
       intro i Ga db hq hnil
       obtain⟨o,ho,_,_⟩:=dB i db
       have hlt:i<listed.size:=by rw[inv.size];exact(Array.getElem?_eq_some_iff.1 ho).1
       have:i∈Region.ready .any l.toArray listed:=mem_ready.2 ⟨getD_in hlt hq,o,ho,λe he hb=>by
        have h1:=(pk pw db ho).1 e he hb
        cases pE:listed.getD e.on false with
        |true=>rfl
        |false=>exact absurd hnil (GV e.on (by omega) (by omega) pE)⟩
       rw[hnil]at this;cases this
     obtain⟨i,hi,hq⟩:=jj
     exact key i i (Nat.le_refl _) hi hq
    have cL:∀i,i∈Region.ready .any l.toArray listed->∀j,(listed.setIfInBounds i true).getD j false=true↔(j=i∨listed.getD j false=true):=λi hi j=>by
     obtain⟨nw,h9,tT,hall⟩:=mem_ready.1 hi
     have hlt:i<listed.size:=by rw[inv.size];exact(Array.getElem?_eq_some_iff.1 tT).1
     by_cases hj:i=j
     ·subst hj;simp[hlt]
     ·rw[getD_set_ne false hj]
      exact⟨.inr,λh=>h.resolve_left (λe=>hj e.symm)⟩
    have N8:∀i,i∈Region.ready .any l.toArray listed->i<n->(List.range n).countP (λj=> !(listed.setIfInBounds i true).getD j false)+(l.length-n)<=f:=λi hi db=>by
     obtain⟨nw,_⟩:=mem_ready.1 hi
     have:(List.range n).countP (λj=> !(listed.setIfInBounds i true).getD j false)<(List.range n).countP (λj=> !listed.getD j false):=by
      refine Mk (λj _ hj=>?_) ⟨i,List.mem_range.2 db,?_,?_⟩
      ·cases hq:listed.getD j false with
       |false=>rfl
       |true=>rw[(cL i hi j).2 (.inr hq)]at hj;cases hj
      ·simp only[getD_both nw];rfl
      ·simp only[(cL i hi i).2 (.inl rfl)];rfl
     omega
    have step:∀i,i∈Region.ready .any l.toArray listed->i<n->∀o,l.toArray[i]?=some o->ek o=false->pc P l.toArray C o (vs i) b/\∀w',cC.Extends w'->wpAny P .any l.toArray (calm Q) f (listed.setIfInBounds i true) (b.put o.dst (vs i)) w':=by
     intro i hi db o ho dt
     obtain⟨nw,h9,tT,hall⟩:=mem_ready.1 hi
     have:o=h9:=Option.some.inj (ho.symm.trans tT)
     subst this
     obtain⟨bI,fD,GP,_⟩:=dB i db
     have:bI=o:=Option.some.inj (fD.symm.trans ho)
     subst this
     obtain⟨hy,he⟩:=GP dt
     have r4:=pk pw db ho
     have Oq:∀t:Nat,t∈bI.looksAt l.toArray->b.tmps[t]?=(as i).tmps[t]?:=λt ht=>by
      by_cases hw:∃j cX,j<i/\l.toArray[j]?=some cX/\ek cX=false/\cX.dst=some t
      ·obtain⟨j,cX,h1,h2,zc,h3⟩:=hw
       rw[<-Ng (n-i) i (by omega) t ⟨j,cX,h1,h2,h3⟩]
       refine iO.q t ⟨j,cX,by omega,?_,h2,zc,h3⟩
       rcases(r4.2.2 j cX t (by omega) (by omega) h2 h3).2 ht with h4|h4
       ·obtain⟨HD,Gt,e,oC,oD,qM⟩:=Region.waitsFor_spec h4
        have:HD=bI:=Option.some.inj (Gt.symm.trans ho)
        subst this
        have:=hall e oC oD
        rwa [qM]at this
       ·obtain⟨x3,zM,e,oC,oD,qM⟩:=Region.waitsFor_spec h4
        have:x3=cX:=Option.some.inj (zM.symm.trans h2)
        subst this
        have:=(pk pw (show j<n by omega) h2).1 e oC oD
        omega
      ·rw[Nh i (by omega) t λj cX h1 h2 zc h3=>hw ⟨j,cX,h1,h2,zc,h3⟩]
       refine iO.no t λj cX h1 hl h2 h3=>?_
       cases Nv:ek cX with
       |true=>exact Y7 mO h1 h2 Nv h3 db ho ht
       |false=>
        by_cases jH:j=i
        ·subst jH
         rw[getD_both nw]at hl;cases hl
        ·rcases(r4.2.2 j cX t h1 jH h2 h3).2 ht with h4|h4
         ·obtain⟨HD,Gt,e,oC,oD,qM⟩:=Region.waitsFor_spec h4
          have:HD=bI:=Option.some.inj (Gt.symm.trans ho)
          subst this
          have:=r4.1 e oC oD
          exact hw ⟨j,cX,by omega,h2,Nv,h3⟩
         ·obtain⟨x3,zM,e,oC,oD,qM⟩:=Region.waitsFor_spec h4
          have:x3=cX:=Option.some.inj (zM.symm.trans h2)
          subst this
          have:=inv.closed j x3 h2 hl e oC oD
          rw[qM,getD_both nw]at this;cases this
     have VV:∀x∈bI.op.operands,b.eval x=(as i).eval x:=λx hx=>by
      cases x with
      |tmp t=>
       have:=Oq t (List.mem_append_left _ (List.mem_filterMap.2 ⟨.tmp t,by simpa using hx,rfl⟩))
       simp only[Act.eval]
       simp[this]
      |_=>rfl
     have hex:execOp b.eval bI=execOp (as i).eval bI:=execOp_congr bI r4.2.1 VV
     have Xi:Region.wanted bI (yielded l.toArray b.tmps)=Region.wanted bI (yielded l.toArray (as i).tmps):=by
      unfold Region.wanted
      cases hg:bI.guard with
      |none=>rfl
      |some Fm=>
       obtain⟨g,want⟩:=Fm
       have:yielded l.toArray b.tmps g=yielded l.toArray (as i).tmps g:=by
        unfold yielded
        cases ht:(l.toArray[g]?).bind (·.dst)with
        |none=>rfl
        |some t=>
         have:=Oq t (List.mem_append_right _ (by simp only[hg,ht];simp))
         simp[this]
       simp only[this]
     refine⟨hy.of_same hex Xi,λw' hw'=>?_⟩
     refine ih _ _ _ ed (inv.set hi db) (nW.trans hw') ⟨(put_defers _ _ _).trans iO.d,(uB _ _ _).trans iO.aN,?_,?_,?_⟩ (rK.grow (w:=cC) ⟨λj h1 h2 h3=>?_,λi1 cf h1 h2 h3 h4 h5 h6=>?_⟩ hw') (N8 i hi db)
     ·rintro t ⟨j,cX,h1,h2,h3,wW,h4⟩
      by_cases ht:bI.dst=some t
      ·have e1:(as n).tmps[t]?=(as (i+1)).tmps[t]?:=Ng (n-(i+1)) (i+1) (by omega) t ⟨i,bI,by omega,ho,ht⟩
       rw[e1,he,ht]
       simp only[Act.put]
       have Ol:b.tmps.size=(as i).tmps.size:=iO.aN.trans (zq i (by omega)).2.symm
       rcases Nat.lt_or_ge t b.tmps.size with h5|h5
       ·simp[h5,Ol▸h5]
       ·rw[Array.getElem?_eq_none (by simpa using h5),Array.getElem?_eq_none (by rw[Array.size_setIfInBounds,<-Ol];exact h5)]
      ·rw[pW ht]
       rcases(cL i hi j).1 h2 with rfl|h5
       ·have:cX=bI:=Option.some.inj (h3.symm.trans ho)
        subst this
        exact absurd h4 ht
       ·exact iO.q t ⟨j,cX,h1,h5,h3,wW,h4⟩
     ·intro t j cX h1 h2 h3 h4 h5 h6
      rcases(cL i hi j).1 h2 with rfl|h7
      ·have:cX=bI:=Option.some.inj (h3.symm.trans ho)
       subst this
       rw[dt]at h4;cases h4
      ·have jH:j≠i:=λe=>by subst e;rw[getD_both nw]at h7;cases h7
       have ht:bI.dst≠some t:=(r4.2.2 j cX t h1 jH h3 h5).1
       rw[pW ht]
       rw[uB]at h6
       exact iO.al t j cX h1 h7 h3 h4 h5 h6
     ·intro t ij
      have ht:bI.dst≠some t:=ij i bI db ((cL i hi i).2 (.inl rfl)) ho
      rw[pW ht]
      exact iO.no t λj cX h1 h2 h3=>ij j cX h1 ((cL i hi j).2 (.inr h2)) h3
     ·rcases(cL i hi j).1 h2 with rfl|h7
      ·simp[nc,ho,dt]at h3
      ·exact oy.1 j h1 h7 h3
     ·have k1:listed.getD i1 false=true:=by
       rcases(cL i hi i1).1 h3 with rfl|h7
       ·simp[nc,ho,dt]at h5
       ·exact h7
      have k2:listed.getD cf false=true:=by
       rcases(cL i hi cf).1 h4 with rfl|h7
       ·simp[nc,ho,dt]at h6
       ·exact h7
      exact oy.2 i1 cf h1 h2 k1 k2 h5 h6
    by_cases fW:∃i,i∈Region.ready .any l.toArray listed/\i<n/\ov l.toArray i=true
    ·obtain⟨i,hi,db,lX⟩:=fW
     obtain⟨o,ho,_,_⟩:=dB i db
     obtain⟨nw,h9,tT,hall⟩:=mem_ready.1 hi
     have NX:wP o=true:=by unfold ov at lX;simpa [ho]using lX
     have dt:ek o=false:=Tu NX
     obtain⟨sc,Gq⟩:=step i hi db o ho dt
     refine wpAny_first ho (Region.noSelect_spec Wt) (λc da w' hq=>hq.elim) f listed b cC (λj cX n2 jH Wd Wc=>?_) hi (Tv NX (lq cC nW) sc) (Gq cC (World.Extends.refl cC))
     have zL:Region.waitsFor .any l.toArray j i=false:=by
      cases hq:Region.waitsFor .any l.toArray j i with
      |false=>rfl
      |true=>
       obtain⟨x3,zM,e,oC,oD,qM⟩:=Region.waitsFor_spec hq
       have:x3=cX:=Option.some.inj (zM.symm.trans n2)
       subst this
       exact absurd qM (Wc e oC oD)
     have Od:j<n->Region.waitsFor .any l.toArray i j=false:=λtM=>by
      cases hq:Region.waitsFor .any l.toArray i j with
      |false=>rfl
      |true=>
       obtain⟨bI,fD,e,oC,oD,qM⟩:=Region.waitsFor_spec hq
       have:bI=h9:=Option.some.inj (fD.symm.trans tT)
       subst this
       have:=hall e oC oD
       rw[qM,getD_both Wd]at this;cases this
     by_cases tM:j<n
     ·have d1:=(pk pw db ho).2.2 j cX
      have d2:=(pk pw tM n2).2.2 i o
      simp only[Oper.apart,Bool.and_eq_true]
      constructor
      ·cases hd:o.dst with
       |none=>rfl
       |some d=>
        have:=d2 d db (λe=>jH e.symm) ho hd
        simp only[Bool.and_eq_true,Bool.not_eq_true',bne_iff_ne,ne_eq]
        refine⟨?_,this.1⟩
        cases hc:(cX.looksAt l.toArray).contains d with
        |false=>rfl
        |true=>
         rcases this.2 (by simpa using hc)with h1|h1
         ·rw[zL]at h1;cases h1
         ·rw[Od tM]at h1;cases h1
      ·cases hd:cX.dst with
       |none=>rfl
       |some d=>
        have:=d1 d tM jH n2 hd
        simp only[Bool.not_eq_true']
        cases hc:(o.looksAt l.toArray).contains d with
        |false=>rfl
        |true=>
         rcases this.2 (by simpa using hc)with h1|h1
         ·rw[Od tM]at h1;cases h1
         ·rw[zL]at h1;cases h1
     ·have h1:=List.all_eq_true.1 V2 i (List.mem_range.2 db)
      simp only[lX,Bool.not_true,Bool.false_or]at h1
      have h2:=List.all_eq_true.1 h1 j (List.mem_range.2 (Array.getElem?_eq_some_iff.1 n2).1)
      have hb:Nat.blt j n=false:=by cases hq:Nat.blt j n with|false=>rfl|true=>exact absurd (mF hq) tM
      simp only[hb,zL,Bool.false_or,ho,n2]at h2
      exact h2
    ·
     have Ws:∃i,i<n/\ov l.toArray i=false/\listed.getD i false=false:=by
      have key:∀k,∀i,i<=k->i<n->listed.getD i false=false->∃i,i<n/\ov l.toArray i=false/\listed.getD i false=false:=by
       intro k
       induction k with
       |zero=>
        intro i Ga db hq
        cases gM:ov l.toArray i with
        |false=>exact⟨i,db,gM,hq⟩
        |true=>
         obtain⟨o,ho,_,_⟩:=dB i db
         have hlt:i<listed.size:=by rw[inv.size];exact(Array.getElem?_eq_some_iff.1 ho).1
         exact absurd ⟨i,mem_ready.2 ⟨getD_in hlt hq,o,ho,λe he hb=>by have:=(pk pw db ho).1 e he hb;omega⟩,db,gM⟩ fW
       |succ k GV=>
        intro i Ga db hq
        cases gM:ov l.toArray i with
        |false=>exact⟨i,db,gM,hq⟩
        |true=>
         obtain⟨o,ho,_,_⟩:=dB i db
         have hlt:i<listed.size:=by rw[inv.size];exact(Array.getElem?_eq_some_iff.1 ho).1
         by_cases NO:∀e∈o.after,Region.binds .any e=true->listed.getD e.on false=true
         ·exact absurd ⟨i,mem_ready.2 ⟨getD_in hlt hq,o,ho,NO⟩,db,gM⟩ fW
         ·have hex:∃e,e∈o.after/\Region.binds .any e=true/\¬listed.getD e.on false=true:=by
           apply Classical.byContradiction
           intro ij
           exact NO λe he hb=>Classical.byContradiction λpE=>ij ⟨e,he,hb,pE⟩
          obtain⟨e,he,hb,pE⟩:=hex
          have h1:=(pk pw db ho).1 e he hb
          exact GV e.on (by omega) (by omega) (by simpa using pE)
      obtain⟨i,hi,hq⟩:=jj
      exact key i i (Nat.le_refl _) hi hq
     refine⟨λh0=>absurd h0 hne,λi hi=>?_⟩
     have db:i<n:=by
      rcases Nat.lt_or_ge i n with h1|h1
      ·exact h1
      ·exfalso
       obtain⟨_,h9,tT,_⟩:=mem_ready.1 hi
       have ahL:i<l.toArray.size:=(Array.getElem?_eq_some_iff.1 tT).1
       simp only[Bool.or_eq_true,Bool.and_eq_true]at On
       rcases On with h2|⟨h2,h3⟩
       ·have:=Nat.eq_of_beq_eq_true h2;omega
       ·obtain⟨i0,pB,w8,zS⟩:=Ws
        exact ada h2 h3 (by omega) inv (n-i0) i0 rfl pB w8 zS i h1 hi
     obtain⟨o,ho,_,_⟩:=dB i db
     cases dt:ek o with
     |false=>
      obtain⟨sc,Gq⟩:=step i hi db o ho dt
      exact af1 ho (lq cC nW) sc Gq
     |true=>
      obtain⟨nw,_⟩:=mem_ready.1 hi
      have eL:o.guard=none/\∃d,o.dst=some d:=by
       unfold ek at dt
       split at dt
       ·rename_i h1 h2 h3;exact⟨h2,_,h3⟩
       ·cases dt
      obtain⟨eL,d,hd⟩:=eL
      have r4:=pk pw db ho
      unfold wpOp
      simp only[ho]
      rw[if_pos (by simp[Region.wanted,eL])]
      refine .inl ?_
      unfold Oper.wp
      rw[tB i o db ho dt b cC]
      show wpAny P .any l.toArray (calm Q) f (listed.setIfInBounds i true) (b.put o.dst _) _
      have GS:∀j,j<n->listed.getD j false=true->nc l.toArray j=true->ed j<cC.heap.size:=λj h1 h2 h3=>(Array.getElem?_eq_some_iff.1 (oy.1 j h1 h2 h3).2).1
      refine ih _ _ _ (λj=>if j=i then cC.heap.size else ed j) (inv.set hi db) (nW.alloc _) ⟨(put_defers _ _ _).trans iO.d,(uB _ _ _).trans iO.aN,?_,?_,?_⟩ ⟨λj h1 h2 h3=>?_,λi1 cf h1 h2 h3 h4 h5 h6 h7=>?_⟩ (N8 i hi db)
      ·rintro t ⟨j,cX,h1,h2,h3,wW,h4⟩
       rcases(cL i hi j).1 h2 with rfl|h5
       ·have:cX=o:=Option.some.inj (h3.symm.trans ho)
        subst this
        rw[dt]at wW;cases wW
       ·have jH:j≠i:=λe=>by subst e;rw[getD_both nw]at h5;cases h5
        rw[pW (r4.2.2 j cX t h1 jH h3 h4).1]
        exact iO.q t ⟨j,cX,h1,h5,h3,wW,h4⟩
      ·intro t j cX h1 h2 h3 h4 h5 h6
       rcases(cL i hi j).1 h2 with rfl|h7
       ·have:cX=o:=Option.some.inj (h3.symm.trans ho)
        subst this
        rw[h5]
        simp only[if_true]
        rw[uB]at h6
        simp[Act.put,h6]
       ·have jH:j≠i:=λe=>by subst e;rw[getD_both nw]at h7;cases h7
        rw[pW (r4.2.2 j cX t h1 jH h3 h5).1]
        rw[uB]at h6
        rw[if_neg jH]
        exact iO.al t j cX h1 h7 h3 h4 h5 h6
      ·intro t ij
       rw[pW (ij i o db ((cL i hi i).2 (.inl rfl)) ho)]
       exact iO.no t λj cX h1 h2 h3=>ij j cX h1 ((cL i hi j).2 (.inr h2)) h3
      ·show w.drew.heap.size<=(if j=i then cC.heap.size else ed j)/\(cC.alloc (Z i)).heap[(if j=i then cC.heap.size else ed j)]?=some (Z j)
       by_cases jH:j=i
       ·subst jH
        rw[if_pos rfl]
        exact⟨nW.size,heap_alloc_new cC (Z j)⟩
       ·rw[if_neg jH]
        have h7:=((cL i hi j).1 h2).resolve_left jH
        obtain⟨h8,bz⟩:=oy.1 j h1 h7 h3
        exact⟨h8,by rw[heap_alloc_old cC _ (GS j h1 h7 h3)];exact bz⟩
      ·change (if i1=i then cC.heap.size else ed i1)=(if cf=i then cC.heap.size else ed cf)at h7
       by_cases h8:i1=i<;>by_cases bz:cf=i
       ·rw[h8,bz]
       ·rw[if_pos h8,if_neg bz]at h7
        have:=GS cf h2 (((cL i hi cf).1 h4).resolve_left bz) h6
        omega
       ·rw[if_neg h8,if_pos bz]at h7
        have:=GS i1 h1 (((cL i hi i1).1 h3).resolve_left h8) h5
        omega
       ·rw[if_neg h8,if_neg bz]at h7
        exact oy.2 i1 cf h1 h2 (((cL i hi i1).1 h3).resolve_left h8) (((cL i hi cf).1 h4).resolve_left bz) h5 h6 h7
 have XA:HeadInv .any l.toArray n (Array.replicate l.toArray.size false):=
  ⟨by simp,λj cX _ hl=>(by rw[getD_replicate_false]at hl;cases hl),λt _ ht=>getD_in (by simpa using ht) (getD_replicate_false _ _)⟩
 have C1:∀j,¬(Array.replicate l.toArray.size false).getD j false=true:=λj h=>by rw[getD_replicate_false]at h;cases h
 refine main l.toArray.size _ a _ (λ_=>0) XA (World.Extends.refl w.drew) ⟨rfl,rfl,λt ⟨j,o,_,h2,_⟩=>absurd h2 (C1 j),λt j o _ h2=>absurd h2 (C1 j),λ_ _=>rfl⟩ ⟨λj _ h2=>absurd h2 (C1 j),λi j _ _ h3=>absurd h3 (C1 i)⟩ ?_
 have:(List.range n).countP (λi=> !(Array.replicate l.toArray.size false).getD i false)<=n:=by
  have:=List.countP_le_length (p:=λi=> !(Array.replicate l.toArray.size false).getD i false) (l:=List.range n)
  simpa using this
 omega
end
end Go.bx
