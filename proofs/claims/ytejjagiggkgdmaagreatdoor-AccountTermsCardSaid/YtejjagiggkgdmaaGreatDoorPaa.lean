/- Texts as numbers. -/
import GoSem.ClaimData
import GoSem.Op.String
import Derived.WalkKit
import Derived.Laws.StructEq
import Derived.ChangeKeysEq
import Derived.Laws.Tables
import Derived.Laws.Strings2
import Derived.Laws.Concat
import Derived.Laws.Cover1
import Derived.Laws.Cover3
import Derived.Laws.BytesArg
import Derived.StillTail
import Derived.OrdersHeld

set_option linter.unusedVariables false
set_option linter.unusedSimpArgs false
namespace Go.bo
def fk:List UInt8->Nat
 |[]=>0
 |b::r=>(b.toNat+1)+257*fk r
def qh:Nat->Nat->List UInt8
 |0,_=>[]
 |f+1,n=>match n with
  |0=>[]
  |k+1=>UInt8.ofNat (k% 257)::qh f ((k+1)/257)
theorem Br (b:UInt8) (r:List UInt8):fk (b::r)=(b.toNat+1)+257*fk r:=rfl
theorem N8 (b:UInt8) (r:List UInt8):fk (b::r)=(b.toNat+257*fk r)+1:=by rw[Br];omega
theorem LV:∀(l:List UInt8) (f:Nat),l.length<=f->qh f (fk l)=l
 |[],0,_=>rfl
 |[],f+1,_=>rfl
 |b::r,0,h=>by simp at h
 |b::r,f+1,h=>by
  have hb:=b.toNat_lt
  rw[N8]
  show UInt8.ofNat ((b.toNat+257*fk r)% 257)::qh f ((b.toNat+257*fk r+1)/257)=b::r
  have e1:(b.toNat+257*fk r)% 257=b.toNat:=by omega
  have e2:(b.toNat+257*fk r+1)/257=fk r:=by omega
  rw[e1,e2,LV r f (by simpa using h)]
  simp
theorem LW:∀(f n k:Nat),n<257^k->(qh f n).length<=k
 |0,_,_,_=>by simp[qh]
 |f+1,0,k,_=>by simp[qh]
 |f+1,n+1,0,h=>by simp at h
 |f+1,n+1,k+1,h=>by
  have:(n+1)/257<257^k:=by rw[Nat.div_lt_iff_lt_mul (by decide)];rw[Nat.pow_succ]at h;exact h
  have ih:=LW f ((n+1)/257) k this
  simp only[qh,List.length_cons]
  omega
theorem Hc:∀(l:List UInt8),fk l<257^l.length
 |[]=>by simp[fk]
 |b::r=>by
  have ih:=Hc r
  have hb:=b.toNat_lt
  unfold fk
  rw[List.length_cons,Nat.pow_succ]
  omega
theorem Hb:∀(l:List UInt8),l.length<=fk l
 |[]=>by simp
 |b::r=>by
  have ih:=Hb r
  unfold fk
  rw[List.length_cons]
  omega
theorem Hd:∀(l:List UInt8),0<l.length->2^(l.length-1)<=fk l
 |[b],_=>by rw[Br];show 1<=_;omega
 |b::c::r,_=>by
  have ih:=Hd (c::r) (by simp)
  rw[Br b]
  simp only[List.length_cons,Nat.add_sub_cancel]at ih⊢
  rw[Nat.pow_succ]
  omega
def ab (z:Int):List UInt8:=qh (Nat.log2 z.toNat+1) z.toNat
def eI (l:List UInt8):Int:=fk l
theorem gT (l:List UInt8):ab (eI l)=l:=by
 unfold ab eI
 rw[Int.toNat_natCast]
 apply LV
 by_cases h:l.length=0
 ·omega
 ·have h1:=Hd l (by omega)
  have h2:fk l≠0:=by have:=Hb l;omega
  have h3:=(Nat.le_log2 h2).2 h1
  omega
theorem lL (l:List UInt8):0<=eI l:=Int.natCast_nonneg _
theorem M6 (k:Nat):∃H:Int,(∀l:List UInt8,l.length<=k->eI l<=H)/\∀z:Int,z<=H->(ab z).length<=k:=by
 refine⟨(257^k:Nat)-1,λl h=>?_,λz h=>?_⟩
 ·have h1:=Hc l
  have h2:257^l.length<=257^k:=Nat.pow_le_pow_right (by decide) h
  unfold eI
  omega
 ·unfold ab
  apply LW
  have:=Nat.pow_pos (n:=k) (show 0<257 by decide)
  omega
def fs:Nat:=140737488351232
theorem AM:∃H:Int,(∀l:List UInt8,l.length<=fs->eI l<=H)/\∀z:Int,z<=H->(ab z).length<=fs:=M6 fs
noncomputable def aD:Int:=Classical.choose AM
theorem kY {l:List UInt8} (h:l.length<=fs):eI l<=aD:=(Classical.choose_spec AM).1 l h
theorem qx {z:Int} (h:z<=aD):(ab z).length<=fs:=(Classical.choose_spec AM).2 z h
theorem mj:0<=aD:=by have:=kY (l:=[]) (by simp);exact this
def l3 (l:List UInt8):List UInt8:=cond (Nat.ble l.length 1000000) l []
theorem SM (l:List UInt8):0<=eI (l3 l)/\eI (l3 l)<=aD:=by
 refine⟨lL _,kY ?_⟩
 unfold l3
 cases h:Nat.ble l.length 1000000 with
 |true=>have:=Nat.le_of_ble_eq_true h;simp only[cond_true];unfold fs;omega
 |false=>simp
def a7 (l:List UInt8):ByteArray:=⟨l.toArray⟩
def nS (z:Int):Nat:=if 0<=z then 2*z.toNat else 2*(-z).toNat-1
def qn (n:Nat):Int:=if n% 2=0 then((n/2:Nat):Int)else-(((n+1)/2:Nat):Int)
theorem Zm (z:Int):qn (nS z)=z:=by
 unfold nS qn
 split
 ·rw[if_pos (by omega)];omega
 ·rw[if_neg (by omega)];omega
def lc:List Nat->Nat
 |[]=>0
 |x::r=>2^x*(2*lc r+1)
def j0:Nat->Nat->Nat
 |0,_=>0
 |f+1,n=>if n% 2=0 then j0 f (n/2)+1 else 0
theorem Mx (k:Nat):∀(x f:Nat),x<f->j0 f (2^x*(2*k+1))=x
 |0,f+1,_=>by
  unfold j0
  rw[if_neg (by rw[Nat.pow_zero,Nat.one_mul];omega)]
 |x+1,f+1,h=>by
  unfold j0
  have e:2^(x+1)*(2*k+1)=2*(2^x*(2*k+1)):=by rw[Nat.pow_succ,Nat.mul_comm (2^x) 2,Nat.mul_assoc]
  rw[e,if_pos (by omega),Nat.mul_div_cancel_left _ (by decide),Mx k x f (by omega)]
def oM:Nat->Nat->List Nat
 |0,_=>[]
 |f+1,n=>if n=0 then []else j0 n n::oM f (n/2^j0 n n/2)
theorem Uc (x:Nat):x<2^x:=Nat.lt_two_pow_self
theorem DL:∀l:List Nat,l.length<=lc l
 |[]=>Nat.le_refl _
 |x::r=>by
  have ih:=DL r
  unfold lc
  have h1:1<=2^x:=Nat.one_le_two_pow
  have h2:2*lc r+1<=2^x*(2*lc r+1):=Nat.le_mul_of_pos_left _ h1
  rw[List.length_cons]
  omega
theorem DN:∀(l:List Nat) (f:Nat),l.length<=f->oM f (lc l)=l
 |[],0,_=>rfl
 |[],f+1,_=>by simp[oM,lc]
 |x::r,0,h=>by simp at h
 |x::r,f+1,h=>by
  have h1:1<=2^x:=Nat.one_le_two_pow
  have h2:2^x<=2^x*(2*lc r+1):=Nat.le_mul_of_pos_right _ (by omega)
  have h3:=Uc x
  have hz:lc (x::r)≠0:=by
   have hl:lc (x::r)=2^x*(2*lc r+1):=rfl
   omega
  have ht:j0 (lc (x::r)) (lc (x::r))=x:=by
   show j0 (2^x*(2*lc r+1)) (2^x*(2*lc r+1))=x
   exact Mx _ _ _ (by omega)
  unfold oM
  rw[if_neg hz,ht]
  have e:lc (x::r)/2^x/2=lc r:=by
   have hl:lc (x::r)=2^x*(2*lc r+1):=rfl
   rw[hl,Nat.mul_div_cancel_left _ (by omega)]
   omega
  rw[e,DN r f (by simpa using h)]
theorem DK (X:Nat):∀k:Nat,∃B,∀l:List Nat,l.length<=k->(∀x∈l,x<=X)->lc l<=B
 |0=>⟨0,λl h _=>by
  have:l=[]:=List.length_eq_zero_iff.1 (by omega)
  subst this;exact Nat.le_refl _⟩
 |k+1=>by
  obtain⟨B,hB⟩:=DK X k
  refine⟨2^X*(2*B+1),λl h hx=>?_⟩
  cases l with
  |nil=>exact Nat.zero_le _
  |cons x r=>
   unfold lc
   have h1:=hB r (by simpa using h) λy hy=>hx y (List.mem_cons_of_mem _ hy)
   exact Nat.mul_le_mul (Nat.pow_le_pow_right (by decide) (hx x (by simp))) (by omega)
def rc (l:List (List Int)):Int:=(lc (l.map λrow=>lc (row.map nS)):Nat)
def ae (z:Int):List (List Int):=(oM z.toNat z.toNat).map λn=>(oM n n).map qn
theorem Uh (l:List Int):(l.map nS).map qn=l:=by
 rw[List.map_map]
 conv=>rhs;rw[<-List.map_id l]
 exact List.map_congr_left λz _=>Zm z
theorem dP (l:List (List Int)):ae (rc l)=l:=by
 unfold ae rc
 rw[Int.toNat_natCast,DN _ _ (DL _),List.map_map]
 conv=>rhs;rw[<-List.map_id l]
 refine List.map_congr_left λrow _=>?_
 simp only[Function.comp,id]
 rw[DN _ _ (DL _),Uh]
theorem dk (l:List (List Int)):0<=rc l:=Int.natCast_nonneg _
theorem GC (X:Int) (bt:0<=X):∃H:Int,∀l:List (List Int),l.length<=maxLen->(∀row∈l,row.length<=100/\∀z∈row,-X<=z/\z<=X)->rc l<=H:=by
 obtain⟨B,hB⟩:=DK (2*X.toNat) 100
 obtain⟨C,hC⟩:=DK B maxLen
 refine⟨(C:Nat),λl h hr=>?_⟩
 unfold rc
 have:=hC (l.map λrow=>lc (row.map nS)) (by simpa using h) λx hx=>by
  obtain⟨row,hrow,rfl⟩:=List.mem_map.1 hx
  refine hB _ (by simpa using(hr row hrow).1) λy hy=>?_
  obtain⟨z,hz,rfl⟩:=List.mem_map.1 hy
  have h1:=(hr row hrow).2 z hz
  unfold nS
  split<;>omega
 omega
def EE (row:List Int):Prop:=row.length<=100/\∀z∈row,-(18446744073709551616+aD)<=z/\z<=18446744073709551616+aD
theorem GA:∃H:Int,∀l:List (List Int),l.length<=maxLen->(∀row∈l,EE row)->rc l<=H:=GC _ (by have:=mj;omega)
noncomputable def bS:Int:=Classical.choose GA
theorem AV {l:List (List Int)} (h:l.length<=maxLen) (hr:∀row∈l,EE row):rc l<=bS:=Classical.choose_spec GA l h hr
theorem u5:0<=bS:=Int.le_trans (dk []) (AV (l:=[]) (by simp) (by simp))
def ED (row:List Int):Prop:=row.length<=100/\∀z∈row,-(18446744073709551616+aD+bS)<=z/\z<=18446744073709551616+aD+bS
theorem GB:∃H:Int,∀l:List (List Int),l.length<=maxLen->(∀row∈l,ED row)->rc l<=H:=GC _ (by have:=mj;have:=u5;omega)
noncomputable def au:Int:=max (Classical.choose GB) bS
theorem j4 {l:List (List Int)} (h:l.length<=maxLen) (hr:∀row∈l,ED row):rc l<=au:=Int.le_trans (Classical.choose_spec GB l h hr) (Int.le_max_left _ _)
theorem Nn:bS<=au:=Int.le_max_right _ _
inductive az where
 |int (k:IntKind) (lo hi:Int)
 |str
 |bool
 |sub (k:Nat)
def fL:Nat->List az
 |0=>[.int .u8 0 255]
 |_=>[.str]
def az.plain:az->Bool
 | .sub _=>false
 |_=>true
def fJ (sh:List az):Bool:=sh.all az.plain
def az.beq:az->az->Bool
 |int k lo hi,int aZ Kt jw=>decide (k=aZ)&&decide (lo=Kt)&&decide (hi=jw)
 |str,str=>true
 |bool,bool=>true
 |sub k,sub aZ=>Nat.beq k aZ
 |_,_=>false
theorem az.beq_eq:∀{a b:az},az.beq a b=true->a=b
 |int k lo hi,int aZ Kt jw,h=>by
  simp only[az.beq,Bool.and_eq_true,decide_eq_true_eq]at h
  rw[h.1.1,h.1.2,h.2]
 |str,str,_=>rfl
 |bool,bool,_=>rfl
 |int ..,str,h=>by cases h
 |int ..,bool,h=>by cases h
 |str,int ..,h=>by cases h
 |str,bool,h=>by cases h
 |bool,int ..,h=>by cases h
 |bool,str,h=>by cases h
 |sub _,sub _,h=>by rw[Nat.eq_of_beq_eq_true h]
 |int ..,sub _,h=>by cases h
 |str,sub _,h=>by cases h
 |bool,sub _,h=>by cases h
 |sub _,int ..,h=>by cases h
 |sub _,str,h=>by cases h
 |sub _,bool,h=>by cases h
def hZ:List az->List az->Bool
 |[],[]=>true
 |a::r,b::s=>az.beq a b&&hZ r s
 |_,_=>false
theorem mU:∀{a b:List az},hZ a b=true->a=b
 |[],[],_=>rfl
 |a::r,b::s,h=>by
  simp only[hZ,Bool.and_eq_true]at h
  rw[az.beq_eq h.1,mU h.2]
 |[],_::_,h=>by cases h
 |_::_,[],h=>by cases h
noncomputable def az.c3:az->Int×Int
 |int _ lo hi=>(lo,hi)
 |str=>(0,aD)
 |bool=>(0,1)
 |sub _=>(0,bS)
def az.val:az->Int->Value
 |int k _ _,z=> .int k z
 |str,z=> .string (a7 (ab z))
 |bool,z=> .bool (decide (z=1))
 |sub _,_=> .slice none 0 0
def aa:Nat->List Int->Int
 |0,[s]=>(ab s).length
 |1,[s,i]=>((ab s).getD i.toNat 0).toNat
 |2,[s,a,b]=>eI (((ab s).drop a.toNat).take (b.toNat-a.toNat))
 |3,[s,t]=>eI (ab s++ab t)
 |4,[s,t]=>if ab s=ab t then 1 else 0
 |5,[s,t]=>if Op.bytesLess (ab s) (ab t)=true then 1 else 0
 |20,[c]=>(ae c).length
 |21,[c,i,j]=>((ae c).getD i.toNat []).getD j.toNat 0
 |22,[c,a,b]=>rc (((ae c).drop a.toNat).take (b.toNat-a.toNat))
 |23,c::row=>rc (ae c++[row])
 |24,[c,e]=>rc (ae c++ae e)
 |25,c::i::row=>rc ((ae c).set i.toNat row)
 |26,n::row=>rc (List.replicate n.toNat row)
 |27,[s]=>rc ((ab s).map λb=>[(b.toNat:Int)])
 |34,[c,a,b]=>eI ((((ae c).drop a.toNat).take (b.toNat-a.toNat)).map λrow=>UInt8.ofNat (row.getD 0 0).toNat)
 |37,[x,y]=>x*2^y.toNat
 |38,[x,y]=>x% y
 |76,[x,y]=>x/y
 |33,[r,a,c]=>if a=c then r else r+a
 |29,[c,i,j,v]=>rc ((ae c).set i.toNat (((ae c).getD i.toNat []).set j.toNat v))
 |42,c::i::j::vs=>rc ((ae c).set i.toNat (((ae c).getD i.toNat []).take j.toNat++vs++((ae c).getD i.toNat []).drop (j.toNat+vs.length)))
 |43,[s,i]=>if UInt8.ofNat i.toNat∈ab s then 1 else 0
 |61,c::a::k::row=>rc ((ae c).take a.toNat++List.replicate k.toNat row++(ae c).drop (a.toNat+k.toNat))
 |62,[a,b]=>min a b
 |63,[c,a,s]=>rc ((ae c).take a.toNat++ae s++(ae c).drop (a.toNat+(ae s).length))
 |28,[c]=>eI ((ae c).map λrow=>UInt8.ofNat (row.getD 0 0).toNat)
 |_,_=>0
noncomputable def yk:Nat->List Int->Prop
 |70,[l,c]=>c∣l
 |71,z::_=>(ae z).length<=1000000000
 |72,z::_=>64∣(ae z).length/\(ae z).length<=1000001000
 |73,z::_=>128∣(ae z).length/\(ae z).length<=1000001000
 |74,[i,l]=>0<=i/\i<l
 |78,[x,y,z,c]=>0<=x/\x<=y/\y<=z/\z<=c
 |79,[l,c]=>l<=c
 |75,l=>∀z∈l,(ae z).length<=100000000
 |77,[x]=>0<=x
 |80,[c,a,k]=>0<=a/\0<=k/\a+k<=(ae c).length
 |84,[_,_,d]=>(ae d).length<=100000000
 |85,z::_=>(ae z).length<=1000000/\∀row∈ae z,(ae (row.getD 2 0)).length<=1000000
 |_,_=>False
def ad:Nat->List Int->Prop
 |1,[s,i]=>0<=i/\i<(ab s).length
 |2,[s,a,b]=>0<=a/\a<=b/\b<=(ab s).length
 |3,[s,t]=>(ab s).length+(ab t).length<=fs
 |21,[c,i]=>0<=i/\i<(ae c).length
 |30,[i,n]=>0<=i/\i<n
 |31,[c,n]=>n=(ae c).length
 |32,[a,b,n]=>0<=a/\a<=b/\b<=n
 |22,[c,a,b]=>0<=a/\a<=b/\b<=(ae c).length
 |35,[c,a,b]=>(0<=a/\a<=b/\b<=(ae c).length)/\b-a<=140737488351232
 |36,[y]=>0<y
 |39,[x,l,h]=>l<=x/\x<=h
 |40,[a,b]=>0<=a->0<=b
 |41,[s]=>(ab s).length<=4294967280
 |44,[w,s]=>ab w=[]∨(ab s).length<=4294967280
 |23,[c,k]=>(ae c).length+k<=1073741824
 |26,[n]=>0<=n/\n<=1073741824
 |48,r::_=>(ae r).length<=1099511627776
 |50,s::_=>(ab s).length<=1073741824
 |49,[l,c]=>0<=l/\l<=c/\c<=1073741824
 |64,[p,q,r,l]=>0<=p/\p<=q/\q<=r/\r<=l/\0<l
 |65,[c,a,k]=>0<=a/\0<k/\a+k<=(ae c).length
 |66,r::_=>(ae r).length<=1000000
 |68,[l,c]=>l<=c∨l=0
 |67,[c,i,k]=>((ae c).getD i.toNat []).length=k.toNat
 |53,[c,l]=>c<0->l=0
 |52,[c,a,b]=>0<=a/\a<b/\b<=(ae c).length/\(ae c).length<=1073741824
 |51,[c,i,r]=>(0<=i/\i<=(ae c).length)/\(ae r).length=1/\(ae c).length+1<=1073741824
 |op,l=>yk op l
end Go.bo
namespace Go.bo
abbrev Env:=Nat->Int
def cl (ρ:Env) (n:Nat) (z:Int):Env:=λi=>cond (Nat.beq i n) z (ρ i)
def bP (ρ:Env):Nat->List Int->Env
 |_,[]=>ρ
 |n,z::zs=>bP (cl ρ n z) (n+1) zs
def agree (n:Nat) (ρ ag:Env):Prop:=∀i,i<n->ag i=ρ i
theorem agree.refl (n:Nat) (ρ:Env):agree n ρ ρ:=λ_ _=>rfl
theorem agree.trans {n n':Nat} {ρ ag lG:Env} (h:agree n ρ ag) (h':agree n' ag lG) (hn:n<=n'):agree n ρ lG:=
 λi hi=>(h' i (by omega)).trans (h i hi)
theorem agree.mono {n n':Nat} {ρ ag:Env} (h:agree n' ρ ag) (hn:n<=n'):agree n ρ ag:=λi hi=>h i (by omega)
theorem fu (ρ:Env) (n:Nat) (z:Int):cl ρ n z n=z:=by simp[cl]
theorem An (ρ:Env) {n i:Nat} (z:Int) (h:i≠n):cl ρ n z i=ρ i:=by
 unfold cl
 cases hb:Nat.beq i n with
 |false=>rfl
 |true=>exact absurd (Nat.eq_of_beq_eq_true hb) h
theorem agree.cl (n:Nat) (ρ:Env) (z:Int):agree n ρ (cl ρ n z):=λi hi=>An ρ z (by omega)
theorem agree.bP:∀(zs:List Int) (n:Nat) (ρ:Env),agree n ρ (bP ρ n zs)
 |[],n,ρ=>agree.refl n ρ
 |z::zs,n,ρ=>(agree.cl n ρ z).trans (agree.bP zs (n+1) _) (by omega)
structure J where
 c:Int
 ts:List (Int×Nat)
def eP (ρ:Env):List (Int×Nat)->Int
 |[]=>0
 |(k,i)::r=>k*ρ i+eP ρ r
def J.den (ρ:Env) (l:J):Int:=eP ρ l.ts+l.c
def eD (k:Int) (i:Nat):List (Int×Nat)->List (Int×Nat)
 |[]=>[(k,i)]
 |(aZ,j)::r=>cond (Nat.blt i j) ((k,i)::(aZ,j)::r) (cond (Nat.beq i j) (cond (k+aZ==0) r ((k+aZ,i)::r)) ((aZ,j)::eD k i r))
def sM:List (Int×Nat)->List (Int×Nat)->List (Int×Nat)
 |[],l=>l
 |(k,i)::r,l=>eD k i (sM r l)
def qk (m:Int):List (Int×Nat)->List (Int×Nat)
 |[]=>[]
 |(k,i)::r=>(m*k,i)::qk m r
theorem HA (ρ:Env) (k:Int) (i:Nat):∀l,eP ρ (eD k i l)=k*ρ i+eP ρ l
 |[]=>rfl
 |(aZ,j)::r=>by
  unfold eD
  cases h1:Nat.blt i j with
  |true=>rfl
  |false=>
   cases h2:Nat.beq i j with
   |true=>
    have e:i=j:=Nat.eq_of_beq_eq_true h2
    subst e
    cases h3:(k+aZ==0)with
    |true=>
     have h3:k+aZ=0:=by simpa using h3
     simp only[cond_true,cond_false,eP]
     rw[<-Int.add_assoc,<-Int.add_mul,h3];simp
    |false=>simp only[cond_true,cond_false,eP];rw[Int.add_mul];omega
   |false=>simp only[cond_false,eP,HA ρ k i r];omega
theorem Hy (ρ:Env):∀l bp,eP ρ (sM l bp)=eP ρ l+eP ρ bp
 |[],bp=>by simp[sM,eP]
 |(k,i)::r,bp=>by simp only[sM,HA,eP,Hy ρ r bp];omega
theorem HB (ρ:Env) (m:Int):∀l,eP ρ (qk m l)=m*eP ρ l
 |[]=>by simp[qk,eP]
 |(k,i)::r=>by simp only[qk,eP,HB ρ m r];rw[Int.mul_add,Int.mul_assoc]
def kQ (n:Nat) (l:List (Int×Nat)):Prop:=∀t∈l,t.2<n
theorem kQ.mono {n n':Nat} {l} (h:kQ n l) (hn:n<=n'):kQ n' l:=λt ht=>Nat.lt_of_lt_of_le (h t ht) hn
theorem LZ {n:Nat} {k:Int} {i:Nat} (hi:i<n):∀{l},kQ n l->kQ n (eD k i l)
 |[],_=>by intro t ht;simp[eD]at ht;subst ht;exact hi
 |(aZ,j)::r,h=>by
  have hr:kQ n r:=λt ht=>h t (List.mem_cons_of_mem _ ht)
  have hj:j<n:=h (aZ,j) (by simp)
  have ih:=LZ (k:=k) hi hr
  unfold eD
  intro t ht
  cases h1:Nat.blt i j<;>cases h2:Nat.beq i j<;>cases h3:(k+aZ==0)<;>simp only[h1,h2,h3,cond_true,cond_false,List.mem_cons]at ht<;>
   first
   |(rcases ht with rfl|ht<;>first|exact hi|exact hj|(exact hr t ht)|(exact ih t ht)|(rcases ht with rfl|ht<;>first|exact hj|exact hr t ht))
   |exact hr t ht
theorem LY {n:Nat}:∀{l bp},kQ n l->kQ n bp->kQ n (sM l bp)
 |[],_,_,h'=>h'
 |(k,i)::r,_,h,h'=>LZ (k:=k) (i:=i) (h (k,i) (by simp)) (LY (l:=r) (λt ht=>h t (List.mem_cons_of_mem _ ht)) h')
theorem L0 {n:Nat} {m:Int}:∀{l},kQ n l->kQ n (qk m l)
 |[],_=>λt ht=>by simp[qk]at ht
 |(k,i)::r,h=>by
  intro t ht
  simp only[qk,List.mem_cons]at ht
  rcases ht with rfl|ht
  ·exact h (k,i) (by simp)
  ·exact L0 (λt ht=>h t (List.mem_cons_of_mem _ ht)) t ht
theorem Hz {n:Nat} {ρ ag:Env} (h:agree n ρ ag):∀{l},kQ n l->eP ag l=eP ρ l
 |[],_=>rfl
 |(k,i)::r,hs=>by
  simp only[eP,h i (hs (k,i) (by simp)),Hz h (l:=r) (λt ht=>hs t (List.mem_cons_of_mem _ ht))]
namespace J
def const (c:Int):J:=⟨c,[]⟩
def var (n:Nat):J:=⟨0,[(1,n)]⟩
def add (a b:J):J:=⟨a.c+b.c,sM a.ts b.ts⟩
def smul (m:Int) (a:J):J:=cond (m==0) ⟨0,[]⟩ ⟨m*a.c,qk m a.ts⟩
def sub (a b:J):J:=a.add (b.smul (-1))
def cG (a:J):Option Int:=match a.ts with|[]=>some a.c|_=>none
def aX (n:Nat) (a:J):Prop:=kQ n a.ts
def sR:List (Int×Nat)->List (Int×Nat)->Bool
 |[],[]=>true
 |(k,i)::r,(aZ,rR)::fh=>k==aZ&&Nat.beq i rR&&sR r fh
 |_,_=>false
def beq (a b:J):Bool:=a.c==b.c&&sR a.ts b.ts
theorem GW:∀{a b},sR a b=true->a=b
 |[],[],_=>rfl
 |(k,i)::r,(aZ,rR)::fh,h=>by
  simp only[sR,Bool.and_eq_true,beq_iff_eq]at h
  obtain⟨⟨h1,h2⟩,h3⟩:=h
  rw[h1,Nat.eq_of_beq_eq_true h2,GW h3]
 |[],_::_,h=>by simp[sR]at h
 |_::_,[],h=>by simp[sR]at h
theorem beq_eq {a b:J} (h:beq a b=true):a=b:=by
 simp only[beq,Bool.and_eq_true,beq_iff_eq]at h
 cases a;cases b
 simp only at h
 rw[h.1,GW h.2]
theorem aS (ρ:Env) (c:Int):(const c).den ρ=c:=by simp[const,den,eP]
theorem bH (ρ:Env) (n:Nat):(var n).den ρ=ρ n:=by simp[var,den,eP]
theorem den_add (ρ:Env) (a b:J):(a.add b).den ρ=a.den ρ+b.den ρ:=by simp only[add,den,Hy];omega
theorem iX (ρ:Env) (m:Int) (a:J):(a.smul m).den ρ=m*a.den ρ:=by
 unfold smul
 cases h:(m==0)with
 |true=>have h:m=0:=by simpa using h
        subst h;simp[den,eP]
 |false=>simp only[cond_false,den,HB,Int.mul_add]
theorem iE (ρ:Env) (a b:J):(a.sub b).den ρ=a.den ρ-b.den ρ:=by simp only[sub,den_add,iX];omega
theorem fl {ρ:Env} {a:J} {c:Int} (h:a.cG=some c):a.den ρ=c:=by
 unfold cG at h
 cases ha:a.ts with
 |nil=>simp[ha]at h;simp[den,ha,eP,h]
 |cons x r=>simp[ha]at h
theorem bU (n:Nat) (c:Int):(const c).aX n:=λt ht=>by simp[const]at ht
theorem da {n i:Nat} (h:i<n):(var i).aX n:=λt ht=>by simp[var]at ht;subst ht;exact h
theorem oX {n:Nat} {a b:J} (ha:a.aX n) (hb:b.aX n):(a.add b).aX n:=LY ha hb
theorem qi {n:Nat} {m:Int} {a:J} (ha:a.aX n):(a.smul m).aX n:=by
 unfold smul
 cases(m==0)with
 |true=>exactλt ht=>by simp at ht
 |false=>exact L0 ha
theorem qj {n:Nat} {a b:J} (ha:a.aX n) (hb:b.aX n):(a.sub b).aX n:=oX ha (qi hb)
theorem aX.mono {n n':Nat} {a:J} (h:a.aX n) (hn:n<=n'):a.aX n':=kQ.mono h hn
theorem bj {n:Nat} {ρ ag:Env} (h:agree n ρ ag) {a:J} (ha:a.aX n):a.den ag=a.den ρ:=by simp only[den,Hz h ha]
end J
structure bh where
 l:J
 lo:Int
 hi:Int
def bh.ok (n:Nat) (ρ:Env) (x:bh):Prop:=x.l.aX n/\x.lo<=x.l.den ρ/\x.l.den ρ<=x.hi
theorem bh.ok.agree {n n':Nat} {ρ ag:Env} {x:bh} (h:x.ok n ρ) (ha:agree n ρ ag) (hn:n<=n'):x.ok n' ag:=
 ⟨h.1.mono hn,by rw[J.bj ha h.1];exact h.2.1,by rw[J.bj ha h.1];exact h.2.2⟩
def bh.const (c:Int):bh:=⟨.const c,c,c⟩
theorem bh.iW (n:Nat) (ρ:Env) (c:Int):(bh.const c).ok n ρ:=⟨J.bU n c,by simp[bh.const,J.aS],by simp[bh.const,J.aS]⟩
inductive aY where
 |lit (b:Bool)
 |eq (a b:J)
 |lt (a b:J)
 |le (a b:J)
 |not (a:aY)
 |and (a b:aY)
 |iff (a b:aY)
namespace aY
def den (ρ:Env):aY->Bool
 |lit b=>b
 |eq a b=>decide (a.den ρ=b.den ρ)
 |lt a b=>decide (a.den ρ<b.den ρ)
 |le a b=>decide (a.den ρ<=b.den ρ)
 |not a=> !a.den ρ
 |and a b=>a.den ρ&&b.den ρ
 |iff a b=>a.den ρ==b.den ρ
def aX (n:Nat):aY->Prop
 |lit _=>True
 |eq a b|lt a b|le a b=>a.aX n/\b.aX n
 |not a=>a.aX n
 |and a b=>a.aX n/\b.aX n
 |iff a b=>a.aX n/\b.aX n
theorem aX.mono {n n':Nat} (hn:n<=n'):∀{b:aY},b.aX n->b.aX n'
 |lit _,_=>trivial
 |eq _ _,h|lt _ _,h|le _ _,h=>⟨h.1.mono hn,h.2.mono hn⟩
 |not a,h=>aX.mono (b:=a) hn h
 |and a b,h=>⟨aX.mono (b:=a) hn h.1,aX.mono (b:=b) hn h.2⟩
 |iff a b,h=>⟨aX.mono (b:=a) hn h.1,aX.mono (b:=b) hn h.2⟩
theorem bj {n:Nat} {ρ ag:Env} (ha:agree n ρ ag):∀{b:aY},b.aX n->b.den ag=b.den ρ
 |lit _,_=>rfl
 |eq _ _,h|lt _ _,h|le _ _,h=>by simp only[den,J.bj ha h.1,J.bj ha h.2]
 |not a,h=>by simp only[den,bj (b:=a) ha h]
 |and a b,h=>by simp only[den,bj (b:=a) ha h.1,bj (b:=b) ha h.2]
 |iff a b,h=>by simp only[den,bj (b:=a) ha h.1,bj (b:=b) ha h.2]
def beq:aY->aY->Bool
 |lit a,lit b=>a==b
 |eq a b,eq c d|lt a b,lt c d|le a b,le c d=>J.beq a c&&J.beq b d
 |not a,not b=>beq a b
 |and a b,and c d|iff a b,iff c d=>beq a c&&beq b d
 |_,_=>false
theorem beq_eq:∀{a b:aY},beq a b=true->a=b
 |lit a,b,h=>by cases b<;>simp[beq]at h;rw[h]
 |eq a b,c,h=>by cases c<;>simp[beq]at h;rw[J.beq_eq h.1,J.beq_eq h.2]
 |lt a b,c,h=>by cases c<;>simp[beq]at h;rw[J.beq_eq h.1,J.beq_eq h.2]
 |le a b,c,h=>by cases c<;>simp[beq]at h;rw[J.beq_eq h.1,J.beq_eq h.2]
 |not a,c,h=>by cases c<;>simp[beq]at h;rw[beq_eq h]
 |and a b,c,h=>by cases c<;>simp[beq]at h;rw[beq_eq h.1,beq_eq h.2]
 |iff a b,c,h=>by cases c<;>simp[beq]at h;rw[beq_eq h.1,beq_eq h.2]
def mkNot:aY->aY
 |lit b=>lit (!b)
 |not a=>a
 |a=>not a
def mkAnd:aY->aY->aY
 |lit true,b=>b
 |lit false,_=>lit false
 |a,lit true=>a
 |a,lit false=>cond true (lit false) a
 |a,b=>and a b
def mkIff (a b:aY):aY:=
 match a with
 |lit true=>b
 |lit false=>mkNot b
 |_=>match b with
  |lit true=>a
  |lit false=>mkNot a
  |_=>cond (beq a b) (lit true) (iff a b)
theorem na (ρ:Env) (a:aY):(mkNot a).den ρ= !a.den ρ:=by cases a<;>simp[mkNot,den]
theorem nJ {n:Nat} {a:aY} (h:a.aX n):(mkNot a).aX n:=by cases a<;>exact h
theorem yq (ρ:Env) (a b:aY):(mkAnd a b).den ρ=(a.den ρ&&b.den ρ):=by
 unfold mkAnd;split<;>simp[den]
theorem Aa {n:Nat} {a b:aY} (ha:a.aX n) (hb:b.aX n):(mkAnd a b).aX n:=by
 unfold mkAnd;split<;>first|exact hb|exact ha|trivial|exact⟨ha,hb⟩
theorem BI (ρ:Env) (a b:aY):(mkIff a b).den ρ=(a.den ρ==b.den ρ):=by
 unfold mkIff
 split
 ·simp[den]
 ·rw[na];simp[den]
 ·split
  ·simp[den]
  ·rw[na];simp[den]
  ·cases h:beq a b with
   |true=>have:=beq_eq h;subst this;simp[den]
   |false=>rfl
theorem EP {n:Nat} {a b:aY} (ha:a.aX n) (hb:b.aX n):(mkIff a b).aX n:=by
 unfold mkIff
 split
 ·exact hb
 ·exact nJ hb
 ·split
  ·exact ha
  ·exact nJ ha
  ·cases beq a b with
   |true=>trivial
   |false=>exact⟨ha,hb⟩
def tg (d:J) (f:Int->Bool) (e:aY):aY:=match d.cG with|some c=>lit (f c)|none=>e
def mkLt (a b:bh):aY:=cond (decide (a.hi<b.lo)) (lit true) (cond (decide (b.hi<=a.lo)) (lit false) (tg (a.l.sub b.l) (λc=>decide (c<0)) (lt a.l b.l)))
def mkLe (a b:bh):aY:=cond (decide (a.hi<=b.lo)) (lit true) (cond (decide (b.hi<a.lo)) (lit false) (tg (a.l.sub b.l) (λc=>decide (c<=0)) (le a.l b.l)))
def mkEq (a b:bh):aY:=cond (decide (a.hi<b.lo)) (lit false) (cond (decide (b.hi<a.lo)) (lit false) (cond (a.lo==a.hi&&b.lo==b.hi&&a.lo==b.lo) (lit true) (cond (J.beq a.l b.l) (lit true) (tg (a.l.sub b.l) (λc=>decide (c=0)) (eq a.l b.l)))))
theorem BH {n:Nat} {ρ:Env} {d:J} {f:Int->Bool} {e:aY} (h:e.den ρ=f (d.den ρ)) (hs:e.aX n):(tg d f e).den ρ=e.den ρ/\(tg d f e).aX n:=by
 unfold tg
 split
 ·rename_i c hc
  exact⟨by rw[h,J.fl hc];rfl,trivial⟩
 ·exact⟨rfl,hs⟩
theorem yr {n:Nat} {ρ:Env} {a b:bh} (ha:a.ok n ρ) (hb:b.ok n ρ):(mkLt a b).den ρ=decide (a.l.den ρ<b.l.den ρ)/\(mkLt a b).aX n:=by
 have h1:=ha.2;have h2:=hb.2
 unfold mkLt
 by_cases c1:a.hi<b.lo
 ·simp only[decide_eq_true c1,cond_true,den,aX,and_true];symm;simp;omega
 ·by_cases aU:b.hi<=a.lo
  ·simp only[decide_eq_false c1,decide_eq_true aU,cond_true,cond_false,den,aX,and_true];symm;simp;omega
  ·simp only[decide_eq_false c1,decide_eq_false aU,cond_false]
   have:=BH (n:=n) (ρ:=ρ) (d:=a.l.sub b.l) (f:=λc=>decide (c<0)) (e:=lt a.l b.l) (by simp only[den,J.iE];congr 1;simp;omega) ⟨ha.1,hb.1⟩
   exact⟨this.1,this.2⟩
theorem HC {n:Nat} {ρ:Env} {a b:bh} (ha:a.ok n ρ) (hb:b.ok n ρ):(mkLe a b).den ρ=decide (a.l.den ρ<=b.l.den ρ)/\(mkLe a b).aX n:=by
 have h1:=ha.2;have h2:=hb.2
 unfold mkLe
 by_cases c1:a.hi<=b.lo
 ·simp only[decide_eq_true c1,cond_true,den,aX,and_true];symm;simp;omega
 ·by_cases aU:b.hi<a.lo
  ·simp only[decide_eq_false c1,decide_eq_true aU,cond_true,cond_false,den,aX,and_true];symm;simp;omega
  ·simp only[decide_eq_false c1,decide_eq_false aU,cond_false]
   have:=BH (n:=n) (ρ:=ρ) (d:=a.l.sub b.l) (f:=λc=>decide (c<=0)) (e:=le a.l b.l) (by simp only[den,J.iE];congr 1;simp;omega) ⟨ha.1,hb.1⟩
   exact⟨this.1,this.2⟩
theorem k9 {n:Nat} {ρ:Env} {a b:bh} (ha:a.ok n ρ) (hb:b.ok n ρ):(mkEq a b).den ρ=decide (a.l.den ρ=b.l.den ρ)/\(mkEq a b).aX n:=by
 have h1:=ha.2;have h2:=hb.2
 unfold mkEq
 by_cases c1:a.hi<b.lo
 ·simp only[decide_eq_true c1,cond_true,den,aX,and_true];symm;simp;omega
 ·by_cases aU:b.hi<a.lo
  ·simp only[decide_eq_false c1,decide_eq_true aU,cond_true,cond_false,den,aX,and_true];symm;simp;omega
  ·cases bL:(a.lo==a.hi&&b.lo==b.hi&&a.lo==b.lo)with
   |true=>
    simp only[Bool.and_eq_true,beq_iff_eq]at bL
    simp only[decide_eq_false c1,decide_eq_false aU,cond_false,cond_true,den,aX,and_true];symm;simp;omega
   |false=>
    cases b9:J.beq a.l b.l with
    |true=>simp only[decide_eq_false c1,decide_eq_false aU,cond_false,cond_true,den,aX,and_true,J.beq_eq b9];simp
    |false=>
     simp only[decide_eq_false c1,decide_eq_false aU,cond_false]
     have:=BH (n:=n) (ρ:=ρ) (d:=a.l.sub b.l) (f:=λc=>decide (c=0)) (e:=eq a.l b.l) (by simp only[den,J.iE];congr 1;simp;omega) ⟨ha.1,hb.1⟩
     exact⟨this.1,this.2⟩
end aY
end Go.bo
namespace Go.bo
inductive A where
 |int (k:IntKind) (x:bh)
 |bool (b:aY)
 |ptr (b off:Nat)
 |iQ (b off:Nat) (aR:bh)
 |gptr (g off:Nat)
 |tk (g off:Nat) (aR:bh)
 |slc (b off len cap:Nat)
 |con (v:Value)
 |str (l:J)
 |rows (sh:List az) (off code cap:J) (kind:Nat)
 |sl (b aV:Nat) (o ro len cap:J)
 |ep (b aV:Nat) (o i:J) (j:Nat)
inductive W where
 |one (a:A)
 |agg (l:List A)
inductive V where
 |w (x:W)
 |eb (l:List W)
 |any
 |jE (b len lo:Nat)
 |j8 (f:Nat) (fc:List A)
def fN (op:BinOp) (k:IntKind) (x y:Int):Int:=
 match op with
 | .and=>k.wrap (BitVec.ofInt k.bits x&&&BitVec.ofInt k.bits y).toNat
 | .or=>k.wrap (BitVec.ofInt k.bits x|||BitVec.ofInt k.bits y).toNat
 | .xor=>k.wrap (BitVec.ofInt k.bits x^^^BitVec.ofInt k.bits y).toNat
 | .andNot=>k.wrap (BitVec.ofInt k.bits x&&&~~~(BitVec.ofInt k.bits y)).toNat
 |_=>0
inductive T where
 |stuck
 |leaf (v:V)
 |div (n:Nat) (x:J) (d lo hi:Int) (r:T)
 |mul (n:Nat) (x y:J) (lo hi:Int) (r:T)
 |bit (n:Nat) (op:BinOp) (k:IntKind) (x y:J) (r:T)
 |shr (n:Nat) (x y:J) (lo hi:Int) (r:T)
 |sel (n:Nat) (cs:List J) (aR:J) (lo hi:Int) (r:T)
 |pg (b:aY) (t e:T)
 |call (id:Nat) (args:List J) (n:Nat) (bds:List (Int×Int)) (r:T)
 |loop (fI:Nat) (init:List J) (n:Nat) (bds:List (Int×Int)) (r:T)
 |again (fI:Nat) (vals:List J)
 |both (a b:T)
 |fn (n:Nat) (op:Nat) (args:List J) (lo hi:Int) (r:T)
 |m9 (op:Nat) (args:List J) (r:T)
 |mZ (n:Nat) (lo hi:Int) (r:T)
 |nat (n:Nat) (r:T)
 |qJ (op:Nat) (args:List J) (r:T)
 |ind (n:Nat) (b:aY) (r:T)
def m7:List (Int×Int)->(List Int->Prop)->Prop
 |[],P=>P []
 |(l,h)::b,P=>∀r:Int,l<=r->r<=h->m7 b (λrs=>P (r::rs))
def bI:List (Int×Int)->List Int->Prop
 |[],[]=>True
 |(l,h)::b,r::rs=>l<=r/\r<=h/\bI b rs
 |_,_=>False
theorem nY:∀{b:List (Int×Int)} {P:List Int->Prop} {rs:List Int},m7 b P->bI b rs->P rs
 |[],_,[],h,_=>h
 |(l,u)::b,P,r::rs,h,hi=>nY (b:=b) (P:=λrs=>P (r::rs)) (h r hi.1 hi.2.1) hi.2.2
 |[],_,_::_,_,hi=>hi.elim
 |(_,_)::_,_,[],_,hi=>hi.elim
abbrev cP:=Nat->List Int->Prop
def cP.set (A:cP) (fI:Nat) (p:List Int->Prop):cP:=λi=>cond (Nat.beq i fI) p (A i)
def T.holds (S:Nat->List Int->List Int->Prop) (L:V->Env->Prop):T->cP->Env->Prop
 |stuck,_,_=>False
 |leaf v,_,ρ=>L v ρ
 |div n x d lo hi r,A,ρ=>∀q:Int,lo<=q->q<=hi->0<=x.den ρ-d*q->x.den ρ-d*q<d->r.holds S L A (cl ρ n q)
 |mul n x y lo hi r,A,ρ=>∀p:Int,lo<=p->p<=hi->p=x.den ρ*y.den ρ->r.holds S L A (cl ρ n p)
 |bit n op k x y r,A,ρ=>∀z:Int,0<=z->z<=k.max->z=fN op k (x.den ρ) (y.den ρ)->r.holds S L A (cl ρ n z)
 |shr n x y lo hi r,A,ρ=>∀z:Int,lo<=z->z<=hi->z=x.den ρ/2^(y.den ρ).toNat->r.holds S L A (cl ρ n z)
 |sel n cs aR lo hi r,A,ρ=>∀z:Int,lo<=z->z<=hi->z=(cs.map (·.den ρ)).getD (aR.den ρ).toNat 0->r.holds S L A (cl ρ n z)
 |pg b t e,A,ρ=>(b.den ρ=true->t.holds S L A ρ)/\(b.den ρ=false->e.holds S L A ρ)
 |call id args n bds r,A,ρ=>m7 bds λrs=>S id (args.map (·.den ρ)) rs->r.holds S L A (bP ρ n rs)
 |loop fI init n bds r,A,ρ=>∃(I:List Int->Prop) (kV:List Int->Nat),I (init.map (·.den ρ))/\
  m7 bds λzs=>I zs->r.holds S L (A.set fI λvs=>I vs/\kV vs<kV zs) (bP ρ n zs)
 |again fI vals,A,ρ=>A fI (vals.map (·.den ρ))
 |both a b,A,ρ=>a.holds S L A ρ/\b.holds S L A ρ
 |fn n op args lo hi r,A,ρ=>∀z:Int,lo<=z->z<=hi->z=aa op (args.map (·.den ρ))->r.holds S L A (cl ρ n z)
 |m9 op args r,A,ρ=>ad op (args.map (·.den ρ))/\r.holds S L A ρ
 |mZ n lo hi r,A,ρ=>∀z:Int,lo<=z->z<=hi->r.holds S L A (cl ρ n z)
 |nat n r,A,ρ=>∀z:Int,0<=z->r.holds S L A (cl ρ n z)
 |qJ op args r,A,ρ=>ad op (args.map (·.den ρ))->r.holds S L A ρ
 |ind n b r,A,ρ=>∀z:Int,0<=z->z<=1->b.den ρ=decide (z=1)->r.holds S L A (cl ρ n z)
abbrev M (α:Type):=Nat->(α->Nat->T)->T
namespace M
variable {α β:Type}
def pure (a:α):M α:=λn k=>k a n
def bind (x:M α) (f:α->M β):M β:=λn k=>x n λa n'=>f a n' k
def fail:M α:=λ_ _=> .stuck
def ar (S:Nat->List Int->List Int->Prop) (L:V->Env->Prop) (x:M α) (n:Nat) (ρ:Env) (R:Env->Nat->α->Prop):Prop:=
 ∀A k,(x n k).holds S L A ρ->∃ag n' a,n<=n'/\agree n ρ ag/\R ag n' a/\(k a n').holds S L A ag
variable {S:Nat->List Int->List Int->Prop} {L:V->Env->Prop} {n:Nat} {ρ:Env}
theorem ar.pure {a:α} {R:Env->Nat->α->Prop} (h:R ρ n a):ar S L (M.pure a) n ρ R:=
 λ_ _ hk=>⟨ρ,n,a,Nat.le_refl _,agree.refl _ _,h,hk⟩
theorem ar.fail {R:Env->Nat->α->Prop}:ar S L (M.fail:M α) n ρ R:=λ_ _ hk=>hk.elim
theorem ar.bind {x:M α} {f:α->M β} {R:Env->Nat->α->Prop} {dR:Env->Nat->β->Prop} (hx:ar S L x n ρ R)
 (hf:∀ag n' a,n<=n'->agree n ρ ag->R ag n' a->ar S L (f a) n' ag dR):ar S L (M.bind x f) n ρ dR:=by
 intro A k hk
 obtain⟨ag,n',a,hn,ha,hR,fF⟩:=hx A _ hk
 obtain⟨lG,uv,b,mF,gJ,lk,Q8⟩:=hf ag n' a hn ha hR A k fF
 exact⟨lG,uv,b,Nat.le_trans hn mF,ha.trans gJ hn,lk,Q8⟩
theorem ar.mono {x:M α} {R dR:Env->Nat->α->Prop} (hx:ar S L x n ρ R) (h:∀ag n' a,n<=n'->agree n ρ ag->R ag n' a->dR ag n' a):ar S L x n ρ dR:=by
 intro A k hk
 obtain⟨ag,n',a,hn,ha,hR,fF⟩:=hx A k hk
 exact⟨ag,n',a,hn,ha,h _ _ _ hn ha hR,fF⟩
end M
open M
section
variable {S:Nat->List Int->List Int->Prop} {L:V->Env->Prop} {n:Nat} {ρ:Env}
def qI:List J->Option (List Int)
 |[]=>some []
 |l::r=>match l.cG,qI r with|some c,some s=>some (c::s)|_,_=>none
theorem xV {ρ:Env}:∀{l:List J} {cs:List Int},qI l=some cs->l.map (·.den ρ)=cs
 |[],cs,h=>by simp[qI]at h;subst h;rfl
 |l::r,cs,h=>by
  simp only[qI]at h
  cases h1:l.cG with
  |none=>simp[h1]at h
  |some c=>
   cases h2:qI r with
   |none=>simp[h1,h2]at h
   |some s=>
    simp only[h1,h2,Option.some.injEq]at h
    subst h
    simp only[List.map_cons,J.fl h1,xV h2]
def cT (op:Nat) (args:List J) (lo hi:Int):M J:=λn k=>match Nat.ble op 5,qI args with
 |true,some cs=>k (.const (aa op cs)) n
 |_,_=> .fn n op args lo hi (k (.var n) (n+1))
def vo:Nat->List Int->Bool
 |1,[s,i]=>decide (0<=i)&&decide (i<(ab s).length)
 |2,[s,a,b]=>decide (0<=a)&&decide (a<=b)&&decide (b<=(ab s).length)
 |3,[s,t]=>Nat.ble ((ab s).length+(ab t).length) 1000000
 |30,[i,n]=>decide (0<=i)&&decide (i<n)
 |32,[a,b,n]=>decide (0<=a)&&decide (a<=b)&&decide (b<=n)
 |39,[x,l,h]=>decide (l<=x)&&decide (x<=h)
 |_,_=>false
theorem Hj {op:Nat} {cs:List Int} (h:vo op cs=true):ad op cs:=by
 unfold vo at h
 split at h
 ·simp only[Bool.and_eq_true,decide_eq_true_eq]at h;exact h
 ·simp only[Bool.and_eq_true,decide_eq_true_eq]at h;exact⟨h.1.1,h.1.2,h.2⟩
 ·have h:=Nat.le_of_ble_eq_true h
  show _<=fs
  unfold fs;omega
 ·simp only[Bool.and_eq_true,decide_eq_true_eq]at h;exact h
 ·simp only[Bool.and_eq_true,decide_eq_true_eq]at h;exact⟨h.1.1,h.1.2,h.2⟩
 ·simp only[Bool.and_eq_true,decide_eq_true_eq]at h;exact h
 ·cases h
def dh (op:Nat) (args:List J):M Unit:=λn k=>match qI args with
 |some cs=>cond (vo op cs) (k () n) (.m9 op args (k () n))
 |none=> .m9 op args (k () n)
theorem dE {op:Nat} {args:List J} {lo hi:Int} (h1:lo<=aa op (args.map (·.den ρ))) (h2:aa op (args.map (·.den ρ))<=hi):
 ar S L (cT op args lo hi) n ρ λag n' l=>l.aX n'/\l.den ag=aa op (args.map (·.den ρ)):=by
 intro A k hk
 unfold cT at hk
 split at hk
 ·rename_i cs _ hcs
  exact⟨_,n,_,Nat.le_refl _,agree.refl _ _,⟨J.bU _ _,by rw[J.aS,xV hcs]⟩,hk⟩
 ·exact⟨_,n+1,_,Nat.le_succ _,agree.cl _ _ _,⟨J.da (Nat.lt_succ_self n),by simp[J.bH,fu]⟩,hk _ h1 h2 rfl⟩
theorem eh {op:Nat} {args:List J} {α:Type} {x:M α} {R:Env->Nat->α->Prop} (h:ad op (args.map (·.den ρ))->ar S L x n ρ R):ar S L (bind (dh op args) λ_=>x) n ρ R:=by
 intro A k hk
 unfold M.bind dh at hk
 split at hk
 ·rename_i cs hcs
  cases hb:vo op cs with
  |true=>
   rw[hb]at hk
   exact h (by rw[xV hcs];exact Hj hb) A k hk
  |false=>
   rw[hb]at hk
   exact h hk.1 A k hk.2
 ·exact h hk.1 A k hk.2
def nd (x:bh) (d:Int):M bh:=λn k=>
 cond (d==1) (k x n) <| cond (x.lo/d==x.hi/d) (k (.const (x.lo/d)) n) (.div n x.l d (x.lo/d) (x.hi/d) (k ⟨.var n,x.lo/d,x.hi/d⟩ (n+1)))
theorem vq {x:bh} {d:Int} (hd:0<d) (hx:x.ok n ρ):ar S L (nd x d) n ρ λag n' q=>q.ok n' ag/\q.l.den ag=x.l.den ρ/d/\(q.lo=x.lo/d/\q.hi=x.hi/d):=by
 intro A k hk
 have h1:=Int.ediv_le_ediv hd hx.2.1
 have h2:=Int.ediv_le_ediv hd hx.2.2
 unfold nd at hk
 cases B3:(d==1)with
 |true=>
  have e:d=1:=by simpa using B3
  subst e
  simp only[B3,cond_true]at hk
  exact⟨ρ,n,x,Nat.le_refl _,agree.refl _ _,⟨hx,by simp,by simp,by simp⟩,hk⟩
 |false=>
 simp only[B3,cond_false]at hk
 cases hc:(x.lo/d==x.hi/d)with
 |true=>
  simp only[hc,cond_true]at hk
  have hc:x.lo/d=x.hi/d:=by simpa using hc
  exact⟨ρ,n,_,Nat.le_refl _,agree.refl _ _,⟨bh.iW _ _ _,by simp only[bh.const,J.aS];omega,rfl,hc⟩,hk⟩
 |false=>
  simp only[hc,cond_false,T.holds]at hk
  have hm:=Int.emod_nonneg (x.l.den ρ) (show d≠0 by omega)
  have ox:=Int.emod_lt_of_pos (x.l.den ρ) hd
  have he:=Int.mul_ediv_add_emod (x.l.den ρ) d
  refine⟨_,n+1,_,Nat.le_succ _,agree.cl _ _ _,⟨⟨J.da (Nat.lt_succ_self n),?_,?_⟩,?_,rfl,rfl⟩,hk (x.l.den ρ/d) h1 h2 (by omega) (by omega)⟩<;>
   simp only[J.bH,fu]<;>omega
def D5 (x:bh) (d:Int):M bh:=
 bind (nd x d) λq=>pure ⟨x.l.sub (q.l.smul d),cond (q.lo==q.hi) (x.lo-d*q.lo) 0,cond (q.lo==q.hi) (x.hi-d*q.lo) (d-1)⟩
theorem KK {x:bh} {d:Int} (hd:0<d) (hx:x.ok n ρ):ar S L (D5 x d) n ρ λag n' q=>q.ok n' ag/\q.l.den ag=x.l.den ρ% d:=by
 refine(vq hd hx).bind λag n' q hn ha ⟨hq,he,jx,aad⟩=>ar.pure ?_
 have fr:=hx.agree ha hn
 have hm:=Int.emod_nonneg (x.l.den ρ) (show d≠0 by omega)
 have ox:=Int.emod_lt_of_pos (x.l.den ρ) hd
 have aac:=Int.mul_ediv_add_emod (x.l.den ρ) d
 have Cz:(x.l.sub (q.l.smul d)).den ag=x.l.den ρ% d:=by
  rw[J.iE,J.iX,J.bj ha hx.1,he];omega
 refine⟨⟨J.qj fr.1 (J.qi hq.1),?_,?_⟩,Cz⟩
 ·cases hc:(q.lo==q.hi)with
  |true=>
   have hc:q.lo=q.hi:=by simpa using hc
   have:q.l.den ag=q.lo:=by have:=hq.2;omega
   simp only[cond_true,J.iE,J.iX,this];have:=fr.2.1;omega
  |false=>simp only[cond_false,Cz];omega
 ·cases hc:(q.lo==q.hi)with
  |true=>
   have hc:q.lo=q.hi:=by simpa using hc
   have:q.l.den ag=q.lo:=by have:=hq.2;omega
   simp only[cond_true,J.iE,J.iX,this];have:=fr.2.2;omega
  |false=>simp only[cond_false,Cz];omega
def two (k:IntKind):Int:=match k with| .i8| .u8=>256| .i16| .u16=>65536| .i32| .u32=>4294967296| .i64| .u64=>18446744073709551616
theorem nP (k:IntKind):two k=(2:Int)^k.bits:=by cases k<;>rfl
def half (k:IntKind):Int:=cond k.signed (two k/2) 0
theorem Av (k:IntKind) (x:Int):k.wrap x=(x+half k)% two k-half k:=by
 cases k<;>simp only[IntKind.wrap,IntKind.signed,IntKind.bits,half,two,cond_true,cond_false,Bool.true_and,Bool.false_and]<;>
  simp<;>(try split)<;>omega
def nQ (k:IntKind) (x:bh):M bh:=
 cond (decide (-half k<=x.lo)&&decide (x.hi<two k-half k)) (pure x)
  (bind (D5 ⟨x.l.add (.const (half k)),x.lo+half k,x.hi+half k⟩ (two k)) λr=>pure ⟨r.l.add (.const (-half k)),r.lo-half k,r.hi-half k⟩)
theorem qq {k:IntKind} {x:bh} (hx:x.ok n ρ):ar S L (nQ k x) n ρ λag n' q=>q.ok n' ag/\q.l.den ag=k.wrap (x.l.den ρ):=by
 have ht:0<two k:=by cases k<;>decide
 unfold nQ
 cases hc:(decide (-half k<=x.lo)&&decide (x.hi<two k-half k))with
 |true=>
  simp only[Bool.and_eq_true,decide_eq_true_eq]at hc
  refine ar.pure ⟨hx,?_⟩
  have h1:=hx.2
  rw[Av,Int.emod_eq_of_lt (by omega) (by omega)];omega
 |false=>
  refine(KK (x:=⟨x.l.add (.const (half k)),x.lo+half k,x.hi+half k⟩) ht ⟨J.oX hx.1 (J.bU _ _),?_,?_⟩).bind λag n' r hn ha ⟨hr,he⟩=>ar.pure ?_
  ·rw[J.den_add,J.aS];have:=hx.2.1;simp only;omega
  ·rw[J.den_add,J.aS];have:=hx.2.2;simp only;omega
  ·have e:(r.l.add (.const (-half k))).den ag=k.wrap (x.l.den ρ):=by
    rw[J.den_add,J.aS,he,J.den_add,J.aS,Av];omega
   refine⟨⟨J.oX hr.1 (J.bU _ _),?_,?_⟩,e⟩<;>simp only[J.den_add,J.aS]<;>have:=hr.2<;>omega
def mulM (x y:bh):M bh:=λn k=>
 match x.l.cG,y.l.cG with
 |some c,_=>cond (decide (0<=c)) (k ⟨y.l.smul c,c*y.lo,c*y.hi⟩ n) .stuck
 |none,some c=>cond (decide (0<=c)) (k ⟨x.l.smul c,c*x.lo,c*x.hi⟩ n) .stuck
 |none,none=>cond (decide (0<=x.lo)&&decide (0<=y.lo)) (.mul n x.l y.l (x.lo*y.lo) (x.hi*y.hi) (k ⟨.var n,x.lo*y.lo,x.hi*y.hi⟩ (n+1))) .stuck
theorem KL {x y:bh} (hx:x.ok n ρ) (hy:y.ok n ρ):ar S L (mulM x y) n ρ λag n' q=>q.ok n' ag/\q.l.den ag=x.l.den ρ*y.l.den ρ:=by
 intro A k hk
 unfold mulM at hk
 cases h1:x.l.cG with
 |some c=>
  simp only[h1]at hk
  by_cases hc:0<=c
  ·simp only[decide_eq_true hc,cond_true]at hk
   refine⟨ρ,n,_,Nat.le_refl _,agree.refl _ _,⟨⟨J.qi hy.1,?_,?_⟩,?_⟩,hk⟩
   ·simp only[J.iX];exact Int.mul_le_mul_of_nonneg_left hy.2.1 hc
   ·simp only[J.iX];exact Int.mul_le_mul_of_nonneg_left hy.2.2 hc
   ·simp only[J.iX,J.fl h1]
  ·simp only[decide_eq_false hc,cond_false,T.holds]at hk
 |none=>
  cases h2:y.l.cG with
  |some c=>
   simp only[h1,h2]at hk
   by_cases hc:0<=c
   ·simp only[decide_eq_true hc,cond_true]at hk
    refine⟨ρ,n,_,Nat.le_refl _,agree.refl _ _,⟨⟨J.qi hx.1,?_,?_⟩,?_⟩,hk⟩
    ·simp only[J.iX];exact Int.mul_le_mul_of_nonneg_left hx.2.1 hc
    ·simp only[J.iX];exact Int.mul_le_mul_of_nonneg_left hx.2.2 hc
    ·simp only[J.iX,J.fl h2];exact Int.mul_comm _ _
   ·simp only[decide_eq_false hc,cond_false,T.holds]at hk
  |none=>
   simp only[h1,h2]at hk
   cases hc:(decide (0<=x.lo)&&decide (0<=y.lo))with
   |false=>simp only[hc,cond_false,T.holds]at hk
   |true=>
    simp only[hc,cond_true,T.holds]at hk
    simp only[Bool.and_eq_true,decide_eq_true_eq]at hc
    have a1:x.lo*y.lo<=x.l.den ρ*y.l.den ρ:=Int.mul_le_mul hx.2.1 hy.2.1 hc.2 (by have:=hx.2.1;omega)
    have a2:x.l.den ρ*y.l.den ρ<=x.hi*y.hi:=Int.mul_le_mul hx.2.2 hy.2.2 (by have:=hy.2.1;omega) (by have:=hx.2;omega)
    refine⟨_,n+1,_,Nat.le_succ _,agree.cl _ _ _,⟨⟨J.da (Nat.lt_succ_self n),?_,?_⟩,?_⟩,hk _ a1 a2 rfl⟩<;>simp only[J.bH,fu]<;>assumption
def sT (op:BinOp) (k:IntKind) (x y:bh):M bh:=λn c=>
 cond k.signed .stuck (.bit n op k x.l y.l (c ⟨.var n,0,k.max⟩ (n+1)))
theorem Zt {k:IntKind} (hk:k.signed=false) (x:Int):0<=k.wrap x/\k.wrap x<=k.max:=by
 cases k<;>simp[IntKind.signed]at hk<;>simp[IntKind.wrap,IntKind.signed,IntKind.bits,IntKind.max]<;>omega
theorem N2 {k:IntKind} (hk:k.signed=false) (op:BinOp) (x y:Int):0<=fN op k x y/\fN op k x y<=k.max:=by
 unfold fN
 split
 iterate 4 exact Zt hk _
 cases k<;>simp[IntKind.signed]at hk<;>simp[IntKind.max,IntKind.signed,IntKind.bits]
theorem x6 {op:BinOp} {k:IntKind} {x y:bh}:ar S L (sT op k x y) n ρ λag n' q=>q.ok n' ag/\q.l.den ag=fN op k (x.l.den ρ) (y.l.den ρ):=by
 intro A c hk
 unfold sT at hk
 cases hs:k.signed with
 |true=>simp only[hs,cond_true,T.holds]at hk
 |false=>
  simp only[hs,cond_false,T.holds]at hk
  have hb:=N2 hs op (x.l.den ρ) (y.l.den ρ)
  refine⟨_,n+1,_,Nat.le_succ _,agree.cl _ _ _,⟨⟨J.da (Nat.lt_succ_self n),?_,?_⟩,?_⟩,hk _ hb.1 hb.2 rfl⟩<;>simp only[J.bH,fu]<;>first|exact hb.1|exact hb.2
def zu (c:Int):Option (Int×Int):=
 match c with
 | .ofNat 0=>none
 | .ofNat c=>
  let b:=2^(Nat.log2 c+1)
  let a:=b-c
  cond (Nat.beq (2^Nat.log2 a) a) (some (a,b)) none
 |_=>none
theorem bv_and {w:Nat} (x y:Int):((BitVec.ofInt w x&&&BitVec.ofInt w y).toNat:Int)=(((x% 2^w).toNat&&&(y% 2^w).toNat:Nat):Int):=by
 rw[BitVec.toNat_and,BitVec.toNat_ofInt,BitVec.toNat_ofInt]
 congr
theorem N7 {w:Nat} (x y:Int):((BitVec.ofInt w x|||BitVec.ofInt w y).toNat:Int)=(((x% 2^w).toNat|||(y% 2^w).toNat:Nat):Int):=by
 rw[BitVec.toNat_or,BitVec.toNat_ofInt,BitVec.toNat_ofInt]
 congr
theorem NR (x a b:Nat) (Z5:a<=b):x&&&(2^b-2^a)=2^a*(x/2^a)-2^b*(x/2^b):=by
 have e1:2^b-2^a=2^a*(2^(b-a)-1):=by
  rw[Nat.mul_sub,<-Nat.pow_add,Nat.mul_one];congr 2;omega
 have e2:x&&&(2^b-2^a)=2^a*(x/2^a% 2^(b-a)):=by
  rw[e1]
  apply Nat.eq_of_testBit_eq
  intro i
  rw[Nat.testBit_and,Nat.mul_comm (2^a) (2^(b-a)-1),Nat.mul_comm (2^a),Nat.testBit_mul_two_pow,Nat.testBit_mul_two_pow,Nat.testBit_two_pow_sub_one,Nat.testBit_mod_two_pow,Nat.testBit_div_two_pow]
  by_cases h:a<=i
  ·simp only[h,decide_true,Bool.true_and]
   rw[show i-a+a=i by omega,Bool.and_comm]
  ·simp[h]
 rw[e2]
 have e3:x/2^b=x/2^a/2^(b-a):=by
  rw[Nat.div_div_eq_div_mul,<-Nat.pow_add];congr 2;omega
 have eo:2^b=2^a*2^(b-a):=by rw[<-Nat.pow_add];congr 1;omega
 have mu:=Nat.div_add_mod (x/2^a) (2^(b-a))
 rw[e3,eo,Nat.mul_assoc,<-Nat.mul_sub]
 congr 1
 omega
theorem Ui {c a b:Int} (h:zu c=some (a,b)):∃i j:Nat,i<=j/\a=2^i/\b=2^j/\c=b-a/\0<a/\0<b:=by
 unfold zu at h
 split at h
 ·cases h
 ·rename_i c hc
  have hc0:c≠0:=λe=>hc (by rw[e])
  cases hb:Nat.beq (2^Nat.log2 (2^(Nat.log2 c+1)-c)) (2^(Nat.log2 c+1)-c)with
  |false=>simp[hb]at h
  |true=>
   simp only[hb,cond_true,Option.some.injEq,Prod.mk.injEq]at h
   obtain⟨rfl,rfl⟩:=h
   have e:=Nat.eq_of_beq_eq_true hb
   have hlt:c<2^(Nat.log2 c+1):=Nat.lt_log2_self
   have hp:0<2^Nat.log2 (2^(Nat.log2 c+1)-c):=Nat.two_pow_pos _
   refine⟨Nat.log2 (2^(Nat.log2 c+1)-c),Nat.log2 c+1,?_,?_,?_,?_,?_,?_⟩
   ·rcases Nat.lt_or_ge (Nat.log2 c+1) (Nat.log2 (2^(Nat.log2 c+1)-c))with al|al
    ·have:=Nat.pow_lt_pow_right (a:=2) (by omega) al
     omega
    ·exact al
   ·rw[<-e];simp
   ·simp
   ·have:((2^(Nat.log2 c+1)-c:Nat):Int)=((2^(Nat.log2 c+1):Nat):Int)-(c:Int):=by omega
    simp only[Int.ofNat_eq_natCast]
    omega
   ·omega
   ·have:0<2^(Nat.log2 c+1):=Nat.two_pow_pos _
    omega
 ·cases h
def andM (x:bh) (a b:Int):M bh:=
 bind (nd x a) λp=>bind (nd x b) λq=>
  pure ⟨(p.l.smul a).sub (q.l.smul b),cond (q.lo==q.hi) (a*p.lo-b*q.lo) 0,cond (q.lo==q.hi) (a*p.hi-b*q.lo) (b-a)⟩
theorem NQ {x:bh} {i j:Nat} (je:i<=j) (hx:x.ok n ρ) (h0:0<=x.lo):ar S L (andM x (2^i) (2^j)) n ρ λag n' q=>q.ok n' ag/\q.l.den ag=((x.l.den ρ).toNat&&&(2^j-2^i):Nat):=by
 have hi:(0:Int)<2^i:=by have:=Nat.two_pow_pos i;exact_mod_cast this
 have hj:(0:Int)<2^j:=by have:=Nat.two_pow_pos j;exact_mod_cast this
 refine(vq hi hx).bind λaH n1 p c7 cm ⟨hp,ep,_,_⟩=>?_
 refine(vq hj (hx.agree cm c7)).bind λba db q cQ cA ⟨hq,eq,_,_⟩=>ar.pure ?_
 rw[J.bj cm hx.1]at eq
 have pN:=hp.agree cA cQ
 have O1:p.l.den ba=x.l.den ρ/2^i:=by rw[J.bj cA hp.1,ep]
 obtain⟨X,bt⟩:=Int.eq_ofNat_of_zero_le (show 0<=x.l.den ρ by have:=hx.2.1;omega)
 have e:((p.l.smul (2^i)).sub (q.l.smul (2^j))).den ba=((x.l.den ρ).toNat&&&(2^j-2^i):Nat):=by
  rw[J.iE,J.iX,J.iX,O1,eq,bt,Int.toNat_natCast,NR X i j je]
  have h1:2^j*(X/2^j)<=2^i*(X/2^i):=by
   have e3:X/2^j=X/2^i/2^(j-i):=by rw[Nat.div_div_eq_div_mul,<-Nat.pow_add];congr 2;omega
   have eo:2^j=2^i*2^(j-i):=by rw[<-Nat.pow_add];congr 1;omega
   rw[e3]
   conv=>lhs;rw[eo,Nat.mul_assoc]
   exact Nat.mul_le_mul_left _ (Nat.mul_div_le _ _)
  rw[Int.ofNat_sub h1]
  simp
 refine⟨⟨J.qj (J.qi pN.1) (J.qi hq.1),?_,?_⟩,e⟩
 ·cases hc:(q.lo==q.hi)with
  |true=>
   have hc:q.lo=q.hi:=by simpa using hc
   have h1:q.l.den ba=q.lo:=by have:=hq.2;omega
   simp only[cond_true,J.iE,J.iX,h1]
   have:=Int.mul_le_mul_of_nonneg_left pN.2.1 (Int.le_of_lt hi);omega
  |false=>simp only[cond_false,e];omega
 ·cases hc:(q.lo==q.hi)with
  |true=>
   have hc:q.lo=q.hi:=by simpa using hc
   have h1:q.l.den ba=q.lo:=by have:=hq.2;omega
   simp only[cond_true,J.iE,J.iX,h1]
   have:=Int.mul_le_mul_of_nonneg_left pN.2.2 (Int.le_of_lt hi);omega
  |false=>
   simp only[cond_false,e]
   have h2:(x.l.den ρ).toNat&&&(2^j-2^i)<=2^j-2^i:=Nat.and_le_right
   have h3:2^i<=2^j:=Nat.pow_le_pow_right (by omega) je
   have h4:((2^j-2^i:Nat):Int)=2^j-2^i:=by rw[Int.ofNat_sub h3];simp
   omega
end
end Go.bo
namespace Go.bo
open M
def jJ (c:Int) (g:Nat):Option Addr:=
 if c=-1 then none else match ae (g:Int)with
  |[[b,o,s]]=>some ⟨b.toNat,o.toNat,if s<0 then none else some s.toNat⟩
  |_=>some ⟨0,0,none⟩
theorem MN (c:Int) (g:Nat):(jJ c g).isNone=decide (c=-1):=by
 unfold jJ
 split
 ·rename_i h;simp[h]
 ·rename_i h
  split<;>simp[h]
theorem AA (p:Option Addr):∃c g,(-2<=c/\c<0)/\jJ c g=p:=by
 cases p with
 |none=>exact⟨-1,0,by decide,rfl⟩
 |some a=>
  obtain⟨b,o,s⟩:=a
  have key:∀z:Int,∃c g,(-2<=c/\c<0)/\jJ c g=some ⟨b,o,if z<0 then none else some z.toNat⟩:=λz=>by
   have h:=dk [[(b:Int),(o:Int),z]]
   refine⟨-2,(rc [[(b:Int),(o:Int),z]]).toNat,by decide,?_⟩
   unfold jJ
   rw[if_neg (by decide),Int.toNat_of_nonneg h,dP]
   simp
  cases s with
  |none=>exact key (-1)
  |some k=>have:=key k;rwa [if_neg (by omega),Int.toNat_natCast]at this
def A.den (ρ:Env) (m:Nat->Nat):A->Value
 | .int k x=> .int k (x.l.den ρ)
 | .bool b=> .bool (b.den ρ)
 | .ptr b off=> .pointer (some ⟨m b,off,none⟩)
 | .iQ b off aR=> .pointer (some ⟨m b,off+(aR.l.den ρ).toNat,none⟩)
 | .gptr g off=> .pointer (some ⟨g,off,none⟩)
 | .tk g off aR=> .pointer (some ⟨g,off+(aR.l.den ρ).toNat,none⟩)
 | .slc b off len cap=> .slice (some ⟨m b,off,none⟩) len cap
 | .con v=>v
 | .str l=> .string (a7 (ab (l.den ρ)))
 | .rows _ _ code _ _=> .int .u8 (code.den ρ)
 | .sl b aV o ro len cap=>if cap.den ρ<0 then .slice (jJ (cap.den ρ) (m b)) 0 0 else .slice (some ⟨m b,(o.den ρ).toNat+(ro.den ρ).toNat*aV,none⟩) (len.den ρ).toNat (cap.den ρ).toNat
 | .ep b aV o i j=> .pointer (some ⟨m b,(o.den ρ).toNat+(i.den ρ).toNat*aV+j,none⟩)
def sy (o ro len cap:Int):Prop:=(0<=o/\0<=ro/\0<=len/\len<=9223372036854775807)/\(-2<=cap/\ro+cap<=9223372036854775807)/\(cap<0->len=0)/\(0<=cap->len<=cap)
def A.ok (n nb:Nat) (ρ:Env):A->Prop
 | .int _ x=>x.ok n ρ
 | .bool b=>b.aX n
 | .ptr b _=>b<nb
 | .iQ b _ aR=>b<nb/\aR.ok n ρ/\0<=aR.lo
 | .gptr .. =>True
 | .tk _ _ aR=>aR.ok n ρ/\0<=aR.lo
 | .slc b .. =>b<nb
 | .con v=>v.oneCell'=true
 | .str l=>l.aX n/\0<=l.den ρ/\l.den ρ<=aD
 | .rows _ off code cap _=>(off.aX n/\code.aX n/\cap.aX n)/\(0<=code.den ρ/\code.den ρ<=au)/\-2<=cap.den ρ/\cap.den ρ<=9223372036854775807
 | .sl b _ o ro len cap=>b<nb/\(o.aX n/\ro.aX n/\len.aX n/\cap.aX n)/\sy (o.den ρ) (ro.den ρ) (len.den ρ) (cap.den ρ)
 | .ep b _ o i _=>b<nb/\(o.aX n/\i.aX n)/\0<=o.den ρ/\0<=i.den ρ
theorem A.ok.ext {n n' nb gj:Nat} {ρ ag:Env} {a:A} (h:a.ok n nb ρ) (ha:agree n ρ ag) (hn:n<=n') (hb:nb<=gj):a.ok n' gj ag:=by
 cases a<;>simp only[A.ok]at h⊢
 ·exact h.agree ha hn
 ·exact aY.aX.mono hn h
 ·omega
 ·exact⟨by omega,h.2.1.agree ha hn,h.2.2⟩
 ·exact⟨h.1.agree ha hn,h.2⟩
 ·omega
 ·exact h
 ·exact⟨h.1.mono hn,by rw[J.bj ha h.1];exact h.2⟩
 ·obtain⟨⟨h1,h2,h3⟩,h4⟩:=h
  exact⟨⟨h1.mono hn,h2.mono hn,h3.mono hn⟩,by rw[J.bj ha h2,J.bj ha h3];exact h4⟩
 ·obtain⟨h1,⟨h2,h3,h4,h5⟩,h6⟩:=h
  exact⟨by omega,⟨h2.mono hn,h3.mono hn,h4.mono hn,h5.mono hn⟩,by rw[J.bj ha h2,J.bj ha h3,J.bj ha h4,J.bj ha h5];exact h6⟩
 ·obtain⟨h1,⟨h2,h3⟩,h4⟩:=h
  exact⟨by omega,⟨h2.mono hn,h3.mono hn⟩,by rw[J.bj ha h2,J.bj ha h3];exact h4⟩
theorem A.hM {n nb:Nat} {ρ ag:Env} {m m':Nat->Nat} {a:A} (h:a.ok n nb ρ) (ha:agree n ρ ag) (hm:∀b,b<nb->m' b=m b):a.den ag m'=a.den ρ m:=by
 cases a<;>simp only[A.ok]at h<;>simp only[A.den]
 ·rw[J.bj ha h.1]
 ·rw[aY.bj ha h]
 ·rw[hm _ h]
 ·rw[hm _ h.1,J.bj ha h.2.1.1]
 ·rw[J.bj ha h.1.1]
 ·rw[hm _ h]
 ·rw[J.bj ha h.1]
 ·rw[J.bj ha h.1.2.1]
 ·obtain⟨h1,⟨h2,h3,h4,h5⟩,h6⟩:=h
  rw[hm _ h1,J.bj ha h2,J.bj ha h3,J.bj ha h4,J.bj ha h5]
 ·rw[hm _ h.1,J.bj ha h.2.1.1,J.bj ha h.2.1.2]
theorem A.zD {n nb:Nat} {ρ:Env} {m:Nat->Nat} {a:A} (h:a.ok n nb ρ):(a.den ρ m).oneCell'=true:=by
 cases a<;>first|rfl|exact h|(simp only[A.den];split<;>rfl)
def W.den (ρ:Env) (m:Nat->Nat):W->Value
 | .one a=>a.den ρ m
 | .agg l=> .agg (l.map (A.den ρ m)).toArray
def W.ok (n nb:Nat) (ρ:Env):W->Prop
 | .one a=>a.ok n nb ρ
 | .agg l=>∀a∈l,a.ok n nb ρ
theorem W.ok.ext {n n' nb gj:Nat} {ρ ag:Env} {x:W} (h:x.ok n nb ρ) (ha:agree n ρ ag) (hn:n<=n') (hb:nb<=gj):x.ok n' gj ag:=by
 cases x with
 |one a=>exact A.ok.ext h ha hn hb
 |agg l=>exactλa h'=>(h a h').ext ha hn hb
theorem kM {n nb:Nat} {ρ ag:Env} {m m':Nat->Nat} {l:List A} (h:∀a∈l,a.ok n nb ρ) (ha:agree n ρ ag) (hm:∀b,b<nb->m' b=m b):l.map (A.den ag m')=l.map (A.den ρ m):=
 List.map_congr_left λa h'=>A.hM (h a h') ha hm
theorem W.hM {n nb:Nat} {ρ ag:Env} {m m':Nat->Nat} {x:W} (h:x.ok n nb ρ) (ha:agree n ρ ag) (hm:∀b,b<nb->m' b=m b):x.den ag m'=x.den ρ m:=by
 cases x with
 |one a=>exact A.hM h ha hm
 |agg l=>simp only[W.den,kM h ha hm]
def V.rel (ρ:Env) (m:Nat->Nat):V->Value->Prop
 | .w x,v=>v=x.den ρ m
 | .eb l,v=>v= .tuple (l.map (W.den ρ m)).toArray
 | .any,_=>True
 | .jE b len lo,v=>∃c:Nat,lo<=c/\v= .slice (some ⟨m b,0,none⟩) len c
 | .j8 f fc,v=>v= .func (.func f) #[] (fc.map (A.den ρ m)).toArray
def V.ok (n nb:Nat) (ρ:Env):V->Prop
 | .w x=>x.ok n nb ρ
 | .eb l=>∀x∈l,x.ok n nb ρ
 | .any=>True
 | .jE b _ _=>b<nb
 | .j8 _ fc=>∀a∈fc,A.ok n nb ρ a
theorem V.ok.ext {n n' nb gj:Nat} {ρ ag:Env} {x:V} (h:x.ok n nb ρ) (ha:agree n ρ ag) (hn:n<=n') (hb:nb<=gj):x.ok n' gj ag:=by
 cases x with
 |w x=>exact W.ok.ext h ha hn hb
 |eb l=>exactλa h'=>(h a h').ext ha hn hb
 |any=>trivial
 |jE b len lo=>exact Nat.lt_of_lt_of_le h hb
 |j8 f fc=>exactλa h'=>(h a h').ext ha hn hb
theorem V.rel.ext {n nb:Nat} {ρ ag:Env} {m m':Nat->Nat} {x:V} {v:Value} (hr:x.rel ρ m v) (h:x.ok n nb ρ) (ha:agree n ρ ag) (hm:∀b,b<nb->m' b=m b):x.rel ag m' v:=by
 cases x with
 |w x=>simp only[V.rel]at hr⊢;rw[W.hM h ha hm];exact hr
 |eb l=>simp only[V.rel]at hr⊢;rw[hr];congr 2;exact(List.map_congr_left λa h'=>W.hM (h a h') ha hm).symm
 |any=>trivial
 |jE b len lo=>obtain⟨c,h1,h2⟩:=hr;exact⟨c,h1,by rw[hm b h];exact h2⟩
 |j8 f fc=>simp only[V.rel]at hr⊢;rw[hr];congr 2;exact(List.map_congr_left λa h'=>A.hM (h a h') ha hm).symm
section
variable {S:Nat->List Int->List Int->Prop} {L:V->Env->Prop} {n:Nat} {ρ:Env}
def xU (s:Int):List (Int×Nat)->Bool
 |[]=>true
 |(k,_)::r=>k% s==0&&xU s r
theorem GL {s:Int} (ρ:Env):∀{l},xU s l=true->eP ρ l% s=0
 |[],_=>by simp[eP]
 |(k,i)::r,h=>by
  simp only[xU,Bool.and_eq_true,beq_iff_eq]at h
  have h1:=GL ρ h.2
  obtain⟨c,hc⟩:=Int.dvd_of_emod_eq_zero h.1
  obtain⟨d,hd⟩:=Int.dvd_of_emod_eq_zero h1
  simp only[eP,hc,hd,Int.mul_assoc]
  rw[<-Int.mul_add];exact Int.mul_emod_right _ _
def J.nX (s:Int) (l:J):Bool:=l.c% s==0&&xU s l.ts
theorem J.A6 {s:Int} (ρ:Env) {l:J} (h:l.nX s=true):l.den ρ% s=0:=by
 simp only[nX,Bool.and_eq_true,beq_iff_eq]at h
 have h1:=GL ρ h.2
 obtain⟨c,hc⟩:=Int.dvd_of_emod_eq_zero h.1
 obtain⟨d,hd⟩:=Int.dvd_of_emod_eq_zero h1
 simp only[den,hc,hd]
 rw[<-Int.mul_add];exact Int.mul_emod_right _ _
def pa (h:Int):Nat:=2^(Nat.log2 h.toNat+1)
theorem GJ {x h:Int} (hx:x<=h) (h0:0<=x):x<(pa h:Int):=by
 have:h.toNat<2^(Nat.log2 h.toNat+1):=Nat.lt_log2_self
 unfold pa;omega
theorem cH {c:Bool} {α:Type} {x:M α} {R:Env->Nat->α->Prop} (h:c=true->ar S L x n ρ R):ar S L (cond c x fail) n ρ R:=by
 cases c with
 |true=>exact h rfl
 |false=>exact ar.fail
def lim (k:IntKind):Int:=two k-half k
theorem zp (k:IntKind):lim k<=two k:=by cases k<;>decide
theorem TE (k:IntKind):∃i:Nat,lim k=2^i/\i<=k.bits:=by cases k<;>first|exact⟨7,by decide,by decide⟩|exact⟨8,by decide,by decide⟩|exact⟨15,by decide,by decide⟩|exact⟨16,by decide,by decide⟩|exact⟨31,by decide,by decide⟩|exact⟨32,by decide,by decide⟩|exact⟨63,by decide,by decide⟩|exact⟨64,by decide,by decide⟩
def xT (x:J):List Nat->Nat
 |[]=>1
 |i::r=>cond (x.nX (2^i)) (2^i) (xT x r)
def orM (k:IntKind) (x y:bh):M bh:=
 cond (!(decide (0<=x.lo)&&decide (0<=y.lo)&&decide (x.hi<lim k)&&decide (y.hi<lim k))) (cond (decide (0<=x.lo)&&decide (x.hi<lim k)) (
  let s:=xT x.l [24,18,16,12,8,6,4]
  cond (x.l.nX s&&decide (y.hi<lim k)&&decide (x.hi+s<lim k)) (bind (dh 30 [y.l,.const s]) λ_=>pure ⟨x.l.add y.l,x.lo,x.hi+s⟩) fail) fail) <|
 cond (x.l.nX (pa y.hi)) (pure ⟨x.l.add y.l,x.lo+y.lo,cond (decide (x.hi+y.hi<two k)) (x.hi+y.hi) (two k-1)⟩) <|
 cond (y.l.nX (pa x.hi)) (pure ⟨x.l.add y.l,x.lo+y.lo,cond (decide (x.hi+y.hi<two k)) (x.hi+y.hi) (two k-1)⟩) (sT .or k x y)
theorem Eg {X Y s:Nat} (hs:∃i,s=2^i) (hx:X% s=0) (hy:Y<s):X|||Y=X+Y:=by
 obtain⟨i,rfl⟩:=hs
 have e:=Nat.div_add_mod X (2^i)
 rw[hx,Nat.add_zero]at e
 rw[<-e,<-Nat.two_pow_add_eq_or_of_lt hy]
theorem Ft {k:IntKind} {z:Int} (h0:0<=z) (h1:z<lim k):k.wrap z=z:=by
 rw[Av]
 have al:0<=half k:=by cases k<;>decide
 unfold lim at h1
 rw[Int.emod_eq_of_lt (by omega) (by omega)]
 omega
theorem G2 {k:IntKind} {x y:Int} (hx:0<=x) (hy:0<=y) (hx2:x<lim k) (Di:y<lim k):fN .or k x y=((x.toNat|||y.toNat:Nat):Int):=by
 have hl:=zp k
 have hx3:x<2^k.bits:=by rw[<-nP];omega
 have Dj:y<2^k.bits:=by rw[<-nP];omega
 obtain⟨i,hi,_⟩:=TE k
 obtain⟨X,rfl⟩:=Int.eq_ofNat_of_zero_le hx
 obtain⟨Y,rfl⟩:=Int.eq_ofNat_of_zero_le hy
 have bt:X<2^i:=by rw[hi]at hx2;exact_mod_cast hx2
 have rl:Y<2^i:=by rw[hi]at Di;exact_mod_cast Di
 have h1:X|||Y<2^i:=Nat.or_lt_two_pow bt rl
 unfold fN
 simp only
 rw[N7,Int.emod_eq_of_lt hx hx3,Int.emod_eq_of_lt hy Dj]
 simp only[Int.toNat_natCast]
 exact Ft (by omega) (by rw[hi];exact_mod_cast h1)
theorem G0 {k:IntKind} {x y:Int} (hx:0<=x) (hy:0<=y) (hx2:x<lim k) (Di:y<two k):fN .and k x y=((x.toNat&&&y.toNat:Nat):Int):=by
 have hl:=zp k
 have hx3:x<2^k.bits:=by rw[<-nP];omega
 have Dj:y<2^k.bits:=by rw[<-nP];omega
 obtain⟨X,rfl⟩:=Int.eq_ofNat_of_zero_le hx
 obtain⟨Y,rfl⟩:=Int.eq_ofNat_of_zero_le hy
 have h1:X&&&Y<=X:=Nat.and_le_left
 unfold fN
 simp only
 rw[bv_and,Int.emod_eq_of_lt hx hx3,Int.emod_eq_of_lt hy Dj]
 simp only[Int.toNat_natCast]
 exact Ft (by omega) (by omega)
theorem toNat_mod {x:Int} {s:Nat} (hx:0<=x) (h:x% (s:Int)=0):x.toNat% s=0:=by
 obtain⟨X,rfl⟩:=Int.eq_ofNat_of_zero_le hx
 simp only[Int.toNat_natCast]
 exact_mod_cast h
theorem VB {k:IntKind} {x y:bh} (hx:x.ok n ρ) (hy:y.ok n ρ):ar S L (orM k x y) n ρ λag n' q=>q.ok n' ag/\q.l.den ag=fN .or k (x.l.den ρ) (y.l.den ρ):=by
 unfold orM
 cases hc:(!(decide (0<=x.lo)&&decide (0<=y.lo)&&decide (x.hi<lim k)&&decide (y.hi<lim k)))with
 |true=>
  simp only[cond_true]
  refine cH λh1=>cH λh2=>eh λh3=>ar.pure ?_
  simp only[Bool.and_eq_true,decide_eq_true_eq]at h1 h2
  simp only[List.map_cons,List.map_nil,ad,J.aS]at h3
  obtain⟨⟨h4,h6⟩,h5⟩:=h2
  have sW:=hx.2;have G9:=hy.2
  generalize hs:xT x.l [24,18,16,12,8,6,4]=s at*
  have hm:=J.A6 ρ h4
  have RI:∃i,s=2^i:=by
   rw[<-hs]
   generalize [24,18,16,12,8,6,4]=l
   induction l with
   |nil=>exact⟨0,rfl⟩
   |cons i r ih=>
    unfold xT
    cases x.l.nX (2^i)with
    |true=>exact⟨i,rfl⟩
    |false=>exact ih
  have e:x.l.den ρ+y.l.den ρ=fN .or k (x.l.den ρ) (y.l.den ρ):=by
   rw[G2 (by omega) h3.1 (by omega) (by omega),Eg RI (toNat_mod (by omega) hm) (by omega)];omega
  exact⟨⟨J.oX hx.1 hy.1,by simp only[J.den_add];omega,by simp only[J.den_add];omega⟩,by rw[J.den_add];exact e⟩
 |false=>
  simp only[Bool.not_eq_false',Bool.and_eq_true,decide_eq_true_eq]at hc
  obtain⟨⟨⟨h1,h2⟩,tp⟩,Z0⟩:=hc
  have nn:=zp k
  have h3:x.hi<two k:=by omega
  have h4:y.hi<two k:=by omega
  have sW:=hx.2;have G9:=hy.2
  have hb:=G2 (k:=k) (x:=x.l.den ρ) (y:=y.l.den ρ) (by omega) (by omega) (by omega) (by omega)
  have hlt:fN .or k (x.l.den ρ) (y.l.den ρ)<two k:=by
   have e1:x.l.den ρ<2^k.bits:=by rw[<-nP];omega
   have e2:y.l.den ρ<2^k.bits:=by rw[<-nP];omega
   have h1:(x.l.den ρ).toNat|||(y.l.den ρ).toNat<2^k.bits:=Nat.or_lt_two_pow (by
    have:(x.l.den ρ).toNat=x.l.den ρ:=by omega
    exact_mod_cast (show((x.l.den ρ).toNat:Int)<2^k.bits by omega)) (by exact_mod_cast (show((y.l.den ρ).toNat:Int)<2^k.bits by omega))
   rw[hb,nP]
   exact_mod_cast h1
  have ok:∀q:Int,q=fN .or k (x.l.den ρ) (y.l.den ρ)->x.l.den ρ+y.l.den ρ=q->(bh.mk (x.l.add y.l) (x.lo+y.lo) (cond (decide (x.hi+y.hi<two k)) (x.hi+y.hi) (two k-1))).ok n ρ:=λq tN nq=>⟨J.oX hx.1 hy.1,by simp only[J.den_add];omega,by
   simp only[J.den_add]
   cases hd:decide (x.hi+y.hi<two k)with
   |true=>simp only[cond_true];omega
   |false=>simp only[cond_false];omega⟩
  simp only[cond_false]
  cases h5:x.l.nX (pa y.hi)with
  |true=>
   have hm:=J.A6 ρ h5
   have hl:=GJ G9.2 (by omega)
   have hs:x.l.den ρ+y.l.den ρ=fN .or k (x.l.den ρ) (y.l.den ρ):=by
    rw[hb,Eg (s:=pa y.hi) ⟨_,rfl⟩ (toNat_mod (by omega) hm) (by omega)];omega
   exact ar.pure ⟨ok _ rfl hs,by rw[J.den_add];exact hs⟩
  |false=>
   simp only[cond_false]
   cases h6:y.l.nX (pa x.hi)with
   |true=>
    have hm:=J.A6 ρ h6
    have hl:=GJ sW.2 (by omega)
    have hs:x.l.den ρ+y.l.den ρ=fN .or k (x.l.den ρ) (y.l.den ρ):=by
     rw[hb,Nat.or_comm,Eg (s:=pa x.hi) ⟨_,rfl⟩ (toNat_mod (by omega) hm) (by omega)];omega
    exact ar.pure ⟨ok _ rfl hs,by rw[J.den_add];exact hs⟩
   |false=>exact x6
def xX (k:IntKind) (x:bh) (c:Int):M bh:=
 match zu c with
 |some (a,b)=>cond (!(decide (0<=x.lo)&&decide (x.hi<lim k)&&decide (c<two k)&&decide (0<=c))) fail (andM x a b)
 |none=>cond (c==0&&decide (0<=x.lo)&&decide (x.hi<lim k)) (pure (.const 0)) fail
theorem GP {k:IntKind} {x:bh} {c:Int} (hx:x.ok n ρ):ar S L (xX k x c) n ρ λag n' q=>q.ok n' ag/\q.l.den ag=fN .and k (x.l.den ρ) c:=by
 unfold xX
 have sW:=hx.2
 cases hm:zu c with
 |some p=>
  obtain⟨a,b⟩:=p
  simp only
  cases hc:(!(decide (0<=x.lo)&&decide (x.hi<lim k)&&decide (c<two k)&&decide (0<=c)))with
  |true=>exact ar.fail
  |false=>
   simp only[Bool.not_eq_false',Bool.and_eq_true,decide_eq_true_eq]at hc
   obtain⟨⟨⟨h1,h2⟩,h3⟩,h4⟩:=hc
   obtain⟨i,j,je,rfl,rfl,hce,_,_⟩:=Ui hm
   refine(NQ je hx h1).mono λag n' q _ _ ⟨ho,he⟩=>⟨ho,?_⟩
   rw[he,G0 (by omega) h4 (by omega) h3]
   congr 2
   have h3:2^i<=2^j:=Nat.pow_le_pow_right (by omega) je
   have h5:((2^j-2^i:Nat):Int)=2^j-2^i:=by rw[Int.ofNat_sub h3];simp
   omega
 |none=>
  simp only
  cases hc:(c==0&&decide (0<=x.lo)&&decide (x.hi<lim k))with
  |false=>exact ar.fail
  |true=>
   simp only[Bool.and_eq_true,beq_iff_eq,decide_eq_true_eq]at hc
   obtain⟨⟨rfl,h1⟩,h2⟩:=hc
   refine ar.pure ⟨bh.iW _ _ _,?_⟩
   rw[G0 (by omega) (Int.le_refl _) (by omega) (by cases k<;>decide)]
   simp[bh.const,J.aS]
theorem N1 (k:IntKind) (x y:Int):fN .and k x y=fN .and k y x:=by simp only[fN,BitVec.and_comm]
def Bb (k:IntKind) (x y:bh):M bh:=
 match y.l.cG,x.l.cG with
 |some c,_=>xX k x c
 |none,some c=>xX k y c
 |none,none=>sT .and k x y
theorem NP {k:IntKind} {x y:bh} (hx:x.ok n ρ) (hy:y.ok n ρ):ar S L (Bb k x y) n ρ λag n' q=>q.ok n' ag/\q.l.den ag=fN .and k (x.l.den ρ) (y.l.den ρ):=by
 unfold Bb
 cases h1:y.l.cG with
 |some c=>simp only[J.fl h1];exact GP hx
 |none=>
  cases h2:x.l.cG with
  |some c=>simp only[J.fl h2];rw[N1];exact GP hy
  |none=>exact x6
def EY (x y:bh):M bh:=λn k=> .shr n x.l y.l 0 x.hi (k ⟨.var n,0,x.hi⟩ (n+1))
theorem Xx {x y:bh} (hx:x.ok n ρ) (h0:0<=x.lo):ar S L (EY x y) n ρ λag n' q=>q.ok n' ag/\q.l.den ag=x.l.den ρ/2^(y.l.den ρ).toNat:=by
 intro A k hk
 simp only[EY,T.holds]at hk
 have hp:(0:Int)<2^(y.l.den ρ).toNat:=by have:=Nat.two_pow_pos (y.l.den ρ).toNat;exact_mod_cast this
 have b0:0<=x.l.den ρ:=by have:=hx.2;omega
 have a1:0<=x.l.den ρ/2^(y.l.den ρ).toNat:=Int.ediv_nonneg b0 (Int.le_of_lt hp)
 have a2:x.l.den ρ/2^(y.l.den ρ).toNat<=x.hi:=Int.le_trans (Int.ediv_le_self _ b0) hx.2.2
 exact⟨_,n+1,_,Nat.le_succ _,agree.cl _ _ _,⟨⟨J.da (Nat.lt_succ_self n),by simp only[J.bH,fu];exact a1,by simp only[J.bH,fu];exact a2⟩,by simp only[J.bH,fu]⟩,hk _ a1 a2 rfl⟩
def isInt (k:IntKind) (x:M bh):M A:=bind x λr=>pure (.int k r)
def qb (x:bh):M bh:=cond (decide (0<=x.lo)) (pure x) (bind (dh 77 [x.l]) λ_=>pure ⟨x.l,0,x.hi⟩)
def D6 (x y:bh):M bh:=match x.l.cG,y.l.cG with
 |none,none=>bind (qb x) λx=>bind (qb y) λy=>mulM x y
 |_,_=>mulM x y
def Bg (op:BinOp) (k:IntKind) (x:bh) (aZ:IntKind) (y:bh):M A:=
 match op with
 | .shl=>match y.l.cG with
  |some c=>cond (decide (0<=c)) (let s:Int:=2^min c.toNat k.bits;isInt k (nQ k ⟨x.l.smul s,x.lo*s,x.hi*s⟩)) fail
  |none=>cond (decide (0<=x.lo)&&decide (0<=y.lo)&&decide (y.hi<=62)&&decide (x.hi*2^y.hi.toNat<lim k)) (isInt k (bind (cT 37 [x.l,y.l] 0 (x.hi*2^y.hi.toNat)) λl=>pure ⟨l,0,x.hi*2^y.hi.toNat⟩)) fail
 | .shr=>match y.l.cG with
  |some c=>cond (decide (0<=c)) (isInt k (nd x (2^min c.toNat k.bits))) fail
  |none=>cond (decide (0<=x.lo)&&decide (0<=y.lo)&&decide (y.hi<=(k.bits:Int))) (isInt k (EY x y)) fail
 | .add=>cond (decide (k=aZ)) (isInt k (nQ k ⟨x.l.add y.l,x.lo+y.lo,x.hi+y.hi⟩)) fail
 | .sub=>cond (decide (k=aZ)) (isInt k (nQ k ⟨x.l.sub y.l,x.lo-y.hi,x.hi-y.lo⟩)) fail
 | .mul=>cond (decide (k=aZ)) (isInt k (bind (D6 x y) (nQ k))) fail
 | .quo=>match y.l.cG with
  |some c=>cond (decide (k=aZ)&&decide (0<c)) (bind (qb x) λx=>isInt k (bind (nd x c) (nQ k))) fail
  |none=>cond (decide (k=aZ)) (bind (qb x) λx=>bind (dh 36 [y.l]) λ_=>isInt k (bind (bind (cT 76 [x.l,y.l] 0 x.hi) λl=>pure ⟨l,0,x.hi⟩) (nQ k))) fail
 | .rem=>match y.l.cG with
  |some c=>cond (decide (k=aZ)&&decide (0<c)) (bind (qb x) λx=>isInt k (D5 x c)) fail
  |none=>cond (decide (k=aZ)) (bind (qb x) λx=>bind (dh 36 [y.l]) λ_=>isInt k (bind (cT 38 [x.l,y.l] 0 (cond (decide (y.hi-1<=x.hi)) (y.hi-1) x.hi)) λl=>pure ⟨l,0,cond (decide (y.hi-1<=x.hi)) (y.hi-1) x.hi⟩)) fail
 | .and=>cond (decide (k=aZ)) (isInt k (Bb k x y)) fail
 | .or=>cond (decide (k=aZ)) (isInt k (orM k x y)) fail
 | .xor=>cond (decide (k=aZ)) (isInt k (sT .xor k x y)) fail
 | .andNot=>cond (decide (k=aZ)) (isInt k (sT .andNot k x y)) fail
 | .eql=>cond (decide (k=aZ)) (pure (.bool (.mkEq x y))) fail
 | .neq=>cond (decide (k=aZ)) (pure (.bool (.mkNot (.mkEq x y)))) fail
 | .lss=>cond (decide (k=aZ)) (pure (.bool (.mkLt x y))) fail
 | .leq=>cond (decide (k=aZ)) (pure (.bool (.mkLe x y))) fail
 | .gtr=>cond (decide (k=aZ)) (pure (.bool (.mkLt y x))) fail
 | .geq=>cond (decide (k=aZ)) (pure (.bool (.mkLe y x))) fail
theorem ko {k:IntKind} {x:M bh} {R:Env->Nat->A->Prop} {v:Int} (h:ar S L x n ρ λag n' q=>q.ok n' ag/\q.l.den ag=v)
 (hR:∀ag n' (q:bh),n<=n'->agree n ρ ag->q.ok n' ag->q.l.den ag=v->R ag n' (.int k q)):ar S L (isInt k x) n ρ R:=
 h.bind λag n' q hn ha ⟨ho,he⟩=>ar.pure (hR ag n' q hn ha ho he)
theorem uz {x:bh} (hx:x.ok n ρ):ar S L (qb x) n ρ λag n' q=>q.ok n' ag/\q.l=x.l/\q.hi=x.hi/\0<=q.lo/\x.l.den ag=x.l.den ρ:=by
 unfold qb
 cases h:decide (0<=x.lo)with
 |true=>exact ar.pure ⟨hx,rfl,rfl,of_decide_eq_true h,rfl⟩
 |false=>
  refine eh λhk=>ar.pure ⟨⟨hx.1,?_,hx.2.2⟩,rfl,rfl,Int.le_refl _,rfl⟩
  simpa [ad,yk]using hk
theorem Up {x y:bh} (hx:x.ok n ρ) (hy:y.ok n ρ):ar S L (D6 x y) n ρ λag n' q=>q.ok n' ag/\q.l.den ag=x.l.den ρ*y.l.den ρ:=by
 unfold D6
 split
 ·refine(uz hx).bind λaH n1 et c7 cm ⟨fr,ex,_,_,lf⟩=>(uz (hy.agree cm c7)).bind λba db gq cQ cA ⟨Dh,O4,_,_,O5⟩=>(KL (fr.agree cA cQ) Dh).mono λek jW q _ _ ⟨h1,h2⟩=>⟨h1,?_⟩
  rw[h2,O4,O5,J.bj cm hy.1,J.bj cA fr.1,ex,lf]
 ·exact KL hx hy
theorem N0 {nb:Nat} {m:Nat->Nat} (P:Program) {op:BinOp} {k aZ:IntKind} {x y:bh} (t:TypeId) (hx:x.ok n ρ) (hy:y.ok n ρ):
 ar S L (Bg op k x aZ y) n ρ λag n' a=>a.ok n' nb ag/\∀w,(binOp op t (.int k (x.l.den ρ)) (.int aZ (y.l.den ρ))).run P w= .ok (a.den ag m) w:=by
 have bz:∀s:Nat,(0:Int)<2^s:=λs=>by have:=Nat.two_pow_pos s;exact_mod_cast this
 cases op<;>simp only[Bg]
 case shl=>
  cases hc:y.l.cG with
  |none=>
   refine cH λh0=>?_
   simp only[Bool.and_eq_true,decide_eq_true_eq]at h0
   obtain⟨⟨⟨h1,h2⟩,h3⟩,h4⟩:=h0
   have rN:=hx.2;have pP:=hy.2
   have hp:=bz (y.l.den ρ).toNat
   have e1:(0:Int)<=x.l.den ρ*2^(y.l.den ρ).toNat:=Int.mul_nonneg (by omega) (Int.le_of_lt hp)
   have e2:x.l.den ρ*2^(y.l.den ρ).toNat<=x.hi*2^y.hi.toNat:=Int.mul_le_mul rN.2 (by
    have:=Nat.pow_le_pow_right (n:=2) (by decide) (show(y.l.den ρ).toNat<=y.hi.toNat by omega)
    exact_mod_cast this) (Int.le_of_lt hp) (by omega)
   have hf:aa 37 ([x.l,y.l].map (·.den ρ))=x.l.den ρ*2^(y.l.den ρ).toNat:=rfl
   refine ko (v:=x.l.den ρ*2^(y.l.den ρ).toNat) ((dE (by rw[hf];exact e1) (by rw[hf];exact e2)).bind λaH n1 l _ _ ⟨g1,g2⟩=>ar.pure ⟨⟨g1,by simp only;rw[g2,hf];exact e1,by simp only;rw[g2,hf];exact e2⟩,by simp only;rw[g2,hf]⟩) λag n' q _ _ ho he=>⟨ho,λw=>?_⟩
   simp only[A.den,he,binOp,Op.shift]
   have Qr:(y.l.den ρ).toNat<=k.bits∨x.l.den ρ=0:=by
    rcases Nat.le_total (y.l.den ρ).toNat k.bits with h|h
    ·exact .inl h
    ·refine .inr ?_
     have h5:x.l.den ρ*2^(y.l.den ρ).toNat<lim k:=by omega
     have h6:=zp k
     rw[nP]at h6
     have h7:(2:Int)^k.bits<=2^(y.l.den ρ).toNat:=by
      have:=Nat.pow_le_pow_right (n:=2) (by decide) h
      exact_mod_cast this
     rcases Int.lt_or_le 0 (x.l.den ρ)with bw|bw
     ·have:(1:Int)*2^(y.l.den ρ).toNat<=x.l.den ρ*2^(y.l.den ρ).toNat:=Int.mul_le_mul_of_nonneg_right (by omega) (Int.le_of_lt hp)
      omega
     ·omega
   rw[if_neg (by omega)]
   rcases Qr with h|h
   ·rw[show min (y.l.den ρ).toNat k.bits=(y.l.den ρ).toNat by omega]
    simp[Ft e1 (show x.l.den ρ*2^(y.l.den ρ).toNat<lim k by omega)]
   ·have hw:k.wrap 0=0:=by cases k<;>decide
    simp[h,hw]
  |some c=>
   refine cH λh0=>?_
   simp only[decide_eq_true_eq]at h0
   have hp:=bz (min c.toNat k.bits)
   refine ko (qq (x:=⟨x.l.smul (2^min c.toNat k.bits),x.lo*2^min c.toNat k.bits,x.hi*2^min c.toNat k.bits⟩) ⟨J.qi hx.1,?_,?_⟩) λag n' q _ _ ho he=>⟨ho,λw=>?_⟩
   ·simp only[J.iX];rw[Int.mul_comm];exact Int.mul_le_mul_of_nonneg_left hx.2.1 (Int.le_of_lt hp)
   ·simp only[J.iX];rw[Int.mul_comm x.hi];exact Int.mul_le_mul_of_nonneg_left hx.2.2 (Int.le_of_lt hp)
   ·simp only[A.den,he,J.iX,J.fl hc,binOp,Op.shift]
    rw[if_neg (by omega)]
    simp[Int.mul_comm]
 case shr=>
  cases hc:y.l.cG with
  |some c=>
   refine cH λh0=>?_
   simp only[decide_eq_true_eq]at h0
   have hp:=bz (min c.toNat k.bits)
   refine ko ((vq hp hx).mono λ_ _ q _ _ h=>⟨h.1,h.2.1⟩) λag n' q _ _ ho he=>⟨ho,λw=>?_⟩
   simp only[A.den,he,J.fl hc,binOp,Op.shift]
   rw[if_neg (by omega)]
   simp[Int.fdiv_eq_ediv_of_nonneg _ (Int.le_of_lt hp)]
  |none=>
   refine cH λh0=>?_
   simp only[Bool.and_eq_true,decide_eq_true_eq]at h0
   refine ko (Xx hx h0.1.1) λag n' q _ _ ho he=>⟨ho,λw=>?_⟩
   have pP:=hy.2
   simp only[A.den,he,binOp,Op.shift]
   rw[if_neg (by omega),show min (y.l.den ρ).toNat k.bits=(y.l.den ρ).toNat by omega]
   simp[Int.fdiv_eq_ediv_of_nonneg _ (Int.le_of_lt (bz _))]
 case add=>
  refine cH λh0=>?_
  simp only[decide_eq_true_eq]at h0;subst h0
  have rN:=hx.2;have pP:=hy.2
  refine ko (qq (x:=⟨x.l.add y.l,x.lo+y.lo,x.hi+y.hi⟩) ⟨J.oX hx.1 hy.1,by simp only[J.den_add];omega,by simp only[J.den_add];omega⟩) λag n' q _ _ ho he=>⟨ho,λw=>?_⟩
  simp[A.den,he,J.den_add,binOp,Op.intArith]
 case sub=>
  refine cH λh0=>?_
  simp only[decide_eq_true_eq]at h0;subst h0
  have rN:=hx.2;have pP:=hy.2
  refine ko (qq (x:=⟨x.l.sub y.l,x.lo-y.hi,x.hi-y.lo⟩) ⟨J.qj hx.1 hy.1,by simp only[J.iE];omega,by simp only[J.iE];omega⟩) λag n' q _ _ ho he=>⟨ho,λw=>?_⟩
  simp[A.den,he,J.iE,binOp,Op.intArith]
 case mul=>
  refine cH λh0=>?_
  simp only[decide_eq_true_eq]at h0;subst h0
  refine ko (v:=k.wrap (x.l.den ρ*y.l.den ρ)) ((Up hx hy).bind λaH n1 p _ _ ⟨hp,ep⟩=>by rw[<-ep];exact qq hp) λag n' q _ _ ho he=>⟨ho,λw=>?_⟩
  simp[A.den,he,binOp,Op.intArith]
 case quo=>
  cases hc:y.l.cG with
  |none=>
   refine cH λh0=>(uz hx).bind λbu n0 et jy ha0 ⟨fr,ex,BO,jx,lf⟩=>eh λhk=>?_
   have h0:=of_decide_eq_true h0
   subst h0
   simp only[List.map_cons,List.map_nil,ad]at hk
   have wF:=J.bj ha0 hy.1
   have rN:=fr.2
   have e1:=Int.ediv_nonneg (show 0<=et.l.den bu by omega) (Int.le_of_lt hk)
   have e3:et.l.den bu/y.l.den bu<=et.l.den bu:=by
    have h5:=Int.ediv_le_self (y.l.den bu) (show 0<=et.l.den bu by omega)
    exact h5
   have eo:et.l.den bu/y.l.den bu<=et.hi:=by omega
   have hf:aa 76 ([et.l,y.l].map (·.den bu))=et.l.den bu/y.l.den bu:=rfl
   refine ko (v:=k.wrap (et.l.den bu/y.l.den bu)) (((dE (by rw[hf];exact e1) (by rw[hf];exact eo)).bind λaH n1 l _ _ ⟨g1,g2⟩=>ar.pure (R:=λag n' (q:bh)=>q.ok n' ag/\q.l.den ag=et.l.den bu/y.l.den bu) ⟨⟨g1,by simp only;rw[g2,hf];exact e1,by simp only;rw[g2,hf];exact eo⟩,by simp only;rw[g2,hf]⟩).bind λaH n1 p _ _ ⟨hp,ep⟩=>by rw[<-ep];exact qq hp) λag n' q _ _ ho he=>⟨ho,λw=>?_⟩
   simp only[A.den,he,binOp,Op.intDiv]
   have Sg:0<y.l.den ρ:=wF▸hk
   have hx0:0<=x.l.den ρ:=by rw[<-lf,<-ex];omega
   rw[wF,ex,lf,if_neg (by simp),if_neg (by omega),Int.tdiv_eq_ediv_of_nonneg hx0]
   simp
  |some c=>
   refine cH λh0=>(uz hx).bind λbu n0 et jy ha0 ⟨fr,ex,BO,jx,lf⟩=>?_
   simp only[Bool.and_eq_true,decide_eq_true_eq]at h0
   obtain⟨h0,h1⟩:=h0
   subst h0
   have rN:=fr.2
   refine ko (v:=k.wrap (et.l.den bu/c)) ((vq h1 fr).bind λaH n1 p _ _ ⟨hp,ep,_⟩=>by rw[<-ep];exact qq hp) λag n' q _ _ ho he=>⟨ho,λw=>?_⟩
   have hx0:0<=x.l.den ρ:=by rw[<-lf,<-ex];omega
   simp only[A.den,he,J.fl hc,binOp,Op.intDiv]
   rw[ex,lf,if_neg (by simp),if_neg (by omega),Int.tdiv_eq_ediv_of_nonneg hx0]
   simp
 case rem=>
  cases hc:y.l.cG with
  |none=>
   refine cH λh0=>(uz hx).bind λbu n0 et jy ha0 ⟨fr,ex,BO,jx,lf⟩=>eh λhk=>?_
   have h0:=of_decide_eq_true h0
   subst h0
   simp only[List.map_cons,List.map_nil,ad]at hk
   have wF:=J.bj ha0 hy.1
   have rN:=fr.2;have pP:=(hy.agree ha0 jy).2
   have e1:=Int.emod_nonneg (et.l.den bu) (show y.l.den bu≠0 by omega)
   have e2:=Int.emod_lt_of_pos (et.l.den bu) hk
   have e3:et.l.den bu% y.l.den bu<=et.l.den bu:=by
    have h5:=Int.mul_ediv_add_emod (et.l.den bu) (y.l.den bu)
    have h6:=Int.mul_nonneg (Int.le_of_lt hk) (Int.ediv_nonneg (show 0<=et.l.den bu by omega) (Int.le_of_lt hk))
    omega
   have hf:aa 38 ([et.l,y.l].map (·.den bu))=et.l.den bu% y.l.den bu:=rfl
   have eo:et.l.den bu% y.l.den bu<=cond (decide (y.hi-1<=et.hi)) (y.hi-1) et.hi:=by
    cases decide (y.hi-1<=et.hi)with
    |true=>simp only[cond_true];omega
    |false=>simp only[cond_false];omega
   refine ko (v:=et.l.den bu% y.l.den bu) ((dE (by rw[hf];exact e1) (by rw[hf];exact eo)).bind λaH n1 l _ _ ⟨g1,g2⟩=>ar.pure ⟨⟨g1,by simp only;rw[g2,hf];exact e1,by simp only;rw[g2,hf];exact eo⟩,by simp only;rw[g2,hf]⟩) λag n' q _ _ ho he=>⟨ho,λw=>?_⟩
   simp only[A.den,he,binOp,Op.intDiv]
   have Sg:0<y.l.den ρ:=wF▸hk
   have hx0:0<=x.l.den ρ:=by rw[<-lf,<-ex];omega
   rw[wF,ex,lf,if_neg (by simp),if_neg (by omega),Int.tmod_eq_emod_of_nonneg hx0]
   simp
  |some c=>
   refine cH λh0=>(uz hx).bind λbu n0 et jy ha0 ⟨fr,ex,BO,jx,lf⟩=>?_
   simp only[Bool.and_eq_true,decide_eq_true_eq]at h0
   obtain⟨h0,h1⟩:=h0
   subst h0
   have rN:=fr.2
   refine ko (KK h1 fr) λag n' q _ _ ho he=>⟨ho,λw=>?_⟩
   have hx0:0<=x.l.den ρ:=by rw[<-lf,<-ex];omega
   simp only[A.den,he,J.fl hc,binOp,Op.intDiv]
   rw[ex,lf,if_neg (by simp),if_neg (by omega),Int.tmod_eq_emod_of_nonneg hx0]
   simp
 case and=>
  refine cH λh0=>?_
  simp only[decide_eq_true_eq]at h0;subst h0
  refine ko (NP hx hy) λag n' q _ _ ho he=>⟨ho,λw=>?_⟩
  simp[A.den,he,binOp,Op.intBits,fN]
 case or=>
  refine cH λh0=>?_
  simp only[decide_eq_true_eq]at h0;subst h0
  refine ko (VB hx hy) λag n' q _ _ ho he=>⟨ho,λw=>?_⟩
  simp[A.den,he,binOp,Op.intBits,fN]
 case xor=>
  refine cH λh0=>?_
  simp only[decide_eq_true_eq]at h0;subst h0
  refine ko x6 λag n' q _ _ ho he=>⟨ho,λw=>?_⟩
  simp[A.den,he,binOp,Op.intBits,fN]
 case andNot=>
  refine cH λh0=>?_
  simp only[decide_eq_true_eq]at h0;subst h0
  refine ko x6 λag n' q _ _ ho he=>⟨ho,λw=>?_⟩
  simp[A.den,he,binOp,Op.intBits,fN]
 all_goals
  refine cH λh0=>?_
  simp only[decide_eq_true_eq]at h0;subst h0
  have e1:=aY.k9 hx hy
  have e2:=aY.yr hx hy
  have e3:=aY.HC hx hy
  have eo:=aY.yr hy hx
  have mu:=aY.HC hy hx
  refine ar.pure ⟨?_,λw=>?_⟩
  ·first|exact e1.2|exact aY.nJ e1.2|exact e2.2|exact e3.2|exact eo.2|exact mu.2
  ·simp[A.den,aY.na,e1.1,e2.1,e3.1,eo.1,mu.1,binOp,Op.intCmp]
   try rfl
end
end Go.bo
namespace Go.bo
open M
abbrev ax:=List A×(TypeId×Bool)
abbrev dt:=List (Nat×List (IntKind×Int))
structure cR where
 b:World
 r:World
 ex:Nat->Prop
 ro:Nat->Prop
 ds:List Deferred
def bO:List A->Bool
 |[.rows _ _ _ _ _]=>false
 |_=>true
noncomputable def a6 (ρ:Env):List A->Nat
 |[.rows _ _ _ cap k]=>if cap.den ρ<0 then 0 else k
 |_=>2
def bn:List az->List Int->Prop
 |[],[]=>True
 |c::sh,z::r=>(c.c3.1<=z/\z<=c.c3.2)/\bn sh r
 |_,_=>False
def cz:List az->List Int->List Value
 |c::sh,z::r=>c.val z::cz sh r
 |_,_=>[]
def cf (sh:List az) (rows:List (List Int)):List Value:=rows.flatMap (cz sh)
def kv (cells:Array Value) (off:Nat) (sh:List az) (rows:List (List Int)):Prop:=
 (∀row∈rows,bn sh row)/\∃pre post,cells.toList=pre++cf sh rows++post/\pre.length=off
theorem bn.len:∀{sh:List az} {row:List Int},bn sh row->row.length=sh.length
 |[],[],_=>rfl
 |_::_,_::_,h=>by simp[bn.len h.2]
 |[],_::_,h=>h.elim
 |_::_,[],h=>h.elim
theorem bn.get:∀{sh:List az} {row:List Int} {j:Nat} {c:az},bn sh row->sh[j]?=some c->∃z,row[j]?=some z/\c.c3.1<=z/\z<=c.c3.2/\(cz sh row)[j]?=some (c.val z)
 |c'::sh,z::r,0,c,h,hc=>by
  simp only[List.getElem?_cons_zero,Option.some.injEq]at hc
  subst hc
  exact⟨z,rfl,h.1.1,h.1.2,rfl⟩
 |c'::sh,z::r,j+1,c,h,hc=>bn.get (sh:=sh) (row:=r) (j:=j) h.2 (by simpa using hc)
 |[],_,_,_,_,hc=>by simp at hc
 |_::_,[],_,_,h,_=>h.elim
theorem xm:∀{sh:List az} {row:List Int},bn sh row->(cz sh row).length=sh.length
 |[],[],_=>rfl
 |_::_,_::_,h=>by simp[cz,xm h.2]
 |[],_::_,h=>h.elim
 |_::_,[],h=>h.elim
theorem lO {sh:List az}:∀{rows:List (List Int)},(∀row∈rows,bn sh row)->(cf sh rows).length=rows.length*sh.length
 |[],_=>by simp[cf]
 |r::rs,h=>by
  have ih:=lO (rows:=rs) λrow hr=>h row (List.mem_cons_of_mem _ hr)
  have h1:=xm (h r (by simp))
  simp only[cf,List.flatMap_cons,List.length_append,List.length_cons]at ih⊢
  rw[ih,h1,Nat.succ_mul];omega
theorem BZ {sh:List az}:∀{rows:List (List Int)} {i j:Nat} {row:List Int} {v:Value},(∀row∈rows,bn sh row)->rows[i]?=some row->(cz sh row)[j]?=some v->(cf sh rows)[i*sh.length+j]?=some v
 |r::rs,0,j,row,v,h,hi,hj=>by
  simp only[List.getElem?_cons_zero,Option.some.injEq]at hi
  subst hi
  have hlt:=(List.getElem?_eq_some_iff.1 hj).1
  simp only[cf,List.flatMap_cons,Nat.zero_mul,Nat.zero_add]
  rw[List.getElem?_append_left hlt];exact hj
 |r::rs,i+1,j,row,v,h,hi,hj=>by
  have ih:=BZ (rows:=rs) (i:=i) (λrow hr=>h row (List.mem_cons_of_mem _ hr)) (by simpa using hi) hj
  have h1:=xm (h r (by simp))
  simp only[cf,List.flatMap_cons]at ih⊢
  rw[List.getElem?_append_right (by rw[h1,Nat.succ_mul];omega),h1,Nat.succ_mul]
  rw[show i*sh.length+sh.length+j-sh.length=i*sh.length+j by omega];exact ih
 |[],i,_,_,_,_,hi,_=>by simp at hi
theorem td (sh:List az) (a b:List (List Int)):cf sh (a++b)=cf sh a++cf sh b:=by simp[cf]
def j5 (F:Nat->Prop) (w:World) (sh:List az) (rows:List (List Int)) (v:Value):Prop:=
 ((∃p,v= .slice p 0 0)/\rows=[])∨∃(g o cap:Nat) (cells:Array Value) (t:TypeId) (fz:Nat×Nat),v= .slice (some ⟨g,o,none⟩) rows.length cap/\(rows.length<=cap/\(cap:Int)<=9223372036854775807/\rows.length<=140737488351232)/\F g/\w.heap[g]?=some (.cells cells t fz)/\kv cells o sh rows
def n5 (F:Nat->Prop) (w:World):az->Int->Value->Prop
 | .sub k,z,v=>j5 F w (fL k) (ae z) v
 |c,z,v=>v=c.val z
def dB (F:Nat->Prop) (w:World):List az->List Int->List Value->Prop
 |[],[],[]=>True
 |c::sh,z::r,v::vs=>n5 F w c z v/\dB F w sh r vs
 |_,_,_=>False
def dQ (F:Nat->Prop) (w:World) (sh:List az):List (List Int)->List Value->Prop
 |[],vs=>vs=[]
 |row::rows,vs=>∃a b,vs=a++b/\dB F w sh row a/\dQ F w sh rows b
def fZ (F:Nat->Prop) (w:World) (cells:Array Value) (off:Nat) (sh:List az) (rows:List (List Int)):Prop:=
 (∀row∈rows,bn sh row)/\∃pre vs post,cells.toList=pre++vs++post/\pre.length=off/\dQ F w sh rows vs
def Fr (F:Nat->Prop) (w:World) (F':Nat->Prop) (w':World):Prop:=∀g,F g->∀o,w.heap[g]?=some o->F' g/\w'.heap[g]?=some o
theorem Fr.of {F F':Nat->Prop} (w:World) (h:∀g,F g->F' g):Fr F w F' w:=λg hg o ho=>⟨h g hg,ho⟩
theorem Fr.trans {F F' Gn:Nat->Prop} {w w' iC:World} (h:Fr F w F' w') (h':Fr F' w' Gn iC):Fr F w Gn iC:=λg hg o ho=>by
 obtain⟨h1,h2⟩:=h g hg o ho
 exact h' g h1 o h2
theorem Fr.ext {F F':Nat->Prop} {w w':World} (h:∀g,F g->F' g) (he:w.Extends w'):Fr F w F' w':=λg hg o ho=>⟨h g hg,by rw[he.block g (Array.getElem?_eq_some_iff.1 ho).1];exact ho⟩
theorem j5.mono {F F':Nat->Prop} {w w':World} {sh:List az} {rows:List (List Int)} {v:Value} (h:j5 F w sh rows v) (hf:Fr F w F' w'):j5 F' w' sh rows v:=by
 rcases h with h|⟨g,o,cap,cells,t,fz,h1,h2,h3,h4,h5⟩
 ·exact .inl h
 ·obtain⟨k1,k2⟩:=hf g h3 _ h4
  exact .inr ⟨g,o,cap,cells,t,fz,h1,h2,k1,k2,h5⟩
theorem n5.mono {F F':Nat->Prop} {w w':World} {c:az} {z:Int} {v:Value} (h:n5 F w c z v) (hf:Fr F w F' w'):n5 F' w' c z v:=by
 cases c with
 |sub k=>exact j5.mono (F:=F) (w:=w) h hf
 |_=>exact h
theorem dB.mono {F F':Nat->Prop} {w w':World} (hf:Fr F w F' w'):∀{sh:List az} {row:List Int} {vs:List Value},dB F w sh row vs->dB F' w' sh row vs
 |[],[],[],_=>trivial
 |c::sh,z::r,v::vs,h=>⟨h.1.mono hf,dB.mono hf h.2⟩
 |[],_::_,_,h=>h.elim
 |[],[],_::_,h=>h.elim
 |_::_,[],_,h=>h.elim
 |_::_,_::_,[],h=>h.elim
theorem dQ.mono {F F':Nat->Prop} {w w':World} (hf:Fr F w F' w') {sh:List az}:∀{rows:List (List Int)} {vs:List Value},dQ F w sh rows vs->dQ F' w' sh rows vs
 |[],_,h=>h
 |row::rows,vs,h=>by
  obtain⟨a,b,h1,h2,h3⟩:=h
  exact⟨a,b,h1,h2.mono hf,dQ.mono hf h3⟩
theorem fZ.mono {F F':Nat->Prop} {w w':World} {cells:Array Value} {off:Nat} {sh:List az} {rows:List (List Int)} (h:fZ F w cells off sh rows) (hf:Fr F w F' w'):fZ F' w' cells off sh rows:=by
 obtain⟨h1,pre,vs,post,h2,h3,h4⟩:=h
 exact⟨h1,pre,vs,post,h2,h3,h4.mono hf⟩
theorem dB.len {F:Nat->Prop} {w:World}:∀{sh:List az} {row:List Int} {vs:List Value},dB F w sh row vs->vs.length=sh.length
 |[],[],[],_=>rfl
 |c::sh,z::r,v::vs,h=>by simp[dB.len h.2]
 |[],_::_,_,h=>h.elim
 |[],[],_::_,h=>h.elim
 |_::_,[],_,h=>h.elim
 |_::_,_::_,[],h=>h.elim
theorem dQ.len {F:Nat->Prop} {w:World} {sh:List az}:∀{rows:List (List Int)} {vs:List Value},dQ F w sh rows vs->vs.length=rows.length*sh.length
 |[],vs,h=>by
  have h:vs=[]:=h
  simp[h]
 |row::rows,vs,h=>by
  obtain⟨a,b,rfl,h2,h3⟩:=h
  have h4:=h2.len
  have h5:=dQ.len h3
  rw[List.length_append,h4,h5,List.length_cons,Nat.succ_mul,Nat.add_comm]
theorem xk {F:Nat->Prop} {w:World}:∀{sh:List az} {row:List Int} {vs:List Value},fJ sh=true->bn sh row->(dB F w sh row vs↔vs=cz sh row)
 |[],[],[],_,_=>⟨λ_=>rfl,λ_=>trivial⟩
 |[],[],_::_,_,_=>⟨λh=>h.elim,λh=>by cases h⟩
 |c::sh,z::r,[],_,_=>⟨λh=>h.elim,λh=>by cases h⟩
 |c::sh,z::r,v::vs,hp,hr=>by
  have hp:(c.plain&&sh.all az.plain)=true:=hp
  simp only[Bool.and_eq_true]at hp
  have ih:=xk (F:=F) (w:=w) (vs:=vs) hp.2 hr.2
  have hc:n5 F w c z v↔v=c.val z:=by
   cases c with
   |sub k=>cases hp.1
   |_=>exact Iff.rfl
  simp only[dB,cz,List.cons.injEq,hc,ih]
 |[],_::_,_,_,h=>h.elim
 |_::_,[],_,_,h=>h.elim
theorem zV {F:Nat->Prop} {w:World} {sh:List az} (hp:fJ sh=true):∀{rows:List (List Int)} {vs:List Value},(∀row∈rows,bn sh row)->(dQ F w sh rows vs↔vs=cf sh rows)
 |[],vs,_=>by simp[dQ,cf]
 |row::rows,vs,h=>by
  have ih:=λb=>zV (F:=F) (w:=w) hp (vs:=b) λr hr=>h r (List.mem_cons_of_mem _ hr)
  have h0:=h row (by simp)
  refine⟨λ⟨a,b,h1,h2,h3⟩=>?_,λh1=>⟨cz sh row,cf sh rows,by rw[h1];rfl,(xk hp h0).2 rfl,(ih _).2 rfl⟩⟩
  rw[h1,(xk hp h0).1 h2,(ih b).1 h3];rfl
theorem jr {F:Nat->Prop} {w:World} {cells:Array Value} {off:Nat} {sh:List az} {rows:List (List Int)} (hp:fJ sh=true):fZ F w cells off sh rows↔kv cells off sh rows:=
 ⟨λ⟨h1,pre,vs,post,h2,h3,h4⟩=>⟨h1,pre,post,by rw[h2,(zV hp h1).1 h4],h3⟩,λ⟨h1,pre,post,h2,h3⟩=>⟨h1,pre,cf sh rows,post,h2,h3,(zV hp h1).2 rfl⟩⟩
theorem dB.get {F:Nat->Prop} {w:World}:∀{sh:List az} {row:List Int} {vs:List Value} {j:Nat} {c:az},dB F w sh row vs->sh[j]?=some c->∃z v,row[j]?=some z/\vs[j]?=some v/\n5 F w c z v
 |c'::sh,z::r,v::vs,0,c,h,hc=>by
  simp only[List.getElem?_cons_zero,Option.some.injEq]at hc
  subst hc
  exact⟨z,v,rfl,rfl,h.1⟩
 |c'::sh,z::r,v::vs,j+1,c,h,hc=>dB.get (sh:=sh) (row:=r) (vs:=vs) (j:=j) h.2 (by simpa using hc)
 |[],_,_,_,_,_,hc=>by simp at hc
 |_::_,[],_,_,_,h,_=>h.elim
 |_::_,_::_,[],_,_,h,_=>h.elim
theorem dQ.get {F:Nat->Prop} {w:World} {sh:List az}:∀{rows:List (List Int)} {vs:List Value} {i:Nat} {row:List Int},dQ F w sh rows vs->rows[i]?=some row->dB F w sh row ((vs.drop (i*sh.length)).take sh.length)
 |r::rs,vs,0,row,h,hi=>by
  simp only[List.getElem?_cons_zero,Option.some.injEq]at hi
  subst hi
  obtain⟨a,b,rfl,h2,h3⟩:=h
  rw[Nat.zero_mul,List.drop_zero,<-h2.len,List.take_left]
  exact h2
 |r::rs,vs,i+1,row,h,hi=>by
  obtain⟨a,b,rfl,h2,h3⟩:=h
  have ih:=dQ.get (i:=i) h3 (by simpa using hi)
  rw[Nat.succ_mul,Nat.add_comm,<-List.drop_drop,<-h2.len,List.drop_left,h2.len]
  exact ih
 |[],_,_,_,_,hi=>by simp at hi
theorem qg {F:Nat->Prop} {w:World} {sh:List az}:∀{r1 r2:List (List Int)} {v1 v2:List Value},dQ F w sh r1 v1->dQ F w sh r2 v2->dQ F w sh (r1++r2) (v1++v2)
 |[],r2,v1,v2,h1,h2=>by
  have h1:v1=[]:=h1
  subst h1;exact h2
 |r::r1,r2,v1,v2,h1,h2=>by
  obtain⟨a,b,rfl,k1,k2⟩:=h1
  exact⟨a,b++v2,by simp,k1,qg k2 h2⟩
theorem dQ.split {F:Nat->Prop} {w:World} {sh:List az}:∀{rows:List (List Int)} {vs:List Value} (k:Nat),dQ F w sh rows vs->dQ F w sh (rows.take k) (vs.take (k*sh.length))/\dQ F w sh (rows.drop k) (vs.drop (k*sh.length))
 |rows,vs,0,h=>by simpa [dQ]using h
 |[],vs,k+1,h=>by
  have h:vs=[]:=h
  subst h
  simp[dQ]
 |r::rs,vs,k+1,h=>by
  obtain⟨a,b,rfl,h2,h3⟩:=h
  obtain⟨k1,k2⟩:=h3.split k
  have e:=h2.len
  have e2:(k+1)*sh.length=a.length+k*sh.length:=by rw[Nat.succ_mul,e,Nat.add_comm]
  rw[e2,List.take_length_add_append,List.drop_length_add_append]
  exact⟨⟨a,_,rfl,h2,k1⟩,k2⟩
def nU (kind:Nat) (fz:Nat×Nat) (n:Nat):Prop:=(kind=2/\fz=(0,0))∨(kind≠2/\fz=(n,n+1))
theorem nU.two {fz:Nat×Nat} {n:Nat} (h:nU 2 fz n):fz=(0,0):=by
 rcases h with h|h
 ·exact h.2
 ·exact absurd rfl h.1
theorem nU.wW {n:Nat}:nU 2 (0,0) n:= .inl ⟨rfl,rfl⟩
def fE (w0:cR) (ρ:Env) (F:Nat->Prop) (g:Nat) (sh:List az) (off code cap:J) (kind:Nat) (t:TypeId) (w:World):Prop:=
 kind≠0->(cap.den ρ<0->ae (code.den ρ)=[])/\(0<=cap.den ρ->(w0.ex g∨w0.ro g∨w0.r.heap.size<=g)/\∃cells t' fz,w.heap[g]?=some (.cells cells t' fz)/\(0<=off.den ρ/\fZ F w cells (off.den ρ).toNat sh (ae (code.den ρ)))/\
  (2<=kind->t'=t/\off.den ρ=0/\nU kind fz cells.size/\cells.size=(cap.den ρ).toNat*sh.length/\w0.b.heap.size<=g/\(w0.ex g∨w0.r.heap.size<=g)))
def bD (w0:cR) (ρ:Env) (m:Nat->Nat) (bl:List ax) (g:Nat):Prop:=
 (w0.ex g∨w0.ro g∨w0.r.heap.size<=g)/\∀(i:Nat) (p:ax),bl[i]?=some p->2<=a6 ρ p.1->m i≠g
structure Mem (w0:cR) (ρ:Env) (m:Nat->Nat) (bl:List ax) (w:World):Prop where
 ext:w0.b.Extends w
 gP:w.os=w0.r.os
 kj:w.tape=w0.r.tape
 kh:w.output=w0.r.output
 fG:w0.r.heap.size<=w.heap.size
 kc:∀i:Nat,i<w0.r.heap.size->¬w0.ex i->w.heap[i]?=w0.r.heap[i]?
 ef:∀(i:Nat) (cs:List A) (t:TypeId×Bool),bl[i]?=some (cs,t)->bO cs=true->w0.b.heap.size<=m i/\(w0.ex (m i)∨w0.r.heap.size<=m i)/\∃r:List Value,(t.2=false->r=[])/\w.heap[m i]?=some (.cells (cs.map (A.den ρ m)++r).toArray t.1 (0,0))
 rws:∀(i:Nat) (sh:List az) (off code cap:J) (kind:Nat) (t:TypeId×Bool),bl[i]?=some ([.rows sh off code cap kind],t)->fE w0 ρ (bD w0 ρ m bl) (m i) sh off code cap kind t.1 w
 inj:∀(i j:Nat) (p q:ax),bl[i]?=some p->bl[j]?=some q->m i=m j->i=j∨(a6 ρ p.1<=1/\a6 ρ q.1<=1)∨a6 ρ p.1=0∨a6 ρ q.1=0
theorem Mem.lt {w0:cR} {ρ:Env} {m:Nat->Nat} {bl:List ax} {w:World} (h:Mem w0 ρ m bl w) {i:Nat} {p:ax} (hi:bl[i]?=some p) (hk:a6 ρ p.1≠0):m i<w.heap.size:=by
 obtain⟨cs,t⟩:=p
 by_cases ho:bO cs=true
 ·obtain⟨_,_,r,_,h2⟩:=h.ef i cs t hi ho
  exact(Array.getElem?_eq_some_iff.1 h2).1
 ·unfold bO at ho
  split at ho
  ·rename_i sh off code cap k
   simp only[a6]at hk
   split at hk
   ·exact absurd rfl hk
   ·rename_i bW
    obtain⟨_,cells,t',fz,h2,_⟩:=(h.rws i _ _ _ _ _ t hi hk).2 (by omega)
    exact(Array.getElem?_eq_some_iff.1 h2).1
  ·exact absurd rfl ho
theorem jT {ρ:Env} {cs:List A} (h:bO cs=true):a6 ρ cs=2:=by
 unfold bO at h
 unfold a6
 split<;>simp_all
def bQ (n nb:Nat) (ρ:Env) (bl:List ax):Prop:=∀p∈bl,∀a∈p.1,A.ok n nb ρ a
def fv (gl:dt) (w0:cR):Prop:=∀g cs,(g,cs)∈gl->g<w0.b.heap.size/\∃t ob,w0.b.heap[g]?=some (.cells (cs.map λp=>Value.int p.1 p.2).toArray t ob)
theorem bQ.ext {n n' nb gj:Nat} {ρ ag:Env} {bl:List ax} (h:bQ n nb ρ bl) (ha:agree n ρ ag) (hn:n<=n') (hb:nb<=gj):bQ n' gj ag bl:=
 λp hp a h'=>(h p hp a h').ext ha hn hb
theorem fE.dA {w0:cR} {n nb:Nat} {ρ ag:Env} {F:Nat->Prop} {g:Nat} {sh:List az} {off code cap:J} {kind:Nat} {t:TypeId} {w:World} (h:fE w0 ρ F g sh off code cap kind t w) (a8:(A.rows sh off code cap kind).ok n nb ρ) (ha:agree n ρ ag):fE w0 ag F g sh off code cap kind t w:=by
 unfold fE at*
 rw[J.bj ha a8.1.1,J.bj ha a8.1.2.1,J.bj ha a8.1.2.2]
 exact h
theorem fE.grow {w0:cR} {ρ:Env} {F F':Nat->Prop} {g:Nat} {sh:List az} {off code cap:J} {kind:Nat} {t:TypeId} {w w':World} (h:fE w0 ρ F g sh off code cap kind t w) (hf:Fr F w F' w') (he:kind≠0->0<=cap.den ρ->w'.heap[g]?=w.heap[g]?):fE w0 ρ F' g sh off code cap kind t w':=by
 intro hk
 obtain⟨h1,h2⟩:=h hk
 refine⟨h1,λhc=>?_⟩
 rw[he hk hc]
 obtain⟨h3,cells,t',fz,h4,⟨h5,h6⟩,h7⟩:=h2 hc
 exact⟨h3,cells,t',fz,h4,⟨h5,h6.mono hf⟩,h7⟩
theorem fE.mono {w0:cR} {ρ:Env} {F F':Nat->Prop} {g:Nat} {sh:List az} {off code cap:J} {kind:Nat} {t:TypeId} {w:World} (h:fE w0 ρ F g sh off code cap kind t w) (hf:∀g,F g->F' g):fE w0 ρ F' g sh off code cap kind t w:=
 h.grow (Fr.of w hf) λ_ _=>rfl
theorem bD.mono {w0:cR} {ρ ag:Env} {m m':Nat->Nat} {bl aW:List ax} (h:∀(i:Nat) (p:ax),aW[i]?=some p->2<=a6 ag p.1->∃j q,bl[j]?=some q/\2<=a6 ρ q.1/\m j=m' i):∀g,bD w0 ρ m bl g->bD w0 ag m' aW g:=λg ⟨h1,h2⟩=>⟨h1,λi p hi hk=>by
 obtain⟨j,q,hj,hq,he⟩:=h i p hi hk
 rw[<-he];exact h2 j q hj hq⟩
theorem jC {n nb:Nat} {ρ ag:Env} {cs:List A} (a8:∀a∈cs,A.ok n nb ρ a) (ha:agree n ρ ag):a6 ag cs=a6 ρ cs:=by
 unfold a6
 split
 ·rename_i sh off code cap k
  have h1:A.ok n nb ρ (.rows sh off code cap k):=a8 _ (by simp)
  rw[J.bj ha h1.1.2.2]
 ·rfl
theorem agree.sym {n:Nat} {ρ ag:Env} (h:agree n ρ ag):agree n ag ρ:=λi hi=>(h i hi).symm
theorem Mem.dA {w0:cR} {n:Nat} {ρ ag:Env} {m:Nat->Nat} {bl:List ax} {w:World} (h:Mem w0 ρ m bl w) (hb:bQ n bl.length ρ bl) (ha:agree n ρ ag):Mem w0 ag m bl w:=
 ⟨h.ext,h.gP,h.kj,h.kh,h.fG,h.kc,λi cs t hi ho=>by
  obtain⟨h1,h2,r,hr,h3⟩:=h.ef i cs t hi ho
  exact⟨h1,h2,r,hr,by rw[kM (hb _ (List.mem_of_getElem? hi)) ha (λ_ _=>rfl)];exact h3⟩,
  λi sh off code cap kind t hi=>((h.rws i sh off code cap kind t hi).dA (hb _ (List.mem_of_getElem? hi) _ (by simp)) ha).mono (bD.mono λi p hi hk=>⟨i,p,hi,by rw[jC (hb _ (List.mem_of_getElem? hi)) ha]at hk;exact hk,rfl⟩),λi j p q hi hj he=>by
   rw[jC (hb _ (List.mem_of_getElem? hi)) ha,jC (hb _ (List.mem_of_getElem? hj)) ha]
   exact h.inj i j p q hi hj he⟩
theorem gi {ρ:Env} {sh:List az} {off code cap:J} {k:Nat} (hk:k≠0) (hc:0<=cap.den ρ):a6 ρ [.rows sh off code cap k]=k:=by
 simp only[a6]
 rw[if_neg (by omega)]
theorem Mem.grow {w0:cR} {ρ:Env} {m:Nat->Nat} {bl:List ax} {w w':World} (h:Mem w0 ρ m bl w) (he:w.Extends w'):Mem w0 ρ m bl w':=
 ⟨h.ext.trans he,he.os.trans h.gP,he.tape.trans h.kj,he.output.trans h.kh,Nat.le_trans h.fG he.size,λi hi hx=>(he.block i (Nat.lt_of_lt_of_le hi h.fG)).trans (h.kc i hi hx),λi cs t hi ho=>by
  obtain⟨h1,h2,r,hr,h3⟩:=h.ef i cs t hi ho
  exact⟨h1,h2,r,hr,by rw[he.block _ (h.lt hi (by rw[jT ho];decide))];exact h3⟩,λi sh off code cap kind t hi=>(h.rws i sh off code cap kind t hi).grow (Fr.ext (λ_ h=>h) he) λhk hc=>he.block _ (h.lt hi (by simp only[gi hk hc];exact hk)),h.inj⟩
theorem Mem.ne {w0:cR} {ρ:Env} {m:Nat->Nat} {bl:List ax} {w:World} (h:Mem w0 ρ m bl w) {i j:Nat} {p q:ax} (hi:bl[i]?=some p) (hj:bl[j]?=some q) (hp:2<=a6 ρ p.1) (hq:a6 ρ q.1≠0) (hne:i≠j):m i≠m j:=λe=>by
 rcases h.inj i j p q hi hj e with h|h|h|h
 ·exact hne h
 ·omega
 ·omega
 ·exact hq h
def cI (n nb:Nat) (ρ:Env) (m:Nat->Nat) (tm:List V) (tmps:Array Value):Prop:=
 tm.length=tmps.size/\∀(i:Nat) (v:V),tm[i]?=some v->v.ok n nb ρ/\∃x,tmps[i]?=some x/\v.rel ρ m x
theorem cI.ext {n n' nb gj:Nat} {ρ ag:Env} {m m':Nat->Nat} {tm:List V} {tmps:Array Value} (h:cI n nb ρ m tm tmps) (ha:agree n ρ ag) (hn:n<=n') (hb:nb<=gj) (hm:∀b,b<nb->m' b=m b):cI n' gj ag m' tm tmps:=
 ⟨h.1,λi v hv=>by obtain⟨h1,x,h2,h3⟩:=h.2 i v hv;exact⟨h1.ext ha hn hb,x,h2,h3.ext h1 ha hm⟩⟩
def mT:List V->Nat->V->List V
 |[],_,_=>[]
 |_::r,0,v=>v::r
 |x::r,i+1,v=>x::mT r i v
theorem EV:∀(l:List V) (i:Nat) (v:V),mT l i v=l.set i v
 |[],_,_=>rfl
 |_::_,0,_=>rfl
 |_::r,i+1,v=>by simp[mT,EV r i v]
def dr (tm:List V) (d:Option Tmp) (v:V):List V:=match d with|some d=>mT tm d v|none=>tm
theorem cI.put {n nb:Nat} {ρ:Env} {m:Nat->Nat} {tm:List V} {a:Act} {v:V} {x:Value} (h:cI n nb ρ m tm a.tmps) (d:Option Tmp) (hv:v.ok n nb ρ) (hx:v.rel ρ m x):cI n nb ρ m (dr tm d v) (a.put d x).tmps:=by
 cases d with
 |none=>exact h
 |some d=>
  simp only[dr,Act.put,EV]
  refine⟨by simp[h.1],λi u hu=>?_⟩
  rw[List.getElem?_set]at hu
  by_cases hd:d=i
  ·subst hd
   simp only[if_true]at hu
   split at hu
   ·rename_i hlt
    simp only[Option.some.injEq]at hu
    subst hu
    exact⟨hv,x,by simp[<-h.1,hlt],hx⟩
   ·cases hu
  ·rw[if_neg hd]at hu
   obtain⟨h1,y,h2,h3⟩:=h.2 i u hu
   exact⟨h1,y,by rw[Array.getElem?_setIfInBounds_ne (by omega)];exact h2,h3⟩
def s5:Value->Option A
 | .int k n=>some (.int k (.const n))
 | .bool b=>some (.bool (.lit b))
 | .string s=>cond (Nat.ble s.size 1000000) (some (.str (.const (eI s.data.toList)))) none
 |v=>cond v.oneCell' (some (.con v)) none
theorem Hq {v:Value} {a:A} (h:s5 v=some a) (n nb:Nat) (ρ:Env) (m:Nat->Nat):a.ok n nb ρ/\a.den ρ m=v:=by
 unfold s5 at h
 split at h
 ·simp only[Option.some.injEq]at h;subst h;exact⟨bh.iW _ _ _,by simp[A.den,bh.const,J.aS]⟩
 ·simp only[Option.some.injEq]at h;subst h;exact⟨trivial,rfl⟩
 ·rename_i s
  cases hc:Nat.ble s.size 1000000 with
  |false=>simp[hc]at h
  |true=>
   simp only[hc,cond_true,Option.some.injEq]at h
   subst h
   have hl:s.data.toList.length<=fs:=by
    have:=Nat.le_of_ble_eq_true hc
    have h2:s.data.toList.length=s.size:=by simp
    unfold fs;omega
   refine⟨⟨J.bU _ _,by rw[J.aS];exact lL _,by rw[J.aS];exact kY hl⟩,?_⟩
   simp[A.den,J.aS,gT,a7]
 ·cases hc:v.oneCell' with
  |false=>simp[hc]at h
  |true=>simp only[hc,cond_true,Option.some.injEq]at h;subst h;exact⟨hc,rfl⟩
def n6:List Value->Option (List A)
 |[]=>some []
 |v::r=>match s5 v,n6 r with|some a,some l=>some (a::l)|_,_=>none
theorem n7:∀{vs:List Value} {l:List A},n6 vs=some l->∀(n nb:Nat) (ρ:Env) (m:Nat->Nat),(∀a∈l,A.ok n nb ρ a)/\l.map (A.den ρ m)=vs
 |[],l,h,n,nb,ρ,m=>by simp[n6]at h;subst h;simp
 |v::r,l,h,n,nb,ρ,m=>by
  simp only[n6]at h
  cases h1:s5 v with
  |none=>simp[h1]at h
  |some a=>
   cases h2:n6 r with
   |none=>simp[h1,h2]at h
   |some bp=>
    simp only[h1,h2,Option.some.injEq]at h
    subst h
    have e1:=Hq h1 n nb ρ m
    have e2:=n7 h2 n nb ρ m
    exact⟨λa ha=>by rcases List.mem_cons.1 ha with rfl|ha;exact e1.1;exact e2.1 a ha,by simp[e1.2,e2.2]⟩
def yn:Value->V
 | .agg cs=>match n6 cs.toList with|some l=> .w (.agg l)|none=> .any
 | .tuple _=> .any
 |v=>match s5 v with|some a=> .w (.one a)|none=> .any
theorem OB (v:Value) (n nb:Nat) (ρ:Env) (m:Nat->Nat):(yn v).ok n nb ρ/\(yn v).rel ρ m v:=by
 unfold yn
 split
 ·rename_i cs
  cases h:n6 cs.toList with
  |none=>exact⟨trivial,trivial⟩
  |some l=>have e:=n7 h n nb ρ m;exact⟨e.1,by simp[V.rel,W.den,e.2]⟩
 ·exact⟨trivial,trivial⟩
 ·cases h:s5 v with
  |none=>exact⟨trivial,trivial⟩
  |some a=>have e:=Hq h n nb ρ m;exact⟨e.1,by simp[V.rel,W.den,e.2]⟩
def bq (tm:List V):Operand->V
 | .tmp t=>(tm[t]?).getD .any
 | .const v=>yn v
 | .global g=> .w (.one (.gptr g 0))
 | .func f=> .w (.one (.con (.func (.func f) #[] #[])))
theorem bJ {n nb:Nat} {ρ:Env} {m:Nat->Nat} {tm:List V} {a:Act} (h:cI n nb ρ m tm a.tmps) (x:Operand):(bq tm x).ok n nb ρ/\(bq tm x).rel ρ m (a.eval x):=by
 cases x with
 |tmp t=>
  simp only[bq,Act.eval]
  cases ht:tm[t]? with
  |none=>exact⟨trivial,trivial⟩
  |some v=>
   obtain⟨h1,y,h2,h3⟩:=h.2 t v ht
   exact⟨h1,by simp only[Option.getD_some];rw[show a.tmps.getD t undef=y by simp[h2]];exact h3⟩
 |const v=>exact OB v n nb ρ m
 |global g=>exact⟨trivial,rfl⟩
 |func f=>exact⟨rfl,rfl⟩
def e8 (P:Program) (t:TypeId):Option Bool:=
 match P.underlying t with|some (.struct _)=>some true|some (.array _ _)=>some true|some _=>some false|none=>none
def de (P:Program) (t:TypeId):Option Nat:=match P.info? t with|some i=>some i.size|none=>none
theorem jH {P:Program} {t:TypeId} {b:Bool} (h:e8 P t=some b) (w:World):(isAgg t).run P w= .ok b w:=by
 unfold e8 at h
 cases hu:P.underlying t with
 |none=>simp[hu]at h
 |some d=>cases d<;>simp[hu]at h<;>subst h<;>simp[isAgg,run_underlying hu]
theorem eS {P:Program} {t:TypeId} {k:Nat} (h:de P t=some k) (w:World):(sizeOf t).run P w= .ok k w:=by
 unfold de at h
 cases hi:P.info? t with
 |none=>simp[hi]at h
 |some i=>simp[hi]at h;subst h;simp[sizeOf,typeInfo,hi]
def s3 (bl:List ax) (gl:dt):A->Option (List A)
 | .ptr b off=>match bl[b]? with|some (cs,_)=>cond (bO cs) (some (cs.drop off)) none|none=>none
 | .gptr g off=>match gl.find? (λp=>Nat.beq p.1 g)with|some (_,cs)=>some ((cs.drop off).map λp=> .int p.1 (.const p.2))|none=>none
 |_=>none
theorem eZ (g o j:Nat):(⟨g,o,none⟩:Addr).add j=⟨g,o+j,none⟩:=by unfold Addr.add;split<;>simp_all
theorem Bv {w0:cR} {w:World} {n:Nat} {ρ:Env} {m:Nat->Nat} {bl:List ax} {gl:dt} {p:A} {cs:List A} (hm:Mem w0 ρ m bl w) (hb:bQ n bl.length ρ bl) (hg:fv gl w0) (h:s3 bl gl p=some cs):
 ∃g o,p.den ρ m= .pointer (some ⟨g,o,none⟩)/\(∀a∈cs,A.ok n bl.length ρ a)/\∀j a,cs[j]?=some a->w.cell? ⟨g,o+j,none⟩=some (a.den ρ m):=by
 unfold s3 at h
 split at h
 ·rename_i b off
  cases hbl:bl[b]? with
  |none=>simp[hbl]at h
  |some q=>
   obtain⟨C,t⟩:=q
   simp only[hbl]at h
   cases gf:bO C with
   |false=>simp[gf]at h
   |true=>
   simp only[gf,cond_true,Option.some.injEq]at h
   subst h
   obtain⟨h1,_,r,_,h2⟩:=hm.ef b C t hbl gf
   refine⟨m b,off,rfl,λa ha=>hb _ (List.mem_of_getElem? hbl) a (List.mem_of_mem_drop ha),λj a hj=>?_⟩
   rw[List.getElem?_drop]at hj
   have hlt:off+j<C.length:=(List.getElem?_eq_some_iff.1 hj).1
   simp only[World.cell?,h2,Option.isSome_none,Bool.false_eq_true,if_false,List.getElem?_toArray]
   rw[List.getElem?_append_left (by simpa using hlt),List.getElem?_map,hj];rfl
 ·rename_i g off
  cases hf:gl.find? (λp=>Nat.beq p.1 g)with
  |none=>simp[hf]at h
  |some q=>
   obtain⟨bA,C⟩:=q
   simp only[hf,Option.some.injEq]at h
   subst h
   have gM:bA=g:=by have:=List.find?_some hf;exact Nat.eq_of_beq_eq_true this
   subst gM
   obtain⟨h1,t,ob,h2⟩:=hg bA C (List.mem_of_find?_eq_some hf)
   refine⟨bA,off,rfl,λa ha=>?_,λj a hj=>?_⟩
   ·obtain⟨p,_,rfl⟩:=List.mem_map.1 ha;exact bh.iW _ _ _
   ·rw[List.getElem?_map,List.getElem?_drop]at hj
    cases hq:C[off+j]? with
    |none=>simp[hq]at hj
    |some q=>
     simp only[hq,Option.map_some,Option.some.injEq]at hj
     subst hj
     have:=hm.ext.cell ⟨bA,off+j,none⟩ h1
     rw[this]
     simp[World.cell?,h2,hq,A.den,bh.const,J.aS]
 ·cases h
def DU (P:Program) (bl:List ax) (gl:dt) (ty:TypeId) (p:A):M V:=
 match s3 bl gl p,e8 P ty,de P ty with
 |some cs,some true,some k=>cond (Nat.ble k cs.length) (pure (.w (.agg (cs.take k)))) fail
 |some (a::_),some false,_=>pure (.w (.one a))
 |_,_,_=>fail
section
variable {S:Nat->List Int->List Int->Prop} {L:V->Env->Prop} {n:Nat} {ρ:Env} {m:Nat->Nat} {bl:List ax} {gl:dt} {w0:cR} {P:Program}
def hh (w0:cR) (m:Nat->Nat) (bl:List ax) (n:Nat) (ρ:Env) (run:World->Result Value) (ag:Env) (n':Nat) (v:V):Prop:=
 v.ok n' bl.length ag/\∃val,v.rel ag m val/\∀w,Mem w0 ρ m bl w->run w= .ok val w
theorem TG (hb:bQ n bl.length ρ bl) (hg:fv gl w0) (hex:∃w,Mem w0 ρ m bl w) (ty:TypeId) (p:A):ar S L (DU P bl gl ty p) n ρ (hh w0 m bl n ρ λw=>(Instr.loadAt ty (p.den ρ m)).run P w):=by
 obtain⟨nR,hx⟩:=hex
 unfold DU
 cases hc:s3 bl gl p with
 |none=>exact ar.fail
 |some cs=>
  obtain⟨g,o,hp,a8,_⟩:=Bv hx hb hg hc
  have hcell:∀w,Mem w0 ρ m bl w->∀j a,cs[j]?=some a->w.cell? ⟨g,o+j,none⟩=some (a.den ρ m):=λw hw=>by
   obtain⟨bA,br,pL,_,h'⟩:=Bv hw hb hg hc
   rw[hp]at pL
   simp only[Value.pointer.injEq,Option.some.injEq,Addr.mk.injEq,and_true]at pL
   obtain⟨rfl,rfl⟩:=pL
   exact h'
  cases ha:e8 P ty with
  |none=>exact ar.fail
  |some b=>
   cases b with
   |true=>
    cases hs:de P ty with
    |none=>exact ar.fail
    |some k=>
     refine cH λhk=>ar.pure ⟨λa h=>a8 a (List.mem_of_mem_take h),_,rfl,λw hw=>?_⟩
     have hk:k<=cs.length:=Nat.le_of_ble_eq_true hk
     have hl:=run_loadCells_list (P:=P) w ⟨g,o,none⟩ ((cs.take k).map (A.den ρ m)) λj v hj=>by
      rw[eZ]
      rw[List.getElem?_map]at hj
      cases hq:(cs.take k)[j]? with
      |none=>simp[hq]at hj
      |some a=>
       simp only[hq,Option.map_some,Option.some.injEq]at hj
       subst hj
       refine hcell w hw j a ?_
       rw[List.getElem?_take]at hq
       split at hq
       ·exact hq
       ·cases hq
     simp only[List.length_map,List.length_take,Nat.min_eq_left hk]at hl
     simp[Instr.loadAt,Instr.sureAddr,hp,loadVar,jH ha,eS hs,hl,W.den]
   |false=>
    cases cs with
    |nil=>exact ar.fail
    |cons a r=>
     refine ar.pure ⟨a8 a (by simp),_,rfl,λw hw=>?_⟩
     have:=hcell w hw 0 a rfl
     simp only[Nat.add_zero]at this
     simp[Instr.loadAt,Instr.sureAddr,hp,loadVar,jH ha,this,W.den]
def jA (k:IntKind):List A->Option (List bh)
 |[]=>some []
 | .int aZ x::r=>cond (decide (k=aZ)) (match jA k r with|some l=>some (x::l)|none=>none) none
 |_::_=>none
theorem J4 {k:IntKind}:∀{cs:List A} {l:List bh},jA k cs=some l->cs=l.map (.int k)
 |[],l,h=>by simp[jA]at h;subst h;rfl
 | .int aZ x::r,l,h=>by
  simp only[jA]at h
  by_cases hk:k=aZ
  ·subst hk
   simp only[decide_true,cond_true]at h
   cases h1:jA k r with
   |none=>simp[h1]at h
   |some bp=>simp only[h1,Option.some.injEq]at h;subst h;simp[J4 h1]
  ·simp[hk]at h
 | .bool _::_,_,h=>by simp[jA]at h
 | .ptr .. ::_,_,h=>by simp[jA]at h
 | .iQ .. ::_,_,h=>by simp[jA]at h
 | .gptr .. ::_,_,h=>by simp[jA]at h
 | .slc .. ::_,_,h=>by simp[jA]at h
 | .con _::_,_,h=>by simp[jA]at h
 | .str _::_,_,h=>by simp[jA]at h
 | .rows .. ::_,_,h=>by simp[jA]at h
 | .sl .. ::_,_,h=>by simp[jA]at h
 | .ep .. ::_,_,h=>by simp[jA]at h
def uq:List bh->Int
 |[]=>0
 |[x]=>x.lo
 |x::r=>min x.lo (uq r)
def uo:List bh->Int
 |[]=>0
 |[x]=>x.hi
 |x::r=>max x.hi (uo r)
theorem KG {n:Nat} {ρ:Env}:∀{l:List bh},(∀x∈l,x.ok n ρ)->∀x∈l,uq l<=x.l.den ρ/\x.l.den ρ<=uo l
 |[],_,x,hx=>by simp at hx
 |[y],h,x,hx=>by
  simp at hx;subst hx
  have:=(h x (by simp)).2
  exact this
 |y::z::r,h,x,hx=>by
  have ih:=KG (l:=z::r) (λx hx=>h x (List.mem_cons_of_mem _ hx))
  simp only[uq,uo]
  rcases List.mem_cons.1 hx with rfl|hx
  ·have:=(h x (by simp)).2;omega
  ·have:=ih x hx;omega
def kindOf (P:Program) (ty:TypeId):Option IntKind:=match P.underlying ty with|some (.int k)=>some k|_=>none
def nD:List Int->Int
 |[]=>0
 |[x]=>x
 |x::r=>cond (decide (x<=nD r)) x (nD r)
def nC:List Int->Int
 |[]=>0
 |[x]=>x
 |x::r=>cond (decide (nC r<=x)) x (nC r)
theorem KH:∀(l:List Int),∀z∈l,nD l<=z/\z<=nC l
 |[],_,h=>by cases h
 |[x],z,h=>by simp at h;subst h;simp[nD,nC]
 |x::y::r,z,h=>by
  unfold nD nC
  have ih:=KH (y::r)
  rcases List.mem_cons.1 h with rfl|h
  ·refine⟨?_,?_⟩
   ·cases hc:decide (z<=nD (y::r))with
    |true=>simp
    |false=>simp at hc⊢;omega
   ·cases hc:decide (nC (y::r)<=z)with
    |true=>simp
    |false=>simp at hc⊢;omega
  ·have:=ih z h
   refine⟨?_,?_⟩
   ·cases hc:decide (x<=nD (y::r))with
    |true=>simp at hc⊢;omega
    |false=>simp;exact this.1
   ·cases hc:decide (nC (y::r)<=x)with
    |true=>simp at hc⊢;omega
    |false=>simp;exact this.2
def EU (P:Program) (bl:List ax) (ty:TypeId) (b off:Nat) (aR:bh):M V:=λn c=>
 match bl[b]?,kindOf P ty with
 |some (cs,_),some k=>match jA k ((cs.drop off).take (aR.hi.toNat+1))with
  |some l=>cond (Nat.beq l.length (aR.hi.toNat+1)&&decide (0<=aR.lo)&&bO cs) (.sel n (l.map (·.l)) aR.l (uq l) (uo l) (c (.w (.one (.int k ⟨.var n,uq l,uo l⟩))) (n+1))) .stuck
  |none=> .stuck
 |_,_=> .stuck
theorem Xp (hb:bQ n bl.length ρ bl) (ty:TypeId) (b off:Nat) {aR:bh} (v8:aR.ok n ρ):ar S L (EU P bl ty b off aR) n ρ (hh w0 m bl n ρ λw=>(Instr.loadAt ty ((A.iQ b off aR).den ρ m)).run P w):=by
 intro MT c hk
 unfold EU at hk
 cases hbl:bl[b]? with
 |none=>simp[hbl,T.holds]at hk
 |some q=>
  obtain⟨cs,t⟩:=q
  cases fg:kindOf P ty with
  |none=>simp[hbl,fg,T.holds]at hk
  |some k=>
   cases hi:jA k ((cs.drop off).take (aR.hi.toNat+1))with
   |none=>simp[hbl,fg,hi,T.holds]at hk
   |some l=>
    cases hc:(Nat.beq l.length (aR.hi.toNat+1)&&decide (0<=aR.lo)&&bO cs)with
    |false=>simp[hbl,fg,hi,hc,T.holds]at hk
    |true=>
     simp only[hbl,fg,hi,hc,cond_true,T.holds]at hk
     simp only[Bool.and_eq_true,decide_eq_true_eq]at hc
     obtain⟨hc,hq⟩:=hc
     have hlen:=Nat.eq_of_beq_eq_true hc.1
     have e:=J4 hi
     have sW:=v8.2
     have hlt:(aR.l.den ρ).toNat<l.length:=by omega
     have RA:∀x∈l,x.ok n ρ:=λx hx=>by
      have:A.int k x∈(cs.drop off).take (aR.hi.toNat+1):=by rw[e];exact List.mem_map_of_mem hx
      exact hb _ (List.mem_of_getElem? hbl) _ (List.mem_of_mem_drop (List.mem_of_mem_take this))
     have hz:((l.map (·.l)).map (·.den ρ)).getD (aR.l.den ρ).toNat 0=(l[(aR.l.den ρ).toNat]).l.den ρ:=by
      simp[List.getD,hlt]
     have kg:=KG RA _ (List.getElem_mem hlt)
     refine⟨_,n+1,_,Nat.le_succ _,agree.cl _ _ _,(show hh w0 m bl n ρ _ (cl ρ n (((l.map (·.l)).map (·.den ρ)).getD (aR.l.den ρ).toNat 0)) (n+1) (.w (.one (.int k ⟨.var n,uq l,uo l⟩))) from⟨⟨J.da (Nat.lt_succ_self n),?_,?_⟩,_,rfl,?_⟩),hk _ (by rw[hz];exact kg.1) (by rw[hz];exact kg.2) rfl⟩
     ·simp only[J.bH,fu,hz];exact kg.1
     ·simp only[J.bH,fu,hz];exact kg.2
     ·intro w hw
      obtain⟨_,_,r,_,h2⟩:=hw.ef b cs t hbl hq
      have hu:e8 P ty=some false:=by
       unfold kindOf at fg
       unfold e8
       cases hq:P.underlying ty with
       |none=>simp[hq]at fg
       |some d=>cases d<;>simp[hq]at fg<;>rfl
      have hcs:cs[off+(aR.l.den ρ).toNat]?=some (.int k (l[(aR.l.den ρ).toNat])):=by
       have h3:((cs.drop off).take (aR.hi.toNat+1))[(aR.l.den ρ).toNat]?=some (.int k (l[(aR.l.den ρ).toNat])):=by rw[e];simp[hlt]
       rw[List.getElem?_take,if_pos (by omega),List.getElem?_drop]at h3
       exact h3
      have hcell:w.cell? ⟨m b,off+(aR.l.den ρ).toNat,none⟩=some (.int k ((l[(aR.l.den ρ).toNat]).l.den ρ)):=by
       have we:off+(aR.l.den ρ).toNat<cs.length:=(List.getElem?_eq_some_iff.1 hcs).1
       simp only[World.cell?,h2,Option.isSome_none,Bool.false_eq_true,if_false,List.getElem?_toArray]
       rw[List.getElem?_append_left (by simpa using we),List.getElem?_map,hcs];rfl
      simp only[W.den,A.den,J.bH,fu,hz];simp[Instr.loadAt,Instr.sureAddr,loadVar,jH hu,hcell]
def ET (P:Program) (gl:dt) (ty:TypeId) (g off:Nat) (aR:bh):M V:=λn c=>
 match gl.find? (λp=>Nat.beq p.1 g),kindOf P ty with
 |some (_,cs),some k=>cond (((cs.drop off).take (aR.hi.toNat+1)).all (λp=>decide (p.1=k))&&Nat.beq ((cs.drop off).take (aR.hi.toNat+1)).length (aR.hi.toNat+1)&&decide (0<=aR.lo))
  (.sel n (((cs.drop off).take (aR.hi.toNat+1)).map λp=> .const p.2) aR.l (nD (((cs.drop off).take (aR.hi.toNat+1)).map (·.2))) (nC (((cs.drop off).take (aR.hi.toNat+1)).map (·.2)))
    (c (.w (.one (.int k ⟨.var n,nD (((cs.drop off).take (aR.hi.toNat+1)).map (·.2)),nC (((cs.drop off).take (aR.hi.toNat+1)).map (·.2))⟩))) (n+1))) .stuck
 |_,_=> .stuck
theorem Xo (hg:fv gl w0) (ty:TypeId) (g off:Nat) {aR:bh} (v8:aR.ok n ρ):ar S L (ET P gl ty g off aR) n ρ (hh w0 m bl n ρ λw=>(Instr.loadAt ty ((A.tk g off aR).den ρ m)).run P w):=by
 intro MT c hk
 unfold ET at hk
 cases hf:gl.find? (λp=>Nat.beq p.1 g)with
 |none=>simp[hf,T.holds]at hk
 |some q=>
  obtain⟨bA,cs⟩:=q
  have gM:bA=g:=by have:=List.find?_some hf;exact Nat.eq_of_beq_eq_true this
  subst gM
  cases fg:kindOf P ty with
  |none=>simp[hf,fg,T.holds]at hk
  |some k=>
   simp only[hf,fg]at hk
   generalize hC:(cs.drop off).take (aR.hi.toNat+1)=C at hk
   cases hc:(C.all (λp=>decide (p.1=k))&&Nat.beq C.length (aR.hi.toNat+1)&&decide (0<=aR.lo))with
   |false=>simp[hc,T.holds]at hk
   |true=>
    simp only[hc,cond_true,T.holds]at hk
    simp only[Bool.and_eq_true,decide_eq_true_eq]at hc
    obtain⟨⟨c1,aU⟩,bL⟩:=hc
    have aU:=Nat.eq_of_beq_eq_true aU
    have sW:=v8.2
    have hlt:(aR.l.den ρ).toNat<C.length:=by omega
    have hz:((C.map λp=>J.const p.2).map (·.den ρ)).getD (aR.l.den ρ).toNat 0=(C[(aR.l.den ρ).toNat]).2:=by
     simp[List.getD,hlt,J.aS]
    have kg:=KH (C.map (·.2)) _ (List.mem_map_of_mem (List.getElem_mem hlt))
    refine⟨_,n+1,_,Nat.le_succ _,agree.cl _ _ _,(show hh w0 m bl n ρ _ (cl ρ n (((C.map λp=>J.const p.2).map (·.den ρ)).getD (aR.l.den ρ).toNat 0)) (n+1) (.w (.one (.int k ⟨.var n,nD (C.map (·.2)),nC (C.map (·.2))⟩))) from⟨⟨J.da (Nat.lt_succ_self n),?_,?_⟩,_,rfl,?_⟩),hk _ (by rw[hz];exact kg.1) (by rw[hz];exact kg.2) rfl⟩
    ·simp only[J.bH,fu,hz];exact kg.1
    ·simp only[J.bH,fu,hz];exact kg.2
    ·intro w hw
     have hu:e8 P ty=some false:=by
      unfold kindOf at fg
      unfold e8
      cases hq:P.underlying ty with
      |none=>simp[hq]at fg
      |some d=>cases d<;>simp[hq]at fg<;>rfl
     have dV:(C[(aR.l.den ρ).toNat]).1=k:=by simpa using List.all_eq_true.1 c1 _ (List.getElem_mem hlt)
     have hcs:cs[off+(aR.l.den ρ).toNat]?=some (C[(aR.l.den ρ).toNat]):=by
      have h3:C[(aR.l.den ρ).toNat]?=some (C[(aR.l.den ρ).toNat]):=List.getElem?_eq_getElem hlt
      have h4:C[(aR.l.den ρ).toNat]?=cs[off+(aR.l.den ρ).toNat]?:=by rw[<-hC,List.getElem?_take,if_pos (by omega),List.getElem?_drop]
      rw[<-h4,h3]
     obtain⟨QZ,t,ob,QA⟩:=hg bA cs (List.mem_of_find?_eq_some hf)
     have hcell:w.cell? ⟨bA,off+(aR.l.den ρ).toNat,none⟩=some (.int k (C[(aR.l.den ρ).toNat]).2):=by
      rw[hw.ext.cell _ QZ]
      simp only[World.cell?,QA,Option.isSome_none,Bool.false_eq_true,if_false,List.getElem?_toArray]
      rw[List.getElem?_map,hcs,Option.map_some,dV]
     simp only[W.den,A.den,J.bH,fu,hz];simp[Instr.loadAt,Instr.sureAddr,loadVar,jH hu,hcell]
end
end Go.bo
namespace Go.bo
open M
abbrev ey:=FuncId->Option (List ax->List V->M V)
def sK (P:Program) (o:Oper) (a:Act) (w:World) (val:Value):Prop:=
 (execOp a.eval o).run P w= .ok (.value val) w∨
 ∃f args,(execOp a.eval o).run P w= .ok (.enter f args) w/\Calls P f args w λe iC=>e= .returned val/\w.Extends iC
def sI (P:Program) (f:FuncId) (args:Array Value) (w:World) (val:Value):Prop:=
 (callFunc f args).run P w= .ok (.value val) w∨
 ((callFunc f args).run P w= .ok (.enter f args) w/\Calls P f args w λe iC=>e= .returned val/\w.Extends iC)
def dK (ρ:Env) (m:Nat->Nat):List V->List Value->Prop
 |[],[]=>True
 |v::r,x::s=>v.rel ρ m x/\dK ρ m r s
 |_,_=>False
def gD (S:Nat->List Int->List Int->Prop) (P:Program) (gl:dt) (w0:cR) (bd:ey):Prop:=
 ∀f g,bd f=some g->∀(L:V->Env->Prop) (n:Nat) (ρ:Env) (m:Nat->Nat) (bl:List ax) (vs:List V) (xs:List Value),bQ n bl.length ρ bl->(∃w,Mem w0 ρ m bl w)->(∀v∈vs,v.ok n bl.length ρ)->dK ρ m vs xs->
  ar S L (g bl vs) n ρ λag n' v=>v.ok n' bl.length ag/\∃val,v.rel ag m val/\∀w,Mem w0 ρ m bl w->sI P f xs.toArray w val
def vv (P:Program) (s:TypeId) (f:Nat):Option Field:=match P.underlying s with|some (.struct cJ)=>cJ[f]?|_=>none
def kz (P:Program) (t:TypeId):Option (Nat×TypeId):=match P.underlying t with|some (.array n e)=>some (n,e)|_=>none
def eT (P:Program) (t:TypeId):Option TypeId:=match P.underlying t with|some (.slice e)=>some e|_=>none
def w7 (P:Program) (t:TypeId) (l:List A) (off:Nat):M V:=
 match e8 P t,de P t with
 |some true,some k=>pure (.w (.agg ((l.drop off).take k)))
 |some false,_=>match l[off]? with|some a=>pure (.w (.one a))|none=>fail
 |_,_=>fail
def Dp (P:Program) (t:TypeId) (x:V) (aR:bh):M V:=
 match x with
 | .w (.one (.ptr b off))=>match kz P t with
  |some (len,e)=>match de P e with
   |some s=>match aR.l.cG with
    |some i=>cond (decide (0<=i)&&decide (i<len)) (pure (.w (.one (.ptr b (off+i.toNat*s))))) fail
    |none=>cond (Nat.beq s 1&&decide (0<=aR.lo)&&decide (aR.hi<len)) (pure (.w (.one (.iQ b off aR)))) fail
   |none=>fail
  |none=>fail
 | .w (.one (.gptr g off))=>match kz P t with
  |some (len,e)=>match de P e with
   |some s=>match aR.l.cG with
    |some i=>cond (decide (0<=i)&&decide (i<len)) (pure (.w (.one (.gptr g (off+i.toNat*s))))) fail
    |none=>cond (Nat.beq s 1) (bind (dh 74 [aR.l,.const len]) λ_=>pure (.w (.one (.tk g off ⟨aR.l,0,(len:Int)-1⟩)))) fail
   |none=>fail
  |none=>fail
 | .w (.one (.slc b off len _))=>match eT P t with
  |some e=>match de P e with
   |some s=>match aR.l.cG with
    |some i=>cond (decide (0<=i)&&decide (i<len)) (pure (.w (.one (.ptr b (off+i.toNat*s))))) fail
    |none=>cond (Nat.beq s 1&&decide (0<=aR.lo)&&decide (aR.hi<len)) (pure (.w (.one (.iQ b off aR)))) fail
   |none=>fail
  |none=>fail
 | .jE b len _=>match eT P t with
  |some e=>match de P e with
   |some s=>match aR.l.cG with
    |some i=>cond (decide (0<=i)&&decide (i<len)) (pure (.w (.one (.ptr b (i.toNat*s))))) fail
    |none=>fail
   |none=>fail
  |none=>fail
 |_=>fail
def oR:List V->Option (List A)
 |[]=>some []
 | .w (.one a)::r=>match oR r with|some l=>some (a::l)|none=>none
 |_::_=>none
def pq:List A->List A->Option aY
 |[],[]=>some (.lit true)
 | .int k x::r,.int aZ y::fh=>cond (decide (k=aZ)) (match pq r fh with|some b=>some (.mkAnd (.mkEq x y) b)|none=>none) none
 |_,_=>none
def BS (P:Program) (t:TypeId) (x y:List A):Option aY:=
 match kz P t with
 |some (len,e)=>match kindOf P e,de P e with
  |some _,some 1=>cond (Nat.beq x.length len&&Nat.beq y.length len&& !P.eqGuardType P.depth t) (pq x y) none
  |_,_=>none
 |none=>none
def te (P:Program):Nat->List Field->Bool
 |_,[]=>true
 |i,f::r=>(f.name != "_")&&Nat.beq f.offset i&&te P (i+1) r
noncomputable def ld (P:Program):List Field->List A->List A->M aY
 |[],[],[]=>pure (.lit true)
 |f::cJ,.int k a::xs,.int aZ b::eu=>match kindOf P f.type with
  |some k2=>cond (decide (k=aZ)) (bind (ld P cJ xs eu) λr=>pure (.mkAnd (.mkEq a b) r)) fail
  |none=>fail
 |f::cJ,.str a::xs,.str b::eu=>match P.underlying f.type with
  |some .string=>bind (cT 4 [a,b] 0 1) λl=>bind (ld P cJ xs eu) λr=>pure (.mkAnd (.mkEq ⟨l,0,1⟩ (.const 1)) r)
  |_=>fail
 |_,_,_=>fail
noncomputable def yw (P:Program) (g:TypeId->List A->List A->M aY):Nat->List Field->List A->List A->M aY
 |_,[],_,_=>pure (.lit true)
 |o,f::cJ,x,y=>match de P f.type with
  |some s=>cond ((f.name != "_")&&Nat.beq f.offset o) (bind (g f.type (x.take s) (y.take s)) λb=>bind (yw P g (o+s) cJ (x.drop s) (y.drop s)) λr=>pure (.mkAnd b r)) fail
  |none=>fail
noncomputable def s8 (P:Program):Nat->TypeId->List A->List A->M aY
 |0,_,_,_=>fail
 |d+1,t,x,y=>match P.underlying t with
  |some (.int k)=>match x,y with
   |[.int k1 a],[.int k2 b]=>cond (decide (k1=k2)) (pure (.mkEq a b)) fail
   |_,_=>fail
  |some .string=>match x,y with
   |[.str a],[.str b]=>bind (cT 4 [a,b] 0 1) λl=>pure (.mkEq ⟨l,0,1⟩ (.const 1))
   |_,_=>fail
  |some .bool=>match x,y with
   |[.bool a],[.bool b]=>pure (.mkIff a b)
   |_,_=>fail
  |some (.struct cJ)=>cond (!P.stoodInHeld t) (yw P (s8 P d) 0 cJ.toList x y) fail
  |_=>fail
noncomputable def yx (P:Program) (t:TypeId) (x y:List A):M aY:=
 match P.underlying t with
 |some (.struct cJ)=>cond (te P 0 cJ.toList&& !P.stoodInHeld t&& !P.eqGuardType P.depth t) (cond (cJ.toList.all λf=>match P.underlying f.type with|some (.int _)=>true|some .string=>true|_=>false) (ld P cJ.toList x y) (s8 P 8 t x y))
  (cond (!P.eqGuardType P.depth t) (s8 P 8 t x y) fail)
 |_=>fail
noncomputable def Fb (op:BinOp) (a b:J):M V:=
 match op with
 | .add=>bind (dh 3 [a,b]) λ_=>bind (cT 3 [a,b] 0 aD) λl=>pure (.w (.one (.str l)))
 | .eql=>bind (cT 4 [a,b] 0 1) λl=>pure (.w (.one (.bool (.mkEq ⟨l,0,1⟩ (.const 1)))))
 | .neq=>bind (cT 4 [a,b] 0 1) λl=>pure (.w (.one (.bool (.mkNot (.mkEq ⟨l,0,1⟩ (.const 1))))))
 | .lss=>bind (cT 5 [a,b] 0 1) λl=>pure (.w (.one (.bool (.mkEq ⟨l,0,1⟩ (.const 1)))))
 | .geq=>bind (cT 5 [a,b] 0 1) λl=>pure (.w (.one (.bool (.mkNot (.mkEq ⟨l,0,1⟩ (.const 1))))))
 | .gtr=>bind (cT 5 [b,a] 0 1) λl=>pure (.w (.one (.bool (.mkEq ⟨l,0,1⟩ (.const 1)))))
 |_=>fail
def Mm (s:J):M V:=bind (cT 0 [s] 0 9223372036854775807) λl=>pure (.w (.one (.int .i64 ⟨l,0,9223372036854775807⟩)))
def Ml (s i:J):M V:=bind (dh 1 [s,i]) λ_=>bind (cT 1 [s,i] 0 255) λl=>pure (.w (.one (.int .u8 ⟨l,0,255⟩)))
noncomputable def Ag (s a b:J):M V:=bind (dh 2 [s,a,b]) λ_=>bind (cT 2 [s,a,b] 0 aD) λl=>pure (.w (.one (.str l)))
def kn (v:V):Option J:=match v with| .w (.one (.int _ a))=>some a.l|_=>none
noncomputable def Fc (tm:List V) (s:J) (lo hi:Option Operand):M V:=
 match(match lo with|none=>some (J.const 0)|some x=>kn (bq tm x))with
 |none=>fail
 |some a=>match hi with
  |none=>bind (cT 0 [s] 0 9223372036854775807) λb=>Ag s a b
  |some y=>match kn (bq tm y)with
   |some b=>Ag s a b
   |none=>fail
noncomputable def GY (P:Program) (op:BinOp) (t:TypeId) (x y:V):M V:=
 match x,y with
 | .w (.one (.int k a)),.w (.one (.int aZ b))=>bind (Bg op k a aZ b) λr=>pure (.w (.one r))
 | .w (.agg a),.w (.agg b)=>match op,BS P t a b with
  | .eql,some e=>pure (.w (.one (.bool e)))
  | .neq,some e=>pure (.w (.one (.bool (.mkNot e))))
  | .eql,none=>bind (yx P t a b) λe=>pure (.w (.one (.bool e)))
  | .neq,none=>bind (yx P t a b) λe=>pure (.w (.one (.bool (.mkNot e))))
  |_,_=>fail
 | .w (.one (.str a)),.w (.one (.str b))=>Fb op a b
 | .w (.one (.bool a)),.w (.one (.bool b))=>match op,P.underlying t with
  | .eql,some .bool=>pure (.w (.one (.bool (.mkIff a b))))
  | .neq,some .bool=>pure (.w (.one (.bool (.mkNot (.mkIff a b)))))
  |_,_=>fail
 |_,_=>fail
def Mz (op:UnOp) (x:V):M V:=
 match op,x with
 | .not,.w (.one (.bool b))=>pure (.w (.one (.bool (.mkNot b))))
 | .xor,.w (.one (.int k a))=>cond (!k.signed&&decide (0<=a.lo)&&decide (a.hi<two k)) (pure (.w (.one (.int k ⟨(J.const (two k-1)).sub a.l,two k-1-a.hi,two k-1-a.lo⟩)))) fail
 | .neg,.w (.one (.int k a))=>bind (nQ k ⟨a.l.smul (-1),-a.hi,-a.lo⟩) λr=>pure (.w (.one (.int k r)))
 |_,_=>fail
def Hr (P:Program) (src dst:TypeId) (x:V):M V:=
 match P.underlying src,P.underlying dst,x with
 |some _,some .string,.w (.one (.int _ a))=>match a.l.cG with
  |some c=>cond (Nat.ble (Utf8.encode c).size 1000) (pure (.w (.one (.str (.const (eI (Utf8.encode c).data.toList)))))) fail
  |none=>fail
 |_,_,_=>match P.underlying src,kindOf P dst,x with
 |some _,some k,.w (.one (.int _ a))=>bind (nQ k a) λr=>pure (.w (.one (.int k r)))
 |_,_,_=>fail
def ym (v:V):Option Int:=match v with| .w (.one (.int _ a))=>a.l.cG|_=>none
def zG (tm:List V):Option Operand->Option (Option Int)
 |none=>some none
 |some x=>match ym (bq tm x)with|some c=>some (some c)|none=>none
def Mb (P:Program) (t:TypeId) (x:V) (lo hi:Option Int):M V:=
 match x,kz P t with
 | .w (.one (.ptr b off)),some (n,e)=>match de P e with
  |some s=>cond (decide (0<=lo.getD 0)&&decide (lo.getD 0<=hi.getD n)&&decide (hi.getD n<=n)&&decide (lo.getD 0<n)) (pure (.w (.one (.slc b (off+(lo.getD 0).toNat*s) ((hi.getD n).toNat-(lo.getD 0).toNat) (n-(lo.getD 0).toNat))))) fail
  |none=>fail
 | .w (.one (.slc b off len cap)),none=>match eT P t with
  |some e=>match de P e with
   |some s=>cond (decide (0<=lo.getD 0)&&decide (lo.getD 0<=hi.getD len)&&decide (hi.getD len<=cap)&&decide (lo.getD 0<cap)) (pure (.w (.one (.slc b (off+(lo.getD 0).toNat*s) ((hi.getD len).toNat-(lo.getD 0).toNat) (cap-(lo.getD 0).toNat))))) fail
   |none=>fail
  |none=>fail
 |_,_=>fail
def KQ (x:V):M V:=
 match x with
 | .w (.one (.ptr b o))=>pure (.w (.one (.ptr b o)))
 | .w (.one (.iQ b o i))=>pure (.w (.one (.iQ b o i)))
 | .w (.one (.gptr g o))=>pure (.w (.one (.gptr g o)))
 |_=>fail
def W.cells:W->List A
 | .one a=>[a]
 | .agg l=>l
def iD (P:Program) (t:TypeId):Option (List A):=
 match P.info? t with
 |some i=>match i.zero with
  |some z=>n6 z.cells.toList
  |none=>none
 |none=>none
def nf (place:Nat->Option (Nat×Nat)):List A->List (Nat×V)->Option (List A)
 |cells,[]=>some cells
 |cells,(i,.w u)::r=>match place i with
  |some (off,size)=>cond (Nat.beq u.cells.length size&&Nat.ble (off+size) cells.length) (nf place (cells.take off++u.cells++cells.drop (off+size)) r) none
  |none=>none
 |_,_::_=>none
def Bn (P:Program) (t:TypeId) (parts:List (Nat×V)):Option (List A):=
 match iD P t,P.underlying t with
 |some z,some (.array _ e)=>match de P e with
  |some s=>nf (λi=>some (i*s,s)) z parts
  |none=>none
 |some z,some (.struct fields)=>match fields.toList.mapM (λf=>(P.info? f.type).map λi=>(f.offset,i.size))with
  |some places=>nf (places.toArray[·]?) z parts
  |none=>none
 |_,_=>none
noncomputable def Et (P:Program) (bd:ey) (gl:dt) (bl:List ax) (tm:List V) (o:Oper):M V:=
 match o.op with
 | .move x| .assign x=>pure (bq tm x)
 | .load t x=>match bq tm x with
  | .w (.one (.iQ b off aR))=>EU P bl t b off aR
  | .w (.one (.tk g off aR))=>ET P gl t g off aR
  | .w (.one p)=>DU P bl gl t p
  |_=>fail
 | .nilCheck x=>KQ (bq tm x)
 | .pick c x y=>match bq tm c with
  | .w (.one (.bool (.lit v)))=>pure (cond v (bq tm x) (bq tm y))
  |_=>fail
 | .binOp op t x y _=>GY P op t (bq tm x) (bq tm y)
 | .unOp op _ x=>Mz op (bq tm x)
 | .convert s d x=>Hr P s d (bq tm x)
 | .indexAddr t x aR=>match bq tm aR with
  | .w (.one (.int _ i))=>Dp P t (bq tm x) i
  |_=>fail
 | .index t x aR=>match bq tm x with
  | .w (.one (.str s))=>match P.underlying t,kn (bq tm aR)with
   |some .string,some i=>Ml s i
   |_,_=>fail
  |_=>match bq tm x,ym (bq tm aR),kz P t with
   | .w (.agg l),some i,some (len,e)=>match de P e with
    |some s=>cond (decide (0<=i)&&decide (i<len)) (w7 P e l (i.toNat*s)) fail
    |none=>fail
   |_,_,_=>fail
 | .fieldAddr s x f=>match bq tm x,vv P s f with
  | .w (.one (.ptr b off)),some fd=>match de P fd.type with
   |some (_+1)=>pure (.w (.one (.ptr b (off+fd.offset))))
   |_=>fail
  |_,_=>fail
 | .field s x f=>match bq tm x,vv P s f with
  | .w (.agg l),some fd=>w7 P fd.type l fd.offset
  |_,_=>fail
 | .extract x i=>match bq tm x with
  | .eb l=>match l[i]? with|some u=>pure (.w u)|none=>fail
  |_=>fail
 | .slice t x lo hi none=>match bq tm x,P.underlying t with
  | .w (.one (.str s)),some .string=>Fc tm s lo hi
  |_,_=>match zG tm lo,zG tm hi with
   |some l,some h=>Mb P t (bq tm x) l h
   |_,_=>fail
 | .call c=>match c.callee with
  | .value (.func f)=>match bd f with
   |some g=>g bl (c.args.toList.map (bq tm))
   |none=>fail
  | .builtin .len=>match c.args.toList,c.argTypes.toList with
   |[x],[t]=>match bq tm x,P.underlying t with
    | .w (.one (.str s)),some .string=>Mm s
    |_,_=>match bq tm x,eT P t with
     | .w (.one (.slc _ _ len _)),some _=>pure (.w (.one (.int .i64 (.const len))))
     | .jE _ len _,some _=>pure (.w (.one (.int .i64 (.const len))))
     |_,_=>fail
   |_,_=>fail
  |_=>fail
 | .makeFunc (.func f) first fc=>match first.toList,oR (fc.toList.map (bq tm))with
  |[],some l=>pure (.j8 f l)
  |_,_=>fail
 | .build t parts=>match Bn P t (parts.toList.map λp=>(p.1,bq tm p.2))with
  |some l=>pure (.w (.agg l))
  |none=>fail
 | .sliceToArrayPointer t x=>match bq tm x,kz P t with
  | .jE b len _,some (k,_)=>cond (Nat.ble k len) (pure (.w (.one (.ptr b 0)))) fail
  |_,_=>fail
 |_=>fail
section
variable {S:Nat->List Int->List Int->Prop} {L:V->Env->Prop} {n:Nat} {ρ:Env} {m:Nat->Nat} {bl:List ax} {gl:dt} {w0:cR} {P:Program} {tm:List V} {a:Act}
def gE (w0:cR) (m:Nat->Nat) (bl:List ax) (n:Nat) (ρ:Env) (P:Program) (o:Oper) (a:Act) (ag:Env) (n':Nat) (v:V):Prop:=
 v.ok n' bl.length ag/\∃val,v.rel ag m val/\∀w,Mem w0 ρ m bl w->sK P o a w val
theorem gE.of_run {o:Oper} {s:Sem Value} {ag:Env} {n':Nat} {v:V} (he:execOp a.eval o=(do pure (Next.value (<-s)))) (h:hh w0 m bl n ρ (λw=>s.run P w) ag n' v):gE w0 m bl n ρ P o a ag n' v:=by
 obtain⟨h1,val,h2,h3⟩:=h
 exact⟨h1,val,h2,λw hw=> .inl (by rw[he];simp[h3 w hw])⟩
theorem W.yj {n nb:Nat} {ρ:Env} {m:Nat->Nat} (u:W) (hu:u.ok n nb ρ):(u.den ρ m).cells=(u.cells.map (A.den ρ m)).toArray:=by
 cases u with
 |one a=>
  have:=A.zD (m:=m) hu
  simp only[W.den,W.cells,List.map_cons,List.map_nil]
  generalize A.den ρ m a=v at*
  cases v<;>first|rfl|simp[Value.oneCell']at this
 |agg l=>simp[W.den,W.cells,Value.cells]
theorem W.s4 {n nb:Nat} {ρ:Env} {u:W} (hu:u.ok n nb ρ):∀a∈u.cells,A.ok n nb ρ a:=by
 cases u with
 |one a=>intro x hx;simp[W.cells]at hx;subst hx;exact hu
 |agg l=>exact hu
def xN (n nb:Nat) (ρ:Env) (m:Nat->Nat):List (Nat×V)->List (Nat×Value)->Prop
 |[],[]=>True
 |p::r,q::s=>(p.1=q.1/\V.ok n nb ρ p.2/\V.rel ρ m p.2 q.2)/\xN n nb ρ m r s
 |_,_=>False
theorem Ia (off:Nat):∀(src:List Value) (dst:Array Value) (k:Nat),off+k+src.length<=dst.size->
 ((src.zipIdx k).foldl (λcs (c,j)=>cs.setIfInBounds (off+j) c) dst)=(dst.toList.take (off+k)++src++dst.toList.drop (off+k+src.length)).toArray
 |[],dst,k,h=>by simp
 |c::src,dst,k,h=>by
  simp only[List.length_cons]at h
  rw[List.zipIdx_cons,List.foldl_cons,Ia off src _ (k+1) (by simp;omega)]
  congr 1
  simp only[Array.toList_setIfInBounds,List.length_cons]
  have h1:off+k<dst.toList.length:=by simp;omega
  rw[List.take_set,show off+(k+1)=off+k+1 by omega,List.drop_set_of_lt (by omega),List.take_add_one,List.getElem?_eq_getElem h1]
  rw[show off+k+1+src.length=off+k+(src.length+1) by omega]
  simp only[Option.toList_some]
  rw[List.set_append_right _ _ (by simp;omega)]
  have hm:min (off+k) dst.size=off+k:=Nat.min_eq_left (by omega)
  simp[hm]
theorem yB {n nb:Nat} {ρ:Env} {m:Nat->Nat} {place:Nat->Option (Nat×Nat)}:∀{parts:List (Nat×V)} {vals:List (Nat×Value)} {cells l:List A},nf place cells parts=some l->(∀a∈cells,A.ok n nb ρ a)->
 xN n nb ρ m parts vals->(∀a∈l,A.ok n nb ρ a)/\Instr.fill place (cells.map (A.den ρ m)).toArray vals=some (l.map (A.den ρ m)).toArray
 |[],[],cells,l,h,hc,_=>by simp[nf]at h;subst h;exact⟨hc,rfl⟩
 |(i,.w u)::r,(rR,x)::s,cells,l,h,hc,⟨⟨e1,e2,e3⟩,hr⟩=>by
  simp only at e1;subst e1
  simp only[V.rel]at e3
  have e3:x=u.den ρ m:=e3
  subst e3
  simp only[nf]at h
  cases hp:place i with
  |none=>simp[hp]at h
  |some q=>
   obtain⟨off,size⟩:=q
   simp only[hp]at h
   cases hq:(Nat.beq u.cells.length size&&Nat.ble (off+size) cells.length)with
   |false=>simp[hq]at h
   |true=>
    simp only[hq,cond_true]at h
    simp only[Bool.and_eq_true]at hq
    have q1:=Nat.eq_of_beq_eq_true hq.1
    have q2:=Nat.le_of_ble_eq_true hq.2
    have ln:=W.yj (m:=m) u e2
    obtain⟨g1,g2⟩:=yB (m:=m) h (λa ha=>by
     rcases List.mem_append.1 ha with ha|ha
     ·rcases List.mem_append.1 ha with ha|ha
      ·exact hc a (List.mem_of_mem_take ha)
      ·exact W.s4 e2 a ha
     ·exact hc a (List.mem_of_mem_drop ha)) hr
    refine⟨g1,?_⟩
    simp only[Instr.fill,hp,ln,List.size_toArray,List.length_map,q1]
    rw[if_neg (by simp;omega)]
    rw[<-g2]
    congr 1
    have:=Ia off (u.cells.map (A.den ρ m)) (cells.map (A.den ρ m)).toArray 0 (by simp;omega)
    simp only[Nat.add_zero]at this
    rw[<-Array.foldl_toList]
    simp only[Array.toList_zipIdx]
    rw[this]
    simp[List.map_take,List.map_drop,q1]
 |(_,.eb _)::_,_,_,_,h,_,_=>by simp[nf]at h
 |(_,.any)::_,_,_,_,h,_,_=>by simp[nf]at h
 |[],_::_,_,_,_,_,hr=>hr.elim
 |(_,.w _)::_,[],_,_,_,_,hr=>hr.elim
theorem N6 {n nb:Nat} {ρ:Env} {m:Nat->Nat} {t:TypeId} {parts:List (Nat×V)} {vals:List (Nat×Value)} {l:List A} (h:Bn P t parts=some l)
 (hr:xN n nb ρ m parts vals):(∀a∈l,A.ok n nb ρ a)/\P.built t vals=some (l.map (A.den ρ m)).toArray:=by
 unfold Bn at h
 unfold Program.built
 cases hz:iD P t with
 |none=>simp[hz]at h
 |some z=>
  unfold iD at hz
  cases hi:P.info? t with
  |none=>simp[hi]at hz
  |some it=>
   simp only[hi]at hz
   cases lY:it.zero with
   |none=>simp[lY]at hz
   |some z0=>
    simp only[lY]at hz
    have hzs:=n7 hz n nb ρ m
    have hz1:z0.cells=(z.map (A.den ρ m)).toArray:=by rw[hzs.2]
    cases hu:P.underlying t with
    |none=>simp[iD,hi,lY,hz,hu]at h
    |some d=>
     cases d<;>try(simp[iD,hi,lY,hz,hu]at h;done)
     case array len e=>
      simp only[iD,hi,lY,hz,hu,de]at h
      cases ik:P.info? e with
      |none=>simp[ik]at h
      |some aav=>
       simp only[ik]at h
       simp only[lY,ik,hz1]
       exact yB h hzs.1 hr
     case struct fields=>
      simp only[iD,hi,lY,hz,hu]at h
      cases hp:fields.toList.mapM (λf=>(P.info? f.type).map λi=>(f.offset,i.size))with
      |none=>simp[hp]at h
      |some places=>
       simp only[hp]at h
       simp only[lY,hp,hz1]
       exact yB h hzs.1 hr
theorem El {t:TypeId} {l:List A} {off:Nat} (hl:∀x∈l,A.ok n bl.length ρ x):ar S L (w7 P t l off) n ρ (hh w0 m bl n ρ λw=>(part t (l.map (A.den ρ m)).toArray off).run P w):=by
 unfold w7
 cases h1:e8 P t with
 |none=>exact ar.fail
 |some b=>
  cases b with
  |true=>
   cases h2:de P t with
   |none=>exact ar.fail
   |some k=>
    refine ar.pure ⟨λx hx=>hl x (List.mem_of_mem_drop (List.mem_of_mem_take hx)),_,rfl,λw _=>?_⟩
    simp[part,jH h1,eS h2,W.den,List.map_take,List.map_drop,List.take_drop]
    try congr 1
  |false=>
   cases h3:l[off]? with
   |none=>exact ar.fail
   |some x=>
    refine ar.pure ⟨hl x (List.mem_of_getElem? h3),_,rfl,λw _=>?_⟩
    simp[part,jH h1,h3,W.den]
theorem mo {t:TypeId} {len:Nat} {e:TypeId} (h:kz P t=some (len,e)):P.underlying t=some (.array len e):=by
 unfold kz at h
 cases hu:P.underlying t with
 |none=>simp[hu]at h
 |some d=>cases d<;>simp[hu]at h<;>simp[h]
theorem ej {t e:TypeId} (h:eT P t=some e):P.underlying t=some (.slice e):=by
 unfold eT at h
 cases hu:P.underlying t with
 |none=>simp[hu]at h
 |some d=>cases d<;>simp[hu]at h<;>simp[h]
theorem DF {t:TypeId} {k:IntKind} (h:kindOf P t=some k):P.underlying t=some (.int k):=by
 unfold kindOf at h
 cases hu:P.underlying t with
 |none=>simp[hu]at h
 |some d=>cases d<;>simp[hu]at h<;>simp[h]
theorem BT {s:TypeId} {f:Nat} {fd:Field} (h:vv P s f=some fd):∃cJ,P.underlying s=some (.struct cJ)/\cJ[f]?=some fd:=by
 unfold vv at h
 cases hu:P.underlying s with
 |none=>simp[hu]at h
 |some d=>cases d<;>simp[hu]at h<;>exact⟨_,rfl,h⟩
theorem Ss {t:TypeId} {x:V} {k:IntKind} {aR:bh} {X:Value} (hx:x.ok n bl.length ρ) (bt:x.rel ρ m X) (hi:aR.ok n ρ):
 ar S L (Dp P t x aR) n ρ (hh w0 m bl n ρ λw=>(Instr.indexAt t X (.int k (aR.l.den ρ))).run P w):=by
 unfold Dp
 split
 ·rename_i b off
  simp only[V.rel,W.den,A.den]at bt;subst bt
  cases h1:kz P t with
  |none=>exact ar.fail
  |some q=>
   obtain⟨len,e⟩:=q
   cases h2:de P e with
   |none=>simp only[h2];exact ar.fail
   |some s=>
    simp only[h2]
    cases h3:aR.l.cG with
    |some i=>
     refine cH λhc=>ar.pure ⟨hx,_,rfl,λw _=>?_⟩
     simp only[Bool.and_eq_true,decide_eq_true_eq]at hc
     simp[Instr.indexAt,asIntOf,run_underlying (mo h1),Instr.sureAddr,J.fl h3,hc,eS h2,eZ,W.den,A.den]
    |none=>
     refine cH λhc=>ar.pure ⟨?_,_,rfl,λw _=>?_⟩
     ·simp only[Bool.and_eq_true,decide_eq_true_eq]at hc
      exact⟨hx,hi,hc.1.2⟩
     ·simp only[Bool.and_eq_true,decide_eq_true_eq]at hc
      have hs:=Nat.eq_of_beq_eq_true hc.1.1
      subst hs
      have b1:=hi.2
      have c1:0<=aR.l.den ρ:=by omega
      have aU:aR.l.den ρ<len:=by omega
      simp[Instr.indexAt,asIntOf,run_underlying (mo h1),Instr.sureAddr,c1,aU,eS h2,eZ,W.den,A.den]
 ·rename_i g off
  simp only[V.rel,W.den,A.den]at bt;subst bt
  cases h1:kz P t with
  |none=>exact ar.fail
  |some q=>
   obtain⟨len,e⟩:=q
   cases h2:de P e with
   |none=>simp only[h2];exact ar.fail
   |some s=>
    simp only[h2]
    cases h3:aR.l.cG with
    |some i=>
     refine cH λhc=>ar.pure ⟨trivial,_,rfl,λw _=>?_⟩
     simp only[Bool.and_eq_true,decide_eq_true_eq]at hc
     simp[Instr.indexAt,asIntOf,run_underlying (mo h1),Instr.sureAddr,J.fl h3,hc,eS h2,eZ,W.den,A.den]
    |none=>
     refine cH λhc=>eh λhq=>ar.pure ⟨?_,_,rfl,λw _=>?_⟩
     ·simp only[List.map_cons,List.map_nil,J.aS,ad,yk]at hq
      exact⟨⟨hi.1,by show(0:Int)<=_;exact hq.1,by show _<=((len:Int)-1);have:=hq.2;simp only;omega⟩,Int.le_refl _⟩
     ·simp only[List.map_cons,List.map_nil,J.aS,ad,yk]at hq
      have hs:=Nat.eq_of_beq_eq_true hc
      subst hs
      simp[Instr.indexAt,asIntOf,run_underlying (mo h1),Instr.sureAddr,hq.1,hq.2,eS h2,eZ,W.den,A.den]
 ·rename_i b off len cap
  simp only[V.rel,W.den,A.den]at bt;subst bt
  cases h1:eT P t with
  |none=>exact ar.fail
  |some e=>
   cases h2:de P e with
   |none=>simp only[h2];exact ar.fail
   |some s=>
    simp only[h2]
    cases h3:aR.l.cG with
    |some i=>
     refine cH λhc=>ar.pure ⟨hx,_,rfl,λw _=>?_⟩
     simp only[Bool.and_eq_true,decide_eq_true_eq]at hc
     simp[Instr.indexAt,asIntOf,run_underlying (ej h1),Instr.sureAddr,J.fl h3,hc,eS h2,eZ,W.den,A.den]
    |none=>
     refine cH λhc=>ar.pure ⟨?_,_,rfl,λw _=>?_⟩
     ·simp only[Bool.and_eq_true,decide_eq_true_eq]at hc
      exact⟨hx,hi,hc.1.2⟩
     ·simp only[Bool.and_eq_true,decide_eq_true_eq]at hc
      have hs:=Nat.eq_of_beq_eq_true hc.1.1
      subst hs
      have b1:=hi.2
      have c1:0<=aR.l.den ρ:=by omega
      have aU:aR.l.den ρ<len:=by omega
      simp[Instr.indexAt,asIntOf,run_underlying (ej h1),Instr.sureAddr,c1,aU,eS h2,eZ,W.den,A.den]
 ·rename_i b len lo
  obtain⟨c,_,bt⟩:=bt
  subst bt
  cases h1:eT P t with
  |none=>exact ar.fail
  |some e=>
   cases h2:de P e with
   |none=>simp only[h2];exact ar.fail
   |some s=>
    simp only[h2]
    cases h3:aR.l.cG with
    |some i=>
     refine cH λhc=>ar.pure ⟨hx,_,rfl,λw _=>?_⟩
     simp only[Bool.and_eq_true,decide_eq_true_eq]at hc
     simp[Instr.indexAt,asIntOf,run_underlying (ej h1),Instr.sureAddr,J.fl h3,hc,eS h2,eZ,W.den,A.den]
    |none=>exact ar.fail
 ·exact ar.fail
theorem Vw {vs:List V}:∀{l:List A} {xs:List Value},oR vs=some l->(∀v∈vs,V.ok n bl.length ρ v)->dK ρ m vs xs->(∀a∈l,A.ok n bl.length ρ a)/\xs=l.map (A.den ρ m):=by
 induction vs with
 |nil=>
  intro l xs h _ hr
  simp[oR]at h;subst h
  cases xs with
  |nil=>exact⟨λ_ h=>by simp at h,rfl⟩
  |cons _ _=>exact hr.elim
 |cons v r ih=>
  intro l xs h a8 hr
  cases xs with
  |nil=>cases v<;>exact hr.elim
  |cons x s=>
   cases v with
   |w y=>
    cases y with
    |agg q=>simp[oR]at h
    |one a=>
     cases h1:oR r with
     |none=>simp[oR,h1]at h
     |some bp=>
      simp only[oR,h1,Option.some.injEq]at h
      subst h
      obtain⟨e1,e2⟩:=ih h1 (λv hv=>a8 v (List.mem_cons_of_mem _ hv)) hr.2
      have h0:x=a.den ρ m:=hr.1
      exact⟨λb hb=>by rcases List.mem_cons.1 hb with rfl|hb;exact a8 (.w (.one b)) (by simp);exact e1 b hb,by rw[h0,e2];rfl⟩
   |_=>simp[oR]at h
theorem O3 {e:TypeId} {k:IntKind} (he:P.underlying e=some (.int k)) (d:Nat) (xs eu:Array Value) (w:World):∀(l bp:List A) (i:Nat) (b:aY),pq l bp=some b->(∀x∈l,A.ok n bl.length ρ x)->(∀x∈bp,A.ok n bl.length ρ x)->
 xs.toList.drop i=l.map (A.den ρ m)->eu.toList.drop i=bp.map (A.den ρ m)->b.aX n/\(Op.eqItems (d+1) e 1 xs eu (List.range' i l.length)).run P w= .ok (b.den ρ) w:=by
 intro l
 induction l with
 |nil=>
  intro bp i b h _ _ _ _
  cases bp with
  |nil=>simp[pq]at h;subst h;exact⟨trivial,by simp[Op.eqItems,aY.den]⟩
  |cons y fh=>simp[pq]at h
 |cons x r ih=>
  intro bp i b h hl ow hx hy
  cases bp with
  |nil=>cases x<;>simp[pq]at h
  |cons y fh=>
   cases x<;>cases y<;>simp only[pq]at h<;>try(cases h;done)
   rename_i k1 x k2 y
   by_cases hk:k1=k2
   ·subst hk
    simp only[decide_true,cond_true]at h
    cases hr:pq r fh with
    |none=>simp[hr]at h
    |some bX=>
     simp only[hr,Option.some.injEq]at h
     subst h
     have RE:x.ok n ρ:=hl (.int k1 x) (by simp)
     have RF:y.ok n ρ:=ow (.int k1 y) (by simp)
     have e1:=aY.k9 RE RF
     have kE:xs[i]?=some (.int k1 (x.l.den ρ)):=by
      have:=congrArg List.head? hx
      simpa [A.den]using this
     have vB:eu[i]?=some (.int k1 (y.l.den ρ)):=by
      have:=congrArg List.head? hy
      simpa [A.den]using this
     have qU:xs.toList.drop (i+1)=r.map (A.den ρ m):=by
      have:=congrArg List.tail hx
      simpa using this
     have aP:eu.toList.drop (i+1)=fh.map (A.den ρ m):=by
      have:=congrArg List.tail hy
      simpa using this
     obtain⟨s2,r2⟩:=ih fh (i+1) bX hr (λz hz=>hl z (List.mem_cons_of_mem _ hz)) (λz hz=>ow z (List.mem_cons_of_mem _ hz)) qU aP
     refine⟨aY.Aa e1.2 s2,?_⟩
     simp only[List.length_cons,List.range'_succ,Op.eqItems,Sem.run_bind]
     have lC:(part e xs (i*1)).run P w= .ok (.int k1 (x.l.den ρ)) w:=by simp[part,isAgg,run_underlying he,kE]
     have sq:(part e eu (i*1)).run P w= .ok (.int k1 (y.l.den ρ)) w:=by simp[part,isAgg,run_underlying he,vB]
     simp only[lC,sq,Result.andThen_ok,run_equalIn_int w d e k1 k _ _ he,aY.yq,e1.1]
     by_cases hq:x.l.den ρ=y.l.den ρ
     ·simp[hq,r2]
     ·simp[hq]
   ·simp[hk]at h
theorem HP {t:TypeId} {x y:List A} {b:aY} (h:BS P t x y=some b) (hx:∀z∈x,A.ok n bl.length ρ z) (hy:∀z∈y,A.ok n bl.length ρ z):
 b.aX n/\P.eqGuardType P.depth t=false/\∀w,(Op.equalIn 10000 t (.agg (x.map (A.den ρ m)).toArray) (.agg (y.map (A.den ρ m)).toArray)).run P w= .ok (b.den ρ) w:=by
 unfold BS at h
 cases h1:kz P t with
 |none=>simp[h1]at h
 |some q=>
  obtain⟨len,e⟩:=q
  simp only[h1]at h
  cases h2:kindOf P e with
  |none=>simp[h2]at h
  |some k=>
   cases h3:de P e with
   |none=>simp[h2,h3]at h
   |some s=>
    match s,h3 with
    |0,h3=>simp[h2,h3]at h
    |s+2,h3=>simp[h2,h3]at h
    |1,h3=>
     simp only[h2,h3]at h
     cases hc:(Nat.beq x.length len&&Nat.beq y.length len&& !P.eqGuardType P.depth t)with
     |false=>simp[hc]at h
     |true=>
      simp only[hc,cond_true]at h
      simp only[Bool.and_eq_true,Bool.not_eq_true']at hc
      have hl:=Nat.eq_of_beq_eq_true hc.1.1
      have Q4:∃i,P.info? e=some i/\P.cellsOf e=1:=by
       unfold de at h3
       cases hq:P.info? e with
       |none=>simp[hq]at h3
       |some i=>simp[hq]at h3;exact⟨i,rfl,by simp[Program.cellsOf,hq,h3]⟩
      obtain⟨i,lx,cj⟩:=Q4
      have lU:=λw=>O3 (P:=P) (bl:=bl) (n:=n) (ρ:=ρ) (m:=m) (DF h2) 9998 (x.map (A.den ρ m)).toArray (y.map (A.den ρ m)).toArray w x y 0 b h hx hy (by simp) (by simp)
      refine⟨(lU default).1,hc.2,λw=>?_⟩
      rw[show(10000:Nat)=9999+1 from rfl,run_equalIn_array w 9999 _ _ (mo h1) lx,cj,List.range_eq_range',<-hl]
      exact(lU w).2
theorem pe (l:List UInt8):(a7 l).toList=l:=ByteArray.toList_mk l
theorem k6 (l:List UInt8):(a7 l).size=l.length:=by simp[a7,ByteArray.size]
theorem GX (l bp:List UInt8):(l==bp)=decide ((if l=bp then(1:Int)else 0)=1):=by
 by_cases h:l=bp
 ·subst h;simp
 ·rw[if_neg h];simp[h]
theorem sS (p:Prop) [Decidable p]:(0:Int)<=(if p then 1 else 0)/\(if p then(1:Int)else 0)<=1:=by split<;>decide
theorem DR (b:Bool):b=decide ((if b=true then(1:Int)else 0)=1):=by cases b<;>rfl
theorem Kp:∀a b:List UInt8,(!(Op.bytesLess a b||a==b))=Op.bytesLess b a
 |[],[]=>rfl
 |[],_::_=>rfl
 |_::_,[]=>rfl
 |x::a,y::b=>by
  have ih:=Kp a b
  simp only[Op.bytesLess,List.cons_beq_cons]
  rcases Nat.lt_trichotomy x.toNat y.toNat with h|h|h
  ·have h1:x<y:=UInt8.lt_iff_toNat_lt.2 h
   have h2:¬y<x:=λe=>by have:=UInt8.lt_iff_toNat_lt.1 e;omega
   have h3:(x==y)=false:=by simpa usingλe:x=y=>by rw[e]at h;omega
   have h4:(y==x)=false:=by simpa usingλe:y=x=>by rw[e]at h;omega
   simp[h1,h2,h3,h4]
  ·have e:x=y:=UInt8.toNat_inj.1 h
   subst e
   have h2:¬x<x:=λe=>by have:=UInt8.lt_iff_toNat_lt.1 e;omega
   simp only[h2,decide_false,Bool.false_or,BEq.rfl,Bool.true_and]
   exact ih
  ·have h1:y<x:=UInt8.lt_iff_toNat_lt.2 h
   have h2:¬x<y:=λe=>by have:=UInt8.lt_iff_toNat_lt.1 e;omega
   have h3:(x==y)=false:=by simpa usingλe:x=y=>by rw[e]at h;omega
   have h4:(y==x)=false:=by simpa usingλe:y=x=>by rw[e]at h;omega
   simp[h1,h2,h3,h4]
theorem XT {op:BinOp} {t:TypeId} {x y:Operand} {p q:J} (hp:(A.str p).ok n bl.length ρ) (hq:(A.str q).ok n bl.length ρ):
 ar S L (Fb op p q) n ρ (hh w0 m bl n ρ λw=>(do eqGuard op t x y (.string (a7 (ab (p.den ρ)))) (.string (a7 (ab (q.den ρ))));binOp op t (.string (a7 (ab (p.den ρ)))) (.string (a7 (ab (q.den ρ)))):Sem Value).run P w):=by
 have b1:=sS (ab (p.den ρ)=ab (q.den ρ))
 have b2:=sS (Op.bytesLess (ab (p.den ρ)) (ab (q.den ρ))=true)
 unfold Fb
 split
 ·refine eh λhc=>?_
  have hc:(ab (p.den ρ)).length+(ab (q.den ρ)).length<=fs:=hc
  have hl:(ab (p.den ρ)++ab (q.den ρ)).length<=fs:=by simpa using hc
  refine(dE (op:=3) (args:=[p,q]) (lL _) (kY hl)).bind λaH n1 l _ _ ⟨h1,h2⟩=>?_
  have h2:l.den aH=eI (ab (p.den ρ)++ab (q.den ρ)):=h2
  refine ar.pure ⟨⟨h1,by rw[h2];exact lL _,by rw[h2];exact kY hl⟩,_,rfl,λw _=>?_⟩
  have hr:=run_string_add_sum (P:=P) w (a7 (ab (p.den ρ))) (a7 (ab (q.den ρ))) (by rw[k6,k6];unfold fs at hc;omega)
  simp only[eqGuard,binOp_string_add,W.den,A.den,h2,gT]
  simp[hr]
  exact ByteArray.mk_append_mk _ _
 ·refine(dE (op:=4) (args:=[p,q]) b1.1 b1.2).bind λaH n1 l _ _ ⟨h1,h2⟩=>?_
  have h2:l.den aH=if ab (p.den ρ)=ab (q.den ρ)then 1 else 0:=h2
  have e:=aY.k9 (n:=n1) (ρ:=aH) (a:=⟨l,0,1⟩) (b:= .const 1) ⟨h1,by simp only[h2];exact b1.1,by simp only[h2];exact b1.2⟩ (bh.iW _ _ _)
  refine ar.pure ⟨e.2,_,rfl,λw _=>?_⟩
  simp only[W.den,A.den,binOp_string_eql,pe]
  rw[e.1]
  simp only[h2,bh.const,J.aS,GX]
  simp[eqGuard]
 ·refine(dE (op:=4) (args:=[p,q]) b1.1 b1.2).bind λaH n1 l _ _ ⟨h1,h2⟩=>?_
  have h2:l.den aH=if ab (p.den ρ)=ab (q.den ρ)then 1 else 0:=h2
  have e:=aY.k9 (n:=n1) (ρ:=aH) (a:=⟨l,0,1⟩) (b:= .const 1) ⟨h1,by simp only[h2];exact b1.1,by simp only[h2];exact b1.2⟩ (bh.iW _ _ _)
  refine ar.pure ⟨aY.nJ e.2,_,rfl,λw _=>?_⟩
  simp only[W.den,A.den,aY.na,binOp_string_neq,pe]
  rw[e.1]
  simp only[h2,bh.const,J.aS,GX]
  simp[eqGuard]
 ·refine(dE (op:=5) (args:=[p,q]) b2.1 b2.2).bind λaH n1 l _ _ ⟨h1,h2⟩=>?_
  have h2:l.den aH=if Op.bytesLess (ab (p.den ρ)) (ab (q.den ρ))=true then 1 else 0:=h2
  have e:=aY.k9 (n:=n1) (ρ:=aH) (a:=⟨l,0,1⟩) (b:= .const 1) ⟨h1,by simp only[h2];exact b2.1,by simp only[h2];exact b2.2⟩ (bh.iW _ _ _)
  refine ar.pure ⟨e.2,_,rfl,λw _=>?_⟩
  simp only[W.den,A.den,binOp_string_lss,pe]
  rw[e.1]
  simp only[h2,bh.const,J.aS]
  rw[<-DR]
  simp[eqGuard]
 ·refine(dE (op:=5) (args:=[p,q]) b2.1 b2.2).bind λaH n1 l _ _ ⟨h1,h2⟩=>?_
  have h2:l.den aH=if Op.bytesLess (ab (p.den ρ)) (ab (q.den ρ))=true then 1 else 0:=h2
  have e:=aY.k9 (n:=n1) (ρ:=aH) (a:=⟨l,0,1⟩) (b:= .const 1) ⟨h1,by simp only[h2];exact b2.1,by simp only[h2];exact b2.2⟩ (bh.iW _ _ _)
  refine ar.pure ⟨aY.nJ e.2,_,rfl,λw _=>?_⟩
  simp only[W.den,A.den,aY.na,binOp_string_geq,pe]
  rw[e.1]
  simp only[h2,bh.const,J.aS]
  rw[<-DR]
  simp[eqGuard]
 ·have b3:=sS (Op.bytesLess (ab (q.den ρ)) (ab (p.den ρ))=true)
  refine(dE (op:=5) (args:=[q,p]) b3.1 b3.2).bind λaH n1 l _ _ ⟨h1,h2⟩=>?_
  have h2:l.den aH=if Op.bytesLess (ab (q.den ρ)) (ab (p.den ρ))=true then 1 else 0:=h2
  have e:=aY.k9 (n:=n1) (ρ:=aH) (a:=⟨l,0,1⟩) (b:= .const 1) ⟨h1,by simp only[h2];exact b3.1,by simp only[h2];exact b3.2⟩ (bh.iW _ _ _)
  refine ar.pure ⟨e.2,_,rfl,λw _=>?_⟩
  simp only[W.den,A.den,binOp_string_gtr,pe,Kp]
  rw[e.1]
  simp only[h2,bh.const,J.aS]
  rw[<-DR]
  simp[eqGuard]
 ·exact ar.fail
theorem XV {t ty:TypeId} {p:J} (hu:P.underlying t=some .string) (hp:(A.str p).ok n bl.length ρ):
 ar S L (Mm p) n ρ (hh w0 m bl n ρ λw=>(Builtin.len_ #[t] ty #[.string (a7 (ab (p.den ρ)))]).run P w):=by
 have hl:=qx hp.2.2
 unfold fs at hl
 refine(dE (op:=0) (args:=[p]) (Int.natCast_nonneg _) (by show((ab (p.den ρ)).length:Int)<=_;omega)).bind λaH n1 l _ _ ⟨h1,h2⟩=>?_
 have h2:l.den aH=((ab (p.den ρ)).length:Int):=h2
 refine ar.pure ⟨⟨h1,by simp only[h2];omega,by simp only[h2];omega⟩,_,rfl,λw _=>?_⟩
 simp[Builtin.len_,run_underlying hu,goInt,W.den,A.den,h2,k6]
theorem XU {t:TypeId} {k:IntKind} {p i:J} (hu:P.underlying t=some .string) (hp:(A.str p).ok n bl.length ρ):
 ar S L (Ml p i) n ρ (hh w0 m bl n ρ λw=>(Instr.index t (.string (a7 (ab (p.den ρ)))) (.int k (i.den ρ))).run P w):=by
 refine eh λhc=>?_
 have hc:0<=i.den ρ/\i.den ρ<((ab (p.den ρ)).length:Int):=hc
 have hlt:(i.den ρ).toNat<(ab (p.den ρ)).length:=by omega
 have hb:=((ab (p.den ρ)).getD (i.den ρ).toNat 0).toNat_lt
 refine(dE (op:=1) (args:=[p,i]) (Int.natCast_nonneg _) (by show(((ab (p.den ρ)).getD (i.den ρ).toNat 0).toNat:Int)<=_;omega)).bind λaH n1 l _ _ ⟨h1,h2⟩=>?_
 have h2:l.den aH=(((ab (p.den ρ)).getD (i.den ρ).toNat 0).toNat:Int):=h2
 refine ar.pure ⟨⟨h1,by simp only[h2];omega,by simp only[h2];omega⟩,_,rfl,λw _=>?_⟩
 have e:(a7 (ab (p.den ρ)))[(i.den ρ).toNat]?=some ((ab (p.den ρ)).getD (i.den ρ).toNat 0):=by
  rw[ByteArray.getElem?_lt' _ _ (by rw[k6];exact hlt)]
  simp[a7,List.getD,hlt]
  rfl
 simp[Instr.index,asIntOf,run_underlying hu,hc.1,e,W.den,A.den,h2]
theorem XX {p a b:J} (hp:(A.str p).ok n bl.length ρ):ar S L (Ag p a b) n ρ λag n' v=>v.ok n' bl.length ag/\v.rel ag m (.string ((a7 (ab (p.den ρ))).extract (a.den ρ).toNat (b.den ρ).toNat))/\0<=a.den ρ/\a.den ρ<=b.den ρ/\b.den ρ<=((ab (p.den ρ)).length:Int):=by
 refine eh λhc=>?_
 have hc:0<=a.den ρ/\a.den ρ<=b.den ρ/\b.den ρ<=((ab (p.den ρ)).length:Int):=hc
 have hl:=qx hp.2.2
 have hl2:(((ab (p.den ρ)).drop (a.den ρ).toNat).take ((b.den ρ).toNat-(a.den ρ).toNat)).length<=fs:=by simp;omega
 refine(dE (op:=2) (args:=[p,a,b]) (lL _) (kY hl2)).bind λaH n1 l _ _ ⟨h1,h2⟩=>?_
 have h2:l.den aH=eI (((ab (p.den ρ)).drop (a.den ρ).toNat).take ((b.den ρ).toNat-(a.den ρ).toNat)):=h2
 refine ar.pure ⟨⟨h1,by rw[h2];exact lL _,by rw[h2];exact kY hl2⟩,?_,hc⟩
 show _=_
 simp only[W.den,A.den,h2,gT]
 congr 1
 exact ByteArray.extract_mk _ _ _
theorem rU {v:V} {l:J} {x:Value} (h:kn v=some l) (hr:v.rel ρ m x) (a8:v.ok n bl.length ρ):∃k,x= .int k (l.den ρ)/\l.aX n:=by
 unfold kn at h
 split at h
 ·rename_i k a
  simp only[Option.some.injEq]at h;subst h
  exact⟨k,hr,a8.1⟩
 ·cases h
theorem lE {k:IntKind} {i:Int} {y:Nat} {j7:BoundsCode} (p1:0<=i) (bz:i<=y) (w:World):(Instr.sliceBound (.int k i) y j7).run P w= .ok i.toNat w:=by
 simp[Instr.sliceBound,asIntOf,p1,bz]
theorem XW {t:TypeId} {p:J} {lo hi:Option Operand} (hu:P.underlying t=some .string) (hp:(A.str p).ok n bl.length ρ) (ht:cI n bl.length ρ m tm a.tmps):
 ar S L (Fc tm p lo hi) n ρ (hh w0 m bl n ρ λw=>(Instr.sliceAt t (.string (a7 (ab (p.den ρ)))) (lo.map a.eval) (hi.map a.eval) none).run P w):=by
 unfold Fc
 split
 ·exact ar.fail
 ·rename_i la tI
  have jx:∃f:Option Value,lo.map a.eval=f/\(f=none/\la.den ρ=0∨∃k,f=some (.int k (la.den ρ))):=by
   cases lo with
   |none=>simp only[Option.some.injEq]at tI;subst tI;exact⟨none,rfl,.inl ⟨rfl,J.aS _ _⟩⟩
   |some x=>
    obtain⟨k,hk,_⟩:=rU (m:=m) (bl:=bl) tI (bJ ht x).2 (bJ ht x).1
    exact⟨_,rfl,.inr ⟨k,by rw[<-hk];rfl⟩⟩
  obtain⟨HZ,e1,fp⟩:=jx
  have key:∀(lb:J) (aH:Env) (n1:Nat),n<=n1->agree n ρ aH->(hi.map a.eval=none/\lb.den aH=((ab (p.den ρ)).length:Int)∨∃k,hi.map a.eval=some (.int k (lb.den aH)))->la.aX n->
   ar S L (Ag p la lb) n1 aH (hh w0 m bl n ρ λw=>(Instr.sliceAt t (.string (a7 (ab (p.den ρ)))) (lo.map a.eval) (hi.map a.eval) none).run P w):=λlb aH n1 hn ha al RT=>by
   have pM:(A.str p).ok n1 bl.length aH:=hp.ext ha hn (Nat.le_refl _)
   have ep:p.den aH=p.den ρ:=J.bj ha hp.1
   have BN:la.den aH=la.den ρ:=J.bj ha RT
   refine(XX (m:=m) (bl:=bl) (a:=la) (b:=lb) pM).mono λba db v _ _ ⟨q1,q2,q3,q4,q5⟩=>⟨q1,_,q2,λw _=>?_⟩
   rw[ep,BN]at*
   have ke:(Instr.sliceBounds false (a7 (ab (p.den ρ))).size (a7 (ab (p.den ρ))).size HZ (hi.map a.eval) none).run P w= .ok ((la.den ρ).toNat,(lb.den aH).toNat,(a7 (ab (p.den ρ))).size) w:=by
    rw[k6]
    rcases fp with⟨rfl,hz⟩|⟨k,rfl⟩<;>rcases al with⟨h1,h2⟩|⟨k2,h1⟩
    ·rw[h1,hz,h2];simp[Instr.sliceBounds]
    ·rw[h1,hz];simp[Instr.sliceBounds,lE (P:=P) (by omega:0<=lb.den aH) q5]
    ·rw[h1,h2];simp[Instr.sliceBounds,lE (P:=P) (y:=(ab (p.den ρ)).length) q3 (by omega)]
    ·rw[h1];simp[Instr.sliceBounds,lE (P:=P) (by omega:0<=lb.den aH) q5,lE (P:=P) (y:=(lb.den aH).toNat) q3 (by omega)]
   rw[e1]
   simp[Instr.sliceAt,Instr.slice,run_underlying hu,ke]
  have tJ:la.aX n:=by
   cases lo with
   |none=>simp only[Option.some.injEq]at tI;subst tI;exact J.bU _ _
   |some x=>exact(rU (m:=m) (bl:=bl) tI (bJ ht x).2 (bJ ht x).1).choose_spec.2
  cases hi with
  |none=>
   have hl:=qx hp.2.2
   unfold fs at hl
   exact(dE (op:=0) (args:=[p]) (Int.natCast_nonneg _) (by show((ab (p.den ρ)).length:Int)<=_;omega)).bind λaH n1 l hn ha ⟨h1,h2⟩=>key l aH n1 hn ha (.inl ⟨rfl,h2⟩) tJ
  |some y=>
   simp only
   cases hy:kn (bq tm y)with
   |none=>exact ar.fail
   |some b=>
    obtain⟨k,hk,_⟩:=rU (m:=m) (bl:=bl) hy (bJ ht y).2 (bJ ht y).1
    exact key b ρ n (Nat.le_refl _) (agree.refl _ _) (.inr ⟨k,by rw[<-hk];rfl⟩) tJ
theorem xL {xs:List Operand} (h:cI n bl.length ρ m tm a.tmps):dK ρ m (xs.map (bq tm)) (xs.map a.eval):=by
 induction xs with
 |nil=>trivial
 |cons x r ih=>exact⟨(bJ h x).2,ih⟩
theorem EL {c:Call} {f:FuncId} (hc:c.callee= .value (.func f)) (o:Oper) (ho:o.op= .call c):execOp a.eval o=callFunc f (c.args.map a.eval):=by
 simp only[execOp,ho,resolve,hc,Act.eval,Deferred.ofValue]
 simp[invoke,bind_pure_comp]
theorem BR {nb:Nat} {m:Nat->Nat}:∀(cJ:List Field) (x y:List A) (i n:Nat) (ρ:Env),te P i cJ=true->(∀a∈x,A.ok n nb ρ a)->(∀a∈y,A.ok n nb ρ a)->
 ar S L (ld P cJ x y) n ρ λag n' b=>b.aX n'/\∀(w:World) (d:Nat) (xs eu:Array Value),xs.toList.drop i=x.map (A.den ρ m)->eu.toList.drop i=y.map (A.den ρ m)->(Op.eqFields (d+1) xs eu cJ).run P w= .ok (b.den ag) w
 |[],[],[],i,n,ρ,_,_,_=>ar.pure ⟨trivial,λw d xs eu _ _=>by simp[Op.eqFields,aY.den]⟩
 |f::cJ,x::xs,y::eu,i,n,ρ,hf,hx,hy=>by
  cases x with
  |int k a=>
   cases y with
   |int aZ b=>
    unfold te at hf
    simp only[Bool.and_eq_true,bne_iff_ne,ne_eq]at hf
    obtain⟨⟨hn,ho⟩,hf⟩:=hf
    have ho:=Nat.eq_of_beq_eq_true ho
    unfold ld
    split
    ·rename_i k2 hk2
     have hu:=DF hk2
     refine cH λhk=>?_
     have hk:k=aZ:=by simpa using hk
     subst hk
     have wZ:a.ok n ρ:=hx (.int k a) (by simp)
     have w5:b.ok n ρ:=hy (.int k b) (by simp)
     refine(BR (nb:=nb) (m:=m) cJ xs eu (i+1) n ρ hf (λz hz=>hx z (List.mem_cons_of_mem _ hz)) (λz hz=>hy z (List.mem_cons_of_mem _ hz))).bind λag n' r rD cX ⟨r1,r2⟩=>ar.pure ?_
     have e1:=aY.k9 (wZ.agree cX rD) (w5.agree cX rD)
     refine⟨aY.Aa e1.2 r1,λw d jo jq wB wC=>?_⟩
     have kE:jo[i]?=some (.int k (a.l.den ρ)):=by
      have:=congrArg List.head? wB
      simpa [A.den]using this
     have vB:jq[i]?=some (.int k (b.l.den ρ)):=by
      have:=congrArg List.head? wC
      simpa [A.den]using this
     have qU:jo.toList.drop (i+1)=xs.map (A.den ρ m):=by
      have:=congrArg List.tail wB
      simpa using this
     have aP:jq.toList.drop (i+1)=eu.map (A.den ρ m):=by
      have:=congrArg List.tail wC
      simpa using this
     have lC:(part f.type jo f.offset).run P w= .ok (.int k (a.l.den ρ)) w:=by simp[part,isAgg,run_underlying hu,ho,kE]
     have sq:(part f.type jq f.offset).run P w= .ok (.int k (b.l.den ρ)) w:=by simp[part,isAgg,run_underlying hu,ho,vB]
     have BN:a.l.den ag=a.l.den ρ:=by
      have:=A.hM (m:=m) (m':=m) (hx (.int k a) (by simp)) cX (λ_ _=>rfl)
      simpa [A.den]using this
     have po:b.l.den ag=b.l.den ρ:=by
      have:=A.hM (m:=m) (m':=m) (hy (.int k b) (by simp)) cX (λ_ _=>rfl)
      simpa [A.den]using this
     simp only[Op.eqFields,ne_eq,hn,not_false_eq_true,if_true,Sem.run_bind,lC,sq,Result.andThen_ok,run_equalIn_int w d f.type k k2 _ _ hu,aY.yq,e1.1,BN,po]
     by_cases hq:a.l.den ρ=b.l.den ρ
     ·simp[hq,r2 w d jo jq qU aP]
     ·simp[hq]
    ·exact ar.fail
   |_=>unfold ld;exact ar.fail
  |str a=>
   cases y with
   |str b=>
    unfold te at hf
    simp only[Bool.and_eq_true,bne_iff_ne,ne_eq]at hf
    obtain⟨⟨hn,ho⟩,hf⟩:=hf
    have ho:=Nat.eq_of_beq_eq_true ho
    unfold ld
    split
    ·rename_i hu
     have b1:=sS (ab (a.den ρ)=ab (b.den ρ))
     refine(dE (op:=4) (args:=[a,b]) b1.1 b1.2).bind λaH n1 l c7 rn ⟨h1,h2⟩=>?_
     have h2:l.den aH=if ab (a.den ρ)=ab (b.den ρ)then 1 else 0:=h2
     have oC:∀z∈xs,A.ok n1 nb aH z:=λz hz=>(hx z (List.mem_cons_of_mem _ hz)).ext rn c7 (Nat.le_refl _)
     have Sh:∀z∈eu,A.ok n1 nb aH z:=λz hz=>(hy z (List.mem_cons_of_mem _ hz)).ext rn c7 (Nat.le_refl _)
     have ol:(⟨l,0,1⟩:bh).ok n1 aH:=⟨h1,by simp only[h2];exact b1.1,by simp only[h2];exact b1.2⟩
     refine(BR (nb:=nb) (m:=m) cJ xs eu (i+1) n1 aH hf oC Sh).bind λag n' r rD cX ⟨r1,r2⟩=>ar.pure ?_
     have e1:=aY.k9 (n:=n') (ρ:=ag) (a:=⟨l,0,1⟩) (b:= .const 1) (ol.agree cX rD) (bh.iW _ _ _)
     refine⟨aY.Aa e1.2 r1,λw d jo jq wB wC=>?_⟩
     have kE:jo[i]?=some (.string (a7 (ab (a.den ρ)))):=by
      have:=congrArg List.head? wB
      simpa [A.den]using this
     have vB:jq[i]?=some (.string (a7 (ab (b.den ρ)))):=by
      have:=congrArg List.head? wC
      simpa [A.den]using this
     have qU:jo.toList.drop (i+1)=xs.map (A.den aH m):=by
      have:=congrArg List.tail wB
      rw[List.map_congr_left (g:=A.den ρ m) λz hz=>A.hM (hx z (List.mem_cons_of_mem _ hz)) rn (λ_ _=>rfl)]
      simpa using this
     have aP:jq.toList.drop (i+1)=eu.map (A.den aH m):=by
      have:=congrArg List.tail wC
      rw[List.map_congr_left (g:=A.den ρ m) λz hz=>A.hM (hy z (List.mem_cons_of_mem _ hz)) rn (λ_ _=>rfl)]
      simpa using this
     have lC:(part f.type jo f.offset).run P w= .ok (.string (a7 (ab (a.den ρ)))) w:=by simp[part,isAgg,run_underlying hu,ho,kE]
     have sq:(part f.type jq f.offset).run P w= .ok (.string (a7 (ab (b.den ρ)))) w:=by simp[part,isAgg,run_underlying hu,ho,vB]
     have el:l.den ag=l.den aH:=J.bj cX h1
     have e2:(aY.mkEq ⟨l,0,1⟩ (.const 1)).den ag=decide (ab (a.den ρ)=ab (b.den ρ)):=by
      rw[e1.1]
      simp only[bh.const,J.aS,el,h2]
      by_cases hq:ab (a.den ρ)=ab (b.den ρ)<;>simp[hq]
     simp only[Op.eqFields,ne_eq,hn,not_false_eq_true,if_true,Sem.run_bind,lC,sq,Result.andThen_ok,run_equalIn_string w d f.type _ _ hu,aY.yq,e2,pe]
     by_cases hq:ab (a.den ρ)=ab (b.den ρ)
     ·simp[hq,r2 w d jo jq qU aP]
     ·simp[hq]
    ·exact ar.fail
   |_=>unfold ld;exact ar.fail
  |_=>unfold ld;exact ar.fail
 |[],_::_,_,_,_,_,_,_,_=>by unfold ld;exact ar.fail
 |[],[],y::_,_,_,_,_,_,_=>by cases y<;>(unfold ld;exact ar.fail)
 |_::_,[],_,_,_,_,_,_,_=>by unfold ld;exact ar.fail
 |_::_,x::_,[],_,_,_,_,_,_=>by cases x<;>(unfold ld;exact ar.fail)
def u7 (P:Program) (t:TypeId) (l:List Value) (v:Value):Prop:=(e8 P t=some true/\v= .agg l.toArray)∨(e8 P t=some false/\l=[v])
theorem Lf {t:TypeId} {xs:Array Value} {o s:Nat} (hs:de P t=some s) {v:Value} (h:u7 P t ((xs.toList.drop o).take s) v) (w:World):(part t xs o).run P w= .ok v w:=by
 obtain⟨l⟩:=xs
 rcases h with⟨h1,rfl⟩|⟨h1,h2⟩
 ·simp[part,jH h1,eS hs,List.take_drop]
 ·have h3:(⟨l⟩:Array Value)[o]?=some v:=by
   have h4:=congrArg List.head? h2
   rw[<-Array.getElem?_toList]
   cases s with
   |zero=>simp at h2
   |succ s=>simpa [List.head?_take,List.head?_drop]using h4
  simp[part,jH h1,h3]
theorem HN {nb:Nat} {m:Nat->Nat} {g:TypeId->List A->List A->M aY} {D:Nat}
 (hg:∀(t:TypeId) (x y:List A) (n:Nat) (ρ:Env),(∀a∈x,A.ok n nb ρ a)->(∀a∈y,A.ok n nb ρ a)->ar S L (g t x y) n ρ λag n' b=>b.aX n'/\∃jo jq,u7 P t (x.map (A.den ρ m)) jo/\u7 P t (y.map (A.den ρ m)) jq/\∀w,(Op.equalIn D t jo jq).run P w= .ok (b.den ag) w):
 ∀(cJ:List Field) (x y:List A) (o n:Nat) (ρ:Env),(∀a∈x,A.ok n nb ρ a)->(∀a∈y,A.ok n nb ρ a)->
 ar S L (yw P g o cJ x y) n ρ λag n' b=>b.aX n'/\∀(w:World) (xs eu:Array Value),xs.toList.drop o=x.map (A.den ρ m)->eu.toList.drop o=y.map (A.den ρ m)->(Op.eqFields D xs eu cJ).run P w= .ok (b.den ag) w
 |[],x,y,o,n,ρ,_,_=>ar.pure ⟨trivial,λw xs eu _ _=>by simp[Op.eqFields,aY.den]⟩
 |f::cJ,x,y,o,n,ρ,hx,hy=>by
  unfold yw
  cases hs:de P f.type with
  |none=>exact ar.fail
  |some s=>
   simp only
   refine cH λhc=>?_
   simp only[Bool.and_eq_true,bne_iff_ne,ne_eq]at hc
   obtain⟨hn,ho⟩:=hc
   have ho:=Nat.eq_of_beq_eq_true ho
   refine(hg f.type (x.take s) (y.take s) n ρ (λa ha=>hx a (List.mem_of_mem_take ha)) (λa ha=>hy a (List.mem_of_mem_take ha))).bind λaH n1 b c7 cm ⟨b1,jo,jq,b2,b3,b4⟩=>?_
   refine(HN hg cJ (x.drop s) (y.drop s) (o+s) n1 aH (λa ha=>(hx a (List.mem_of_mem_drop ha)).ext cm c7 (Nat.le_refl _)) (λa ha=>(hy a (List.mem_of_mem_drop ha)).ext cm c7 (Nat.le_refl _))).bind λba db r cQ cA ⟨r1,r2⟩=>ar.pure ⟨aY.Aa (b1.mono cQ) r1,λw xs eu dI rO=>?_⟩
   have lC:(part f.type xs f.offset).run P w= .ok jo w:=Lf hs (by rw[ho,dI,<-List.map_take];exact b2) w
   have sq:(part f.type eu f.offset).run P w= .ok jq w:=Lf hs (by rw[ho,rO,<-List.map_take];exact b3) w
   have qU:xs.toList.drop (o+s)=(x.drop s).map (A.den aH m):=by
    rw[<-List.drop_drop,dI,<-List.map_drop]
    exact(kM (λa ha=>hx a (List.mem_of_mem_drop ha)) cm (λ_ _=>rfl)).symm
   have aP:eu.toList.drop (o+s)=(y.drop s).map (A.den aH m):=by
    rw[<-List.drop_drop,rO,<-List.map_drop]
    exact(kM (λa ha=>hy a (List.mem_of_mem_drop ha)) cm (λ_ _=>rfl)).symm
   have po:b.den ba=b.den aH:=aY.bj cA b1
   simp only[Op.eqFields,ne_eq,hn,not_false_eq_true,if_true,Sem.run_bind,lC,sq,Result.andThen_ok,b4 w,aY.yq,po]
   cases hq:b.den aH with
   |true=>simp[r2 w xs eu qU aP]
   |false=>simp
theorem HO {nb:Nat} {m:Nat->Nat}:∀(d:Nat) (t:TypeId) (x y:List A) (n:Nat) (ρ:Env),(∀a∈x,A.ok n nb ρ a)->(∀a∈y,A.ok n nb ρ a)->∀D,d<=D->
 ar S L (s8 P d t x y) n ρ λag n' b=>b.aX n'/\∃jo jq,u7 P t (x.map (A.den ρ m)) jo/\u7 P t (y.map (A.den ρ m)) jq/\∀w,(Op.equalIn D t jo jq).run P w= .ok (b.den ag) w
 |0,t,x,y,n,ρ,_,_,_,_=>ar.fail
 |d+1,t,x,y,n,ρ,hx,hy,D,hD=>by
  obtain⟨E,rfl⟩:∃E,D=E+1:=⟨D-1,by omega⟩
  unfold s8
  split
  ·rename_i k hu
   split
   ·rename_i k1 a k2 b
    refine cH λhk=>?_
    have hk:k1=k2:=by simpa using hk
    subst hk
    have wZ:a.ok n ρ:=hx (.int k1 a) (by simp)
    have w5:b.ok n ρ:=hy (.int k1 b) (by simp)
    have e1:=aY.k9 wZ w5
    have cX:e8 P t=some false:=by simp[e8,hu]
    refine ar.pure ⟨e1.2,_,_,.inr ⟨cX,rfl⟩,.inr ⟨cX,rfl⟩,λw=>?_⟩
    simp only[A.den]
    rw[run_equalIn_int w E t k1 k _ _ hu,e1.1]
    rfl
   ·exact ar.fail
  ·rename_i hu
   split
   ·rename_i a b
    have b1:=sS (ab (a.den ρ)=ab (b.den ρ))
    have cX:e8 P t=some false:=by simp[e8,hu]
    refine(dE (op:=4) (args:=[a,b]) b1.1 b1.2).bind λaH n1 l c7 rn ⟨h1,h2⟩=>ar.pure ?_
    have h2:l.den aH=if ab (a.den ρ)=ab (b.den ρ)then 1 else 0:=h2
    have ol:(⟨l,0,1⟩:bh).ok n1 aH:=⟨h1,by simp only[h2];exact b1.1,by simp only[h2];exact b1.2⟩
    have e1:=aY.k9 (n:=n1) (ρ:=aH) (a:=⟨l,0,1⟩) (b:= .const 1) ol (bh.iW _ _ _)
    refine⟨e1.2,_,_,.inr ⟨cX,rfl⟩,.inr ⟨cX,rfl⟩,λw=>?_⟩
    simp only[A.den]
    rw[run_equalIn_string w E t _ _ hu,e1.1,pe,pe]
    simp only[bh.const,J.aS,h2]
    by_cases hq:ab (a.den ρ)=ab (b.den ρ)
    ·simp[hq]
    ·simp[hq]
   ·exact ar.fail
  ·rename_i hu
   split
   ·rename_i a b
    have cX:e8 P t=some false:=by simp[e8,hu]
    have wZ:a.aX n:=hx (.bool a) (by simp)
    have w5:b.aX n:=hy (.bool b) (by simp)
    refine ar.pure ⟨aY.EP wZ w5,_,_,.inr ⟨cX,rfl⟩,.inr ⟨cX,rfl⟩,λw=>?_⟩
    simp only[A.den]
    rw[run_equalIn_bool w E t _ _ hu,aY.BI]
   ·exact ar.fail
  ·rename_i cJ hu
   refine cH λhg=>?_
   have hg:P.stoodInHeld t=false:=by simpa using hg
   have cX:e8 P t=some true:=by simp[e8,hu]
   refine(HN (m:=m) (D:=E) (λt x y n ρ h1 h2=>HO d t x y n ρ h1 h2 E (by omega)) cJ.toList x y 0 n ρ hx hy).mono λag n' b _ _ ⟨h1,h2⟩=>⟨h1,_,_,.inl ⟨cX,rfl⟩,.inl ⟨cX,rfl⟩,λw=>?_⟩
   have hf:P.fieldsOf t=cJ:=by simp[Program.fieldsOf,hu]
   rw[run_equalIn_struct w E t _ _ (by rw[hf];exact hu) hg,hf]
   exact h2 w _ _ (by simp) (by simp)
  ·exact ar.fail
theorem HQ {nb:Nat} {m:Nat->Nat} {t:TypeId} {x y:List A} (hx:∀a∈x,A.ok n nb ρ a) (hy:∀a∈y,A.ok n nb ρ a):
 ar S L (yx P t x y) n ρ λag n' b=>b.aX n'/\P.eqGuardType P.depth t=false/\∀w,(Op.equalIn 10000 t (.agg (x.map (A.den ρ m)).toArray) (.agg (y.map (A.den ρ m)).toArray)).run P w= .ok (b.den ag) w:=by
 unfold yx
 split
 ·rename_i cJ hu
  have ja:e8 P t=some true:=by simp[e8,hu]
  have deep:P.eqGuardType P.depth t=false->ar S L (s8 P 8 t x y) n ρ λag n' b=>b.aX n'/\P.eqGuardType P.depth t=false/\∀w,(Op.equalIn 10000 t (.agg (x.map (A.den ρ m)).toArray) (.agg (y.map (A.den ρ m)).toArray)).run P w= .ok (b.den ag) w:=λhg=>
   (HO (m:=m) 8 t x y n ρ hx hy 10000 (by decide)).mono λag n' b _ _ ⟨h1,jo,jq,h2,h3,h4⟩=>⟨h1,hg,λw=>by
     rcases h2 with⟨_,rfl⟩|⟨h2,_⟩
     ·rcases h3 with⟨_,rfl⟩|⟨h3,_⟩
      ·exact h4 w
      ·rw[ja]at h3;cases h3
     ·rw[ja]at h2;cases h2⟩
  cases hg:(te P 0 cJ.toList&& !P.stoodInHeld t&& !P.eqGuardType P.depth t)with
  |true=>
   simp only[cond_true]
   simp only[Bool.and_eq_true,Bool.not_eq_true']at hg
   generalize (cJ.toList.all λf=>match P.underlying f.type with|some (.int _)=>true|some .string=>true|_=>false)=flat
   cases flat with
   |true=>
    simp only[cond_true]
    refine(BR (nb:=nb) (m:=m) cJ.toList x y 0 n ρ hg.1.1 hx hy).mono λag n' b _ _ ⟨h1,h2⟩=>⟨h1,hg.2,λw=>?_⟩
    have hf:P.fieldsOf t=cJ:=by simp[Program.fieldsOf,hu]
    rw[run_equalIn_struct w 9999 t _ _ (by rw[hf];exact hu) hg.1.2,hf]
    exact h2 w 9998 _ _ (by simp) (by simp)
   |false=>exact deep hg.2
  |false=>
   simp only[cond_false]
   refine cH λhg2=>deep (by simpa using hg2)
 ·exact ar.fail
theorem WB {bd:ey} (cN:gD S P gl w0 bd) (hb:bQ n bl.length ρ bl) (hg:fv gl w0) (hex:∃w,Mem w0 ρ m bl w) (ht:cI n bl.length ρ m tm a.tmps) (o:Oper):
 ar S L (Et P bd gl bl tm o) n ρ (gE w0 m bl n ρ P o a):=by
 unfold Et
 split
 case h_1 x h=>
  exact ar.pure ⟨(bJ ht x).1,_,(bJ ht x).2,λw _=> .inl (by simp[execOp,h])⟩
 case h_2 x h=>
  exact ar.pure ⟨(bJ ht x).1,_,(bJ ht x).2,λw _=> .inl (by simp[execOp,h])⟩
 case h_3 t x h=>
  have hx:=bJ ht x
  have he:execOp a.eval o=(do pure (Next.value (<-Instr.loadAt t (a.eval x)))):=by simp only[execOp,h]
  split
  ·rename_i b off aR hv
   rw[hv]at hx
   have cg:a.eval x=(A.iQ b off aR).den ρ m:=hx.2
   rw[cg]at he
   exact(Xp hb t b off hx.1.2.1).mono λ_ _ _ _ _ hq=>gE.of_run he hq
  ·rename_i g off aR hv
   rw[hv]at hx
   have cg:a.eval x=(A.tk g off aR).den ρ m:=hx.2
   rw[cg]at he
   exact(Xo hg t g off hx.1.1).mono λ_ _ _ _ _ hq=>gE.of_run he hq
  ·rename_i p _ _ hv
   rw[hv]at hx
   have cg:a.eval x=p.den ρ m:=hx.2
   rw[cg]at he
   exact(TG hb hg hex t p).mono λ_ _ _ _ _ hq=>gE.of_run he hq
  ·exact ar.fail
 case h_4 x h=>
  have hx:=bJ ht x
  unfold KQ
  split<;>first
   |exact ar.fail
   |(rename_i hv
     rw[hv]at hx
     refine ar.pure ⟨hx.1,_,rfl,λw _=> .inl ?_⟩
     have cg:=hx.2
     simp only[V.rel,W.den,A.den]at cg
     simp[execOp,h,cg,W.den,A.den])
 case h_5 c x y h=>
  have hc:=bJ ht c
  split
  ·rename_i v hv
   rw[hv]at hc
   have e1:a.eval c= .bool v:=hc.2
   cases v with
   |true=>exact ar.pure ⟨(bJ ht x).1,_,(bJ ht x).2,λw _=> .inl (by simp[execOp,h,e1,asBool])⟩
   |false=>exact ar.pure ⟨(bJ ht y).1,_,(bJ ht y).2,λw _=> .inl (by simp[execOp,h,e1,asBool])⟩
  ·exact ar.fail
 case h_6 op t x y t' h=>
  have hx:=bJ ht x
  have hy:=bJ ht y
  unfold GY
  split
  ·rename_i k p aZ q kk hv2
   rw[kk]at hx;rw[hv2]at hy
   have e1:a.eval x= .int k (p.l.den ρ):=hx.2
   have e2:a.eval y= .int aZ (q.l.den ρ):=hy.2
   refine(N0 (nb:=bl.length) (m:=m) P t hx.1 hy.1).bind λaH n1 r _ _ ⟨h1,h2⟩=>ar.pure ⟨h1,_,rfl,λw _=> .inl ?_⟩
   have hgd:(eqGuard op t x y (.int k (p.l.den ρ)) (.int aZ (q.l.den ρ))).run P w= .ok () w:=by cases op<;>simp[eqGuard]
   simp only[execOp,h,e1,e2]
   simp[hgd,h2,W.den]
  ·rename_i p q kk hv2
   rw[kk]at hx;rw[hv2]at hy
   have e1:a.eval x= .agg (p.map (A.den ρ m)).toArray:=hx.2
   have e2:a.eval y= .agg (q.map (A.den ρ m)).toArray:=hy.2
   split
   ·rename_i b heq
    obtain⟨s1,g1,r1⟩:=HP (m:=m) heq hx.1 hy.1
    refine ar.pure ⟨s1,_,rfl,λw _=> .inl ?_⟩
    simp only[execOp,h,e1,e2]
    simp[run_eqGuard_agg w .eql t x y _ _ g1,run_eql_struct,r1,W.den,A.den]
   ·rename_i b heq
    obtain⟨s1,g1,r1⟩:=HP (m:=m) heq hx.1 hy.1
    refine ar.pure ⟨aY.nJ s1,_,rfl,λw _=> .inl ?_⟩
    simp only[execOp,h,e1,e2]
    simp[run_eqGuard_agg w .neq t x y _ _ g1,run_neq_struct,r1,W.den,A.den,aY.na]
   ·rename_i heq
    refine(HQ (m:=m) (t:=t) hx.1 hy.1).bind λag n' r _ _ ⟨r1,g1,r2⟩=>ar.pure ⟨r1,_,rfl,λw _=> .inl ?_⟩
    simp only[execOp,h,e1,e2]
    simp[run_eqGuard_agg w .eql t x y _ _ g1,run_eql_struct,r2,W.den,A.den]
   ·rename_i heq
    refine(HQ (m:=m) (t:=t) hx.1 hy.1).bind λag n' r _ _ ⟨r1,g1,r2⟩=>ar.pure ⟨aY.nJ r1,_,rfl,λw _=> .inl ?_⟩
    simp only[execOp,h,e1,e2]
    simp[run_eqGuard_agg w .neq t x y _ _ g1,run_neq_struct,r2,W.den,A.den,aY.na]
   ·exact ar.fail
  ·rename_i p q kk hv2
   rw[kk]at hx;rw[hv2]at hy
   have e1:a.eval x= .string (a7 (ab (p.den ρ))):=hx.2
   have e2:a.eval y= .string (a7 (ab (q.den ρ))):=hy.2
   have he:execOp a.eval o=(do pure (Next.value (<-(do eqGuard op t x y (.string (a7 (ab (p.den ρ)))) (.string (a7 (ab (q.den ρ))));binOp op t (.string (a7 (ab (p.den ρ)))) (.string (a7 (ab (q.den ρ)))):Sem Value)))):=by simp only[execOp,h,e1,e2]
   exact(XT (op:=op) (t:=t) (x:=x) (y:=y) (w0:=w0) (m:=m) hx.1 hy.1).mono λ_ _ _ _ _ hq=>gE.of_run he hq
  ·rename_i p q kk hv2
   rw[kk]at hx;rw[hv2]at hy
   have e1:a.eval x= .bool (p.den ρ):=hx.2
   have e2:a.eval y= .bool (q.den ρ):=hy.2
   have hgd:(eqGuard op t x y (.bool (p.den ρ)) (.bool (q.den ρ))).run P=λw=> .ok () w:=by funext w;cases op<;>simp[eqGuard]
   split
   ·rename_i hu
    refine ar.pure ⟨aY.EP hx.1 hy.1,_,rfl,λw _=> .inl ?_⟩
    simp only[execOp,h,e1,e2]
    simp[hgd,run_eql_bool w t _ _ hu,W.den,A.den,aY.BI]
   ·rename_i hu
    refine ar.pure ⟨aY.nJ (aY.EP hx.1 hy.1),_,rfl,λw _=> .inl ?_⟩
    simp only[execOp,h,e1,e2]
    simp[hgd,run_neq_bool w t _ _ hu,W.den,A.den,aY.BI,aY.na]
   ·exact ar.fail
  ·exact ar.fail
 case h_7 op t x h=>
  have hx:=bJ ht x
  unfold Mz
  split
  ·rename_i b hv
   rw[hv]at hx
   have e1:a.eval x= .bool (b.den ρ):=hx.2
   refine ar.pure ⟨aY.nJ hx.1,_,rfl,λw _=> .inl ?_⟩
   simp[execOp,h,e1,Op.unary,W.den,A.den,aY.na]
  ·rename_i k p hv
   rw[hv]at hx
   have e1:a.eval x= .int k (p.l.den ρ):=hx.2
   refine cH λhc=>?_
   simp only[Bool.and_eq_true,Bool.not_eq_true',decide_eq_true_eq]at hc
   have hp:=hx.1
   have G7:=bh.ok.agree (n':=n) hp (agree.refl n ρ) (Nat.le_refl _)
   have b2:=G7.2
   have e2:((J.const (two k-1)).sub p.l).den ρ=two k-1-p.l.den ρ:=by rw[J.iE,J.aS]
   refine ar.pure ⟨⟨J.qj (J.bU _ _) G7.1,by simp only[e2];omega,by simp only[e2];omega⟩,_,rfl,λw _=> .inl ?_⟩
   have key:k.wrap (BitVec.ofInt k.bits (if k.signed=true then-1 else k.max)^^^BitVec.ofInt k.bits (p.l.den ρ)).toNat=two k-1-p.l.den ρ:=by
    have hk:=hc.1.1
    obtain⟨X,bt⟩:=Int.eq_ofNat_of_zero_le (show 0<=p.l.den ρ by omega)
    have hlt:X<2^k.bits:=by
     have:(X:Int)<2^k.bits:=by rw[<-nP,<-bt];omega
     exact_mod_cast this
    have hall:(BitVec.ofInt k.bits (if k.signed=true then-1 else k.max))=BitVec.allOnes k.bits:=by
     cases k<;>simp[IntKind.signed]at hk<;>rfl
    rw[hall,BitVec.allOnes_xor,BitVec.toNat_not,bt,BitVec.toNat_ofInt]
    have e3:((X:Int)% ((2^k.bits:Nat):Int)).toNat=X:=by
     rw[Int.emod_eq_of_lt (by omega) (by exact_mod_cast hlt)];rfl
    rw[e3,Av]
    have al:half k=0:=by simp[half,hk]
    have h2:two k=((2^k.bits:Nat):Int):=by rw[nP];simp
    rw[al,h2,Int.add_zero,Int.sub_zero,Int.emod_eq_of_lt (by omega) (by omega)]
    omega
   simp only[execOp,h,e1,Op.unary,Op.intBits,W.den,A.den,e2]
   simp at key
   simp[key]
  ·rename_i k p hv
   rw[hv]at hx
   have e1:a.eval x= .int k (p.l.den ρ):=hx.2
   have b2:=bh.ok.agree (n':=n) hx.1 (agree.refl n ρ) (Nat.le_refl _)
   have b3:=b2.2
   have e2:(p.l.smul (-1)).den ρ=-p.l.den ρ:=by rw[J.iX];omega
   refine(qq (k:=k) (x:=⟨p.l.smul (-1),-p.hi,-p.lo⟩) ⟨J.qi b2.1,by simp only[e2];omega,by simp only[e2];omega⟩).bind λaH n1 r _ _ ⟨h1,h2⟩=>ar.pure ⟨h1,_,rfl,λw _=> .inl ?_⟩
   simp only[e2]at h2
   simp[execOp,h,e1,Op.unary,Op.intArith,W.den,A.den,h2]
  ·exact ar.fail
 case h_8 s d x h=>
  have hx:=bJ ht x
  unfold Hr
  split
  ·rename_i aZ p hu hk hv
   rw[hv]at hx
   have e1:a.eval x= .int aZ (p.l.den ρ):=hx.2
   split
   ·rename_i c hc
    refine cH λhsz=>?_
    have hl:(Utf8.encode c).data.toList.length<=fs:=by
     have:=Nat.le_of_ble_eq_true hsz
     have h2:(Utf8.encode c).data.toList.length=(Utf8.encode c).size:=by simp
     unfold fs;omega
    refine ar.pure ⟨⟨J.bU _ _,by rw[J.aS];exact lL _,by rw[J.aS];exact kY hl⟩,_,rfl,λw _=> .inl ?_⟩
    simp[execOp,h,e1,convert,run_underlying hu,run_underlying hk,Conv.intToString,W.den,A.den,J.aS,gT,a7,J.fl hc]
   ·exact ar.fail
  ·split
   rotate_left
   ·exact ar.fail
   rename_i k aZ p hu hk hv
   rw[hv]at hx
   have e1:a.eval x= .int aZ (p.l.den ρ):=hx.2
   refine(qq (k:=k) hx.1).bind λaH n1 r _ _ ⟨h1,h2⟩=>ar.pure ⟨h1,_,rfl,λw _=> .inl ?_⟩
   simp[execOp,h,e1,convert,run_underlying hu,run_underlying (DF hk),Conv.intToInt,W.den,A.den,h2]
 case h_9 t x aR h=>
  have hx:=bJ ht x
  have hi:=bJ ht aR
  split
  ·rename_i k i hv
   rw[hv]at hi
   have e1:a.eval aR= .int k (i.l.den ρ):=hi.2
   have he:execOp a.eval o=(do pure (Next.value (<-Instr.indexAt t (a.eval x) (.int k (i.l.den ρ))))):=by simp only[execOp,h,e1]
   exact(Ss hx.1 hx.2 hi.1).mono λ_ _ _ _ _ hq=>gE.of_run he hq
  ·exact ar.fail
 case h_10 t x aR h=>
  have hx:=bJ ht x
  have hi:=bJ ht aR
  split
  ·rename_i s hv
   rw[hv]at hx
   have e1:a.eval x= .string (a7 (ab (s.den ρ))):=hx.2
   split
   ·rename_i i hu tC
    obtain⟨k,hk,_⟩:=rU (m:=m) (bl:=bl) tC hi.2 hi.1
    have he:execOp a.eval o=(do pure (Next.value (<-Instr.index t (.string (a7 (ab (s.den ρ)))) (.int k (i.den ρ))))):=by simp only[execOp,h,e1,hk]
    exact(XU (w0:=w0) (m:=m) hu hx.1).mono λ_ _ _ _ _ hq=>gE.of_run he hq
   ·exact ar.fail
  split
  ·rename_i l i len e hv tC pB
   rw[hv]at hx
   have e1:a.eval x= .agg (l.map (A.den ρ m)).toArray:=hx.2
   have e2:∃k,a.eval aR= .int k i:=by
    unfold ym at tC
    split at tC
    ·rename_i k p hv2
     rw[hv2]at hi
     have:a.eval aR= .int k (p.l.den ρ):=hi.2
     exact⟨k,by rw[this,J.fl tC]⟩
    ·cases tC
   obtain⟨k,e2⟩:=e2
   split
   ·rename_i s hs
    refine cH λhc=>?_
    simp only[Bool.and_eq_true,decide_eq_true_eq]at hc
    refine(El (w0:=w0) (m:=m) (bl:=bl) hx.1).mono λaH n1 v _ _ ⟨q1,val,q2,q3⟩=>⟨q1,val,q2,λw hw=> .inl ?_⟩
    have:=q3 w hw
    simp[execOp,h,e1,e2,Instr.index,asIntOf,run_underlying (mo pB),hc,eS hs,this]
   ·exact ar.fail
  ·exact ar.fail
 case h_11 s x f h=>
  have hx:=bJ ht x
  split
  ·rename_i b off fd hv hf
   rw[hv]at hx
   have e1:a.eval x= .pointer (some ⟨m b,off,none⟩):=hx.2
   obtain⟨cJ,hu,vU⟩:=BT hf
   split
   ·rename_i k hs
    refine ar.pure ⟨hx.1,_,rfl,λw _=> .inl ?_⟩
    simp[execOp,h,e1,Instr.fieldAt,run_underlying hu,vU,Instr.sureAddr,fieldPlace,eS hs,eZ,W.den,A.den]
   ·exact ar.fail
  ·exact ar.fail
 case h_12 s x f h=>
  have hx:=bJ ht x
  split
  ·rename_i l fd hv hf
   rw[hv]at hx
   have e1:a.eval x= .agg (l.map (A.den ρ m)).toArray:=hx.2
   obtain⟨cJ,hu,vU⟩:=BT hf
   refine(El (w0:=w0) (m:=m) (bl:=bl) hx.1).mono λaH n1 v _ _ ⟨q1,val,q2,q3⟩=>⟨q1,val,q2,λw hw=> .inl ?_⟩
   have:=q3 w hw
   simp[execOp,h,e1,Instr.field,asAgg,run_underlying hu,vU,this]
  ·exact ar.fail
 case h_13 x i h=>
  have hx:=bJ ht x
  split
  ·rename_i l hv
   rw[hv]at hx
   have e1:a.eval x= .tuple (l.map (W.den ρ m)).toArray:=hx.2
   split
   ·rename_i u hu
    refine ar.pure ⟨hx.1 u (List.mem_of_getElem? hu),_,rfl,λw _=> .inl ?_⟩
    simp[execOp,h,e1,Instr.extract,hu]
   ·exact ar.fail
  ·exact ar.fail
 case h_14 t x lo hi h=>
  have hx:=bJ ht x
  split
  ·rename_i s hv hu
   rw[hv]at hx
   have e1:a.eval x= .string (a7 (ab (s.den ρ))):=hx.2
   have he:execOp a.eval o=(do pure (Next.value (<-Instr.sliceAt t (.string (a7 (ab (s.den ρ)))) (lo.map a.eval) (hi.map a.eval) none))):=by simp only[execOp,h,e1];rfl
   exact(XW (w0:=w0) (m:=m) hu hx.1 ht).mono λ_ _ _ _ _ hq=>gE.of_run he hq
  have key:∀(y:Option Operand) (c:Option Int),zG tm y=some c->∃f:Int->Value,(∀c,∃k,f c= .int k c)/\y.map a.eval=c.map f:=by
   intro y c hy
   unfold zG at hy
   cases y with
   |none=>simp at hy;subst hy;exact⟨λc=> .int .i64 c,λc=>⟨_,rfl⟩,rfl⟩
   |some y=>
    simp only at hy
    have hi:=bJ ht y
    unfold ym at hy
    split at hy
    ·rename_i c' hq
     split at hq
     ·rename_i k p hv2
      simp only[Option.some.injEq]at hy;subst hy
      rw[hv2]at hi
      have:a.eval y= .int k (p.l.den ρ):=hi.2
      exact⟨λc=> .int k c,λc=>⟨_,rfl⟩,by simp[this,J.fl hq]⟩
     ·cases hq
    ·cases hy
  split
  ·rename_i l al h1 h2
   obtain⟨HZ,H0,H2⟩:=key lo l h1
   obtain⟨ZW,yA,HT⟩:=key hi al h2
   unfold Mb
   split
   ·rename_i b off se e hv pB
    rw[hv]at hx
    have e1:a.eval x= .pointer (some ⟨m b,off,none⟩):=hx.2
    split
    ·rename_i s hs
     refine cH λhc=>?_
     simp only[Bool.and_eq_true,decide_eq_true_eq]at hc
     refine ar.pure ⟨hx.1,_,rfl,λw _=> .inl ?_⟩
     have hP:(Instr.sliceBounds false se se (lo.map a.eval) (hi.map a.eval) none).run P w= .ok ((l.getD 0).toNat,(al.getD se).toNat,se) w:=by
      rw[H2,HT]
      have c1:∀(k:IntKind) (i:Int) (y:Nat) (j7:BoundsCode),0<=i->i<=y->(Instr.sliceBound (.int k i) y j7).run P w= .ok i.toNat w:=λk i y j7 p1 bz=>by
       simp[Instr.sliceBound,asIntOf,p1,bz]
      cases l with
      |none=>
       cases al with
       |none=>simp[Instr.sliceBounds]
       |some h'=>
        obtain⟨aZ,fF⟩:=yA h'
        simp only[Option.getD_none,Option.getD_some]at hc
        simp[Instr.sliceBounds,fF,c1 aZ h' se _ (by omega) (by omega)]
      |some bp=>
       obtain⟨k1,dV⟩:=H0 bp
       cases al with
       |none=>
        simp only[Option.getD_none,Option.getD_some]at hc
        simp[Instr.sliceBounds,dV,c1 k1 bp se _ (by omega) (by omega)]
       |some h'=>
        obtain⟨aZ,fF⟩:=yA h'
        simp only[Option.getD_some]at hc
        simp[Instr.sliceBounds,fF,dV,c1 aZ h' se _ (by omega) (by omega),c1 k1 bp h'.toNat _ (by omega) (by omega)]
     simp only[execOp,h,e1,Option.map_none,Instr.sliceAt]
     simp[run_underlying (mo pB),Instr.sureAddr,hP,eS hs,eZ,W.den,A.den]
     intro hq
     have h3:=hc.2
     omega
    ·exact ar.fail
   ·rename_i b off len cap hv pB
    rw[hv]at hx
    have e1:a.eval x= .slice (some ⟨m b,off,none⟩) len cap:=hx.2
    split
    ·rename_i e rL
     split
     ·rename_i s hs
      refine cH λhc=>?_
      simp only[Bool.and_eq_true,decide_eq_true_eq]at hc
      refine ar.pure ⟨hx.1,_,rfl,λw _=> .inl ?_⟩
      have hP:(Instr.sliceBounds true len cap (lo.map a.eval) (hi.map a.eval) none).run P w= .ok ((l.getD 0).toNat,(al.getD len).toNat,cap) w:=by
       rw[H2,HT]
       have c1:∀(k:IntKind) (i:Int) (y:Nat) (j7:BoundsCode),0<=i->i<=y->(Instr.sliceBound (.int k i) y j7).run P w= .ok i.toNat w:=λk i y j7 p1 bz=>by
        simp[Instr.sliceBound,asIntOf,p1,bz]
       cases l with
       |none=>
        cases al with
        |none=>simp[Instr.sliceBounds]
        |some h'=>
         obtain⟨aZ,fF⟩:=yA h'
         simp only[Option.getD_none,Option.getD_some]at hc
         simp[Instr.sliceBounds,fF,c1 aZ h' cap _ (by omega) (by omega)]
       |some bp=>
        obtain⟨k1,dV⟩:=H0 bp
        cases al with
        |none=>
         simp only[Option.getD_none,Option.getD_some]at hc
         simp[Instr.sliceBounds,dV,c1 k1 bp len _ (by omega) (by omega)]
        |some h'=>
         obtain⟨aZ,fF⟩:=yA h'
         simp only[Option.getD_some]at hc
         simp[Instr.sliceBounds,fF,dV,c1 aZ h' cap _ (by omega) (by omega),c1 k1 bp h'.toNat _ (by omega) (by omega)]
      simp only[execOp,h,e1,Option.map_none,Instr.sliceAt]
      simp[run_underlying (ej rL),Instr.slice,hP,eS hs,eZ,W.den,A.den]
      intro hq
      have h3:=hc.2
      omega
     ·exact ar.fail
    ·exact ar.fail
   ·exact ar.fail
  ·exact ar.fail
 case h_15 c h=>
  split
  ·rename_i f hc
   split
   ·rename_i g CF
    have lR:∀v∈c.args.toList.map (bq tm),V.ok n bl.length ρ v:=λv hv=>by
     obtain⟨x,_,rfl⟩:=List.mem_map.1 hv
     exact(bJ ht x).1
    refine(cN f g CF L n ρ m bl _ _ hb hex lR (xL (xs:=c.args.toList) ht)).mono λaH n1 v _ _ ⟨q1,val,q2,q3⟩=>⟨q1,val,q2,λw hw=>?_⟩
    have he:=EL (a:=a) hc o h
    have ha:(c.args.toList.map a.eval).toArray=c.args.map a.eval:=by
     rw[<-Array.toList_map]
    have q4:=q3 w hw
    rw[ha]at q4
    rcases q4 with q4|⟨q4,q5⟩
    ·exact .inl (by rw[he];exact q4)
    ·exact .inr ⟨f,_,by rw[he];exact q4,q5⟩
   ·exact ar.fail
  ·rename_i hc
   split
   ·rename_i x t dI gh
    have hx:=bJ ht x
    split
    ·rename_i s hv hu
     rw[hv]at hx
     have e1:a.eval x= .string (a7 (ab (s.den ρ))):=hx.2
     have a1:c.args=#[x]:=by rw[<-Array.toArray_toList (xs:=c.args),dI]
     have a2:c.argTypes=#[t]:=by rw[<-Array.toArray_toList (xs:=c.argTypes),gh]
     have he:execOp a.eval o=(do pure (Next.value (<-Builtin.len_ #[t] o.type #[.string (a7 (ab (s.den ρ)))]))):=by
      simp[execOp,h,resolve,hc,a1,a2,e1,invoke,builtin]
     exact(XV (w0:=w0) (m:=m) hu hx.1).mono λ_ _ _ _ _ hq=>gE.of_run he hq
    split
    ·rename_i b off len cap e hv hs
     rw[hv]at hx
     have e1:a.eval x= .slice (some ⟨m b,off,none⟩) len cap:=hx.2
     refine ar.pure ⟨bh.iW _ _ _,_,rfl,λw _=> .inl ?_⟩
     have a1:c.args=#[x]:=by rw[<-Array.toArray_toList (xs:=c.args),dI]
     have a2:c.argTypes=#[t]:=by rw[<-Array.toArray_toList (xs:=c.argTypes),gh]
     simp[execOp,h,resolve,hc,a1,a2,e1,invoke,builtin,Builtin.len_,run_underlying (ej hs),goInt,W.den,A.den,bh.const,J.aS]
    ·rename_i b len lo e hv hs
     rw[hv]at hx
     obtain⟨e4,_,e1⟩:=hx.2
     refine ar.pure ⟨bh.iW _ _ _,_,rfl,λw _=> .inl ?_⟩
     have a1:c.args=#[x]:=by rw[<-Array.toArray_toList (xs:=c.args),dI]
     have a2:c.argTypes=#[t]:=by rw[<-Array.toArray_toList (xs:=c.argTypes),gh]
     simp[execOp,h,resolve,hc,a1,a2,e1,invoke,builtin,Builtin.len_,run_underlying (ej hs),goInt,W.den,A.den,bh.const,J.aS]
    ·exact ar.fail
   ·exact ar.fail
  ·exact ar.fail
 case h_16 f first fc h=>
  split
  ·rename_i l hf hl
   obtain⟨g1,g2⟩:=Vw (m:=m) hl (λv hv=>by obtain⟨x,_,rfl⟩:=List.mem_map.1 hv;exact(bJ ht x).1) (xL (xs:=fc.toList) ht)
   have hf':first=#[]:=by rw[<-Array.toArray_toList (xs:=first),hf]
   have Qv:fc.map a.eval=(l.map (A.den ρ m)).toArray:=by rw[<-g2,<-Array.toList_map]
   refine ar.pure ⟨g1,_,rfl,λw _=> .inl ?_⟩
   simp only[execOp,h,Qv,hf']
   simp[Instr.makeFunc]
  ·exact ar.fail
 case h_17 t parts h=>
  split
  ·rename_i l hl
   obtain⟨g1,g2⟩:=N6 (n:=n) (nb:=bl.length) (ρ:=ρ) (m:=m) (vals:=(parts.map λ(i,x)=>(i,a.eval x)).toList) hl (by
    rw[Array.toList_map]
    generalize parts.toList=jG
    induction jG with
    |nil=>exact trivial
    |cons p r ih=>exact⟨⟨rfl,bJ ht p.2⟩,ih⟩)
   refine ar.pure ⟨g1,_,rfl,λw _=> .inl ?_⟩
   simp only[execOp,h]
   simp[run_build w t _ _ g2,W.den]
  ·exact ar.fail
 case h_18 t x h=>
  have hx:=bJ ht x
  split
  ·rename_i b len lo k e hv ha
   rw[hv]at hx
   refine cH λhc=>ar.pure ⟨hx.1,_,rfl,λw _=> .inl ?_⟩
   obtain⟨c,hc1,hc2⟩:=hx.2
   have hle:¬len<k:=by have:=Nat.le_of_ble_eq_true hc;omega
   simp only[execOp,h]
   rw[hc2]
   simp[Instr.arrayAt,run_underlying (mo ha),hle,W.den,A.den]
  ·exact ar.fail
 case h_19=>exact ar.fail
end
end Go.bo
namespace Go.bo
open M
noncomputable def s0 (c:az) (code i:J) (j:Nat):M A:=
 match c with
 | .int k lo hi=>bind (cT 21 [code,i,.const j] lo hi) λl=>pure (.int k ⟨l,lo,hi⟩)
 | .str=>bind (cT 21 [code,i,.const j] 0 aD) λl=>pure (.str l)
 | .bool=>bind (cT 21 [code,i,.const j] 0 1) λl=>pure (.bool (.mkEq ⟨l,0,1⟩ (.const 1)))
 | .sub _=>fail
noncomputable def yi (code i:J):Nat->List az->M (List A)
 |_,[]=>pure []
 |j,c::r=>bind (s0 c code i j) λa=>bind (yi code i (j+1) r) λl=>pure (a::l)
noncomputable def EI (c:az) (code:J):Nat->J->M (List A)
 |0,_=>pure []
 |q+1,i=>bind (dh 21 [code,i]) λ_=>bind (s0 c code i 0) λa=>bind (EI c code q (i.add (.const 1))) λl=>pure (a::l)
noncomputable def BQ (P:Program) (bl:List ax) (t:TypeId) (b aV:Nat) (o i:J) (j:Nat):M V:=
 match bl[b]? with
 |some ([.rows sh off code cap kind],_)=>cond (Nat.blt 0 kind&&Nat.beq aV sh.length&&J.beq o off) (bind (dh 21 [code,i]) λ_=>match e8 P t,de P t with
  |some true,some k=>cond (Nat.ble (j+k) sh.length) (bind (yi code i j ((sh.drop j).take k)) λl=>pure (.w (.agg l))) (match sh,j with
   |[c],0=>bind (EI c code k i) λl=>pure (.w (.agg l))
   |_,_=>fail)
  |some false,_=>match sh[j]? with
   |some c=>bind (s0 c code i j) λa=>pure (.w (.one a))
   |none=>fail
  |_,_=>fail) fail
 |_=>fail
def EZ (P:Program) (t:TypeId) (b aV:Nat) (o ro len:J) (aR:J):M V:=
 match eT P t with
 |some e=>match de P e with
  |some s=>cond (Nat.beq s aV) (bind (dh 30 [aR,len]) λ_=>pure (.w (.one (.ep b aV o (ro.add aR) 0)))) fail
  |none=>fail
 |none=>fail
def sP (op:Nat) (ls:List J):M Unit:=λn k=> .qJ op ls (k () n)
def E2 (P:Program) (t:TypeId) (b aV:Nat) (o ro len cap:J) (x y:J):M V:=
 match eT P t with
 |some e=>match de P e with
  |some s=>cond (Nat.beq s aV) (bind (dh 32 [x,y,len]) λ_=>match x.cG with
   |some 0=>pure (.w (.one (.sl b aV o ro y cap)))
   |_=>bind (sP 68 [len,cap]) λ_=>bind (cT 33 [ro,x,cap] 0 9223372036854775809) λr=>pure (.w (.one (.sl b aV o r (y.sub x) (cap.sub x))))) fail
  |none=>fail
 |none=>fail
def pf (tm:List V) (d:J):Option Operand->Option J
 |none=>some d
 |some x=>kn (bq tm x)
def ya:List az->Bool
 |[.int .u8 lo hi]=>decide (lo=0)&&decide (hi=255)
 |_=>false
noncomputable def E1 (bl:List ax) (b aV:Nat) (o ro len:J):M V:=
 match bl[b]? with
 |some ([.rows sh off code cap kind],_)=>cond (Nat.blt 0 kind&&Nat.beq aV 1&&J.beq o off&&ya sh) (bind (dh 35 [code,ro,ro.add len]) λ_=>bind (cT 34 [code,ro,ro.add len] 0 aD) λl=>pure (.w (.one (.str l)))) fail
 |_=>fail
def vm {α:Type} (b:aY) (x y:M α):M α:=λn k=>match b with
 | .lit v=>cond v (x n k) (y n k)
 |b=> .pg b (x n k) (y n k)
def KF (k:IntKind) (x y:bh):M V:=vm (.mkLt y x) (pure (.w (.one (.int k y)))) (pure (.w (.one (.int k x))))
def KB (k:IntKind) (x y:bh):M V:=vm (.mkLt x y) (pure (.w (.one (.int k y)))) (pure (.w (.one (.int k x))))
def iV:List A->Option (List Bool)
 |[]=>some []
 | .bool (.lit b)::r=>match iV r with|some l=>some (b::l)|none=>none
 |_::_=>none
def oG:Nat->List Bool->List UInt8
 |_,[]=>[]
 |i,b::r=>cond b (UInt8.ofNat i::oG (i+1) r) (oG (i+1) r)
def ES (bl:List ax) (b off:Nat) (aR:bh):M V:=
 match bl[b]? with
 |some (cs,_)=>match iV ((cs.drop off).take (aR.hi.toNat+1))with
  |some l=>cond (Nat.beq l.length (aR.hi.toNat+1)&&Nat.ble aR.hi.toNat 255&&decide (0<=aR.lo)&&bO cs) (bind (cT 43 [.const (eI (oG 0 l)),aR.l] 0 1) λr=>pure (.w (.one (.bool (.mkEq ⟨r,0,1⟩ (.const 1)))))) fail
  |none=>fail
 |none=>fail
noncomputable def EJ (P:Program) (bl:List ax) (tm:List V) (o:Oper):Option (M V):=
 match o.op with
 | .load t x=>match bq tm x with
  | .w (.one (.ep b aV o i j))=>some (BQ P bl t b aV o i j)
  | .w (.one (.iQ b off aR))=>match P.underlying t with
   |some .bool=>some (ES bl b off aR)
   |_=>none
  |_=>none
 | .nilCheck x=>match bq tm x with
  | .w (.one (.ep b aV o i j))=>some (pure (.w (.one (.ep b aV o i j))))
  |_=>none
 | .indexAddr t x aR=>match bq tm x,bq tm aR with
  | .w (.one (.sl b aV o ro len cap)),.w (.one (.int _ i))=>some (EZ P t b aV o ro len i.l)
  |_,_=>none
 | .sliceToArrayPointer t x=>match bq tm x,kz P t with
  | .w (.one (.sl b aV o ro len cap)),some (k,_)=>some (cond (Nat.blt 0 k) (bind (dh 30 [.const ((k:Int)-1),len]) λ_=>pure (.w (.one (.ep b aV o ro 0)))) fail)
  |_,_=>none
 | .fieldAddr s x f=>match bq tm x,vv P s f with
  | .w (.one (.ep b aV o i j)),some fd=>match de P fd.type with
   |some (_+1)=>some (pure (.w (.one (.ep b aV o i (j+fd.offset)))))
   |_=>none
  |_,_=>none
 | .slice t x lo hi none=>match bq tm x with
  | .w (.one (.sl b aV o ro len cap))=>match pf tm (.const 0) lo,pf tm len hi with
   |some p,some q=>some (E2 P t b aV o ro len cap p q)
   |_,_=>none
  |_=>none
 | .convert s d x=>match bq tm x,eT P s,P.underlying d with
  | .w (.one (.sl b aV o ro len cap)),some e,some .string=>match P.underlying e with
   |some (.int .u8)=>some (E1 bl b aV o ro len)
   |_=>none
  |_,_,_=>none
 | .call c=>match c.callee with
  | .builtin .len=>match c.args.toList,c.argTypes.toList with
   |[x],[t]=>match bq tm x,eT P t with
    | .w (.one (.sl b aV o ro len cap)),some _=>some (pure (.w (.one (.int .i64 ⟨len,0,9223372036854775807⟩))))
    |_,_=>none
   |_,_=>none
  | .builtin .min=>match c.args.toList with
   |[x,y]=>match bq tm x,bq tm y with
    | .w (.one (.int k p)),.w (.one (.int aZ q))=>cond (decide (k=aZ)) (some (KF k p q)) none
    |_,_=>none
   |_=>none
  | .builtin .max=>match c.args.toList with
   |[x,y]=>match bq tm x,bq tm y with
    | .w (.one (.int k p)),.w (.one (.int aZ q))=>cond (decide (k=aZ)) (some (KB k p q)) none
    |_,_=>none
   |_=>none
  |_=>none
 | .binOp op t x y _=>match eT P t,bq tm x,bq tm y with
  |some _,.w (.one (.sl b aV o ro len cap)),.w (.one (.con (.slice none 0 0)))=>match op with
   | .eql=>some (bind (sP 53 [cap,len]) λ_=>pure (.w (.one (.bool (.eq cap (.const (-1)))))))
   | .neq=>some (bind (sP 53 [cap,len]) λ_=>pure (.w (.one (.bool (.mkNot (.eq cap (.const (-1))))))))
   |_=>none
  |_,_,_=>none
 |_=>none
def x2 (bl:List ax) (b off:Nat):Option (List az×J×Nat):=
 match bl[b]? with
 |some ([.rows sh o code cap kind],_)=>match cap.cG with
  |some c=>cond (Nat.beq off 0&&Nat.blt 0 kind&&J.beq o (.const 0)&&decide (0<=c)&&fJ sh) (some (sh,code,c.toNat)) none
  |none=>none
 |_=>none
noncomputable def xW (code:J) (sh:List az):Nat->Nat->M (List A)
 |_,0=>pure []
 |i,k+1=>bind (yi code (.const i) 0 sh) λa=>bind (xW code sh (i+1) k) λl=>pure (a++l)
def E3 (P:Program) (t:TypeId) (b aV:Nat) (o ro len cap:J) (x y z:J):M V:=
 match eT P t with
 |some e=>match de P e with
  |some s=>cond (Nat.beq s aV) (bind (cond (J.beq z len) (dh 78 [x,y,z,cap]) (dh 64 [x,y,z,len])) λ_=>bind (cT 33 [ro,x,z] 0 9223372036854775808) λr=>pure (.w (.one (.sl b aV o r (y.sub x) (z.sub x))))) fail
  |none=>fail
 |none=>fail
def Dn (P:Program) (e:TypeId) (l:List A) (s:Nat) (i:J):Nat->Nat->M V
 |_,0=>fail
 |j,r+1=>vm (.eq i (.const j)) (w7 P e l (j*s)) (Dn P e l s i (j+1) r)
noncomputable def zU (P:Program) (bl:List ax) (tm:List V) (o:Oper):Option (M V):=
 match o.op with
 | .index t x aR=>match bq tm x,bq tm aR,kz P t with
  | .w (.agg l),.w (.one (.int k p)),some (len,e)=>match de P e,p.l.cG with
   |some s,none=>cond (Nat.ble len 8) (some (Dn P e l s p.l 0 len)) none
   |_,_=>none
  |_,_,_=>none
 | .indexAddr t x aR=>match bq tm x,bq tm aR with
  | .w (.one (.ptr b off)),.w (.one (.int _ i))=>match x2 bl b off,kz P t with
   |some (sh,code,c),some (len,e)=>match de P e with
    |some s=>cond (Nat.beq s sh.length&&Nat.beq len c) (some (bind (dh 30 [i.l,.const len]) λ_=>pure (.w (.one (.ep b s (.const 0) i.l 0))))) none
    |none=>none
   |_,_=>none
  |_,_=>none
 | .load t x=>match bq tm x with
  | .w (.one (.ptr b off))=>match x2 bl b off,e8 P t,de P t with
   |some (sh,code,c),some true,some k=>cond (Nat.beq k (c*sh.length)) (some (bind (dh 31 [code,.const c]) λ_=>bind (xW code sh 0 c) λl=>pure (.w (.agg l)))) none
   |_,_,_=>none
  |_=>none
 | .slice t x lo (some hi) (some dq)=>match bq tm x with
  | .w (.one (.sl b aV br ro len cap))=>match pf tm (.const 0) lo,kn (bq tm hi),kn (bq tm dq)with
   |some p,some q,some r=>some (E3 P t b aV br ro len cap p q r)
   |_,_,_=>none
  |_=>none
 | .call c=>match c.callee with
  | .builtin .len=>match c.args.toList,c.argTypes.toList with
   |[x],[t]=>match bq tm x,eT P t with
    | .w (.one (.con (.slice none 0 0))),some _=>some (pure (.w (.one (.int .i64 (.const 0)))))
    |_,_=>none
   |_,_=>none
  |_=>none
 |_=>none
noncomputable def yu (bd:ey) (bl:List ax) (tm:List V) (o:Oper):Option (M V):=
 match o.op with
 | .call c=>match c.callee with
  | .value (.tmp x)=>match bq tm (.tmp x)with
   | .w (.one (.con (.func (.func f) yy yz)))=>cond (Nat.beq yy.size 0&&Nat.beq yz.size 0) ((bd f).map λg=>g bl (c.args.toList.map (bq tm))) none
   |_=>none
  |_=>none
 |_=>none
noncomputable def oT (P:Program) (bd:ey) (gl:dt) (bl:List ax) (tm:List V) (o:Oper):M V:=
 match EJ P bl tm o with
 |some x=>x
 |none=>match zU P bl tm o with
  |some x=>x
  |none=>match yu bd bl tm o with
   |some x=>x
   |none=>Et P bd gl bl tm o
theorem kv.get {cells:Array Value} {off:Nat} {sh:List az} {rows:List (List Int)} (h:kv cells off sh rows) {i j:Nat} {row:List Int} {v:Value} (hi:rows[i]?=some row) (hj:(cz sh row)[j]?=some v):cells[off+i*sh.length+j]?=some v:=by
 obtain⟨h1,pre,post,h2,h3⟩:=h
 have h4:=BZ h1 hi hj
 rw[<-Array.getElem?_toList,h2,List.append_assoc,List.getElem?_append_right (by omega),List.getElem?_append_left]
 ·rw[show off+i*sh.length+j-pre.length=i*sh.length+j by omega];exact h4
 ·have:=(List.getElem?_eq_some_iff.1 h4).1;omega
theorem fZ.cell {F:Nat->Prop} {w:World} {cells:Array Value} {off:Nat} {sh:List az} {rows:List (List Int)} (h:fZ F w cells off sh rows) {i j:Nat} {row:List Int} {c:az} (hi:rows[i]?=some row) (hc:sh[j]?=some c):∃z v,row[j]?=some z/\cells[off+i*sh.length+j]?=some v/\n5 F w c z v:=by
 obtain⟨h1,pre,vs,post,h2,h3,h4⟩:=h
 obtain⟨z,v,k1,k2,k3⟩:=(h4.get hi).get hc
 refine⟨z,v,k1,?_,k3⟩
 rw[List.getElem?_take]at k2
 split at k2
 ·rw[List.getElem?_drop]at k2
  have hlt:=(List.getElem?_eq_some_iff.1 k2).1
  rw[<-Array.getElem?_toList,h2,List.append_assoc,List.getElem?_append_right (by omega),List.getElem?_append_left (by omega)]
  rw[show off+i*sh.length+j-pre.length=i*sh.length+j by omega];exact k2
 ·cases k2
theorem LI:∀{sh:List az} {row:List Int} {j:Nat} {c:az} {z:Int},bn sh row->sh[j]?=some c->row[j]?=some z->(cz sh row)[j]?=some (c.val z)
 |c'::sh,z'::r,0,c,z,h,hc,hz=>by
  simp only[List.getElem?_cons_zero,Option.some.injEq]at hc hz
  subst hc;subst hz;rfl
 |c'::sh,z'::r,j+1,c,z,h,hc,hz=>by
  simp only[List.getElem?_cons_succ]at hc hz
  exact LI (sh:=sh) h.2 hc hz
 |[],_,_,_,_,_,hc,_=>by simp at hc
 |_::_,[],_,_,_,h,_,_=>h.elim
theorem fZ.get {F:Nat->Prop} {w:World} {cells:Array Value} {off:Nat} {sh:List az} {rows:List (List Int)} (h:fZ F w cells off sh rows) {i j:Nat} {row:List Int} {v:Value} {c:az} (hi:rows[i]?=some row) (hc:sh[j]?=some c) (hp:c.plain=true) (hj:(cz sh row)[j]?=some v):cells[off+i*sh.length+j]?=some v:=by
 obtain⟨z,ma,k1,k2,k3⟩:=h.cell hi hc
 have e:=LI (h.1 row (List.mem_of_getElem? hi)) hc k1
 rw[hj]at e
 have e2:ma=c.val z:=by
  cases c with
  |sub _=>cases hp
  |_=>exact k3
 rw[k2,e2,<-Option.some.inj e]
section
variable {S:Nat->List Int->List Int->Prop} {L:V->Env->Prop} {n:Nat} {ρ:Env} {m:Nat->Nat} {bl:List ax} {gl:dt} {w0:cR} {P:Program} {tm:List V} {a:Act}
theorem Bl {α:Type} {b:aY} {x y:M α} {R:Env->Nat->α->Prop} (h1:b.den ρ=true->ar S L x n ρ R) (h2:b.den ρ=false->ar S L y n ρ R):ar S L (vm b x y) n ρ R:=by
 intro A k hk
 unfold vm at hk
 cases hb:b.den ρ with
 |true=>
  cases b with
  |lit v=>simp only[aY.den]at hb;subst hb;exact h1 rfl A k hk
  |_=>exact h1 hb A k (hk.1 hb)
 |false=>
  cases b with
  |lit v=>simp only[aY.den]at hb;subst hb;exact h2 rfl A k hk
  |_=>exact h2 hb A k (hk.2 hb)
theorem yg {nb:Nat} {c:az} {code i:J} {j:Nat} {z:Int} {row:List Int} (hrow:(ae (code.den ρ))[(i.den ρ).toNat]?=some row) (hz:row[j]?=some z) (h1:c.c3.1<=z) (h2:z<=c.c3.2):
 ar S L (s0 c code i j) n ρ λag n' x=>x.ok n' nb ag/\x.den ag m=c.val z/\c.plain=true:=by
 have hf:aa 21 ([code,i,J.const (j:Nat)].map (·.den ρ))=z:=by
  simp only[List.map_cons,List.map_nil,J.aS,aa,Int.toNat_natCast]
  simp[List.getD,hrow,hz]
 cases c with
 |int k lo hi=>
  refine(dE (by rw[hf];exact h1) (by rw[hf];exact h2)).bind λaH n1 l _ _ ⟨g1,g2⟩=>ar.pure ⟨⟨g1,?_,?_⟩,?_,rfl⟩
  ·rw[g2,hf];exact h1
  ·rw[g2,hf];exact h2
  ·simp only[A.den,az.val];rw[g2,hf]
 |str=>
  refine(dE (by rw[hf];exact h1) (by rw[hf];exact h2)).bind λaH n1 l _ _ ⟨g1,g2⟩=>ar.pure ⟨⟨g1,?_,?_⟩,?_,rfl⟩
  ·rw[g2,hf];exact h1
  ·rw[g2,hf];exact h2
  ·simp only[A.den,az.val];rw[g2,hf]
 |bool=>
  refine(dE (by rw[hf];exact h1) (by rw[hf];exact h2)).bind λaH n1 l _ _ ⟨g1,g2⟩=>ar.pure ?_
  have a8:bh.ok n1 aH ⟨l,0,1⟩:=⟨g1,by simp only;rw[g2,hf];exact h1,by simp only;rw[g2,hf];exact h2⟩
  have e:=aY.k9 a8 (bh.iW n1 aH 1)
  refine⟨e.2,?_,rfl⟩
  simp only[A.den,az.val]
  rw[e.1]
  simp only[bh.const,J.aS]
  rw[g2,hf]
 |sub k=>exact ar.fail
theorem Bw {nb:Nat} {sh:List az} {row:List Int} (a8:bn sh row):∀{r:List az} {n:Nat} {ρ:Env} {code i:J} {j:Nat},code.aX n->i.aX n->(ae (code.den ρ))[(i.den ρ).toNat]?=some row->(∀(x:Nat) (c:az),r[x]?=some c->sh[j+x]?=some c)->
 ar S L (yi code i j r) n ρ λag n' l=>(∀a∈l,A.ok n' nb ag a)/\l.length=r.length/\∀(x:Nat) (a:A),l[x]?=some a->∃c,sh[j+x]?=some c/\c.plain=true/\(cz sh row)[j+x]?=some (a.den ag m)
 |[],n,ρ,code,i,j,_,_,_,_=>ar.pure ⟨λ_ h=>by simp at h,rfl,λx a h=>by simp at h⟩
 |c::r,n,ρ,code,i,j,rK,wu,hrow,hr=>by
  have h0:=hr 0 c rfl
  obtain⟨z,h1,h2,h3,h4⟩:=a8.get h0
  refine(yg (nb:=nb) (m:=m) hrow h1 h2 h3).bind λaH n1 y hn ha ⟨g1,g2,g3⟩=>?_
  refine(Bw (nb:=nb) (r:=r) (n:=n1) (ρ:=aH) (code:=code) (i:=i) (j:=j+1) a8 (rK.mono hn) (wu.mono hn) (by rw[J.bj ha rK,J.bj ha wu];exact hrow) (λx c hx=>by
   have:=hr (x+1) c (by simpa using hx)
   rw[show j+1+x=j+(x+1) by omega];exact this)).bind λba db l cQ cA ⟨k1,k2,k3⟩=>ar.pure ⟨λb hb=>?_,by simp[k2],λx b hb=>?_⟩
  ·rcases List.mem_cons.1 hb with rfl|hb
   ·exact g1.ext cA cQ (Nat.le_refl _)
   ·exact k1 b hb
  ·cases x with
   |zero=>
    simp only[List.getElem?_cons_zero,Option.some.injEq]at hb
    subst hb
    exact⟨c,h0,g3,by rw[A.hM g1 cA (λ_ _=>rfl),g2];exact h4⟩
   |succ x=>
    have:=k3 x b (by simpa using hb)
    rw[show j+(x+1)=j+1+x by omega];exact this
theorem LN {nb:Nat} {c:az} {code:J}:∀{q n:Nat} {ρ:Env} {i:J},(∀row∈ae (code.den ρ),bn [c] row)->code.aX n->i.aX n->
 ar S L (EI c code q i) n ρ λag n' l=>(∀a∈l,A.ok n' nb ag a)/\l.length=q/\∀(x:Nat) (a:A),l[x]?=some a->∃row,(ae (code.den ρ))[(i.den ρ).toNat+x]?=some row/\c.plain=true/\(cz [c] row)[0]?=some (a.den ag m)
 |0,n,ρ,i,_,_,_=>ar.pure ⟨λ_ h=>by simp at h,rfl,λx a h=>by simp at h⟩
 |q+1,n,ρ,i,dF,rK,wu=>by
  refine eh λhk=>?_
  simp only[List.map_cons,List.map_nil,ad]at hk
  have hlt:(i.den ρ).toNat<(ae (code.den ρ)).length:=by omega
  have hrow:(ae (code.den ρ))[(i.den ρ).toNat]?=some (ae (code.den ρ))[(i.den ρ).toNat]:=List.getElem?_eq_getElem hlt
  have a8:=dF _ (List.getElem_mem hlt)
  generalize (ae (code.den ρ))[(i.den ρ).toNat]=row at hrow a8
  obtain⟨z,h1,h2,h3,h4⟩:=a8.get (show([c]:List az)[0]?=some c from rfl)
  refine(yg (nb:=nb) (m:=m) hrow h1 h2 h3).bind λaH n1 y hn ha ⟨g1,g2,g4⟩=>?_
  have Cs:=J.bj ha rK
  have hid:=J.bj ha wu
  refine(LN (nb:=nb) (q:=q) (n:=n1) (ρ:=aH) (i:=i.add (.const 1)) (by rw[Cs];exact dF) (rK.mono hn) (J.oX (wu.mono hn) (J.bU _ _))).bind λba db l cQ cA ⟨k1,k2,k3⟩=>ar.pure ⟨λb hb=>?_,by simp[k2],λx b hb=>?_⟩
  ·rcases List.mem_cons.1 hb with rfl|hb
   ·exact g1.ext cA cQ (Nat.le_refl _)
   ·exact k1 b hb
  ·cases x with
   |zero=>
    simp only[List.getElem?_cons_zero,Option.some.injEq]at hb
    subst hb
    exact⟨row,by simpa using hrow,g4,by rw[A.hM g1 cA (λ_ _=>rfl),g2];exact h4⟩
   |succ x=>
    obtain⟨qf,r1,eR,r2⟩:=k3 x b (by simpa using hb)
    rw[Cs,J.den_add,J.aS,hid]at r1
    exact⟨qf,by rw[<-r1];congr 1;omega,eR,r2⟩
theorem O2 (hb:bQ n bl.length ρ bl) (hex:∃w,Mem w0 ρ m bl w) (t:TypeId) {b aV:Nat} {o i:J} {j:Nat} (hx:(A.ep b aV o i j).ok n bl.length ρ):
 ar S L (BQ P bl t b aV o i j) n ρ (hh w0 m bl n ρ λw=>(Instr.loadAt t ((A.ep b aV o i j).den ρ m)).run P w):=by
 obtain⟨nR,lX⟩:=hex
 unfold BQ
 split
 ·rename_i sh off code cap kind t' hbl
  refine cH λhc=>eh λhk=>?_
  simp only[Bool.and_eq_true]at hc
  obtain⟨⟨c1,aU⟩,bL⟩:=hc
  have c1:0<kind:=Nat.le_of_ble_eq_true c1
  have aU:=Nat.eq_of_beq_eq_true aU
  have bL:=J.beq_eq bL
  subst bL
  have nr:(A.rows sh o code cap kind).ok n bl.length ρ:=hb _ (List.mem_of_getElem? hbl) _ (by simp)
  simp only[List.map_cons,List.map_nil,ad]at hk
  have hlt:(i.den ρ).toNat<(ae (code.den ρ)).length:=by omega
  have hrow:(ae (code.den ρ))[(i.den ρ).toNat]?=some (ae (code.den ρ))[(i.den ρ).toNat]:=List.getElem?_eq_getElem hlt
  generalize (ae (code.den ρ))[(i.den ρ).toNat]=row at hrow
  have bW:0<=cap.den ρ:=by
   rcases Int.lt_or_le (cap.den ρ) 0 with h|h
   ·have:=(lX.rws b sh o code cap kind t' hbl (by omega)).1 h
    rw[this]at hlt;simp at hlt
   ·exact h
  have il:∀w,Mem w0 ρ m bl w->bn sh row/\∀(x:Nat) (v:Value) (c:az),sh[x]?=some c->c.plain=true->(cz sh row)[x]?=some v->w.cell? ⟨m b,(o.den ρ).toNat+(i.den ρ).toNat*aV+x,none⟩=some v:=λw hw=>by
   obtain⟨_,cells,e9,fz,g1,⟨g2,g3⟩,_⟩:=(hw.rws b sh o code cap kind t' hbl (by omega)).2 bW
   refine⟨g3.1 _ (List.mem_of_getElem? hrow),λx v c hc hp hv=>?_⟩
   have:=g3.get hrow hc hp hv
   simp only[World.cell?,g1,Option.isSome_none,Bool.false_eq_true,if_false]
   rw[aU];exact this
  have dF:=(il nR lX).1
  cases ja:e8 P t with
  |none=>exact ar.fail
  |some bg=>
   cases bg with
   |true=>
    cases hs:de P t with
    |none=>exact ar.fail
    |some k=>
     simp only
     cases hk2:Nat.ble (j+k) sh.length with
     |false=>
      simp only[cond_false]
      split
      ·rename_i c _
       have hall:∀row∈ae (code.den ρ),bn [c] row:=by
        obtain⟨_,cells,e9,fz,g1,⟨g2,g3⟩,_⟩:=(lX.rws b [c] o code cap kind t' hbl (by omega)).2 bW
        exact g3.1
       refine(LN (nb:=bl.length) (m:=m) (q:=k) (i:=i) hall nr.1.2.1 hx.2.1.2).bind λaH n1 l hn ha ⟨g1,g2,g3⟩=>ar.pure ⟨g1,_,rfl,λw hw=>?_⟩
       have hl:=run_loadCells_list (P:=P) w ⟨m b,(o.den ρ).toNat+(i.den ρ).toNat*aV+0,none⟩ (l.map (A.den aH m)) λx v hj=>by
        rw[eZ]
        rw[List.getElem?_map]at hj
        cases hq:l[x]? with
        |none=>simp[hq]at hj
        |some y=>
         simp only[hq,Option.map_some,Option.some.injEq]at hj
         subst hj
         obtain⟨qf,r1,eR,r2⟩:=g3 x y hq
         obtain⟨_,cells,e9,fz,e1,⟨e2,e3⟩,_⟩:=(hw.rws b [c] o code cap kind t' hbl (by omega)).2 bW
         have:=e3.get (j:=0) (c:=c) r1 rfl eR r2
         simp only[World.cell?,e1,Option.isSome_none,Bool.false_eq_true,if_false]
         simp only[List.length_cons,List.length_nil]at aU this
         rw[aU]
         rw[<-this];congr 1;omega
       simp only[List.length_map,g2,Nat.add_zero]at hl
       simp[Instr.loadAt,Instr.sureAddr,A.den,loadVar,jH ja,eS hs,hl,W.den]
      ·exact ar.fail
     |true=>
     simp only[cond_true]
     have hk2:=Nat.le_of_ble_eq_true hk2
     refine(Bw (nb:=bl.length) (m:=m) (r:=(sh.drop j).take k) dF nr.1.2.1 hx.2.1.2 hrow (λx c wE=>by
      rw[List.getElem?_take]at wE
      split at wE
      ·rw[List.getElem?_drop]at wE;exact wE
      ·cases wE)).bind λaH n1 l hn ha ⟨g1,g2,g3⟩=>ar.pure ⟨g1,_,rfl,λw hw=>?_⟩
     have hl:=run_loadCells_list (P:=P) w ⟨m b,(o.den ρ).toNat+(i.den ρ).toNat*aV+j,none⟩ (l.map (A.den aH m)) λx v hj=>by
      rw[eZ]
      rw[List.getElem?_map]at hj
      cases hq:l[x]? with
      |none=>simp[hq]at hj
      |some y=>
       simp only[hq,Option.map_some,Option.some.injEq]at hj
       subst hj
       rw[Nat.add_assoc]
       obtain⟨c,q1,q2,q3⟩:=g3 x y hq
       exact(il w hw).2 (j+x) _ c q1 q2 q3
     simp only[List.length_map,g2,List.length_take,List.length_drop,Nat.min_eq_left (show k<=sh.length-j by omega)]at hl
     simp[Instr.loadAt,Instr.sureAddr,A.den,loadVar,jH ja,eS hs,hl,W.den]
   |false=>
    cases hc:sh[j]? with
    |none=>simp only;exact ar.fail
    |some c=>
     simp only
     obtain⟨z,h1,h2,h3,h4⟩:=dF.get hc
     refine(yg (nb:=bl.length) (m:=m) hrow h1 h2 h3).bind λaH n1 y hn ha ⟨g1,g2,g3⟩=>ar.pure ⟨g1,_,rfl,λw hw=>?_⟩
     have:=(il w hw).2 j _ c hc g3 h4
     have C1:(A.ep b aV o i j).den ρ m= .pointer (some ⟨m b,(o.den ρ).toNat+(i.den ρ).toNat*aV+j,none⟩):=rfl
     simp[Instr.loadAt,Instr.sureAddr,C1,loadVar,jH ja,this,W.den,g2]
 ·exact ar.fail
theorem kR {b aV:Nat} {o ro len cap:J} (hx:(A.sl b aV o ro len cap).ok n bl.length ρ):∃p,(A.sl b aV o ro len cap).den ρ m= .slice p (len.den ρ).toNat (if cap.den ρ<0 then 0 else(cap.den ρ).toNat)/\(cap.den ρ<0->p=jJ (cap.den ρ) (m b))/\(0<=cap.den ρ->p=some ⟨m b,(o.den ρ).toNat+(ro.den ρ).toNat*aV,none⟩):=by
 obtain⟨_,_,_,_,h3,_⟩:=hx
 simp only[A.den]
 by_cases hc:cap.den ρ<0
 ·rw[if_pos hc,if_pos hc,h3 hc]
  exact⟨_,rfl,λ_=>rfl,λh=>by omega⟩
 ·rw[if_neg hc,if_neg hc]
  exact⟨_,rfl,λh=>absurd h hc,λ_=>rfl⟩
theorem XB {t:TypeId} {b aV:Nat} {o ro len cap aR:J} {k:IntKind} (hx:(A.sl b aV o ro len cap).ok n bl.length ρ) (hi:aR.aX n):
 ar S L (EZ P t b aV o ro len aR) n ρ (hh w0 m bl n ρ λw=>(Instr.indexAt t ((A.sl b aV o ro len cap).den ρ m) (.int k (aR.den ρ))).run P w):=by
 unfold EZ
 cases h1:eT P t with
 |none=>exact ar.fail
 |some e=>
  cases h2:de P e with
  |none=>simp only[h2];exact ar.fail
  |some s=>
   simp only[h2]
   refine cH λhs=>eh λhk=>ar.pure ?_
   have hs:=Nat.eq_of_beq_eq_true hs
   subst hs
   simp only[List.map_cons,List.map_nil,ad]at hk
   obtain⟨x1,⟨cU,dm,gA,gX⟩,⟨ia,me,mf,mg⟩,m2,fj,gW⟩:=hx
   have bW:¬(cap.den ρ<0):=λh=>by have:=fj h;omega
   refine⟨⟨x1,⟨cU,J.oX dm hi⟩,ia,by rw[J.den_add];omega⟩,_,rfl,λw _=>?_⟩
   have aU:aR.den ρ<((len.den ρ).toNat:Int):=by omega
   have e1:(ro.den ρ+aR.den ρ).toNat=(ro.den ρ).toNat+(aR.den ρ).toNat:=by omega
   simp only[A.den,if_neg bW,W.den,J.den_add,e1]
   simp[-Int.ofNat_toNat,Instr.indexAt,asIntOf,run_underlying (ej h1),hk.1,aU,eS h2,eZ,Nat.add_mul,Nat.add_assoc]
theorem Bi {d:J} {y:Option Operand} {l:J} (h:pf tm d y=some l) (ht:cI n bl.length ρ m tm a.tmps):(y=none/\l=d)∨∃k,y.map a.eval=some (.int k (l.den ρ))/\l.aX n:=by
 cases y with
 |none=>exact .inl ⟨rfl,by simpa [pf]using h.symm⟩
 |some x=>
  obtain⟨k,hk,h2⟩:=rU (m:=m) (bl:=bl) h (bJ ht x).2 (bJ ht x).1
  exact .inr ⟨k,by rw[<-hk];rfl,h2⟩
theorem x3 {op:Nat} {ls:List J} (h:ad op (ls.map (·.den ρ))):ar S L (sP op ls) n ρ λag n' _=>ag=ρ/\n'=n:=λA k hk=>⟨ρ,n,(),Nat.le_refl _,agree.refl _ _,⟨rfl,rfl⟩,hk h⟩
theorem XG {t:TypeId} {b aV:Nat} {o ro len cap p q:J} {lo hi:Option Operand} (hx:(A.sl b aV o ro len cap).ok n bl.length ρ) (ht:cI n bl.length ρ m tm a.tmps) (hp:pf tm (.const 0) lo=some p) (hq:pf tm len hi=some q):
 ar S L (E2 P t b aV o ro len cap p q) n ρ (hh w0 m bl n ρ λw=>(Instr.sliceAt t ((A.sl b aV o ro len cap).den ρ m) (lo.map a.eval) (hi.map a.eval) none).run P w):=by
 unfold E2
 cases h1:eT P t with
 |none=>exact ar.fail
 |some e=>
  cases h2:de P e with
  |none=>simp only[h2];exact ar.fail
  |some s=>
   simp only[h2]
   refine cH λhs=>eh λhk=>?_
   have hs:=Nat.eq_of_beq_eq_true hs
   subst hs
   simp only[List.map_cons,List.map_nil,ad]at hk
   obtain⟨k1,k2,k3⟩:=hk
   have fr:=hx
   obtain⟨x1,⟨cU,dm,gA,gX⟩,⟨ia,me,mf,mg⟩,⟨m2,mc⟩,fj,gW⟩:=hx
   have lU:=Bi hp ht
   have zb:=Bi hq ht
   have sx:p.aX n:=by rcases lU with⟨_,rfl⟩|⟨_,_,h⟩;exact J.bU _ _;exact h
   have uJ:q.aX n:=by rcases zb with⟨_,rfl⟩|⟨_,_,h⟩;exact gA;exact h
   obtain⟨ptr,e1,e2,e3⟩:=kR (m:=m) fr
   have ke:∀w,(Instr.sliceBounds true (len.den ρ).toNat (if cap.den ρ<0 then 0 else(cap.den ρ).toNat) (lo.map a.eval) (hi.map a.eval) none).run P w= .ok ((p.den ρ).toNat,(q.den ρ).toNat,(if cap.den ρ<0 then 0 else(cap.den ρ).toNat)) w:=λw=>by
    have hle:(len.den ρ)<=((if cap.den ρ<0 then 0 else(cap.den ρ).toNat:Nat):Int):=by
     split
     ·rename_i h;rw[fj h];simp
     ·rename_i h;have:=gW (by omega);omega
    generalize (if cap.den ρ<0 then 0 else(cap.den ρ).toNat)=C at hle
    rcases lU with⟨rfl,rfl⟩|⟨zj,pL,_⟩<;>rcases zb with⟨rfl,rfl⟩|⟨SZ,mI,_⟩
    ·simp[Instr.sliceBounds,J.aS]
    ·rw[mI];simp[Instr.sliceBounds,J.aS,lE (P:=P) (by omega:0<=q.den ρ) (by omega:q.den ρ<=(C:Int))]
    ·rw[pL];simp[Instr.sliceBounds,lE (P:=P) (y:=(q.den ρ).toNat) k1 (by omega)]
    ·rw[pL,mI];simp[Instr.sliceBounds,lE (P:=P) (by omega:0<=q.den ρ) (by omega:q.den ρ<=(C:Int)),lE (P:=P) (y:=(q.den ρ).toNat) k1 (by omega)]
   have eC:∀(w:World) (r:Int),r=(if p.den ρ=cap.den ρ then ro.den ρ else ro.den ρ+p.den ρ)->
    (Instr.sliceAt t ((A.sl b s o ro len cap).den ρ m) (lo.map a.eval) (hi.map a.eval) none).run P w= .ok (if cap.den ρ-p.den ρ<0 then .slice (jJ (cap.den ρ-p.den ρ) (m b)) 0 0 else .slice (some ⟨m b,(o.den ρ).toNat+r.toNat*s,none⟩) (q.den ρ-p.den ρ).toNat (cap.den ρ-p.den ρ).toNat) w:=λw r hr=>by
    rw[e1]
    have eo:(q.den ρ).toNat-(p.den ρ).toNat=(q.den ρ-p.den ρ).toNat:=by omega
    simp only[Instr.sliceAt,Sem.run_bind,run_underlying (ej h1),Result.andThen_ok,Instr.slice,ke w,eS h2,Sem.run_pure,eo]
    by_cases hc:cap.den ρ<0
    ·have hl:=fj hc
     have y8:p.den ρ=0:=by omega
     rw[if_pos hc,e2 hc,if_pos (by omega)]
     have:q.den ρ=0:=by omega
     simp[y8,this,hc]
    ·rw[if_neg hc,e3 (by omega)]
     have c6:=gW (by omega)
     have oo:¬(cap.den ρ-p.den ρ<0):=by omega
     rw[if_neg oo]
     have mu:(cap.den ρ).toNat-(p.den ρ).toNat=(cap.den ρ-p.den ρ).toNat:=by omega
     rw[mu]
     by_cases wk:p.den ρ=cap.den ρ
     ·rw[if_pos wk]at hr
      have h7:(cap.den ρ).toNat=(p.den ρ).toNat:=by omega
      rw[if_pos h7,hr]
     ·rw[if_neg wk]at hr
      have h7:¬(cap.den ρ).toNat=(p.den ρ).toNat:=by omega
      rw[if_neg h7,hr]
      have n9:(ro.den ρ+p.den ρ).toNat=(ro.den ρ).toNat+(p.den ρ).toNat:=by omega
      rw[n9,Nat.add_mul,<-Nat.add_assoc]
      simp[eZ]
   split
   ·rename_i h0
    have y8:=J.fl h0 (ρ:=ρ)
    refine ar.pure ⟨⟨x1,⟨cU,dm,uJ,gX⟩,⟨ia,me,by omega,by omega⟩,⟨m2,mc⟩,λh=>?_,λh=>?_⟩,_,rfl,λw _=>?_⟩
    ·have:=fj h;omega
    ·have:=gW h;omega
    ·have hr:=eC w (ro.den ρ) (by rw[y8];split<;>omega)
     rw[y8]at hr
     simp only[Int.sub_zero]at hr
     simp only[W.den,A.den]at hr⊢
     exact hr
   ·have hP:(0:Int)<=aa 33 ([ro,p,cap].map (·.den ρ)):=by
     simp only[List.map_cons,List.map_nil,aa];split<;>omega
    have mz:aa 33 ([ro,p,cap].map (·.den ρ))<=9223372036854775809:=by
     simp only[List.map_cons,List.map_nil,aa]
     by_cases hc:cap.den ρ<0
     ·have:=fj hc;split<;>omega
     ·have:=gW (by omega);split<;>omega
    refine(x3 (op:=68) (ls:=[len,cap]) (show len.den ρ<=cap.den ρ∨len.den ρ=0 from by
     by_cases hc:cap.den ρ<0
     ·exact .inr (fj hc)
     ·exact .inl (gW (by omega)))).bind λbu n0 _ _ _ ⟨rQ,jy⟩=>?_
    have rQ:=rQ.symm;have jy:=jy.symm
    subst rQ;subst jy
    refine(dE hP mz).bind λaH n1 r hn ha ⟨g1,g2⟩=>ar.pure ?_
    simp only[List.map_cons,List.map_nil,aa]at g2
    have a1:=J.bj ha cU;have a2:=J.bj ha uJ;have a3:=J.bj ha sx;have a4:=J.bj ha gX
    refine⟨⟨x1,⟨cU.mono hn,g1,J.qj (uJ.mono hn) (sx.mono hn),J.qj (gX.mono hn) (sx.mono hn)⟩,?_⟩,_,rfl,λw _=>?_⟩
    ·rw[J.iE,J.iE,a1,a2,a3,a4,g2]
     refine⟨⟨ia,?_,by omega,by omega⟩,⟨?_,?_⟩,λh=>?_,λh=>?_⟩
     ·split<;>omega
     ·by_cases hc:cap.den ρ<0
      ·have:=fj hc;omega
      ·have:=gW (by omega);omega
     ·split<;>omega
     ·by_cases hc:cap.den ρ<0
      ·have:=fj hc;omega
      ·have:=gW (by omega);omega
     ·by_cases hc:cap.den ρ<0
      ·have:=fj hc;omega
      ·have:=gW (by omega);omega
    ·refine(eC w (r.den aH) g2).trans ?_
     simp only[W.den,A.den,J.iE,a1,a2,a3,a4]
theorem Xb (w:World) (src e:TypeId) (hs:P.underlying src=some (.slice e)) (he:P.underlying e=some (.int .u8)) (p:Option Addr) (c:Nat):
 ∀dst,P.underlying dst=some .string->(convert src dst (.slice p 0 c)).run P w= .ok (.string ByteArray.empty) w:=by
 intro dst hd
 cases p with
 |none=>exact run_convert_bytes_nil w src e hs he _ _ dst hd
 |some a=>
  have hl:(loadCells a 0).run P w= .ok ([]:List Value).toArray w:=by
   have:=run_loadCells_list (P:=P) w a ([]:List Value) (λj v hj=>by simp at hj)
   simpa using this
  rw[run_convert_bytes_string w src dst e _ 0 c hs he hd,run_bytesToString w _ 0 c [] hl]
  simp
theorem XE (hb:bQ n bl.length ρ bl) (hex:∃w,Mem w0 ρ m bl w) {src dst e:TypeId} (hs:P.underlying src=some (.slice e)) (he:P.underlying e=some (.int .u8)) (hd:P.underlying dst=some .string) {b aV:Nat} {o ro len cap:J} (hx:(A.sl b aV o ro len cap).ok n bl.length ρ):
 ar S L (E1 bl b aV o ro len) n ρ (hh w0 m bl n ρ λw=>(convert src dst ((A.sl b aV o ro len cap).den ρ m)).run P w):=by
 obtain⟨nR,lX⟩:=hex
 unfold E1
 split
 ·rename_i sh off code cW kind t' hbl
  refine cH λhc=>eh λhk=>?_
  simp only[Bool.and_eq_true]at hc
  obtain⟨⟨⟨c1,aU⟩,bL⟩,b9⟩:=hc
  have c1:0<kind:=Nat.le_of_ble_eq_true c1
  have aU:=Nat.eq_of_beq_eq_true aU
  have bL:=J.beq_eq bL
  subst bL;subst aU
  simp only[List.map_cons,List.map_nil,ad,J.den_add]at hk
  obtain⟨ptr,e1,e2,e3⟩:=kR (m:=m) hx
  obtain⟨x1,⟨cU,dm,gA,gX⟩,⟨ia,me,mf,mg⟩,⟨m2,mc⟩,fj,gW⟩:=hx
  generalize hR:ae (code.den ρ)=rows at hk
  have jf:cW.den ρ<0->rows=[]:=λh=>by rw[<-hR];exact(lX.rws b sh o code cW kind t' hbl (by omega)).1 h
  have dI:(((rows.drop (ro.den ρ).toNat).take (len.den ρ).toNat).map λrow=>row.getD 0 0).length=(len.den ρ).toNat:=by
   simp;omega
  have hf:aa 34 ([code,ro,ro.add len].map (·.den ρ))=eI ((((rows.drop (ro.den ρ).toNat).take (len.den ρ).toNat).map λrow=>row.getD 0 0).map λz=>UInt8.ofNat z.toNat):=by
   simp only[List.map_cons,List.map_nil,aa,J.den_add,hR]
   have:(ro.den ρ+len.den ρ).toNat-(ro.den ρ).toNat=(len.den ρ).toNat:=by omega
   rw[this,List.map_map];rfl
  generalize bt:(((rows.drop (ro.den ρ).toNat).take (len.den ρ).toNat).map λrow=>row.getD 0 0)=xs at dI hf
  have hl:(xs.map λz=>UInt8.ofNat z.toNat).length<=fs:=by
   have:(xs.map λz=>UInt8.ofNat z.toNat).length=(len.den ρ).toNat:=by simp[dI]
   unfold fs;omega
  refine(dE (by rw[hf];exact lL _) (by rw[hf];exact kY hl)).bind λaH n1 l _ _ ⟨g1,g2⟩=>ar.pure ⟨⟨g1,by rw[g2,hf];exact lL _,by rw[g2,hf];exact kY hl⟩,_,rfl,λw hw=>?_⟩
  have hval:(W.one (A.str l)).den aH m= .string (strOfNums xs):=by
   simp only[W.den,A.den,g2,hf,gT]
   rfl
  rw[hval]
  show(convert src dst ((A.sl b 1 o ro len cap).den ρ m)).run P w=_
  rw[e1]
  by_cases bW:cap.den ρ<0
  ·have hl0:=fj bW
   rw[e2 bW,if_pos bW]
   have JM:xs=[]:=List.eq_nil_of_length_eq_zero (by rw[dI,hl0];rfl)
   rw[JM,show(len.den ρ).toNat=0 by omega,Xb w src e hs he _ _ dst hd]
   rfl
  ·rw[e3 (by omega),if_neg bW]
   by_cases vQ:cW.den ρ<0
   ·have rG:=jf vQ
    have hl0:len.den ρ=0:=by rw[rG]at hk;simp at hk;omega
    have JM:xs=[]:=List.eq_nil_of_length_eq_zero (by rw[dI,hl0];rfl)
    exact run_convert_bytes_arg w src e hs he (m b) _ _ _ xs dI (λi hi=>by rw[hl0]at hi;simp at hi) dst hd
   ·obtain⟨_,cells,e9,fz,k1,⟨k2,k3⟩,_⟩:=(hw.rws b sh o code cW kind t' hbl (by omega)).2 (by omega)
    refine run_convert_bytes_arg w src e hs he (m b) _ _ _ xs dI (λi hi=>?_) dst hd
    have hlt:(ro.den ρ).toNat+i<rows.length:=by omega
    have hrow:(ae (code.den ρ))[(ro.den ρ).toNat+i]?=some rows[(ro.den ρ).toNat+i]:=by rw[hR];exact List.getElem?_eq_getElem hlt
    have fU:∃lo hi,sh=[.int .u8 lo hi]:=by
     unfold ya at b9
     split at b9
     ·exact⟨_,_,rfl⟩
     ·cases b9
    obtain⟨lo,cj,rfl⟩:=fU
    have nr:=k3.1 _ (List.mem_of_getElem? hrow)
    obtain⟨z,q1,_,_,q4⟩:=nr.get (j:=0) (c:= .int .u8 lo cj) rfl
    have:=k3.get (j:=0) (c:= .int .u8 lo cj) hrow rfl rfl q4
    have hz:xs.getD i 0=z:=by
     rw[<-bt]
     have:i<(len.den ρ).toNat:=hi
     simp[List.getD,List.getElem?_take,this,hlt,q1]
    simp only[World.cell?,k1,Option.isSome_none,Bool.false_eq_true,if_false,hz]
    simp only[List.length_cons,List.length_nil,Nat.add_zero,Nat.zero_add,Nat.mul_one]at this
    rw[show(o.den ρ).toNat+(ro.den ρ).toNat*1+i=(o.den ρ).toNat+((ro.den ρ).toNat+i) by omega]
    exact this
 ·exact ar.fail
theorem Uk {k:IntKind} {x y:bh} {t:TypeId} {ts:Array TypeId} (hx:x.ok n ρ) (hy:y.ok n ρ):ar S L (KF k x y) n ρ (hh w0 m bl n ρ λw=>(Builtin.min_ ts t #[.int k (x.l.den ρ),.int k (y.l.den ρ)]).run P w):=by
 have e:=aY.yr hy hx
 have hr:∀w,(Builtin.min_ ts t #[.int k (x.l.den ρ),.int k (y.l.den ρ)]).run P w= .ok (.int k (if y.l.den ρ<x.l.den ρ then y.l.den ρ else x.l.den ρ)) w:=λw=>by
  simp[Builtin.min_,Builtin.min2]
 refine Bl (λhb=>ar.pure ⟨hy,_,rfl,λw _=>?_⟩) λhb=>ar.pure ⟨hx,_,rfl,λw _=>?_⟩
 ·rw[e.1]at hb
  simp only[hr,if_pos (of_decide_eq_true hb)];rfl
 ·rw[e.1]at hb
  simp only[hr,if_neg (of_decide_eq_false hb)];rfl
theorem Uj {k:IntKind} {x y:bh} {t:TypeId} {ts:Array TypeId} (hx:x.ok n ρ) (hy:y.ok n ρ):ar S L (KB k x y) n ρ (hh w0 m bl n ρ λw=>(Builtin.max_ ts t #[.int k (x.l.den ρ),.int k (y.l.den ρ)]).run P w):=by
 have e:=aY.yr hx hy
 have hr:∀w,(Builtin.max_ ts t #[.int k (x.l.den ρ),.int k (y.l.den ρ)]).run P w= .ok (.int k (if x.l.den ρ<y.l.den ρ then y.l.den ρ else x.l.den ρ)) w:=λw=>by
  simp[Builtin.max_,Builtin.max2]
 refine Bl (λhb=>ar.pure ⟨hy,_,rfl,λw _=>?_⟩) λhb=>ar.pure ⟨hx,_,rfl,λw _=>?_⟩
 ·rw[e.1]at hb
  simp only[hr,if_pos (of_decide_eq_true hb)];rfl
 ·rw[e.1]at hb
  simp only[hr,if_neg (of_decide_eq_false hb)];rfl
theorem G6:∀{cs:List A} {l:List Bool},iV cs=some l->cs=l.map λb=>A.bool (.lit b)
 |[],l,h=>by simp[iV]at h;subst h;rfl
 | .bool (.lit b)::r,l,h=>by
  simp only[iV]at h
  cases hr:iV r with
  |none=>simp[hr]at h
  |some bp=>
   simp only[hr,Option.some.injEq]at h
   subst h
   simp[G6 hr]
 | .bool (.eq ..)::_,_,h| .bool (.lt ..)::_,_,h| .bool (.le ..)::_,_,h| .bool (.not ..)::_,_,h| .bool (.and ..)::_,_,h| .bool (.iff ..)::_,_,h=>by simp[iV]at h
 | .int .. ::_,_,h=>by simp[iV]at h
 | .ptr .. ::_,_,h=>by simp[iV]at h
 | .iQ .. ::_,_,h=>by simp[iV]at h
 | .gptr .. ::_,_,h=>by simp[iV]at h
 | .slc .. ::_,_,h=>by simp[iV]at h
 | .con _::_,_,h=>by simp[iV]at h
 | .str _::_,_,h=>by simp[iV]at h
 | .rows .. ::_,_,h=>by simp[iV]at h
 | .sl .. ::_,_,h=>by simp[iV]at h
 | .ep .. ::_,_,h=>by simp[iV]at h
theorem JP:∀(l:List Bool) (s:Nat),s+l.length<=256->∀i:Nat,i<256->(UInt8.ofNat i∈oG s l↔s<=i/\l[i-s]?=some true)
 |[],s,_,i,_=>by simp[oG]
 |b::r,s,h,i,hi=>by
  simp only[List.length_cons]at h
  have ih:=JP r (s+1) (by omega) i hi
  have hne:s≠i->UInt8.ofNat i≠UInt8.ofNat s:=λhne he=>by
   have:=congrArg UInt8.toNat he
   simp at this;omega
  have key:(s+1<=i/\r[i-(s+1)]?=some true)↔(s<i/\(b::r)[i-s]?=some true):=by
   constructor
   ·rintro⟨h1,h2⟩
    refine⟨h1,?_⟩
    rw[show i-s=(i-(s+1))+1 by omega];simpa using h2
   ·rintro⟨h1,h2⟩
    refine⟨h1,?_⟩
    rw[show i-s=(i-(s+1))+1 by omega]at h2;simpa using h2
  unfold oG
  cases b with
  |true=>
   simp only[cond_true,List.mem_cons,ih,key]
   by_cases he:s=i
   ·subst he;simp
   ·constructor
    ·rintro(h1|h1)
     ·exact absurd h1 (hne he)
     ·exact⟨by omega,h1.2⟩
    ·rintro⟨h1,h2⟩;exact .inr ⟨by omega,h2⟩
  |false=>
   simp only[cond_false,ih,key]
   by_cases he:s=i
   ·subst he;simp
   ·constructor
    ·rintro⟨h1,h2⟩;exact⟨by omega,h2⟩
    ·rintro⟨h1,h2⟩;exact⟨by omega,h2⟩
theorem Xn (hb:bQ n bl.length ρ bl) {ty:TypeId} (hu:P.underlying ty=some .bool) (b off:Nat) {aR:bh} (v8:aR.ok n ρ):ar S L (ES bl b off aR) n ρ (hh w0 m bl n ρ λw=>(Instr.loadAt ty ((A.iQ b off aR).den ρ m)).run P w):=by
 unfold ES
 cases hbl:bl[b]? with
 |none=>exact ar.fail
 |some q=>
  obtain⟨cs,t⟩:=q
  simp only
  cases hi:iV ((cs.drop off).take (aR.hi.toNat+1))with
  |none=>exact ar.fail
  |some l=>
   refine cH λhc=>?_
   simp only[Bool.and_eq_true,decide_eq_true_eq]at hc
   obtain⟨⟨⟨hc1,hc2⟩,Z8⟩,hq⟩:=hc
   have hlen:=Nat.eq_of_beq_eq_true hc1
   have vD:=Nat.le_of_ble_eq_true hc2
   have e:=G6 hi
   have sW:=v8.2
   have hlt:(aR.l.den ρ).toNat<l.length:=by omega
   have dj:eI (oG 0 l)=(J.const (eI (oG 0 l))).den ρ:=(J.aS _ _).symm
   have hf:aa 43 ([J.const (eI (oG 0 l)),aR.l].map (·.den ρ))=if l[(aR.l.den ρ).toNat]=true then 1 else 0:=by
    simp only[List.map_cons,List.map_nil,aa,J.aS,gT]
    have:=JP l 0 (by omega) (aR.l.den ρ).toNat (by omega)
    simp only[Nat.sub_zero,Nat.zero_le,true_and,List.getElem?_eq_getElem hlt,Option.some.injEq]at this
    simp only[this]
   have b1:=sS (l[(aR.l.den ρ).toNat]=true)
   refine(dE (by rw[hf];exact b1.1) (by rw[hf];exact b1.2)).bind λaH n1 r hn ha ⟨g1,g2⟩=>?_
   rw[hf]at g2
   have e2:=aY.k9 (n:=n1) (ρ:=aH) (a:=⟨r,0,1⟩) (b:= .const 1) ⟨g1,by simp only[g2];exact b1.1,by simp only[g2];exact b1.2⟩ (bh.iW _ _ _)
   refine ar.pure ⟨e2.2,_,rfl,λw hw=>?_⟩
   obtain⟨_,_,LQ,_,h2⟩:=hw.ef b cs t hbl hq
   have hcs:cs[off+(aR.l.den ρ).toNat]?=some (.bool (.lit l[(aR.l.den ρ).toNat])):=by
    have h1:((cs.drop off).take (aR.hi.toNat+1))[(aR.l.den ρ).toNat]?=some (.bool (.lit l[(aR.l.den ρ).toNat])):=by rw[e];simp[hlt]
    rw[List.getElem?_take]at h1
    split at h1
    ·rw[List.getElem?_drop]at h1;exact h1
    ·cases h1
   have QC:=(List.getElem?_eq_some_iff.1 hcs).1
   have hcell:w.cell? ⟨m b,off+(aR.l.den ρ).toNat,none⟩=some (.bool l[(aR.l.den ρ).toNat]):=by
    simp only[World.cell?,h2,Option.isSome_none,Bool.false_eq_true,if_false,List.getElem?_toArray]
    rw[List.getElem?_append_left (by simpa using QC),List.getElem?_map,hcs];rfl
   have ja:e8 P ty=some false:=by unfold e8;rw[hu]
   have C1:(A.iQ b off aR).den ρ m= .pointer (some ⟨m b,off+(aR.l.den ρ).toNat,none⟩):=rfl
   simp only[W.den,A.den]
   rw[e2.1]
   simp only[g2,bh.const,J.aS]
   have Qq:decide ((if l[(aR.l.den ρ).toNat]=true then(1:Int)else 0)=1)=l[(aR.l.den ρ).toNat]:=by
    cases l[(aR.l.den ρ).toNat]<;>rfl
   rw[Qq]
   have RG:=C1
   simp only[A.den]at RG
   simp[Instr.loadAt,Instr.sureAddr,loadVar,jH ja,hcell]
theorem EM (w:World) {t e:TypeId} (hu:P.underlying t=some (.slice e)) (p:Option Addr) (l c:Nat):(binOp .eql t (.slice p l c) (.slice none 0 0)).run P w= .ok (.bool p.isNone) w:=by
 have h:binOp .eql t (.slice p l c) (.slice none 0 0)=(do pure (.bool (<-Op.equal t (.slice p l c) (.slice none 0 0)))):=rfl
 rw[h]
 simp only[Sem.run_bind,run_equal_slice_nil w t e p l c hu,Result.andThen_ok,Sem.run_pure]
theorem Xe (w:World) {t e:TypeId} (hu:P.underlying t=some (.slice e)) (p:Option Addr) (l c:Nat):(binOp .neq t (.slice p l c) (.slice none 0 0)).run P w= .ok (.bool !p.isNone) w:=by
 have h:binOp .neq t (.slice p l c) (.slice none 0 0)=(do pure (.bool (!(<-Op.equal t (.slice p l c) (.slice none 0 0))))):=rfl
 rw[h]
 simp only[Sem.run_bind,run_equal_slice_nil w t e p l c hu,Result.andThen_ok,Sem.run_pure]
theorem GU {b off:Nat} {sh:List az} {code:J} {c:Nat} (h:x2 bl b off=some (sh,code,c)):off=0/\∃cap kind t,bl[b]?=some ([.rows sh (.const 0) code cap kind],t)/\0<kind/\(∀ρ,cap.den ρ=(c:Int))/\fJ sh=true:=by
 unfold x2 at h
 split at h
 ·rename_i cn o code' cap kind t hbl
  split at h
  ·rename_i q hq
   cases hc:(Nat.beq off 0&&Nat.blt 0 kind&&J.beq o (.const 0)&&decide (0<=q)&&fJ cn)with
   |false=>rw[hc]at h;cases h
   |true=>
    rw[hc]at h
    simp only[cond_true,Option.some.injEq,Prod.mk.injEq]at h
    obtain⟨rfl,rfl,rfl⟩:=h
    simp only[Bool.and_eq_true,decide_eq_true_eq]at hc
    obtain⟨⟨⟨⟨c1,aU⟩,bL⟩,b9⟩,du⟩:=hc
    have bL:=J.beq_eq bL
    subst bL
    exact⟨Nat.eq_of_beq_eq_true c1,cap,kind,t,hbl,Nat.le_of_ble_eq_true aU,λρ=>by rw[J.fl hq];omega,du⟩
  ·cases h
 ·cases h
theorem GO {nb:Nat} {sh:List az}:∀{k i:Nat} {n:Nat} {ρ:Env} {code:J},code.aX n->(∀row∈ae (code.den ρ),bn sh row)->(ae (code.den ρ)).length=i+k->
 ar S L (xW code sh i k) n ρ λag n' l=>(∀a∈l,A.ok n' nb ag a)/\l.length=k*sh.length/\∀(x:Nat) (a:A),l[x]?=some a->(cf sh (ae (code.den ρ)))[i*sh.length+x]?=some (a.den ag m)
 |0,i,n,ρ,code,_,_,_=>ar.pure ⟨λ_ h=>by simp at h,by simp,λx a h=>by simp at h⟩
 |k+1,i,n,ρ,code,hs,dF,hl=>by
  unfold xW
  have hlt:i<(ae (code.den ρ)).length:=by omega
  have hrow:(ae (code.den ρ))[i]?=some (ae (code.den ρ))[i]:=List.getElem?_eq_getElem hlt
  generalize (ae (code.den ρ))[i]=row at hrow
  refine(Bw (nb:=nb) (m:=m) (r:=sh) (j:=0) (i:= .const (i:Nat)) (code:=code) (dF row (List.mem_of_getElem? hrow)) hs (J.bU _ _) (by rw[J.aS,Int.toNat_natCast];exact hrow) (λx c hx=>by rw[Nat.zero_add];exact hx)).bind λaH n1 l1 c7 cm ⟨g1,g2,g3⟩=>?_
  have e1:code.den aH=code.den ρ:=J.bj cm hs
  refine(GO (nb:=nb) (k:=k) (i:=i+1) (code:=code) (hs.mono c7) (by rw[e1];exact dF) (by rw[e1];omega)).bind λba db l2 cQ cA ⟨k1,k2,k3⟩=>ar.pure ⟨λa ha=>?_,by rw[List.length_append,g2,k2,Nat.succ_mul];omega,λx a hx=>?_⟩
  ·rcases List.mem_append.1 ha with ha|ha
   ·exact(g1 a ha).ext cA cQ (Nat.le_refl _)
   ·exact k1 a ha
  ·rw[List.getElem?_append]at hx
   split at hx
   ·rename_i hlt
    obtain⟨_,_,_,this⟩:=g3 x a hx
    rw[Nat.zero_add]at this
    rw[A.hM (g1 a (List.mem_of_getElem? hx)) cA (λ_ _=>rfl)]
    exact BZ dF hrow this
   ·rename_i ct
    have:=k3 (x-l1.length) a hx
    rw[e1,g2]at this
    rw[g2]at ct
    rw[show i*sh.length+x=(i+1)*sh.length+(x-sh.length) by rw[Nat.succ_mul];omega]
    exact this
theorem Oj {α:Type} {p q r len cap:J} {f:Unit->M α} {R:Env->Nat->α->Prop} (cD:cap.den ρ<0->len.den ρ=0) (c6:0<=cap.den ρ->len.den ρ<=cap.den ρ) (h:(0<=p.den ρ/\p.den ρ<=q.den ρ/\q.den ρ<=r.den ρ/\r.den ρ<=cap.den ρ)->ar S L (f ()) n ρ R):
 ar S L (bind (cond (J.beq r len) (dh 78 [p,q,r,cap]) (dh 64 [p,q,r,len])) f) n ρ R:=by
 cases J.beq r len with
 |true=>exact eh λhk=>h hk
 |false=>
  refine eh λhk=>h ?_
  have hk:0<=p.den ρ/\p.den ρ<=q.den ρ/\q.den ρ<=r.den ρ/\r.den ρ<=len.den ρ/\0<len.den ρ:=hk
  have hc:0<=cap.den ρ:=by
   rcases Int.lt_or_le (cap.den ρ) 0 with h|h
   ·have:=cD h;omega
   ·exact h
  have:=c6 hc
  omega
theorem XF {t:TypeId} {b aV:Nat} {o ro len cap p q r:J} {lo:Option Operand} {hi dq:Operand} (hx:(A.sl b aV o ro len cap).ok n bl.length ρ) (ht:cI n bl.length ρ m tm a.tmps) (hp:pf tm (.const 0) lo=some p) (hq:kn (bq tm hi)=some q) (hr:kn (bq tm dq)=some r):
 ar S L (E3 P t b aV o ro len cap p q r) n ρ (hh w0 m bl n ρ λw=>(Instr.sliceAt t ((A.sl b aV o ro len cap).den ρ m) (lo.map a.eval) (some (a.eval hi)) (some (a.eval dq))).run P w):=by
 unfold E3
 cases h1:eT P t with
 |none=>exact ar.fail
 |some e=>
  cases h2:de P e with
  |none=>simp only[h2];exact ar.fail
  |some s=>
   simp only[h2]
   refine cH λhs=>Oj (λh=>hx.2.2.2.2.1 h) (λh=>hx.2.2.2.2.2 h) λhk=>?_
   have hs:=Nat.eq_of_beq_eq_true hs
   subst hs
   obtain⟨k1,k2,k3,k4⟩:=hk
   have fr:=hx
   obtain⟨x1,⟨cU,dm,gA,gX⟩,⟨ia,me,mf,mg⟩,⟨m2,mc⟩,fj,gW⟩:=hx
   have lU:=Bi hp ht
   have sx:p.aX n:=by rcases lU with⟨_,rfl⟩|⟨_,_,h⟩;exact J.bU _ _;exact h
   obtain⟨SZ,mI,uJ⟩:=rU (m:=m) (bl:=bl) hq (bJ ht hi).2 (bJ ht hi).1
   obtain⟨aay,wq,L1⟩:=rU (m:=m) (bl:=bl) hr (bJ ht dq).2 (bJ ht dq).1
   obtain⟨ptr,e1,e2,e3⟩:=kR (m:=m) fr
   have hc:¬(cap.den ρ<0):=by omega
   have c6:=gW (by omega)
   have HI:=e1
   rw[if_neg hc,e3 (by omega)]at HI
   have hf:aa 33 ([ro,p,r].map (·.den ρ))=(if p.den ρ=r.den ρ then ro.den ρ else ro.den ρ+p.den ρ):=rfl
   refine(dE (by rw[hf];split<;>omega) (by rw[hf];split<;>omega)).bind λaH n1 LQ hn ha ⟨g1,g2⟩=>ar.pure ?_
   rw[hf]at g2
   have a1:=J.bj ha cU;have a2:=J.bj ha uJ;have a3:=J.bj ha sx;have a4:=J.bj ha L1
   refine⟨⟨x1,⟨cU.mono hn,g1,J.qj (uJ.mono hn) (sx.mono hn),J.qj (L1.mono hn) (sx.mono hn)⟩,?_⟩,_,rfl,λw _=>?_⟩
   ·rw[J.iE,J.iE,a1,a2,a3,a4,g2]
    refine⟨⟨ia,?_,by omega,by omega⟩,⟨by omega,?_⟩,λh=>by omega,λh=>by omega⟩
    ·split<;>omega
    ·split<;>omega
   ·rw[HI]
    have ke:(Instr.sliceBounds true (len.den ρ).toNat (cap.den ρ).toNat (lo.map a.eval) (some (a.eval hi)) (some (a.eval dq))).run P w= .ok ((p.den ρ).toNat,(q.den ρ).toNat,(r.den ρ).toNat) w:=by
     rw[mI,wq]
     rcases lU with⟨rfl,rfl⟩|⟨zj,pL,_⟩
     ·simp[Instr.sliceBounds,J.aS,lE (P:=P) (y:=(cap.den ρ).toNat) (by omega:0<=r.den ρ) (by omega),lE (P:=P) (y:=(r.den ρ).toNat) (by omega:0<=q.den ρ) (by omega)]
     ·rw[pL]
      simp[Instr.sliceBounds,lE (P:=P) (y:=(cap.den ρ).toNat) (by omega:0<=r.den ρ) (by omega),lE (P:=P) (y:=(r.den ρ).toNat) (by omega:0<=q.den ρ) (by omega),lE (P:=P) (y:=(q.den ρ).toNat) k1 (by omega)]
    have eo:(q.den ρ).toNat-(p.den ρ).toNat=(q.den ρ-p.den ρ).toNat:=by omega
    have mu:(r.den ρ).toNat-(p.den ρ).toNat=(r.den ρ-p.den ρ).toNat:=by omega
    simp only[Instr.sliceAt,Sem.run_bind,run_underlying (ej h1),Result.andThen_ok,Instr.slice,ke,eS h2,Sem.run_pure,eo,mu,W.den,A.den,J.iE,a1,a2,a3,a4,g2]
    rw[if_neg (show ¬(r.den ρ-p.den ρ<0) by omega)]
    by_cases wk:p.den ρ=r.den ρ
    ·rw[if_pos wk,if_pos (by omega)]
    ·rw[if_neg wk,if_neg (by omega)]
     have n9:(ro.den ρ+p.den ρ).toNat=(ro.den ρ).toNat+(p.den ρ).toNat:=by omega
     rw[n9,Nat.add_mul,<-Nat.add_assoc]
     simp[eZ]
theorem W4 (hb:bQ n bl.length ρ bl) (hex:∃w,Mem w0 ρ m bl w) (ht:cI n bl.length ρ m tm a.tmps) (o:Oper) {q:M V} (hq:zU P bl tm o=some q):ar S L q n ρ (gE w0 m bl n ρ P o a):=by
 obtain⟨nR,lX⟩:=hex
 unfold zU at hq
 split at hq
 ·rename_i t x aR h
  have hx:=bJ ht x
  have hi:=bJ ht aR
  split at hq
  ·rename_i l k p len e hv wz pB
   rw[hv]at hx;rw[wz]at hi
   split at hq
   ·rename_i s hs fS
    cases hc:Nat.ble len 8 with
    |false=>rw[hc]at hq;cases hq
    |true=>
     rw[hc]at hq
     simp only[cond_true,Option.some.injEq]at hq
     subst hq
     have e1:a.eval x= .agg (l.map (A.den ρ m)).toArray:=hx.2
     have e2:a.eval aR= .int k (p.l.den ρ):=hi.2
     have main:∀r j,j+r=len->ar S L (Dn P e l s p.l j r) n ρ (gE w0 m bl n ρ P o a):=by
      intro r
      induction r with
      |zero=>intro j _;exact ar.fail
      |succ r ih=>
       intro j hj
       refine Bl (λhb=>?_) λ_=>ih (j+1) (by omega)
       have hb:p.l.den ρ=(J.const j).den ρ:=by simpa [aY.den]using hb
       rw[J.aS]at hb
       have hlt:((j:Nat):Int)<(len:Nat):=by omega
       have ct:(0:Int)<=(j:Nat):=by omega
       refine(El (w0:=w0) (m:=m) (bl:=bl) (off:=j*s) hx.1).mono λaH n1 v _ _ ⟨q1,val,q2,q3⟩=>⟨q1,val,q2,λw hw=> .inl ?_⟩
       have:=q3 w hw
       rw[hb]at e2
       simp[execOp,h,e1,e2,Instr.index,asIntOf,run_underlying (mo pB),ct,hlt,eS hs,this]
       intro hle;omega
     exact main len 0 (by omega)
   ·cases hq
  ·cases hq
 ·rename_i t x aR h
  have hx:=bJ ht x
  have hi:=bJ ht aR
  split at hq
  ·rename_i b off k i hv wz
   rw[hv]at hx;rw[wz]at hi
   split at hq
   ·rename_i sh code c len e my pB
    split at hq
    ·rename_i s hs
     cases hc:(Nat.beq s sh.length&&Nat.beq len c)with
     |false=>rw[hc]at hq;cases hq
     |true=>
      rw[hc]at hq
      simp only[cond_true,Option.some.injEq]at hq
      subst hq
      simp only[Bool.and_eq_true]at hc
      have aU:=Nat.eq_of_beq_eq_true hc.2
      subst aU
      obtain⟨rfl,cap,kind,ch,hbl,hk,bW,Ju⟩:=GU my
      refine eh λy1=>ar.pure ?_
      simp only[List.map_cons,List.map_nil,ad,J.aS]at y1
      have cg:a.eval x= .pointer (some ⟨m b,0,none⟩):=hx.2
      have CL:a.eval aR= .int k (i.l.den ρ):=hi.2
      have CM:bh.ok n ρ i:=hi.1
      have jh:b<bl.length:=hx.1
      refine⟨⟨jh,⟨J.bU _ _,CM.1⟩,by rw[J.aS];omega,y1.1⟩,_,rfl,λw _=> .inl ?_⟩
      have c1:i.l.den ρ<((len:Nat):Int):=y1.2
      simp[execOp,h,cg,CL,Instr.indexAt,asIntOf,run_underlying (mo pB),Instr.sureAddr,y1.1,c1,eS hs,eZ,W.den,A.den,J.aS]
    ·cases hq
   ·cases hq
  ·cases hq
 ·rename_i t x h
  have hx:=bJ ht x
  split at hq
  ·rename_i b off hv
   rw[hv]at hx
   split at hq
   ·rename_i sh code c k my ja hs
    cases hc:(Nat.beq k (c*sh.length))with
    |false=>rw[hc]at hq;cases hq
    |true=>
     rw[hc]at hq
     simp only[cond_true,Option.some.injEq]at hq
     subst hq
     have hc:=Nat.eq_of_beq_eq_true hc
     subst hc
     obtain⟨rfl,cap,kind,ch,hbl,hk,bW,Ju⟩:=GU my
     refine eh λy2=>?_
     simp only[List.map_cons,List.map_nil,ad,J.aS]at y2
     have dw:(A.rows sh (.const 0) code cap kind).ok n bl.length ρ:=hb _ (List.mem_of_getElem? hbl) _ (by simp)
     have il:∀w,Mem w0 ρ m bl w->∃cells t' fz,w.heap[m b]?=some (.cells cells t' fz)/\kv cells 0 sh (ae (code.den ρ)):=λw hw=>by
      obtain⟨_,cells,e9,fz,g1,⟨g2,g3⟩,_⟩:=(hw.rws b sh (.const 0) code cap kind ch hbl (by omega)).2 (by rw[bW];omega)
      rw[J.aS]at g3
      exact⟨cells,e9,fz,g1,(jr Ju).1 g3⟩
     obtain⟨_,_,_,_,RQ⟩:=il nR lX
     refine(GO (nb:=bl.length) (m:=m) (k:=c) (i:=0) dw.1.2.1 RQ.1 (by omega)).bind λaH n1 l hn ha ⟨g1,g2,g3⟩=>ar.pure ⟨g1,_,rfl,λw hw=> .inl ?_⟩
     obtain⟨cells,e9,fz,q1,q2⟩:=il w hw
     have hl:=run_loadCells_list (P:=P) w ⟨m b,0,none⟩ (l.map (A.den aH m)) λx v hj=>by
      rw[eZ]
      rw[List.getElem?_map]at hj
      cases hq:l[x]? with
      |none=>simp[hq]at hj
      |some y=>
       simp only[hq,Option.map_some,Option.some.injEq]at hj
       subst hj
       have h3:=g3 x y hq
       rw[Nat.zero_mul,Nat.zero_add]at h3
       simp only[World.cell?,q1,Option.isSome_none,Bool.false_eq_true,if_false]
       obtain⟨_,pre,post,p1,bz⟩:=q2
       have fT:pre=[]:=List.eq_nil_of_length_eq_zero bz
       subst fT
       have hlt:=(List.getElem?_eq_some_iff.1 h3).1
       rw[<-Array.getElem?_toList,p1,List.nil_append,List.getElem?_append_left (by omega),Nat.zero_add]
       exact h3
     simp only[List.length_map,g2]at hl
     have cg:a.eval x= .pointer (some ⟨m b,0,none⟩):=hx.2
     simp[execOp,h,cg,Instr.loadAt,Instr.sureAddr,loadVar,jH ja,eS hs,hl,W.den]
   ·cases hq
  ·cases hq
 ·rename_i t x lo hi dq h
  have hx:=bJ ht x
  split at hq
  ·rename_i b aV off ro len cap hv
   rw[hv]at hx
   have cg:a.eval x=(A.sl b aV off ro len cap).den ρ m:=hx.2
   have he:execOp a.eval o=(do pure (Next.value (<-Instr.sliceAt t ((A.sl b aV off ro len cap).den ρ m) (lo.map a.eval) (some (a.eval hi)) (some (a.eval dq))))):=by simp only[execOp,h,cg];rfl
   split at hq
   ·rename_i p gm r hp mI hr
    cases hq
    exact(XF hx.1 ht hp mI hr).mono λ_ _ _ _ _ hq=>gE.of_run he hq
   ·cases hq
  ·cases hq
 ·rename_i c h
  split at hq
  ·rename_i hc
   split at hq
   ·rename_i x t dI gh
    have hx:=bJ ht x
    split at hq
    ·rename_i e hv hs
     cases hq
     rw[hv]at hx
     have cg:a.eval x= .slice none 0 0:=hx.2
     have a1:c.args=#[x]:=by rw[<-Array.toArray_toList (xs:=c.args),dI]
     have a2:c.argTypes=#[t]:=by rw[<-Array.toArray_toList (xs:=c.argTypes),gh]
     refine ar.pure ⟨bh.iW _ _ _,_,rfl,λw _=> .inl ?_⟩
     simp[execOp,h,resolve,hc,a1,a2,cg,invoke,builtin,Builtin.len_,run_underlying (ej hs),goInt,W.den,A.den,bh.const,J.aS]
    ·cases hq
   ·cases hq
  ·cases hq
 ·cases hq
theorem Eu {bd:ey} (cN:gD S P gl w0 bd) (hb:bQ n bl.length ρ bl) (hg:fv gl w0) (hex:∃w,Mem w0 ρ m bl w) (ht:cI n bl.length ρ m tm a.tmps) (o:Oper):
 ar S L (oT P bd gl bl tm o) n ρ (gE w0 m bl n ρ P o a):=by
 unfold oT
 cases hq:EJ P bl tm o with
 |none=>
  simp only
  cases nq:zU P bl tm o with
  |some q=>exact W4 hb hex ht o nq
  |none=>
  simp only
  cases hd:yu bd bl tm o with
  |none=>exact WB cN hb hg hex ht o
  |some q=>
   simp only
   unfold yu at hd
   split at hd
   ·rename_i c ho
    split at hd
    ·rename_i x hc
     split at hd
     ·rename_i f yy yz hv
      cases hz:(Nat.beq yy.size 0&&Nat.beq yz.size 0)with
      |false=>rw[hz]at hd;cases hd
      |true=>
       rw[hz]at hd
       simp only[cond_true,Option.map_eq_some_iff]at hd
       obtain⟨g,CF,rfl⟩:=hd
       simp only[Bool.and_eq_true,Nat.beq_eq]at hz
       have cy:yy=#[]:=Array.eq_empty_of_size_eq_zero hz.1
       have e1:yz=#[]:=Array.eq_empty_of_size_eq_zero hz.2
       subst cy e1
       have hx:=bJ ht (.tmp x)
       rw[hv]at hx
       have cg:a.eval (.tmp x)= .func (.func f) #[] #[]:=hx.2
       have lR:∀v∈c.args.toList.map (bq tm),V.ok n bl.length ρ v:=λv hv=>by
        obtain⟨x,_,rfl⟩:=List.mem_map.1 hv
        exact(bJ ht x).1
       have he:execOp a.eval o=callFunc f (c.args.map a.eval):=by
        simp only[execOp,ho,resolve,hc,cg,Deferred.ofValue]
        simp[invoke,bind_pure_comp]
       refine(cN f g CF L n ρ m bl _ _ hb hex lR (xL (xs:=c.args.toList) ht)).mono λaH n1 v _ _ ⟨q1,val,q2,q3⟩=>⟨q1,val,q2,λw hw=>?_⟩
       have ha:(c.args.toList.map a.eval).toArray=c.args.map a.eval:=by
        rw[<-Array.toList_map]
       have q4:=q3 w hw
       rw[ha]at q4
       rcases q4 with q4|⟨q4,q5⟩
       ·exact .inl (by rw[he];exact q4)
       ·exact .inr ⟨f,_,by rw[he];exact q4,q5⟩
     ·cases hd
    ·cases hd
   ·cases hd
 |some q=>
  simp only
  unfold EJ at hq
  split at hq
  case h_1 t x h=>
   have hx:=bJ ht x
   split at hq
   ·rename_i b aV off i j hv
    cases hq
    rw[hv]at hx
    have cg:a.eval x=(A.ep b aV off i j).den ρ m:=hx.2
    have he:execOp a.eval o=(do pure (Next.value (<-Instr.loadAt t ((A.ep b aV off i j).den ρ m)))):=by simp only[execOp,h,cg]
    exact(O2 hb hex t hx.1).mono λ_ _ _ _ _ hq=>gE.of_run he hq
   ·rename_i b off aR hv
    split at hq
    ·rename_i hu
     cases hq
     rw[hv]at hx
     have cg:a.eval x=(A.iQ b off aR).den ρ m:=hx.2
     have he:execOp a.eval o=(do pure (Next.value (<-Instr.loadAt t ((A.iQ b off aR).den ρ m)))):=by simp only[execOp,h,cg]
     exact(Xn hb hu b off hx.1.2.1).mono λ_ _ _ _ _ hq=>gE.of_run he hq
    ·cases hq
   ·cases hq
  case h_2 x h=>
   have hx:=bJ ht x
   split at hq
   ·rename_i b aV off i j hv
    cases hq
    rw[hv]at hx
    refine ar.pure ⟨hx.1,_,rfl,λw _=> .inl ?_⟩
    have cg:=hx.2
    simp only[V.rel,W.den,A.den]at cg
    simp[execOp,h,cg,W.den,A.den]
   ·cases hq
  case h_3 t x aR h=>
   have hx:=bJ ht x
   have hi:=bJ ht aR
   split at hq
   ·rename_i b aV off ro len cap k i hv wz
    cases hq
    rw[hv]at hx
    rw[wz]at hi
    have cg:a.eval x=(A.sl b aV off ro len cap).den ρ m:=hx.2
    have CL:a.eval aR= .int k (i.l.den ρ):=hi.2
    have he:execOp a.eval o=(do pure (Next.value (<-Instr.indexAt t ((A.sl b aV off ro len cap).den ρ m) (.int k (i.l.den ρ))))):=by simp only[execOp,h,cg,CL]
    have CM:bh.ok n ρ i:=hi.1
    exact(XB hx.1 CM.1).mono λ_ _ _ _ _ hq=>gE.of_run he hq
   ·cases hq
  case h_4 t x h=>
   have hx:=bJ ht x
   split at hq
   ·rename_i b aV off ro len cap k e hv ha
    cases hq
    rw[hv]at hx
    refine cH λhc=>eh λhk=>?_
    have hc:0<k:=Nat.le_of_ble_eq_true hc
    simp only[List.map_cons,List.map_nil,J.aS,ad]at hk
    have a8:A.ok n bl.length ρ (.sl b aV off ro len cap):=hx.1
    obtain⟨h1,⟨h2,h3,h4,h5⟩,h6⟩:=a8
    have bW:¬cap.den ρ<0:=λRw=>by have:=h6.2.2.1 Rw;omega
    refine ar.pure ⟨⟨h1,⟨h2,h3⟩,h6.1.1,h6.1.2.1⟩,_,rfl,λw _=> .inl ?_⟩
    have cg:a.eval x=(A.sl b aV off ro len cap).den ρ m:=hx.2
    have hle:¬(len.den ρ).toNat<k:=by omega
    simp only[execOp,h]
    rw[cg]
    simp only[A.den,if_neg bW]
    simp[Instr.arrayAt,run_underlying (mo ha),hle,W.den,A.den]
   ·cases hq
  case h_5 s x f h=>
   have hx:=bJ ht x
   split at hq
   ·rename_i b aV off i j fd hv hf
    rw[hv]at hx
    obtain⟨cJ,hu,vU⟩:=BT hf
    split at hq
    ·rename_i k hs
     cases hq
     refine ar.pure ⟨hx.1,_,rfl,λw _=> .inl ?_⟩
     have cg:=hx.2
     simp only[V.rel,W.den,A.den]at cg
     simp[execOp,h,cg,Instr.fieldAt,run_underlying hu,vU,Instr.sureAddr,fieldPlace,eS hs,eZ,W.den,A.den,Nat.add_assoc]
    ·cases hq
   ·cases hq
  case h_6 t x lo hi h=>
   have hx:=bJ ht x
   split at hq
   ·rename_i b aV off ro len cap hv
    rw[hv]at hx
    have cg:a.eval x=(A.sl b aV off ro len cap).den ρ m:=hx.2
    have he:execOp a.eval o=(do pure (Next.value (<-Instr.sliceAt t ((A.sl b aV off ro len cap).den ρ m) (lo.map a.eval) (hi.map a.eval) none))):=by simp only[execOp,h,cg];rfl
    split at hq
    ·rename_i p gm hp mI
     cases hq
     exact(XG hx.1 ht hp mI).mono λ_ _ _ _ _ hq=>gE.of_run he hq
    ·cases hq
   ·cases hq
  case h_7 s d x h=>
   have hx:=bJ ht x
   split at hq
   ·rename_i b aV off ro len cap e hv hs hd
    split at hq
    ·rename_i QK
     cases hq
     rw[hv]at hx
     have cg:a.eval x=(A.sl b aV off ro len cap).den ρ m:=hx.2
     have he:execOp a.eval o=(do pure (Next.value (<-convert s d ((A.sl b aV off ro len cap).den ρ m)))):=by simp only[execOp,h,cg]
     exact(XE hb hex (ej hs) QK hd hx.1).mono λ_ _ _ _ _ hq=>gE.of_run he hq
    ·cases hq
   ·cases hq
  case h_8 c h=>
   split at hq
   ·rename_i hc
    split at hq
    ·rename_i x t dI gh
     have hx:=bJ ht x
     split at hq
     ·rename_i b aV off ro len cap e hv hs
      cases hq
      rw[hv]at hx
      have cg:a.eval x=(A.sl b aV off ro len cap).den ρ m:=hx.2
      have jh:(A.sl b aV off ro len cap).ok n bl.length ρ:=hx.1
      obtain⟨ptr,e1,_,_⟩:=kR (m:=m) jh
      rw[e1]at cg
      obtain⟨x1,⟨cU,dm,gA,gX⟩,⟨ia,me,mf,mg⟩,_⟩:=jh
      have a1:c.args=#[x]:=by rw[<-Array.toArray_toList (xs:=c.args),dI]
      have a2:c.argTypes=#[t]:=by rw[<-Array.toArray_toList (xs:=c.argTypes),gh]
      refine ar.pure ⟨⟨gA,mf,mg⟩,_,rfl,λw _=> .inl ?_⟩
      have eo:((len.den ρ).toNat:Int)=len.den ρ:=by omega
      simp[-Int.ofNat_toNat,execOp,h,resolve,hc,a1,a2,cg,invoke,builtin,Builtin.len_,run_underlying (ej hs),goInt,W.den,A.den,eo]
     ·cases hq
    ·cases hq
   ·rename_i hc
    split at hq
    ·rename_i x y dI
     have hx:=bJ ht x
     have hy:=bJ ht y
     split at hq
     ·rename_i k p aZ gm kk hv2
      by_cases fy:k=aZ
      ·subst fy
       simp only[decide_true,cond_true]at hq
       cases hq
       rw[kk]at hx;rw[hv2]at hy
       have e1:a.eval x= .int k (p.l.den ρ):=hx.2
       have e2:a.eval y= .int k (gm.l.den ρ):=hy.2
       have a1:c.args=#[x,y]:=by rw[<-Array.toArray_toList (xs:=c.args),dI]
       have he:execOp a.eval o=(do pure (Next.value (<-Builtin.min_ c.argTypes o.type #[.int k (p.l.den ρ),.int k (gm.l.den ρ)]))):=by
        simp[execOp,h,resolve,hc,a1,e1,e2,invoke,builtin]
       exact(Uk hx.1 hy.1).mono λ_ _ _ _ _ hq=>gE.of_run he hq
      ·simp[fy]at hq
     ·cases hq
    ·cases hq
   ·rename_i hc
    split at hq
    ·rename_i x y dI
     have hx:=bJ ht x
     have hy:=bJ ht y
     split at hq
     ·rename_i k p aZ gm kk hv2
      by_cases fy:k=aZ
      ·subst fy
       simp only[decide_true,cond_true]at hq
       cases hq
       rw[kk]at hx;rw[hv2]at hy
       have e1:a.eval x= .int k (p.l.den ρ):=hx.2
       have e2:a.eval y= .int k (gm.l.den ρ):=hy.2
       have a1:c.args=#[x,y]:=by rw[<-Array.toArray_toList (xs:=c.args),dI]
       have he:execOp a.eval o=(do pure (Next.value (<-Builtin.max_ c.argTypes o.type #[.int k (p.l.den ρ),.int k (gm.l.den ρ)]))):=by
        simp[execOp,h,resolve,hc,a1,e1,e2,invoke,builtin]
       exact(Uj hx.1 hy.1).mono λ_ _ _ _ _ hq=>gE.of_run he hq
      ·simp[fy]at hq
     ·cases hq
    ·cases hq
   ·cases hq
  case h_9 op t x y q0 h=>
   have hx:=bJ ht x
   have hy:=bJ ht y
   split at hq
   ·rename_i e b aV br ro len cap hs kk hv2
    rw[kk]at hx;rw[hv2]at hy
    have cg:a.eval x=(A.sl b aV br ro len cap).den ρ m:=hx.2
    have mL:a.eval y= .slice none 0 0:=hy.2
    have jh:(A.sl b aV br ro len cap).ok n bl.length ρ:=hx.1
    obtain⟨ptr,e1,e2,e3⟩:=kR (m:=m) jh
    rw[e1]at cg
    obtain⟨x1,⟨cU,dm,gA,gX⟩,_,_,fj,_⟩:=jh
    have has:ad 53 ([cap,len].map (·.den ρ)):=fj
    have hp:ptr.isNone=decide (cap.den ρ=-1):=by
     rcases Int.lt_or_le (cap.den ρ) 0 with h0|h0
     ·rw[e2 h0,MN]
     ·rw[e3 h0,decide_eq_false (by omega)];rfl
    split at hq
    ·cases hq
     refine(x3 has).bind λaH n1 _ _ _ ⟨iv,hn⟩=>?_
     have iv:=iv.symm
     have hn:=hn.symm
     subst iv hn
     refine ar.pure ⟨⟨gX,J.bU _ _⟩,_,rfl,λw _=> .inl ?_⟩
     have hg0:eqGuard .eql t x y (.slice ptr (len.den ρ).toNat (if cap.den ρ<0 then 0 else(cap.den ρ).toNat)) (.slice none 0 0)=Pure.pure ():=rfl
     have he:execOp a.eval o=(do pure (Next.value (<-binOp .eql t (.slice ptr (len.den ρ).toNat (if cap.den ρ<0 then 0 else(cap.den ρ).toNat)) (.slice none 0 0)))):=by
      simp only[execOp,h,cg,mL,hg0,pure_bind]
     simp only[he,Sem.run_bind,EM w (ej hs),Result.andThen_ok,Sem.run_pure,hp]
     simp[W.den,A.den,aY.den,J.aS]
    ·cases hq
     refine(x3 has).bind λaH n1 _ _ _ ⟨iv,hn⟩=>?_
     have iv:=iv.symm
     have hn:=hn.symm
     subst iv hn
     refine ar.pure ⟨aY.nJ ⟨gX,J.bU _ _⟩,_,rfl,λw _=> .inl ?_⟩
     have hg0:eqGuard .neq t x y (.slice ptr (len.den ρ).toNat (if cap.den ρ<0 then 0 else(cap.den ρ).toNat)) (.slice none 0 0)=Pure.pure ():=rfl
     have he:execOp a.eval o=(do pure (Next.value (<-binOp .neq t (.slice ptr (len.den ρ).toNat (if cap.den ρ<0 then 0 else(cap.den ρ).toNat)) (.slice none 0 0)))):=by
      simp only[execOp,h,cg,mL,hg0,pure_bind]
     simp only[he,Sem.run_bind,Xe w (ej hs),Result.andThen_ok,Sem.run_pure,hp]
     simp[W.den,A.den,aY.den,aY.na,J.aS]
    ·cases hq
   ·cases hq
  case h_10=>cases hq
end
end Go.bo
namespace Go.bo
def HD (ops:Array Oper) (n:Nat):Bool:=
 (List.range n).all λi=>match ops[i]? with
   |none=>false
   |some fV=>(fV.after.all λe=> !Region.binds .any e||Nat.blt e.on i)&&(match fV.op with| .select .. =>false|_=>true)&&
    (List.range n).all λj=>Nat.beq i j||match ops[j]? with
      |none=>false
      |some cE=>match cE.dst with
       |none=>true
       |some d=>(!(fV.looksAt ops).contains d||Region.waitsFor .any ops i j||Region.waitsFor .any ops j i)&& !(match fV.dst with|some BF=>Nat.beq BF d|none=>false)
def CA (size n:Nat):Array Bool:=((List.range size).map λi=>Nat.blt i n).toArray
def tf (o:Oper):Bool:=match o.op with| .move _| .assign _| .extract _ _=>true|_=>false
def mw (ops:Array Oper) (i:Nat):Bool:=match ops[i]? with|some o=>tf o|none=>false
def dN (o:Oper):Bool:=match o.op,o.guard,o.dst with| .alloc _,none,some _=>true|_,_,_=>false
def k5 (ops:Array Oper) (i:Nat):Bool:=match ops[i]? with|some o=>dN o|none=>false
def KP (ops:Array Oper) (n:Nat):Bool:=
 (List.range n).all λi=> !k5 ops i||match ops[i]? with
   |some fV=>match fV.dst with
    |some d=>(List.range n).all λj=>match ops[j]? with|some cE=> !(cE.looksAt ops).contains d|none=>true
    |none=>false
   |none=>false
def L9 (ops:Array Oper) (n:Nat):Bool:=
 (List.range n).all λi=>mw ops i||(List.range (n+1)).any λj=>Nat.blt i j&&Region.waitsFor .any ops j i&&(Nat.beq j n|| !mw ops j)
def Pk (ops:Array Oper) (n:Nat):Bool:=
 (List.range n).all λi=> !mw ops i||(List.range ops.size).all λj=>Nat.blt j n||Region.waitsFor .any ops j i||(match ops[i]?,ops[j]? with|some fV,some cE=>fV.apart ops cE|_,_=>false)
def uO (ops:Array Oper) (n:Nat):Bool:=
 Region.noSelect ops&&Pk ops n&&KP ops n&&HD ops n&&Nat.ble n ops.size&&(Nat.beq n ops.size||(L9 ops n&&Region.chainB .any ops n))&&Region.seqB .any ops (ops.size-n) n (CA ops.size n)
def calm (Q:Exit->Act->World->Prop):Exit->Act->World->Prop
 | .panic _,_,_=>False
 |e,a,w=>Q e a w
theorem k7 {a b:Nat} (h:Nat.blt a b=true):a<b:=Nat.le_of_ble_eq_true h
theorem Ub {a b:Nat} (h:a<b):Nat.blt a b=true:=Nat.ble_eq_true_of_le h
section
variable {P:Program} {ops:Array Oper} {C:World->Prop}
def m5 (P:Program) (ops:Array Oper) (C:World->Prop) (o:Oper) (v:Value) (a:Act):Prop:=
 (Region.wanted o (yielded ops a.tmps)=true/\∀w,C w->sK P o a w v)∨(Region.wanted o (yielded ops a.tmps)=false/\v=undef)
def qv (P:Program) (ops:Array Oper) (C:World->Prop) (F:Act->Prop):List Oper->Act->Prop
 |[],a=>F a
 |o::r,a=>cond (dN o) (qv P ops C F r a) (∃v,m5 P ops C o v a/\qv P ops C F r (a.put o.dst v))
theorem Ev {Q:Act->Prop}:∀(l:List Oper) (a:Act),qv P ops C Q l a->∃(as:Nat->Act) (vs:Nat->Value),as 0=a/\(∀i o,l[i]?=some o->(dN o=false->m5 P ops C o (vs i) (as i)/\as (i+1)=(as i).put o.dst (vs i))/\(dN o=true->as (i+1)=as i))/\Q (as l.length)
 |[],a,h=>⟨λ_=>a,λ_=>undef,rfl,λi o hi=>by simp at hi,h⟩
 |o::r,a,h=>by
  unfold qv at h
  cases c4:dN o with
  |true=>
   simp only[c4,cond_true]at h
   obtain⟨as,vs,cy,hs,hQ⟩:=Ev r _ h
   refine⟨λi=>match i with|0=>a|i+1=>as i,λi=>match i with|0=>undef|i+1=>vs i,rfl,λi br hi=>?_,hQ⟩
   cases i with
   |zero=>
    simp at hi;subst hi
    exact⟨λh1=>by(rw[c4]at h1;cases h1),λ_=>cy⟩
   |succ i=>
    simp at hi
    exact hs i br hi
  |false=>
   simp only[c4,cond_false]at h
   obtain⟨v,hy,h2⟩:=h
   obtain⟨as,vs,cy,hs,hQ⟩:=Ev r _ h2
   refine⟨λi=>match i with|0=>a|i+1=>as i,λi=>match i with|0=>v|i+1=>vs i,rfl,λi br hi=>?_,hQ⟩
   cases i with
   |zero=>
    simp at hi;subst hi
    exact⟨λ_=>⟨hy,cy⟩,λh1=>by(rw[c4]at h1;cases h1)⟩
   |succ i=>
    simp at hi
    exact hs i br hi
theorem ML {Q:Exit->Act->World->Prop} {md:Region.Mode}:∀(f:Nat) (listed:Array Bool) (a:Act) (w:World),wpAny P md ops Q f listed a w->wpAny P md ops Q (f+1) listed a w
 |0,_,_,_,h=>⟨λ_=>h.2,λi hi=>by rw[h.1]at hi;cases hi⟩
 |f+1,_,_,_,h=>⟨h.1,λi hi=>wpOp_mono (λcS w' h'=>ML f _ cS w' h') (h.2 i hi)⟩
theorem MK {Q:Exit->Act->World->Prop} {md:Region.Mode} {listed:Array Bool} {a:Act} {w:World} {f lN:Nat} (h:wpAny P md ops Q f listed a w) (hle:f<=lN):wpAny P md ops Q lN listed a w:=by
 induction hle with
 |refl=>exact h
 |step _ ih=>exact ML _ _ _ _ ih
theorem Hs {α:Type} {p q:α->Bool}:∀{l:List α},(∀x∈l,q x=true->p x=true)->(∃x∈l,p x=true/\q x=false)->l.countP q<l.countP p
 |[],_,⟨x,hx,_⟩=>by simp at hx
 |y::r,h1,⟨x,hx,h2,h3⟩=>by
  have hle:r.countP q<=r.countP p:=List.countP_mono_left λz hz=>h1 z (List.mem_cons_of_mem _ hz)
  rw[List.countP_cons,List.countP_cons]
  rcases List.mem_cons.1 hx with rfl|hx
  ·simp[h2,h3];omega
  ·have ih:=Hs (l:=r) (λz hz=>h1 z (List.mem_cons_of_mem _ hz)) ⟨x,hx,h2,h3⟩
   have:=h1 y (by simp)
   cases hq:q y<;>cases hp:p y<;>simp[hq,hp]at this⊢<;>omega
theorem nc {n i:Nat} {fV:Oper} (h:HD ops n=true) (hi:i<n) (ho:ops[i]?=some fV):
 (∀e∈fV.after,Region.binds .any e=true->e.on<i)/\(∀cs b,fV.op≠ .select cs b)/\
 ∀j cE d,j<n->j≠i->ops[j]?=some cE->cE.dst=some d->fV.dst≠some d/\(d∈fV.looksAt ops->Region.waitsFor .any ops i j=true∨Region.waitsFor .any ops j i=true):=by
 have h1:=List.all_eq_true.1 h i (List.mem_range.2 hi)
 simp only[ho,Bool.and_eq_true]at h1
 obtain⟨⟨h1,h2⟩,h3⟩:=h1
 refine⟨λe he hb=>?_,λcs b hc=>by simp[hc]at h2,λj cE d hj hne lT hd=>?_⟩
 ·have:=Array.all_eq_true_iff_forall_mem.1 h1 e he
  simp only[hb,Bool.not_true,Bool.false_or]at this
  exact k7 this
 ·have h4:=List.all_eq_true.1 h3 j (List.mem_range.2 hj)
  have h5:Nat.beq i j=false:=by cases hb:Nat.beq i j with|false=>rfl|true=>exact absurd (Nat.eq_of_beq_eq_true hb).symm hne
  simp only[h5,Bool.false_or,lT,hd,Bool.and_eq_true]at h4
  refine⟨λQI=>?_,λil=>?_⟩
  ·have:=h4.2
   simp[QI]at this
  ·have:=h4.1
   have hc:(fV.looksAt ops).contains d=true:=by simpa using il
   simp only[hc,Bool.not_true,Bool.false_or,Bool.or_eq_true]at this
   exact this
theorem Ny {a b:Act} (h1:a.defers=b.defers) (h2:∀t:Nat,a.tmps[t]?=b.tmps[t]?):a=b:=by
 cases a;cases b
 simp only at h1 h2
 rw[h1,Array.ext_getElem? h2]
theorem nI {a:Act} {o:Option Tmp} {v:Value} {t:Nat} (h:o≠some t):(a.put o v).tmps[t]?=a.tmps[t]?:=by
 cases o with
 |none=>rfl
 |some d=>simp only[Act.put];rw[Array.getElem?_setIfInBounds_ne (λe=>h (by rw[e]))]
theorem put_defers (a:Act) (o:Option Tmp) (v:Value):(a.put o v).defers=a.defers:=by cases o<;>rfl
theorem sn (a:Act) (o:Option Tmp) (v:Value):(a.put o v).tmps.size=a.tmps.size:=by cases o<;>simp[Act.put]
theorem Ph {o:Oper} {a:Act} {v:Value} {w:World} (hf:tf o=true) (hC:C w) (h:m5 P ops C o v a):Yields P ops o v a:=by
 rcases h with⟨h1,h2⟩|h
 ·refine .inl ⟨h1,λw'=>?_⟩
  have h3:=h2 w hC
  unfold sK at h3
  unfold tf at hf
  split at hf
  ·rename_i x ho
   simp only[execOp,ho,Sem.run_pure]at h3⊢
   rcases h3 with h3|⟨f,args,h3,_⟩
   ·simp only[Result.ok.injEq,Next.value.injEq,and_true]at h3;rw[h3]
   ·simp at h3
  ·rename_i x ho
   simp only[execOp,ho,Sem.run_pure]at h3⊢
   rcases h3 with h3|⟨f,args,h3,_⟩
   ·simp only[Result.ok.injEq,Next.value.injEq,and_true]at h3;rw[h3]
   ·simp at h3
  ·rename_i x i ho
   simp only[execOp,ho,Sem.run_bind]at h3⊢
   unfold Instr.extract at h3⊢
   cases hx:a.eval x<;>simp only[hx]at h3⊢<;>try(simp[Result.andThen]at h3;done)
   rename_i vs
   cases hv:vs[i]? with
   |none=>simp[hv,Result.andThen]at h3
   |some u=>simp[hv]at h3;simp[h3]
  ·cases hf
 ·exact .inr h
theorem XA {n:Nat} {listed:Array Bool} (hs:L9 ops n=true) (hc:Region.chainB .any ops n=true) (hn:n<ops.size) (inv:HeadInv .any ops n listed):
 ∀(d i:Nat),n-i=d->i<n->mw ops i=false->listed.getD i false=false->∀t,n<=t->t∉Region.ready .any ops listed:=by
 intro d
 induction d using Nat.strongRecOn with
 |_ d ih=>
  intro i hd hi fp lz t ht hr
  obtain⟨_,K7,CZ,hall⟩:=mem_ready.1 hr
  have R6:t<ops.size:=(Array.getElem?_eq_some_iff.1 CZ).1
  by_cases R7:t=n
  ·subst R7
   have h1:=List.all_eq_true.1 hs i (List.mem_range.2 hi)
   simp only[fp,Bool.false_or]at h1
   obtain⟨j,hj,kJ⟩:=List.any_eq_true.1 h1
   simp only[Bool.and_eq_true,Bool.or_eq_true]at kJ
   obtain⟨⟨Jg,wa⟩,CN⟩:=kJ
   have Jg:=k7 Jg
   obtain⟨cE,lT,e,he,hb,y7⟩:=Region.waitsFor_spec wa
   have aai:j<=t:=by have:=List.mem_range.1 hj;omega
   by_cases Jh:j=t
   ·subst Jh
    have:cE=K7:=Option.some.inj (lT.symm.trans CZ)
    subst this
    have h2:=hall e he hb
    rw[y7,lz]at h2
    cases h2
   ·cases hl:listed.getD j false with
    |true=>
     have h2:=inv.closed j cE lT hl e he hb
     rw[y7,lz]at h2
     cases h2
    |false=>
     have QT:mw ops j=false:=by
      rcases CN with h3|h3
      ·exact absurd (Nat.eq_of_beq_eq_true h3) Jh
      ·simpa using h3
     exact ih (t-j) (by omega) j rfl (by omega) QT hl t (Nat.le_refl _) hr
  ·have h1:=List.all_eq_true.1 hc t (List.mem_range.2 R6)
   simp only[Bool.or_eq_true,decide_eq_true_eq]at h1
   rcases h1 with h1|h1
   ·omega
   ·obtain⟨br,jg,e,he,hb,y7⟩:=Region.waitsFor_spec h1
    have:br=K7:=Option.some.inj (jg.symm.trans CZ)
    subst this
    have h2:=hall e he hb
    rw[y7,getD_both (inv.tail (t-1) (by omega) (by omega))]at h2
    cases h2
theorem Pg {o:Oper} (h:tf o=true):dN o=false:=by
 unfold tf at h
 unfold dN
 cases ho:o.op<;>simp only[ho]at h⊢<;>cases h
theorem Ux {n i j:Nat} {fV cE:Oper} {d:Tmp} (h:KP ops n=true) (hi:i<n) (ho:ops[i]?=some fV) (c4:dN fV=true) (hd:fV.dst=some d) (hj:j<n) (lT:ops[j]?=some cE):d∉cE.looksAt ops:=by
 have h1:=List.all_eq_true.1 h i (List.mem_range.2 hi)
 have ha:k5 ops i=true:=by simp[k5,ho,c4]
 simp only[ha,Bool.not_true,Bool.false_or,ho,hd]at h1
 have h2:=List.all_eq_true.1 h1 j (List.mem_range.2 hj)
 simp only[lT,Bool.not_eq_true']at h2
 intro hm
 have:(cE.looksAt ops).contains d=true:=by simpa using hm
 rw[this]at h2;cases h2
theorem Zr {Q:Exit->Act->World->Prop} {o:Oper} {i:Nat} {v:Value} {a:Act} {w:World} {K:Act->World->Prop} (hi:ops[i]?=some o) (hC:C w) (hy:m5 P ops C o v a) (h:∀w',w.Extends w'->K (a.put o.dst v) w'):wpOp P ops Q i K a w:=by
 unfold wpOp
 simp only[hi]
 rcases hy with⟨h1,h2⟩|⟨h1,h2⟩
 ·rw[if_pos h1]
  refine .inl ?_
  unfold Oper.wp
  rcases h2 w hC with h3|⟨f,args,h3,h4⟩
  ·rw[h3];exact h w (World.Extends.refl w)
  ·rw[h3]
   refine h4.mono λe iC ⟨he,hx⟩=>?_
   subst he
   exact h iC hx
 ·rw[if_neg (by simp[h1]),<-h2]
  exact h w (World.Extends.refl w)
theorem m5.of_same {o:Oper} {v:Value} {a cS:Act} (hy:m5 P ops C o v a) (he:execOp cS.eval o=execOp a.eval o) (hw:Region.wanted o (yielded ops cS.tmps)=Region.wanted o (yielded ops a.tmps)):m5 P ops C o v cS:=by
 unfold m5 sK at*
 rw[he,hw]
 exact hy
structure GG (ops:Array Oper) (n:Nat) (S:Nat->Prop) (a an b:Act) (dG:Nat->Nat):Prop where
 d:b.defers=a.defers
 aV:b.tmps.size=a.tmps.size
 q:∀t:Nat,(∃j o,j<n/\S j/\ops[j]?=some o/\dN o=false/\o.dst=some t)->b.tmps[t]?=an.tmps[t]?
 vb:∀(t:Nat) j o,j<n->S j->ops[j]?=some o->dN o=true->o.dst=some t->t<b.tmps.size->b.tmps[t]?=some (.pointer (some ⟨dG j,0,none⟩))
 no:∀t:Nat,(∀j o,j<n->S j->ops[j]?=some o->o.dst≠some t)->b.tmps[t]?=a.tmps[t]?
structure Fin (ops:Array Oper) (n:Nat) (an b:Act) (dG:Nat->Nat):Prop where
 d:b.defers=an.defers
 aV:b.tmps.size=an.tmps.size
 vb:∀(t:Nat) j o,j<n->ops[j]?=some o->dN o=true->o.dst=some t->t<b.tmps.size->b.tmps[t]?=some (.pointer (some ⟨dG j,0,none⟩))
 no:∀t:Nat,(∀j o,j<n->ops[j]?=some o->dN o=true->o.dst≠some t)->b.tmps[t]?=an.tmps[t]?
def o7 (ops:Array Oper) (n:Nat) (S:Nat->Prop) (Z:Nat->Obj) (dG:Nat->Nat) (aV:Nat) (w:World):Prop:=
 (∀j,j<n->S j->k5 ops j=true->aV<=dG j/\w.heap[dG j]?=some (Z j))/\∀i j,i<n->j<n->S i->S j->k5 ops i=true->k5 ops j=true->dG i=dG j->i=j
theorem o7.grow {n:Nat} {S:Nat->Prop} {Z:Nat->Obj} {dG:Nat->Nat} {aV:Nat} {w w':World} (h:o7 ops n S Z dG aV w) (he:w.Extends w'):o7 ops n S Z dG aV w':=
 ⟨λj h1 h2 h3=>by
  obtain⟨h4,h5⟩:=h.1 j h1 h2 h3
  exact⟨h4,by rw[he.block _ (Array.getElem?_eq_some_iff.1 h5).1];exact h5⟩,h.2⟩
theorem Zs {Q:Exit->Act->World->Prop} {a:Act} {w:World} {l:List Oper} (n:Nat) (Z:Nat->Obj) (hm:P.follows .mixedOrders=true) (hB:uO l.toArray n=true) (hC:∀w',w.drew.Extends w'->C w')
 (rm:∀j o,j<n->l.toArray[j]?=some o->dN o=true->∀(b:Act) w',(execOp b.eval o).run P w'= .ok (.value (.pointer (some ⟨w'.heap.size,0,none⟩))) (w'.alloc (Z j)))
 (h:qv P l.toArray C (λan=>∀dG b w',Fin l.toArray n an b dG->w.drew.Extends w'->o7 l.toArray n (λ_=>True) Z dG w.drew.heap.size w'->wpList P l.toArray (calm Q) (l.drop n) b w') (l.take n) a):wpAny P .any l.toArray (calm Q) l.toArray.size (Array.replicate l.toArray.size false) a {w with drawn:=w.drawn+1}:=by
 simp only[uO,Bool.and_eq_true]at hB
 obtain⟨⟨⟨⟨⟨⟨Rx,QV⟩,gO⟩,nk⟩,hle⟩,JB⟩,RW⟩:=hB
 have hle:n<=l.length:=by simpa using Nat.le_of_ble_eq_true hle
 obtain⟨as,vs,cy,hs,bb⟩:=Ev _ _ h
 have hlen:(l.take n).length=n:=by simp;omega
 rw[hlen]at bb
 have hop:∀i,i<n->∃o,l.toArray[i]?=some o/\(dN o=false->m5 P l.toArray C o (vs i) (as i)/\as (i+1)=(as i).put o.dst (vs i))/\(dN o=true->as (i+1)=as i):=λi hi=>by
  have hlt:i<l.length:=by omega
  have h1:(l.take n)[i]?=some l[i]:=by rw[List.getElem?_take,if_pos hi,List.getElem?_eq_getElem hlt]
  have h2:=hs i _ h1
  exact⟨l[i],by simp[hlt],h2⟩
 have vR:∀i,i<=n->(as i).defers=a.defers/\(as i).tmps.size=a.tmps.size:=by
  intro i
  induction i with
  |zero=>intro _;rw[cy];exact⟨rfl,rfl⟩
  |succ i ih=>
   intro hi
   obtain⟨o,ho,h1,h2⟩:=hop i (by omega)
   cases c4:dN o with
   |true=>rw[h2 c4];exact ih (by omega)
   |false=>rw[(h1 c4).2,put_defers,sn];exact ih (by omega)
 have IB:∀i,i<=n->∀t:Nat,(∀j o,j<i->l.toArray[j]?=some o->dN o=false->o.dst≠some t)->(as i).tmps[t]?=a.tmps[t]?:=by
  intro i
  induction i with
  |zero=>intro _ t _;rw[cy]
  |succ i ih=>
   intro hi t fS
   obtain⟨o,ho,h1,h2⟩:=hop i (by omega)
   have JS:=ih (by omega) t λj o hj=>fS j o (by omega)
   cases c4:dN o with
   |true=>rw[h2 c4];exact JS
   |false=>rw[(h1 c4).2,nI (fS i o (by omega) ho c4)];exact JS
 have IA:∀(d i:Nat),i+d=n->∀t:Nat,(∃j o,j<i/\l.toArray[j]?=some o/\o.dst=some t)->(as n).tmps[t]?=(as i).tmps[t]?:=by
  intro d
  induction d with
  |zero=>intro i hi t _;rw[show i=n by omega]
  |succ d ih=>
   intro i hi t hj
   obtain⟨o,ho,h1,h2⟩:=hop i (by omega)
   rw[ih (i+1) (by omega) t (by obtain⟨j,o,h1,h2⟩:=hj;exact⟨j,o,by omega,h2⟩)]
   cases c4:dN o with
   |true=>rw[h2 c4]
   |false=>
    rw[(h1 c4).2]
    obtain⟨j,cE,wa,kJ,CN⟩:=hj
    exact nI ((nc nk (show i<n by omega) ho).2.2 j cE t (by omega) (by omega) kJ CN).1
 have hsz:l.toArray.size=l.length:=by simp
 have main:∀(f:Nat) (listed:Array Bool) (b:Act) (w1:World) (dG:Nat->Nat),HeadInv .any l.toArray n listed->w.drew.Extends w1->
  GG l.toArray n (λj=>listed.getD j false=true) a (as n) b dG->o7 l.toArray n (λj=>listed.getD j false=true) Z dG w.drew.heap.size w1->
  (List.range n).countP (λi=> !listed.getD i false)+(l.length-n)<=f->wpAny P .any l.toArray (calm Q) f listed b w1:=by
  intro f
  have done:∀(listed:Array Bool) (b:Act) (w1:World) (dG:Nat->Nat),HeadInv .any l.toArray n listed->w.drew.Extends w1->
   GG l.toArray n (λj=>listed.getD j false=true) a (as n) b dG->o7 l.toArray n (λj=>listed.getD j false=true) Z dG w.drew.heap.size w1->(∀i,i<n->listed.getD i false=true)->
   wpAny P .any l.toArray (calm Q) (l.drop n).length listed b w1:=by
   intro listed b w1 dG inv lj gI mx hall
   have hl:listed=CA l.toArray.size n:=by
    apply Array.ext_getElem?
    intro i
    unfold CA
    simp only[List.getElem?_toArray,List.getElem?_map]
    rcases Nat.lt_or_ge i l.length with hi|hi
    ·rw[List.getElem?_range (by simpa using hi)]
     have cj:i<listed.size:=by rw[inv.size];simpa using hi
     rcases Nat.lt_or_ge i n with ck|ck
     ·have:=hall i ck
      simp[cj]at this
      simp[cj,this,Ub ck]
     ·have:=inv.tail i ck (by simpa using hi)
      simp[cj]at this
      have hb:Nat.blt i n=false:=by cases hq:Nat.blt i n with|false=>rfl|true=>have:=k7 hq;omega
      simp[cj,this,hb]
    ·have h1:listed.size<=i:=by rw[inv.size];simpa using hi
     have h2:(List.range l.toArray.size)[i]?=none:=by simp;omega
     rw[h2,Array.getElem?_eq_none h1];rfl
   have zb:Region.seqB .any l.toArray (l.drop n).length n listed=true:=by rw[hl];simpa using RW
   refine wpAny_of_seq (P:=P) (md:= .any) (Q':=calm Q) (l.drop n) n listed b w1 (λj=>by simp[List.getElem?_drop]) zb (bb dG b w1 ?_ lj ?_)
   ·refine⟨gI.d.trans (vR n (Nat.le_refl _)).1.symm,gI.aV.trans (vR n (Nat.le_refl _)).2.symm,λt j o h1 h3 h4 h5=>gI.vb t j o h1 (hall j h1) h3 h4 h5,λt fS=>?_⟩
    by_cases hq:∃j o,j<n/\l.toArray[j]?=some o/\dN o=false/\o.dst=some t
    ·obtain⟨j,o,h1,h2,h3,h4⟩:=hq
     exact gI.q t ⟨j,o,h1,hall j h1,h2,h3,h4⟩
    ·have mI:∀j o,j<n->l.toArray[j]?=some o->dN o=false->o.dst≠some t:=λj o h1 h2 h3 h4=>hq ⟨j,o,h1,h2,h3,h4⟩
     rw[gI.no t λj o h1 _ h3=>(by
      cases c4:dN o with
      |true=>exact fS j o h1 h3 c4
      |false=>exact mI j o h1 h3 c4),IB n (Nat.le_refl _) t mI]
   ·exact⟨λj h1 _ h3=>mx.1 j h1 (hall j h1) h3,λi j h1 h2 _ _ h5 h6=>mx.2 i j h1 h2 (hall i h1) (hall j h2) h5 h6⟩
  have GN:∀(listed:Array Bool),(List.range n).countP (λi=> !listed.getD i false)=0->∀i,i<n->listed.getD i false=true:=λlisted hc i hi=>by
   cases hq:listed.getD i false with
   |true=>rfl
   |false=>
    have:0<(List.range n).countP (λi=> !listed.getD i false):=List.countP_pos_iff.2 ⟨i,List.mem_range.2 hi,by simp[hq]⟩
    omega
  induction f with
  |zero=>
   intro listed b w1 dG inv lj gI mx hf
   have:=done listed b w1 dG inv lj gI mx (GN listed (by omega))
   exact MK this (by simp;omega)
  |succ f ih=>
   intro listed b w1 dG inv lj gI mx hf
   by_cases QD:(List.range n).countP (λi=> !listed.getD i false)=0
   ·exact MK (done listed b w1 dG inv lj gI mx (GN listed QD)) (by simp;omega)
   ·
    have iJ:∃i,i<n/\listed.getD i false=false:=by
     have h1:0<(List.range n).countP (λi=> !listed.getD i false):=by omega
     obtain⟨i,hi,hq⟩:=List.countP_pos_iff.1 h1
     exact⟨i,List.mem_range.1 hi,by simpa using hq⟩
    have hne:Region.ready .any l.toArray listed≠[]:=by
     have key:∀k,∀i,i<=k->i<n->listed.getD i false=false->Region.ready .any l.toArray listed≠[]:=by
      intro k
      induction k with
      |zero=>
       intro i CJ ck hq jf
       obtain⟨o,ho,_,_⟩:=hop i ck
       have hlt:i<listed.size:=by rw[inv.size];exact(Array.getElem?_eq_some_iff.1 ho).1
       have:i∈Region.ready .any l.toArray listed:=mem_ready.2 ⟨getD_in hlt hq,o,ho,λe he hb=>by have:=(nc nk ck ho).1 e he hb;omega⟩
       rw[jf]at this;cases this
      |succ k Dq=>
       intro i CJ ck hq jf
       obtain⟨o,ho,_,_⟩:=hop i ck
       have hlt:i<listed.size:=by rw[inv.size];exact(Array.getElem?_eq_some_iff.1 ho).1
       have:i∈Region.ready .any l.toArray listed:=mem_ready.2 ⟨getD_in hlt hq,o,ho,λe he hb=>by
        have h1:=(nc nk ck ho).1 e he hb
        cases nq:listed.getD e.on false with
        |true=>rfl
        |false=>exact absurd jf (Dq e.on (by omega) (by omega) nq)⟩
       rw[jf]at this;cases this
     obtain⟨i,hi,hq⟩:=iJ
     exact key i i (Nat.le_refl _) hi hq
    have c8:∀i,i∈Region.ready .any l.toArray listed->∀j,(listed.setIfInBounds i true).getD j false=true↔(j=i∨listed.getD j false=true):=λi hi j=>by
     obtain⟨lz,fV,rE,hall⟩:=mem_ready.1 hi
     have hlt:i<listed.size:=by rw[inv.size];exact(Array.getElem?_eq_some_iff.1 rE).1
     by_cases hj:i=j
     ·subst hj;simp[hlt]
     ·rw[getD_set_ne false hj]
      exact⟨.inr,λh=>h.resolve_left (λe=>hj e.symm)⟩
    have Jk:∀i,i∈Region.ready .any l.toArray listed->i<n->(List.range n).countP (λj=> !(listed.setIfInBounds i true).getD j false)+(l.length-n)<=f:=λi hi ck=>by
     obtain⟨lz,_⟩:=mem_ready.1 hi
     have:(List.range n).countP (λj=> !(listed.setIfInBounds i true).getD j false)<(List.range n).countP (λj=> !listed.getD j false):=by
      refine Hs (λj _ hj=>?_) ⟨i,List.mem_range.2 ck,?_,?_⟩
      ·cases hq:listed.getD j false with
       |false=>rfl
       |true=>rw[(c8 i hi j).2 (.inr hq)]at hj;cases hj
      ·simp only[getD_both lz];rfl
      ·simp only[(c8 i hi i).2 (.inl rfl)];rfl
     omega
    have step:∀i,i∈Region.ready .any l.toArray listed->i<n->∀o,l.toArray[i]?=some o->dN o=false->m5 P l.toArray C o (vs i) b/\∀w',w1.Extends w'->wpAny P .any l.toArray (calm Q) f (listed.setIfInBounds i true) (b.put o.dst (vs i)) w':=by
     intro i hi ck o ho c4
     obtain⟨lz,fV,rE,hall⟩:=mem_ready.1 hi
     have:o=fV:=Option.some.inj (ho.symm.trans rE)
     subst this
     obtain⟨br,jg,Dh,_⟩:=hop i ck
     have:br=o:=Option.some.inj (jg.symm.trans ho)
     subst this
     obtain⟨hy,he⟩:=Dh c4
     have pF:=nc nk ck ho
     have JC:∀t:Nat,t∈br.looksAt l.toArray->b.tmps[t]?=(as i).tmps[t]?:=λt ht=>by
      by_cases hw:∃j cE,j<i/\l.toArray[j]?=some cE/\dN cE=false/\cE.dst=some t
      ·obtain⟨j,cE,h1,h2,rf,h3⟩:=hw
       rw[<-IA (n-i) i (by omega) t ⟨j,cE,h1,h2,h3⟩]
       refine gI.q t ⟨j,cE,by omega,?_,h2,rf,h3⟩
       rcases(pF.2.2 j cE t (by omega) (by omega) h2 h3).2 ht with h4|h4
       ·obtain⟨Ec,CY,e,mA,mB,ot⟩:=Region.waitsFor_spec h4
        have:Ec=br:=Option.some.inj (CY.symm.trans ho)
        subst this
        have:=hall e mA mB
        rwa [ot]at this
       ·obtain⟨ux,wj,e,mA,mB,ot⟩:=Region.waitsFor_spec h4
        have:ux=cE:=Option.some.inj (wj.symm.trans h2)
        subst this
        have:=(nc nk (show j<n by omega) h2).1 e mA mB
        omega
      ·rw[IB i (by omega) t λj cE h1 h2 rf h3=>hw ⟨j,cE,h1,h2,rf,h3⟩]
       refine gI.no t λj cE h1 hl h2 h3=>?_
       cases IG:dN cE with
       |true=>exact Ux gO h1 h2 IG h3 ck ho ht
       |false=>
        by_cases hS:j=i
        ·subst hS
         rw[getD_both lz]at hl;cases hl
        ·rcases(pF.2.2 j cE t h1 hS h2 h3).2 ht with h4|h4
         ·obtain⟨Ec,CY,e,mA,mB,ot⟩:=Region.waitsFor_spec h4
          have:Ec=br:=Option.some.inj (CY.symm.trans ho)
          subst this
          have:=pF.1 e mA mB
          exact hw ⟨j,cE,by omega,h2,IG,h3⟩
         ·obtain⟨ux,wj,e,mA,mB,ot⟩:=Region.waitsFor_spec h4
          have:ux=cE:=Option.some.inj (wj.symm.trans h2)
          subst this
          have:=inv.closed j ux h2 hl e mA mB
          rw[ot,getD_both lz]at this;cases this
     have QP:∀x∈br.op.operands,b.eval x=(as i).eval x:=λx hx=>by
      cases x with
      |tmp t=>
       have:=JC t (List.mem_append_left _ (List.mem_filterMap.2 ⟨.tmp t,by simpa using hx,rfl⟩))
       simp only[Act.eval]
       simp[this]
      |_=>rfl
     have hex:execOp b.eval br=execOp (as i).eval br:=execOp_congr br pF.2.1 QP
     have Df:Region.wanted br (yielded l.toArray b.tmps)=Region.wanted br (yielded l.toArray (as i).tmps):=by
      unfold Region.wanted
      cases hg:br.guard with
      |none=>rfl
      |some B2=>
       obtain⟨g,want⟩:=B2
       have:yielded l.toArray b.tmps g=yielded l.toArray (as i).tmps g:=by
        unfold yielded
        cases ht:(l.toArray[g]?).bind (·.dst)with
        |none=>rfl
        |some t=>
         have:=JC t (List.mem_append_right _ (by simp only[hg,ht];simp))
         simp[this]
       simp only[this]
     refine⟨hy.of_same hex Df,λw' mK=>?_⟩
     refine ih _ _ _ dG (inv.set hi ck) (lj.trans mK) ⟨(put_defers _ _ _).trans gI.d,(sn _ _ _).trans gI.aV,?_,?_,?_⟩ (o7.grow (w:=w1) ⟨λj h1 h2 h3=>?_,λi1 gQ h1 h2 h3 h4 h5 h6=>?_⟩ mK) (Jk i hi ck)
     ·rintro t ⟨j,cE,h1,h2,h3,tp,h4⟩
      by_cases ht:br.dst=some t
      ·have e1:(as n).tmps[t]?=(as (i+1)).tmps[t]?:=IA (n-(i+1)) (i+1) (by omega) t ⟨i,br,by omega,ho,ht⟩
       rw[e1,he,ht]
       simp only[Act.put]
       have Jz:b.tmps.size=(as i).tmps.size:=gI.aV.trans (vR i (by omega)).2.symm
       rcases Nat.lt_or_ge t b.tmps.size with h5|h5
       ·simp[h5,Jz▸h5]
       ·rw[Array.getElem?_eq_none (by simpa using h5),Array.getElem?_eq_none (by rw[Array.size_setIfInBounds,<-Jz];exact h5)]
      ·rw[nI ht]
       rcases(c8 i hi j).1 h2 with rfl|h5
       ·have:cE=br:=Option.some.inj (h3.symm.trans ho)
        subst this
        exact absurd h4 ht
       ·exact gI.q t ⟨j,cE,h1,h5,h3,tp,h4⟩
     ·intro t j cE h1 h2 h3 h4 h5 h6
      rcases(c8 i hi j).1 h2 with rfl|h7
      ·have:cE=br:=Option.some.inj (h3.symm.trans ho)
       subst this
       rw[c4]at h4;cases h4
      ·have hS:j≠i:=λe=>by subst e;rw[getD_both lz]at h7;cases h7
       have ht:br.dst≠some t:=(pF.2.2 j cE t h1 hS h3 h5).1
       rw[nI ht]
       rw[sn]at h6
       exact gI.vb t j cE h1 h7 h3 h4 h5 h6
     ·intro t fS
      have ht:br.dst≠some t:=fS i br ck ((c8 i hi i).2 (.inl rfl)) ho
      rw[nI ht]
      exact gI.no t λj cE h1 h2 h3=>fS j cE h1 ((c8 i hi j).2 (.inr h2)) h3
     ·rcases(c8 i hi j).1 h2 with rfl|h7
      ·simp[k5,ho,c4]at h3
      ·exact mx.1 j h1 h7 h3
     ·have k1:listed.getD i1 false=true:=by
       rcases(c8 i hi i1).1 h3 with rfl|h7
       ·simp[k5,ho,c4]at h5
       ·exact h7
      have k2:listed.getD gQ false=true:=by
       rcases(c8 i hi gQ).1 h4 with rfl|h7
       ·simp[k5,ho,c4]at h6
       ·exact h7
      exact mx.2 i1 gQ h1 h2 k1 k2 h5 h6
    by_cases fp:∃i,i∈Region.ready .any l.toArray listed/\i<n/\mw l.toArray i=true
    ·obtain⟨i,hi,ck,ij⟩:=fp
     obtain⟨o,ho,_,_⟩:=hop i ck
     obtain⟨lz,fV,rE,hall⟩:=mem_ready.1 hi
     have I9:tf o=true:=by unfold mw at ij;simpa [ho]using ij
     have c4:dN o=false:=Pg I9
     obtain⟨pP,CV⟩:=step i hi ck o ho c4
     refine wpAny_first ho (Region.noSelect_spec Rx) (λc cS w' hq=>hq.elim) f listed b w1 (λj cE lT hS Q7 Q6=>?_) hi (Ph I9 (hC w1 lj) pP) (CV w1 (World.Extends.refl w1))
     have wi:Region.waitsFor .any l.toArray j i=false:=by
      cases hq:Region.waitsFor .any l.toArray j i with
      |false=>rfl
      |true=>
       obtain⟨ux,wj,e,mA,mB,ot⟩:=Region.waitsFor_spec hq
       have:ux=cE:=Option.some.inj (wj.symm.trans lT)
       subst this
       exact absurd ot (Q6 e mA mB)
     have Jr:j<n->Region.waitsFor .any l.toArray i j=false:=λtH=>by
      cases hq:Region.waitsFor .any l.toArray i j with
      |false=>rfl
      |true=>
       obtain⟨br,jg,e,mA,mB,ot⟩:=Region.waitsFor_spec hq
       have:br=fV:=Option.some.inj (jg.symm.trans rE)
       subst this
       have:=hall e mA mB
       rw[ot,getD_both Q7]at this;cases this
     by_cases tH:j<n
     ·have d1:=(nc nk ck ho).2.2 j cE
      have d2:=(nc nk tH lT).2.2 i o
      simp only[Oper.apart,Bool.and_eq_true]
      constructor
      ·cases hd:o.dst with
       |none=>rfl
       |some d=>
        have:=d2 d ck (λe=>hS e.symm) ho hd
        simp only[Bool.and_eq_true,Bool.not_eq_true',bne_iff_ne,ne_eq]
        refine⟨?_,this.1⟩
        cases hc:(cE.looksAt l.toArray).contains d with
        |false=>rfl
        |true=>
         rcases this.2 (by simpa using hc)with h1|h1
         ·rw[wi]at h1;cases h1
         ·rw[Jr tH]at h1;cases h1
      ·cases hd:cE.dst with
       |none=>rfl
       |some d=>
        have:=d1 d tH hS lT hd
        simp only[Bool.not_eq_true']
        cases hc:(o.looksAt l.toArray).contains d with
        |false=>rfl
        |true=>
         rcases this.2 (by simpa using hc)with h1|h1
         ·rw[Jr tH]at h1;cases h1
         ·rw[wi]at h1;cases h1
     ·have h1:=List.all_eq_true.1 QV i (List.mem_range.2 ck)
      simp only[ij,Bool.not_true,Bool.false_or]at h1
      have h2:=List.all_eq_true.1 h1 j (List.mem_range.2 (Array.getElem?_eq_some_iff.1 lT).1)
      have hb:Nat.blt j n=false:=by cases hq:Nat.blt j n with|false=>rfl|true=>exact absurd (k7 hq) tH
      simp only[hb,wi,Bool.false_or,ho,lT]at h2
      exact h2
    ·
     have oy:∃i,i<n/\mw l.toArray i=false/\listed.getD i false=false:=by
      have key:∀k,∀i,i<=k->i<n->listed.getD i false=false->∃i,i<n/\mw l.toArray i=false/\listed.getD i false=false:=by
       intro k
       induction k with
       |zero=>
        intro i CJ ck hq
        cases fe:mw l.toArray i with
        |false=>exact⟨i,ck,fe,hq⟩
        |true=>
         obtain⟨o,ho,_,_⟩:=hop i ck
         have hlt:i<listed.size:=by rw[inv.size];exact(Array.getElem?_eq_some_iff.1 ho).1
         exact absurd ⟨i,mem_ready.2 ⟨getD_in hlt hq,o,ho,λe he hb=>by have:=(nc nk ck ho).1 e he hb;omega⟩,ck,fe⟩ fp
       |succ k Dq=>
        intro i CJ ck hq
        cases fe:mw l.toArray i with
        |false=>exact⟨i,ck,fe,hq⟩
        |true=>
         obtain⟨o,ho,_,_⟩:=hop i ck
         have hlt:i<listed.size:=by rw[inv.size];exact(Array.getElem?_eq_some_iff.1 ho).1
         by_cases I1:∀e∈o.after,Region.binds .any e=true->listed.getD e.on false=true
         ·exact absurd ⟨i,mem_ready.2 ⟨getD_in hlt hq,o,ho,I1⟩,ck,fe⟩ fp
         ·have hex:∃e,e∈o.after/\Region.binds .any e=true/\¬listed.getD e.on false=true:=by
           apply Classical.byContradiction
           intro fS
           exact I1 λe he hb=>Classical.byContradiction λnq=>fS ⟨e,he,hb,nq⟩
          obtain⟨e,he,hb,nq⟩:=hex
          have h1:=(nc nk ck ho).1 e he hb
          exact Dq e.on (by omega) (by omega) (by simpa using nq)
      obtain⟨i,hi,hq⟩:=iJ
      exact key i i (Nat.le_refl _) hi hq
     refine⟨λh0=>absurd h0 hne,λi hi=>?_⟩
     have ck:i<n:=by
      rcases Nat.lt_or_ge i n with h1|h1
      ·exact h1
      ·exfalso
       obtain⟨_,fV,rE,_⟩:=mem_ready.1 hi
       have aag:i<l.toArray.size:=(Array.getElem?_eq_some_iff.1 rE).1
       simp only[Bool.or_eq_true,Bool.and_eq_true]at JB
       rcases JB with h2|⟨h2,h3⟩
       ·have:=Nat.eq_of_beq_eq_true h2;omega
       ·obtain⟨i0,e6,ru,wo⟩:=oy
        exact XA h2 h3 (by omega) inv (n-i0) i0 rfl e6 ru wo i h1 hi
     obtain⟨o,ho,_,_⟩:=hop i ck
     cases c4:dN o with
     |false=>
      obtain⟨pP,CV⟩:=step i hi ck o ho c4
      exact Zr ho (hC w1 lj) pP CV
     |true=>
      obtain⟨lz,_⟩:=mem_ready.1 hi
      have hgd:o.guard=none/\∃d,o.dst=some d:=by
       unfold dN at c4
       split at c4
       ·rename_i h1 h2 h3;exact⟨h2,_,h3⟩
       ·cases c4
      obtain⟨hgd,d,hd⟩:=hgd
      have pF:=nc nk ck ho
      unfold wpOp
      simp only[ho]
      rw[if_pos (by simp[Region.wanted,hgd])]
      refine .inl ?_
      unfold Oper.wp
      rw[rm i o ck ho c4 b w1]
      show wpAny P .any l.toArray (calm Q) f (listed.setIfInBounds i true) (b.put o.dst _) _
      have Dl:∀j,j<n->listed.getD j false=true->k5 l.toArray j=true->dG j<w1.heap.size:=λj h1 h2 h3=>(Array.getElem?_eq_some_iff.1 (mx.1 j h1 h2 h3).2).1
      refine ih _ _ _ (λj=>if j=i then w1.heap.size else dG j) (inv.set hi ck) (lj.alloc _) ⟨(put_defers _ _ _).trans gI.d,(sn _ _ _).trans gI.aV,?_,?_,?_⟩ ⟨λj h1 h2 h3=>?_,λi1 gQ h1 h2 h3 h4 h5 h6 h7=>?_⟩ (Jk i hi ck)
      ·rintro t ⟨j,cE,h1,h2,h3,tp,h4⟩
       rcases(c8 i hi j).1 h2 with rfl|h5
       ·have:cE=o:=Option.some.inj (h3.symm.trans ho)
        subst this
        rw[c4]at tp;cases tp
       ·have hS:j≠i:=λe=>by subst e;rw[getD_both lz]at h5;cases h5
        rw[nI (pF.2.2 j cE t h1 hS h3 h4).1]
        exact gI.q t ⟨j,cE,h1,h5,h3,tp,h4⟩
      ·intro t j cE h1 h2 h3 h4 h5 h6
       rcases(c8 i hi j).1 h2 with rfl|h7
       ·have:cE=o:=Option.some.inj (h3.symm.trans ho)
        subst this
        rw[h5]
        simp only[if_true]
        rw[sn]at h6
        simp[Act.put,h6]
       ·have hS:j≠i:=λe=>by subst e;rw[getD_both lz]at h7;cases h7
        rw[nI (pF.2.2 j cE t h1 hS h3 h5).1]
        rw[sn]at h6
        rw[if_neg hS]
        exact gI.vb t j cE h1 h7 h3 h4 h5 h6
      ·intro t fS
       rw[nI (fS i o ck ((c8 i hi i).2 (.inl rfl)) ho)]
       exact gI.no t λj cE h1 h2 h3=>fS j cE h1 ((c8 i hi j).2 (.inr h2)) h3
      ·show w.drew.heap.size<=(if j=i then w1.heap.size else dG j)/\(w1.alloc (Z i)).heap[(if j=i then w1.heap.size else dG j)]?=some (Z j)
       by_cases hS:j=i
       ·subst hS
        rw[if_pos rfl]
        exact⟨lj.size,heap_alloc_new w1 (Z j)⟩
       ·rw[if_neg hS]
        have h7:=((c8 i hi j).1 h2).resolve_left hS
        obtain⟨bw,bk⟩:=mx.1 j h1 h7 h3
        exact⟨bw,by rw[heap_alloc_old w1 _ (Dl j h1 h7 h3)];exact bk⟩
      ·change (if i1=i then w1.heap.size else dG i1)=(if gQ=i then w1.heap.size else dG gQ)at h7
       by_cases bw:i1=i<;>by_cases bk:gQ=i
       ·rw[bw,bk]
       ·rw[if_pos bw,if_neg bk]at h7
        have:=Dl gQ h2 (((c8 i hi gQ).1 h4).resolve_left bk) h6
        omega
       ·rw[if_neg bw,if_pos bk]at h7
        have:=Dl i1 h1 (((c8 i hi i1).1 h3).resolve_left bw) h5
        omega
       ·rw[if_neg bw,if_neg bk]at h7
        exact mx.2 i1 gQ h1 h2 (((c8 i hi i1).1 h3).resolve_left bw) (((c8 i hi gQ).1 h4).resolve_left bk) h5 h6 h7
 have SE:HeadInv .any l.toArray n (Array.replicate l.toArray.size false):=
  ⟨by simp,λj cE _ hl=>(by rw[getD_replicate_false]at hl;cases hl),λt _ ht=>getD_in (by simpa using ht) (getD_replicate_false _ _)⟩
 have zz:∀j,¬(Array.replicate l.toArray.size false).getD j false=true:=λj h=>by rw[getD_replicate_false]at h;cases h
 refine main l.toArray.size _ a _ (λ_=>0) SE (World.Extends.refl w.drew) ⟨rfl,rfl,λt ⟨j,o,_,h2,_⟩=>absurd h2 (zz j),λt j o _ h2=>absurd h2 (zz j),λ_ _=>rfl⟩ ⟨λj _ h2=>absurd h2 (zz j),λi j _ _ h3=>absurd h3 (zz i)⟩ ?_
 have:(List.range n).countP (λi=> !(Array.replicate l.toArray.size false).getD i false)<=n:=by
  have:=List.countP_le_length (p:=λi=> !(Array.replicate l.toArray.size false).getD i false) (l:=List.range n)
  simpa using this
 omega
end
end Go.bo
