/- Texts as numbers. -/
import GoSem.ClaimData
import GoSem.Op.String
import Derived.WalkKit
import Derived.Laws.StructEq
import Derived.ChangeKeysEq
import Derived.Laws.Tables
import Derived.Laws.Strings2
import Derived.Laws.Concat
import Derived.Laws.Cover1
import Derived.Laws.Cover3
import Derived.Laws.BytesArg
import Derived.StillTail
import Derived.OrdersHeld

set_option linter.unusedVariables false
set_option linter.unusedSimpArgs false
namespace Go.aZ
def ei:List UInt8->Nat
 |[]=>0
 |b::r=>(b.toNat+1)+257*ei r
def oE:Nat->Nat->List UInt8
 |0,_=>[]
 |f+1,n=>match n with
  |0=>[]
  |k+1=>UInt8.ofNat (k% 257)::oE f ((k+1)/257)
theorem yL (b:UInt8) (r:List UInt8):ei (b::r)=(b.toNat+1)+257*ei r:=rfl
theorem Kg (b:UInt8) (r:List UInt8):ei (b::r)=(b.toNat+257*ei r)+1:=by rw[yL];omega
theorem Ic:∀(l:List UInt8) (f:Nat),l.length<=f->oE f (ei l)=l
 |[],0,_=>rfl
 |[],f+1,_=>rfl
 |b::r,0,h=>by simp at h
 |b::r,f+1,h=>by
  have hb:=b.toNat_lt
  rw[Kg]
  show UInt8.ofNat ((b.toNat+257*ei r)% 257)::oE f ((b.toNat+257*ei r+1)/257)=b::r
  have e1:(b.toNat+257*ei r)% 257=b.toNat:=by omega
  have e2:(b.toNat+257*ei r+1)/257=ei r:=by omega
  rw[e1,e2,Ic r f (by simpa using h)]
  simp
theorem Ie:∀(f n k:Nat),n<257^k->(oE f n).length<=k
 |0,_,_,_=>by simp[oE]
 |f+1,0,k,_=>by simp[oE]
 |f+1,n+1,0,h=>by simp at h
 |f+1,n+1,k+1,h=>by
  have:(n+1)/257<257^k:=by rw[Nat.div_lt_iff_lt_mul (by decide)];rw[Nat.pow_succ]at h;exact h
  have ih:=Ie f ((n+1)/257) k this
  simp only[oE,List.length_cons]
  omega
theorem DK:∀(l:List UInt8),ei l<257^l.length
 |[]=>by simp[ei]
 |b::r=>by
  have ih:=DK r
  have hb:=b.toNat_lt
  unfold ei
  rw[List.length_cons,Nat.pow_succ]
  omega
theorem DJ:∀(l:List UInt8),l.length<=ei l
 |[]=>by simp
 |b::r=>by
  have ih:=DJ r
  unfold ei
  rw[List.length_cons]
  omega
theorem DL:∀(l:List UInt8),0<l.length->2^(l.length-1)<=ei l
 |[b],_=>by rw[yL];show 1<=_;omega
 |b::c::r,_=>by
  have ih:=DL (c::r) (by simp)
  rw[yL b]
  simp only[List.length_cons,Nat.add_sub_cancel]at ih⊢
  rw[Nat.pow_succ]
  omega
def J (z:Int):List UInt8:=oE (Nat.log2 z.toNat+1) z.toNat
def dz (l:List UInt8):Int:=ei l
theorem gu (l:List UInt8):J (dz l)=l:=by
 unfold J dz
 rw[Int.toNat_natCast]
 apply Ic
 by_cases h:l.length=0
 ·omega
 ·have h1:=DL l (by omega)
  have h2:ei l≠0:=by have:=DJ l;omega
  have h3:=(Nat.le_log2 h2).2 h1
  omega
theorem ku (l:List UInt8):0<=dz l:=Int.natCast_nonneg _
theorem Jo (k:Nat):∃H:Int,(∀l:List UInt8,l.length<=k->dz l<=H)/\∀z:Int,z<=H->(J z).length<=k:=by
 refine⟨(257^k:Nat)-1,λl h=>?_,λz h=>?_⟩
 ·have h1:=DK l
  have h2:257^l.length<=257^k:=Nat.pow_le_pow_right (by decide) h
  unfold dz
  omega
 ·unfold J
  apply Ie
  have:=Nat.pow_pos (n:=k) (show 0<257 by decide)
  omega
def eu:Nat:=140737488351232
theorem yc:∃H:Int,(∀l:List UInt8,l.length<=eu->dz l<=H)/\∀z:Int,z<=H->(J z).length<=eu:=Jo eu
noncomputable def aO:Int:=Classical.choose yc
theorem jI {l:List UInt8} (h:l.length<=eu):dz l<=aO:=(Classical.choose_spec yc).1 l h
theorem oT {z:Int} (h:z<=aO):(J z).length<=eu:=(Classical.choose_spec yc).2 z h
theorem oS:0<=aO:=by have:=jI (l:=[]) (by simp);exact this
def kM (l:List UInt8):List UInt8:=cond (Nat.ble l.length 1000000) l []
theorem OK (l:List UInt8):0<=dz (kM l)/\dz (kM l)<=aO:=by
 refine⟨ku _,jI ?_⟩
 unfold kM
 cases h:Nat.ble l.length 1000000 with
 |true=>have:=Nat.le_of_ble_eq_true h;simp only[cond_true];unfold eu;omega
 |false=>simp
def aF (l:List UInt8):ByteArray:=⟨l.toArray⟩
def mI (z:Int):Nat:=if 0<=z then 2*z.toNat else 2*(-z).toNat-1
def oK (n:Nat):Int:=if n% 2=0 then((n/2:Nat):Int)else-(((n+1)/2:Nat):Int)
theorem TB (z:Int):oK (mI z)=z:=by
 unfold mI oK
 split
 ·rw[if_pos (by omega)];omega
 ·rw[if_neg (by omega)];omega
def lc:List Nat->Nat
 |[]=>0
 |x::r=>2^x*(2*lc r+1)
def iI:Nat->Nat->Nat
 |0,_=>0
 |f+1,n=>if n% 2=0 then iI f (n/2)+1 else 0
theorem IQ (k:Nat):∀(x f:Nat),x<f->iI f (2^x*(2*k+1))=x
 |0,f+1,_=>by
  unfold iI
  rw[if_neg (by rw[Nat.pow_zero,Nat.one_mul];omega)]
 |x+1,f+1,h=>by
  unfold iI
  have e:2^(x+1)*(2*k+1)=2*(2^x*(2*k+1)):=by rw[Nat.pow_succ,Nat.mul_comm (2^x) 2,Nat.mul_assoc]
  rw[e,if_pos (by omega),Nat.mul_div_cancel_left _ (by decide),IQ k x f (by omega)]
def nu:Nat->Nat->List Nat
 |0,_=>[]
 |f+1,n=>if n=0 then []else iI n n::nu f (n/2^iI n n/2)
theorem PM (x:Nat):x<2^x:=Nat.lt_two_pow_self
theorem AX:∀l:List Nat,l.length<=lc l
 |[]=>Nat.le_refl _
 |x::r=>by
  have ih:=AX r
  unfold lc
  have h1:1<=2^x:=Nat.one_le_two_pow
  have h2:2*lc r+1<=2^x*(2*lc r+1):=Nat.le_mul_of_pos_left _ h1
  rw[List.length_cons]
  omega
theorem AZ:∀(l:List Nat) (f:Nat),l.length<=f->nu f (lc l)=l
 |[],0,_=>rfl
 |[],f+1,_=>by simp[nu,lc]
 |x::r,0,h=>by simp at h
 |x::r,f+1,h=>by
  have h1:1<=2^x:=Nat.one_le_two_pow
  have h2:2^x<=2^x*(2*lc r+1):=Nat.le_mul_of_pos_right _ (by omega)
  have h3:=PM x
  have hz:lc (x::r)≠0:=by
   have hl:lc (x::r)=2^x*(2*lc r+1):=rfl
   omega
  have ht:iI (lc (x::r)) (lc (x::r))=x:=by
   show iI (2^x*(2*lc r+1)) (2^x*(2*lc r+1))=x
   exact IQ _ _ _ (by omega)
  unfold nu
  rw[if_neg hz,ht]
  have e:lc (x::r)/2^x/2=lc r:=by
   have hl:lc (x::r)=2^x*(2*lc r+1):=rfl
   rw[hl,Nat.mul_div_cancel_left _ (by omega)]
   omega
  rw[e,AZ r f (by simpa using h)]
theorem AW (X:Nat):∀k:Nat,∃B,∀l:List Nat,l.length<=k->(∀x∈l,x<=X)->lc l<=B
 |0=>⟨0,λl h _=>by
  have:l=[]:=List.length_eq_zero_iff.1 (by omega)
  subst this;exact Nat.le_refl _⟩
 |k+1=>by
  obtain⟨B,hB⟩:=AW X k
  refine⟨2^X*(2*B+1),λl h hx=>?_⟩
  cases l with
  |nil=>exact Nat.zero_le _
  |cons x r=>
   unfold lc
   have h1:=hB r (by simpa using h) λy hy=>hx y (List.mem_cons_of_mem _ hy)
   exact Nat.mul_le_mul (Nat.pow_le_pow_right (by decide) (hx x (by simp))) (by omega)
def rc (l:List (List Int)):Int:=(lc (l.map λrow=>lc (row.map mI)):Nat)
def ab (z:Int):List (List Int):=(nu z.toNat z.toNat).map λn=>(nu n n).map oK
theorem PS (l:List Int):(l.map mI).map oK=l:=by
 rw[List.map_map]
 conv=>rhs;rw[<-List.map_id l]
 exact List.map_congr_left λz _=>TB z
theorem dx (l:List (List Int)):ab (rc l)=l:=by
 unfold ab rc
 rw[Int.toNat_natCast,AZ _ _ (AX _),List.map_map]
 conv=>rhs;rw[<-List.map_id l]
 refine List.map_congr_left λrow _=>?_
 simp only[Function.comp,id]
 rw[AZ _ _ (AX _),PS]
theorem cE (l:List (List Int)):0<=rc l:=Int.natCast_nonneg _
theorem De (X:Int) (aX:0<=X):∃H:Int,∀l:List (List Int),l.length<=maxLen->(∀row∈l,row.length<=100/\∀z∈row,-X<=z/\z<=X)->rc l<=H:=by
 obtain⟨B,hB⟩:=AW (2*X.toNat) 100
 obtain⟨C,hC⟩:=AW B maxLen
 refine⟨(C:Nat),λl h hr=>?_⟩
 unfold rc
 have:=hC (l.map λrow=>lc (row.map mI)) (by simpa using h) λx hx=>by
  obtain⟨row,hrow,rfl⟩:=List.mem_map.1 hx
  refine hB _ (by simpa using(hr row hrow).1) λy hy=>?_
  obtain⟨z,hz,rfl⟩:=List.mem_map.1 hy
  have h1:=(hr row hrow).2 z hz
  unfold mI
  split<;>omega
 omega
def BM (row:List Int):Prop:=row.length<=100/\∀z∈row,-(18446744073709551616+aO)<=z/\z<=18446744073709551616+aO
theorem Dc:∃H:Int,∀l:List (List Int),l.length<=maxLen->(∀row∈l,BM row)->rc l<=H:=De _ (by have:=oS;omega)
noncomputable def gy:Int:=Classical.choose Dc
theorem yj {l:List (List Int)} (h:l.length<=maxLen) (hr:∀row∈l,BM row):rc l<=gy:=Classical.choose_spec Dc l h hr
theorem vh:0<=gy:=Int.le_trans (cE []) (yj (l:=[]) (by simp) (by simp))
def BL (row:List Int):Prop:=row.length<=100/\∀z∈row,-(18446744073709551616+aO+gy)<=z/\z<=18446744073709551616+aO+gy
theorem Dd:∃H:Int,∀l:List (List Int),l.length<=maxLen->(∀row∈l,BL row)->rc l<=H:=De _ (by have:=oS;have:=vh;omega)
noncomputable def aW:Int:=max (Classical.choose Dd) gy
theorem jj {l:List (List Int)} (h:l.length<=maxLen) (hr:∀row∈l,BL row):rc l<=aW:=Int.le_trans (Classical.choose_spec Dd l h hr) (Int.le_max_left _ _)
theorem JA:gy<=aW:=Int.le_max_right _ _
inductive ag where
 |int (k:IntKind) (lo hi:Int)
 |str
 |bool
 |sub (k:Nat)
def eK:Nat->List ag
 |0=>[.int .u8 0 255]
 |_=>[.str]
def ag.plain:ag->Bool
 | .sub _=>false
 |_=>true
def eJ (sh:List ag):Bool:=sh.all ag.plain
def ag.beq:ag->ag->Bool
 |int k lo hi,int aD GS hT=>decide (k=aD)&&decide (lo=GS)&&decide (hi=hT)
 |str,str=>true
 |bool,bool=>true
 |sub k,sub aD=>Nat.beq k aD
 |_,_=>false
theorem ag.beq_eq:∀{a b:ag},ag.beq a b=true->a=b
 |int k lo hi,int aD GS hT,h=>by
  simp only[ag.beq,Bool.and_eq_true,decide_eq_true_eq]at h
  rw[h.1.1,h.1.2,h.2]
 |str,str,_=>rfl
 |bool,bool,_=>rfl
 |int ..,str,h=>by cases h
 |int ..,bool,h=>by cases h
 |str,int ..,h=>by cases h
 |str,bool,h=>by cases h
 |bool,int ..,h=>by cases h
 |bool,str,h=>by cases h
 |sub _,sub _,h=>by rw[Nat.eq_of_beq_eq_true h]
 |int ..,sub _,h=>by cases h
 |str,sub _,h=>by cases h
 |bool,sub _,h=>by cases h
 |sub _,int ..,h=>by cases h
 |sub _,str,h=>by cases h
 |sub _,bool,h=>by cases h
def fX:List ag->List ag->Bool
 |[],[]=>true
 |a::r,b::s=>ag.beq a b&&fX r s
 |_,_=>false
theorem lM:∀{a b:List ag},fX a b=true->a=b
 |[],[],_=>rfl
 |a::r,b::s,h=>by
  simp only[fX,Bool.and_eq_true]at h
  rw[ag.beq_eq h.1,lM h.2]
 |[],_::_,h=>by cases h
 |_::_,[],h=>by cases h
noncomputable def ag.cn:ag->Int×Int
 |int _ lo hi=>(lo,hi)
 |str=>(0,aO)
 |bool=>(0,1)
 |sub _=>(0,gy)
def ag.val:ag->Int->Value
 |int k _ _,z=> .int k z
 |str,z=> .string (aF (J z))
 |bool,z=> .bool (decide (z=1))
 |sub _,_=> .slice none 0 0
def ah:Nat->List Int->Int
 |0,[s]=>(J s).length
 |1,[s,i]=>((J s).getD i.toNat 0).toNat
 |2,[s,a,b]=>dz (((J s).drop a.toNat).take (b.toNat-a.toNat))
 |3,[s,t]=>dz (J s++J t)
 |4,[s,t]=>if J s=J t then 1 else 0
 |5,[s,t]=>if Op.bytesLess (J s) (J t)=true then 1 else 0
 |20,[c]=>(ab c).length
 |21,[c,i,j]=>((ab c).getD i.toNat []).getD j.toNat 0
 |22,[c,a,b]=>rc (((ab c).drop a.toNat).take (b.toNat-a.toNat))
 |23,c::row=>rc (ab c++[row])
 |24,[c,e]=>rc (ab c++ab e)
 |25,c::i::row=>rc ((ab c).set i.toNat row)
 |26,n::row=>rc (List.replicate n.toNat row)
 |27,[s]=>rc ((J s).map λb=>[(b.toNat:Int)])
 |34,[c,a,b]=>dz ((((ab c).drop a.toNat).take (b.toNat-a.toNat)).map λrow=>UInt8.ofNat (row.getD 0 0).toNat)
 |37,[x,y]=>x*2^y.toNat
 |38,[x,y]=>x% y
 |76,[x,y]=>x/y
 |33,[r,a,c]=>if a=c then r else r+a
 |29,[c,i,j,v]=>rc ((ab c).set i.toNat (((ab c).getD i.toNat []).set j.toNat v))
 |42,c::i::j::vs=>rc ((ab c).set i.toNat (((ab c).getD i.toNat []).take j.toNat++vs++((ab c).getD i.toNat []).drop (j.toNat+vs.length)))
 |43,[s,i]=>if UInt8.ofNat i.toNat∈J s then 1 else 0
 |61,c::a::k::row=>rc ((ab c).take a.toNat++List.replicate k.toNat row++(ab c).drop (a.toNat+k.toNat))
 |62,[a,b]=>min a b
 |63,[c,a,s]=>rc ((ab c).take a.toNat++ab s++(ab c).drop (a.toNat+(ab s).length))
 |28,[c]=>dz ((ab c).map λrow=>UInt8.ofNat (row.getD 0 0).toNat)
 |_,_=>0
noncomputable def vN:Nat->List Int->Prop
 |70,[l,c]=>c∣l
 |71,z::_=>(ab z).length<=1000000000
 |72,z::_=>64∣(ab z).length/\(ab z).length<=1000001000
 |73,z::_=>128∣(ab z).length/\(ab z).length<=1000001000
 |74,[i,l]=>0<=i/\i<l
 |78,[x,y,z,c]=>0<=x/\x<=y/\y<=z/\z<=c
 |79,[l,c]=>l<=c
 |75,l=>∀z∈l,(ab z).length<=100000000
 |77,[x]=>0<=x
 |80,[c,a,k]=>0<=a/\0<=k/\a+k<=(ab c).length
 |84,[_,_,d]=>(ab d).length<=100000000
 |_,_=>False
def aG:Nat->List Int->Prop
 |1,[s,i]=>0<=i/\i<(J s).length
 |2,[s,a,b]=>0<=a/\a<=b/\b<=(J s).length
 |3,[s,t]=>(J s).length+(J t).length<=eu
 |21,[c,i]=>0<=i/\i<(ab c).length
 |30,[i,n]=>0<=i/\i<n
 |31,[c,n]=>n=(ab c).length
 |32,[a,b,n]=>0<=a/\a<=b/\b<=n
 |22,[c,a,b]=>0<=a/\a<=b/\b<=(ab c).length
 |35,[c,a,b]=>(0<=a/\a<=b/\b<=(ab c).length)/\b-a<=140737488351232
 |36,[y]=>0<y
 |39,[x,l,h]=>l<=x/\x<=h
 |40,[a,b]=>0<=a->0<=b
 |41,[s]=>(J s).length<=4294967280
 |44,[w,s]=>J w=[]∨(J s).length<=4294967280
 |23,[c,k]=>(ab c).length+k<=1073741824
 |26,[n]=>0<=n/\n<=1073741824
 |48,r::_=>(ab r).length<=1099511627776
 |50,s::_=>(J s).length<=1073741824
 |49,[l,c]=>0<=l/\l<=c/\c<=1073741824
 |64,[p,q,r,l]=>0<=p/\p<=q/\q<=r/\r<=l/\0<l
 |65,[c,a,k]=>0<=a/\0<k/\a+k<=(ab c).length
 |66,r::_=>(ab r).length<=1000000
 |68,[l,c]=>l<=c∨l=0
 |67,[c,i,k]=>((ab c).getD i.toNat []).length=k.toNat
 |53,[c,l]=>c<0->l=0
 |52,[c,a,b]=>0<=a/\a<b/\b<=(ab c).length/\(ab c).length<=1073741824
 |51,[c,i,r]=>(0<=i/\i<=(ab c).length)/\(ab r).length=1/\(ab c).length+1<=1073741824
 |op,l=>vN op l
end Go.aZ
namespace Go.aZ
abbrev Env:=Nat->Int
def bF (ρ:Env) (n:Nat) (z:Int):Env:=λi=>cond (Nat.beq i n) z (ρ i)
def bk (ρ:Env):Nat->List Int->Env
 |_,[]=>ρ
 |n,z::zs=>bk (bF ρ n z) (n+1) zs
def agree (n:Nat) (ρ aa:Env):Prop:=∀i,i<n->aa i=ρ i
theorem agree.refl (n:Nat) (ρ:Env):agree n ρ ρ:=λ_ _=>rfl
theorem agree.trans {n n':Nat} {ρ aa kl:Env} (h:agree n ρ aa) (h':agree n' aa kl) (hn:n<=n'):agree n ρ kl:=
 λi hi=>(h' i (by omega)).trans (h i hi)
theorem agree.mono {n n':Nat} {ρ aa:Env} (h:agree n' ρ aa) (hn:n<=n'):agree n ρ aa:=λi hi=>h i (by omega)
theorem ew (ρ:Env) (n:Nat) (z:Int):bF ρ n z n=z:=by simp[bF]
theorem xW (ρ:Env) {n i:Nat} (z:Int) (h:i≠n):bF ρ n z i=ρ i:=by
 unfold bF
 cases hb:Nat.beq i n with
 |false=>rfl
 |true=>exact absurd (Nat.eq_of_beq_eq_true hb) h
theorem agree.bF (n:Nat) (ρ:Env) (z:Int):agree n ρ (bF ρ n z):=λi hi=>xW ρ z (by omega)
theorem agree.bk:∀(zs:List Int) (n:Nat) (ρ:Env),agree n ρ (bk ρ n zs)
 |[],n,ρ=>agree.refl n ρ
 |z::zs,n,ρ=>(agree.bF n ρ z).trans (agree.bk zs (n+1) _) (by omega)
structure I where
 c:Int
 ts:List (Int×Nat)
def dF (ρ:Env):List (Int×Nat)->Int
 |[]=>0
 |(k,i)::r=>k*ρ i+dF ρ r
def I.den (ρ:Env) (l:I):Int:=dF ρ l.ts+l.c
def gE (k:Int) (i:Nat):List (Int×Nat)->List (Int×Nat)
 |[]=>[(k,i)]
 |(aD,j)::r=>cond (Nat.blt i j) ((k,i)::(aD,j)::r) (cond (Nat.beq i j) (cond (k+aD==0) r ((k+aD,i)::r)) ((aD,j)::gE k i r))
def qO:List (Int×Nat)->List (Int×Nat)->List (Int×Nat)
 |[],l=>l
 |(k,i)::r,l=>gE k i (qO r l)
def oH (m:Int):List (Int×Nat)->List (Int×Nat)
 |[]=>[]
 |(k,i)::r=>(m*k,i)::oH m r
theorem D7 (ρ:Env) (k:Int) (i:Nat):∀l,dF ρ (gE k i l)=k*ρ i+dF ρ l
 |[]=>rfl
 |(aD,j)::r=>by
  unfold gE
  cases h1:Nat.blt i j with
  |true=>rfl
  |false=>
   cases h2:Nat.beq i j with
   |true=>
    have e:i=j:=Nat.eq_of_beq_eq_true h2
    subst e
    cases h3:(k+aD==0)with
    |true=>
     have h3:k+aD=0:=by simpa using h3
     simp only[cond_true,cond_false,dF]
     rw[<-Int.add_assoc,<-Int.add_mul,h3];simp
    |false=>simp only[cond_true,cond_false,dF];rw[Int.add_mul];omega
   |false=>simp only[cond_false,dF,D7 ρ k i r];omega
theorem D5 (ρ:Env):∀l aT,dF ρ (qO l aT)=dF ρ l+dF ρ aT
 |[],aT=>by simp[qO,dF]
 |(k,i)::r,aT=>by simp only[qO,D7,dF,D5 ρ r aT];omega
theorem D8 (ρ:Env) (m:Int):∀l,dF ρ (oH m l)=m*dF ρ l
 |[]=>by simp[oH,dF]
 |(k,i)::r=>by simp only[oH,dF,D8 ρ m r];rw[Int.mul_add,Int.mul_assoc]
def jC (n:Nat) (l:List (Int×Nat)):Prop:=∀t∈l,t.2<n
theorem jC.mono {n n':Nat} {l} (h:jC n l) (hn:n<=n'):jC n' l:=λt ht=>Nat.lt_of_lt_of_le (h t ht) hn
theorem Ih {n:Nat} {k:Int} {i:Nat} (hi:i<n):∀{l},jC n l->jC n (gE k i l)
 |[],_=>by intro t ht;simp[gE]at ht;subst ht;exact hi
 |(aD,j)::r,h=>by
  have hr:jC n r:=λt ht=>h t (List.mem_cons_of_mem _ ht)
  have hj:j<n:=h (aD,j) (by simp)
  have ih:=Ih (k:=k) hi hr
  unfold gE
  intro t ht
  cases h1:Nat.blt i j<;>cases h2:Nat.beq i j<;>cases h3:(k+aD==0)<;>simp only[h1,h2,h3,cond_true,cond_false,List.mem_cons]at ht<;>
   first
   |(rcases ht with rfl|ht<;>first|exact hi|exact hj|(exact hr t ht)|(exact ih t ht)|(rcases ht with rfl|ht<;>first|exact hj|exact hr t ht))
   |exact hr t ht
theorem Ig {n:Nat}:∀{l aT},jC n l->jC n aT->jC n (qO l aT)
 |[],_,_,h'=>h'
 |(k,i)::r,_,h,h'=>Ih (k:=k) (i:=i) (h (k,i) (by simp)) (Ig (l:=r) (λt ht=>h t (List.mem_cons_of_mem _ ht)) h')
theorem Ii {n:Nat} {m:Int}:∀{l},jC n l->jC n (oH m l)
 |[],_=>λt ht=>by simp[oH]at ht
 |(k,i)::r,h=>by
  intro t ht
  simp only[oH,List.mem_cons]at ht
  rcases ht with rfl|ht
  ·exact h (k,i) (by simp)
  ·exact Ii (λt ht=>h t (List.mem_cons_of_mem _ ht)) t ht
theorem D6 {n:Nat} {ρ aa:Env} (h:agree n ρ aa):∀{l},jC n l->dF aa l=dF ρ l
 |[],_=>rfl
 |(k,i)::r,hs=>by
  simp only[dF,h i (hs (k,i) (by simp)),D6 h (l:=r) (λt ht=>hs t (List.mem_cons_of_mem _ ht))]
namespace I
def const (c:Int):I:=⟨c,[]⟩
def var (n:Nat):I:=⟨0,[(1,n)]⟩
def add (a b:I):I:=⟨a.c+b.c,qO a.ts b.ts⟩
def smul (m:Int) (a:I):I:=cond (m==0) ⟨0,[]⟩ ⟨m*a.c,oH m a.ts⟩
def sub (a b:I):I:=a.add (b.smul (-1))
def bQ (a:I):Option Int:=match a.ts with|[]=>some a.c|_=>none
def aA (n:Nat) (a:I):Prop:=jC n a.ts
def qT:List (Int×Nat)->List (Int×Nat)->Bool
 |[],[]=>true
 |(k,i)::r,(aD,p4)::ed=>k==aD&&Nat.beq i p4&&qT r ed
 |_,_=>false
def beq (a b:I):Bool:=a.c==b.c&&qT a.ts b.ts
theorem Dv:∀{a b},qT a b=true->a=b
 |[],[],_=>rfl
 |(k,i)::r,(aD,p4)::ed,h=>by
  simp only[qT,Bool.and_eq_true,beq_iff_eq]at h
  obtain⟨⟨h1,h2⟩,h3⟩:=h
  rw[h1,Nat.eq_of_beq_eq_true h2,Dv h3]
 |[],_::_,h=>by simp[qT]at h
 |_::_,[],h=>by simp[qT]at h
theorem beq_eq {a b:I} (h:beq a b=true):a=b:=by
 simp only[beq,Bool.and_eq_true,beq_iff_eq]at h
 cases a;cases b
 simp only at h
 rw[h.1,Dv h.2]
theorem ay (ρ:Env) (c:Int):(const c).den ρ=c:=by simp[const,den,dF]
theorem ba (ρ:Env) (n:Nat):(var n).den ρ=ρ n:=by simp[var,den,dF]
theorem den_add (ρ:Env) (a b:I):(a.add b).den ρ=a.den ρ+b.den ρ:=by simp only[add,den,D5];omega
theorem gP (ρ:Env) (m:Int) (a:I):(a.smul m).den ρ=m*a.den ρ:=by
 unfold smul
 cases h:(m==0)with
 |true=>have h:m=0:=by simpa using h
        subst h;simp[den,dF]
 |false=>simp only[cond_false,den,D8,Int.mul_add]
theorem gz (ρ:Env) (a b:I):(a.sub b).den ρ=a.den ρ-b.den ρ:=by simp only[sub,den_add,gP];omega
theorem ej {ρ:Env} {a:I} {c:Int} (h:a.bQ=some c):a.den ρ=c:=by
 unfold bQ at h
 cases ha:a.ts with
 |nil=>simp[ha]at h;simp[den,ha,dF,h]
 |cons x r=>simp[ha]at h
theorem br (n:Nat) (c:Int):(const c).aA n:=λt ht=>by simp[const]at ht
theorem cq {n i:Nat} (h:i<n):(var i).aA n:=λt ht=>by simp[var]at ht;subst ht;exact h
theorem nD {n:Nat} {a b:I} (ha:a.aA n) (hb:b.aA n):(a.add b).aA n:=Ig ha hb
theorem oF {n:Nat} {m:Int} {a:I} (ha:a.aA n):(a.smul m).aA n:=by
 unfold smul
 cases(m==0)with
 |true=>exactλt ht=>by simp at ht
 |false=>exact Ii ha
theorem oG {n:Nat} {a b:I} (ha:a.aA n) (hb:b.aA n):(a.sub b).aA n:=nD ha (oF hb)
theorem aA.mono {n n':Nat} {a:I} (h:a.aA n) (hn:n<=n'):a.aA n':=jC.mono h hn
theorem aP {n:Nat} {ρ aa:Env} (h:agree n ρ aa) {a:I} (ha:a.aA n):a.den aa=a.den ρ:=by simp only[den,D6 h ha]
end I
structure aM where
 l:I
 lo:Int
 hi:Int
def aM.ok (n:Nat) (ρ:Env) (x:aM):Prop:=x.l.aA n/\x.lo<=x.l.den ρ/\x.l.den ρ<=x.hi
theorem aM.ok.agree {n n':Nat} {ρ aa:Env} {x:aM} (h:x.ok n ρ) (ha:agree n ρ aa) (hn:n<=n'):x.ok n' aa:=
 ⟨h.1.mono hn,by rw[I.aP ha h.1];exact h.2.1,by rw[I.aP ha h.1];exact h.2.2⟩
def aM.const (c:Int):aM:=⟨.const c,c,c⟩
theorem aM.hP (n:Nat) (ρ:Env) (c:Int):(aM.const c).ok n ρ:=⟨I.br n c,by simp[aM.const,I.ay],by simp[aM.const,I.ay]⟩
inductive aC where
 |lit (b:Bool)
 |eq (a b:I)
 |lt (a b:I)
 |le (a b:I)
 |not (a:aC)
 |and (a b:aC)
 |iff (a b:aC)
namespace aC
def den (ρ:Env):aC->Bool
 |lit b=>b
 |eq a b=>decide (a.den ρ=b.den ρ)
 |lt a b=>decide (a.den ρ<b.den ρ)
 |le a b=>decide (a.den ρ<=b.den ρ)
 |not a=> !a.den ρ
 |and a b=>a.den ρ&&b.den ρ
 |iff a b=>a.den ρ==b.den ρ
def aA (n:Nat):aC->Prop
 |lit _=>True
 |eq a b|lt a b|le a b=>a.aA n/\b.aA n
 |not a=>a.aA n
 |and a b=>a.aA n/\b.aA n
 |iff a b=>a.aA n/\b.aA n
theorem aA.mono {n n':Nat} (hn:n<=n'):∀{b:aC},b.aA n->b.aA n'
 |lit _,_=>trivial
 |eq _ _,h|lt _ _,h|le _ _,h=>⟨h.1.mono hn,h.2.mono hn⟩
 |not a,h=>aA.mono (b:=a) hn h
 |and a b,h=>⟨aA.mono (b:=a) hn h.1,aA.mono (b:=b) hn h.2⟩
 |iff a b,h=>⟨aA.mono (b:=a) hn h.1,aA.mono (b:=b) hn h.2⟩
theorem aP {n:Nat} {ρ aa:Env} (ha:agree n ρ aa):∀{b:aC},b.aA n->b.den aa=b.den ρ
 |lit _,_=>rfl
 |eq _ _,h|lt _ _,h|le _ _,h=>by simp only[den,I.aP ha h.1,I.aP ha h.2]
 |not a,h=>by simp only[den,aP (b:=a) ha h]
 |and a b,h=>by simp only[den,aP (b:=a) ha h.1,aP (b:=b) ha h.2]
 |iff a b,h=>by simp only[den,aP (b:=a) ha h.1,aP (b:=b) ha h.2]
def beq:aC->aC->Bool
 |lit a,lit b=>a==b
 |eq a b,eq c d|lt a b,lt c d|le a b,le c d=>I.beq a c&&I.beq b d
 |not a,not b=>beq a b
 |and a b,and c d|iff a b,iff c d=>beq a c&&beq b d
 |_,_=>false
theorem beq_eq:∀{a b:aC},beq a b=true->a=b
 |lit a,b,h=>by cases b<;>simp[beq]at h;rw[h]
 |eq a b,c,h=>by cases c<;>simp[beq]at h;rw[I.beq_eq h.1,I.beq_eq h.2]
 |lt a b,c,h=>by cases c<;>simp[beq]at h;rw[I.beq_eq h.1,I.beq_eq h.2]
 |le a b,c,h=>by cases c<;>simp[beq]at h;rw[I.beq_eq h.1,I.beq_eq h.2]
 |not a,c,h=>by cases c<;>simp[beq]at h;rw[beq_eq h]
 |and a b,c,h=>by cases c<;>simp[beq]at h;rw[beq_eq h.1,beq_eq h.2]
 |iff a b,c,h=>by cases c<;>simp[beq]at h;rw[beq_eq h.1,beq_eq h.2]
def mkNot:aC->aC
 |lit b=>lit (!b)
 |not a=>a
 |a=>not a
def mkAnd:aC->aC->aC
 |lit true,b=>b
 |lit false,_=>lit false
 |a,lit true=>a
 |a,lit false=>cond true (lit false) a
 |a,b=>and a b
def mkIff (a b:aC):aC:=
 match a with
 |lit true=>b
 |lit false=>mkNot b
 |_=>match b with
  |lit true=>a
  |lit false=>mkNot a
  |_=>cond (beq a b) (lit true) (iff a b)
theorem l3 (ρ:Env) (a:aC):(mkNot a).den ρ= !a.den ρ:=by cases a<;>simp[mkNot,den]
theorem mz {n:Nat} {a:aC} (h:a.aA n):(mkNot a).aA n:=by cases a<;>exact h
theorem vT (ρ:Env) (a b:aC):(mkAnd a b).den ρ=(a.den ρ&&b.den ρ):=by
 unfold mkAnd;split<;>simp[den]
theorem xP {n:Nat} {a b:aC} (ha:a.aA n) (hb:b.aA n):(mkAnd a b).aA n:=by
 unfold mkAnd;split<;>first|exact hb|exact ha|trivial|exact⟨ha,hb⟩
theorem y1 (ρ:Env) (a b:aC):(mkIff a b).den ρ=(a.den ρ==b.den ρ):=by
 unfold mkIff
 split
 ·simp[den]
 ·rw[l3];simp[den]
 ·split
  ·simp[den]
  ·rw[l3];simp[den]
  ·cases h:beq a b with
   |true=>have:=beq_eq h;subst this;simp[den]
   |false=>rfl
theorem BW {n:Nat} {a b:aC} (ha:a.aA n) (hb:b.aA n):(mkIff a b).aA n:=by
 unfold mkIff
 split
 ·exact hb
 ·exact mz hb
 ·split
  ·exact ha
  ·exact mz ha
  ·cases beq a b with
   |true=>trivial
   |false=>exact⟨ha,hb⟩
def rq (d:I) (f:Int->Bool) (e:aC):aC:=match d.bQ with|some c=>lit (f c)|none=>e
def mkLt (a b:aM):aC:=cond (decide (a.hi<b.lo)) (lit true) (cond (decide (b.hi<=a.lo)) (lit false) (rq (a.l.sub b.l) (λc=>decide (c<0)) (lt a.l b.l)))
def mkLe (a b:aM):aC:=cond (decide (a.hi<=b.lo)) (lit true) (cond (decide (b.hi<a.lo)) (lit false) (rq (a.l.sub b.l) (λc=>decide (c<=0)) (le a.l b.l)))
def mkEq (a b:aM):aC:=cond (decide (a.hi<b.lo)) (lit false) (cond (decide (b.hi<a.lo)) (lit false) (cond (a.lo==a.hi&&b.lo==b.hi&&a.lo==b.lo) (lit true) (cond (I.beq a.l b.l) (lit true) (rq (a.l.sub b.l) (λc=>decide (c=0)) (eq a.l b.l)))))
theorem y0 {n:Nat} {ρ:Env} {d:I} {f:Int->Bool} {e:aC} (h:e.den ρ=f (d.den ρ)) (hs:e.aA n):(rq d f e).den ρ=e.den ρ/\(rq d f e).aA n:=by
 unfold rq
 split
 ·rename_i c hc
  exact⟨by rw[h,I.ej hc];rfl,trivial⟩
 ·exact⟨rfl,hs⟩
theorem vU {n:Nat} {ρ:Env} {a b:aM} (ha:a.ok n ρ) (hb:b.ok n ρ):(mkLt a b).den ρ=decide (a.l.den ρ<b.l.den ρ)/\(mkLt a b).aA n:=by
 have h1:=ha.2;have h2:=hb.2
 unfold mkLt
 by_cases c1:a.hi<b.lo
 ·simp only[decide_eq_true c1,cond_true,den,aA,and_true];symm;simp;omega
 ·by_cases av:b.hi<=a.lo
  ·simp only[decide_eq_false c1,decide_eq_true av,cond_true,cond_false,den,aA,and_true];symm;simp;omega
  ·simp only[decide_eq_false c1,decide_eq_false av,cond_false]
   have:=y0 (n:=n) (ρ:=ρ) (d:=a.l.sub b.l) (f:=λc=>decide (c<0)) (e:=lt a.l b.l) (by simp only[den,I.gz];congr 1;simp;omega) ⟨ha.1,hb.1⟩
   exact⟨this.1,this.2⟩
theorem D9 {n:Nat} {ρ:Env} {a b:aM} (ha:a.ok n ρ) (hb:b.ok n ρ):(mkLe a b).den ρ=decide (a.l.den ρ<=b.l.den ρ)/\(mkLe a b).aA n:=by
 have h1:=ha.2;have h2:=hb.2
 unfold mkLe
 by_cases c1:a.hi<=b.lo
 ·simp only[decide_eq_true c1,cond_true,den,aA,and_true];symm;simp;omega
 ·by_cases av:b.hi<a.lo
  ·simp only[decide_eq_false c1,decide_eq_true av,cond_true,cond_false,den,aA,and_true];symm;simp;omega
  ·simp only[decide_eq_false c1,decide_eq_false av,cond_false]
   have:=y0 (n:=n) (ρ:=ρ) (d:=a.l.sub b.l) (f:=λc=>decide (c<=0)) (e:=le a.l b.l) (by simp only[den,I.gz];congr 1;simp;omega) ⟨ha.1,hb.1⟩
   exact⟨this.1,this.2⟩
theorem ky {n:Nat} {ρ:Env} {a b:aM} (ha:a.ok n ρ) (hb:b.ok n ρ):(mkEq a b).den ρ=decide (a.l.den ρ=b.l.den ρ)/\(mkEq a b).aA n:=by
 have h1:=ha.2;have h2:=hb.2
 unfold mkEq
 by_cases c1:a.hi<b.lo
 ·simp only[decide_eq_true c1,cond_true,den,aA,and_true];symm;simp;omega
 ·by_cases av:b.hi<a.lo
  ·simp only[decide_eq_false c1,decide_eq_true av,cond_true,cond_false,den,aA,and_true];symm;simp;omega
  ·cases bg:(a.lo==a.hi&&b.lo==b.hi&&a.lo==b.lo)with
   |true=>
    simp only[Bool.and_eq_true,beq_iff_eq]at bg
    simp only[decide_eq_false c1,decide_eq_false av,cond_false,cond_true,den,aA,and_true];symm;simp;omega
   |false=>
    cases bw:I.beq a.l b.l with
    |true=>simp only[decide_eq_false c1,decide_eq_false av,cond_false,cond_true,den,aA,and_true,I.beq_eq bw];simp
    |false=>
     simp only[decide_eq_false c1,decide_eq_false av,cond_false]
     have:=y0 (n:=n) (ρ:=ρ) (d:=a.l.sub b.l) (f:=λc=>decide (c=0)) (e:=eq a.l b.l) (by simp only[den,I.gz];congr 1;simp;omega) ⟨ha.1,hb.1⟩
     exact⟨this.1,this.2⟩
end aC
end Go.aZ
namespace Go.aZ
inductive A where
 |int (k:IntKind) (x:aM)
 |bool (b:aC)
 |ptr (b off:Nat)
 |gJ (b off:Nat) (au:aM)
 |gptr (g off:Nat)
 |ry (g off:Nat) (au:aM)
 |slc (b off len cap:Nat)
 |con (v:Value)
 |str (l:I)
 |rows (sh:List ag) (off code cap:I) (kind:Nat)
 |sl (b ax:Nat) (o ro len cap:I)
 |ep (b ax:Nat) (o i:I) (j:Nat)
inductive W where
 |one (a:A)
 |agg (l:List A)
inductive V where
 |w (x:W)
 |c7 (l:List W)
 |any
 |h9 (b len lo:Nat)
 |iO (f:Nat) (dZ:List A)
def eM (op:BinOp) (k:IntKind) (x y:Int):Int:=
 match op with
 | .and=>k.wrap (BitVec.ofInt k.bits x&&&BitVec.ofInt k.bits y).toNat
 | .or=>k.wrap (BitVec.ofInt k.bits x|||BitVec.ofInt k.bits y).toNat
 | .xor=>k.wrap (BitVec.ofInt k.bits x^^^BitVec.ofInt k.bits y).toNat
 | .andNot=>k.wrap (BitVec.ofInt k.bits x&&&~~~(BitVec.ofInt k.bits y)).toNat
 |_=>0
inductive T where
 |stuck
 |leaf (v:V)
 |div (n:Nat) (x:I) (d lo hi:Int) (r:T)
 |mul (n:Nat) (x y:I) (lo hi:Int) (r:T)
 |bit (n:Nat) (op:BinOp) (k:IntKind) (x y:I) (r:T)
 |shr (n:Nat) (x y:I) (lo hi:Int) (r:T)
 |sel (n:Nat) (cs:List I) (au:I) (lo hi:Int) (r:T)
 |nS (b:aC) (t e:T)
 |call (id:Nat) (args:List I) (n:Nat) (bds:List (Int×Int)) (r:T)
 |loop (eI:Nat) (init:List I) (n:Nat) (bds:List (Int×Int)) (r:T)
 |again (eI:Nat) (vals:List I)
 |both (a b:T)
 |fn (n:Nat) (op:Nat) (args:List I) (lo hi:Int) (r:T)
 |lZ (op:Nat) (args:List I) (r:T)
 |lQ (n:Nat) (lo hi:Int) (r:T)
 |nat (n:Nat) (r:T)
 |o6 (op:Nat) (args:List I) (r:T)
 |ind (n:Nat) (b:aC) (r:T)
def lW:List (Int×Int)->(List Int->Prop)->Prop
 |[],P=>P []
 |(l,h)::b,P=>∀r:Int,l<=r->r<=h->lW b (λrs=>P (r::rs))
def bb:List (Int×Int)->List Int->Prop
 |[],[]=>True
 |(l,h)::b,r::rs=>l<=r/\r<=h/\bb b rs
 |_,_=>False
theorem mP:∀{b:List (Int×Int)} {P:List Int->Prop} {rs:List Int},lW b P->bb b rs->P rs
 |[],_,[],h,_=>h
 |(l,u)::b,P,r::rs,h,hi=>mP (b:=b) (P:=λrs=>P (r::rs)) (h r hi.1 hi.2.1) hi.2.2
 |[],_,_::_,_,hi=>hi.elim
 |(_,_)::_,_,[],_,hi=>hi.elim
abbrev bZ:=Nat->List Int->Prop
def bZ.set (A:bZ) (eI:Nat) (p:List Int->Prop):bZ:=λi=>cond (Nat.beq i eI) p (A i)
def T.holds (S:Nat->List Int->List Int->Prop) (L:V->Env->Prop):T->bZ->Env->Prop
 |stuck,_,_=>False
 |leaf v,_,ρ=>L v ρ
 |div n x d lo hi r,A,ρ=>∀q:Int,lo<=q->q<=hi->0<=x.den ρ-d*q->x.den ρ-d*q<d->r.holds S L A (bF ρ n q)
 |mul n x y lo hi r,A,ρ=>∀p:Int,lo<=p->p<=hi->p=x.den ρ*y.den ρ->r.holds S L A (bF ρ n p)
 |bit n op k x y r,A,ρ=>∀z:Int,0<=z->z<=k.max->z=eM op k (x.den ρ) (y.den ρ)->r.holds S L A (bF ρ n z)
 |shr n x y lo hi r,A,ρ=>∀z:Int,lo<=z->z<=hi->z=x.den ρ/2^(y.den ρ).toNat->r.holds S L A (bF ρ n z)
 |sel n cs au lo hi r,A,ρ=>∀z:Int,lo<=z->z<=hi->z=(cs.map (·.den ρ)).getD (au.den ρ).toNat 0->r.holds S L A (bF ρ n z)
 |nS b t e,A,ρ=>(b.den ρ=true->t.holds S L A ρ)/\(b.den ρ=false->e.holds S L A ρ)
 |call id args n bds r,A,ρ=>lW bds λrs=>S id (args.map (·.den ρ)) rs->r.holds S L A (bk ρ n rs)
 |loop eI init n bds r,A,ρ=>∃(jJ:List Int->Prop) (jF:List Int->Nat),jJ (init.map (·.den ρ))/\
  lW bds λzs=>jJ zs->r.holds S L (A.set eI λvs=>jJ vs/\jF vs<jF zs) (bk ρ n zs)
 |again eI vals,A,ρ=>A eI (vals.map (·.den ρ))
 |both a b,A,ρ=>a.holds S L A ρ/\b.holds S L A ρ
 |fn n op args lo hi r,A,ρ=>∀z:Int,lo<=z->z<=hi->z=ah op (args.map (·.den ρ))->r.holds S L A (bF ρ n z)
 |lZ op args r,A,ρ=>aG op (args.map (·.den ρ))/\r.holds S L A ρ
 |lQ n lo hi r,A,ρ=>∀z:Int,lo<=z->z<=hi->r.holds S L A (bF ρ n z)
 |nat n r,A,ρ=>∀z:Int,0<=z->r.holds S L A (bF ρ n z)
 |o6 op args r,A,ρ=>aG op (args.map (·.den ρ))->r.holds S L A ρ
 |ind n b r,A,ρ=>∀z:Int,0<=z->z<=1->b.den ρ=decide (z=1)->r.holds S L A (bF ρ n z)
abbrev M (α:Type):=Nat->(α->Nat->T)->T
namespace M
variable {α β:Type}
def pure (a:α):M α:=λn k=>k a n
def bind (x:M α) (f:α->M β):M β:=λn k=>x n λa n'=>f a n' k
def fail:M α:=λ_ _=> .stuck
def ae (S:Nat->List Int->List Int->Prop) (L:V->Env->Prop) (x:M α) (n:Nat) (ρ:Env) (R:Env->Nat->α->Prop):Prop:=
 ∀A k,(x n k).holds S L A ρ->∃aa n' a,n<=n'/\agree n ρ aa/\R aa n' a/\(k a n').holds S L A aa
variable {S:Nat->List Int->List Int->Prop} {L:V->Env->Prop} {n:Nat} {ρ:Env}
theorem ae.pure {a:α} {R:Env->Nat->α->Prop} (h:R ρ n a):ae S L (M.pure a) n ρ R:=
 λ_ _ hk=>⟨ρ,n,a,Nat.le_refl _,agree.refl _ _,h,hk⟩
theorem ae.fail {R:Env->Nat->α->Prop}:ae S L (M.fail:M α) n ρ R:=λ_ _ hk=>hk.elim
theorem ae.bind {x:M α} {f:α->M β} {R:Env->Nat->α->Prop} {c0:Env->Nat->β->Prop} (hx:ae S L x n ρ R)
 (hf:∀aa n' a,n<=n'->agree n ρ aa->R aa n' a->ae S L (f a) n' aa c0):ae S L (M.bind x f) n ρ c0:=by
 intro A k hk
 obtain⟨aa,n',a,hn,ha,hR,eF⟩:=hx A _ hk
 obtain⟨kl,si,b,ly,fy,jX,M1⟩:=hf aa n' a hn ha hR A k eF
 exact⟨kl,si,b,Nat.le_trans hn ly,ha.trans fy hn,jX,M1⟩
theorem ae.mono {x:M α} {R c0:Env->Nat->α->Prop} (hx:ae S L x n ρ R) (h:∀aa n' a,n<=n'->agree n ρ aa->R aa n' a->c0 aa n' a):ae S L x n ρ c0:=by
 intro A k hk
 obtain⟨aa,n',a,hn,ha,hR,eF⟩:=hx A k hk
 exact⟨aa,n',a,hn,ha,h _ _ _ hn ha hR,eF⟩
end M
open M
section
variable {S:Nat->List Int->List Int->Prop} {L:V->Env->Prop} {n:Nat} {ρ:Env}
def o5:List I->Option (List Int)
 |[]=>some []
 |l::r=>match l.bQ,o5 r with|some c,some s=>some (c::s)|_,_=>none
theorem vq {ρ:Env}:∀{l:List I} {cs:List Int},o5 l=some cs->l.map (·.den ρ)=cs
 |[],cs,h=>by simp[o5]at h;subst h;rfl
 |l::r,cs,h=>by
  simp only[o5]at h
  cases h1:l.bQ with
  |none=>simp[h1]at h
  |some c=>
   cases h2:o5 r with
   |none=>simp[h1,h2]at h
   |some s=>
    simp only[h1,h2,Option.some.injEq]at h
    subst h
    simp only[List.map_cons,I.ej h1,vq h2]
def cd (op:Nat) (args:List I) (lo hi:Int):M I:=λn k=>match Nat.ble op 5,o5 args with
 |true,some cs=>k (.const (ah op cs)) n
 |_,_=> .fn n op args lo hi (k (.var n) (n+1))
def td:Nat->List Int->Bool
 |1,[s,i]=>decide (0<=i)&&decide (i<(J s).length)
 |2,[s,a,b]=>decide (0<=a)&&decide (a<=b)&&decide (b<=(J s).length)
 |3,[s,t]=>Nat.ble ((J s).length+(J t).length) 1000000
 |30,[i,n]=>decide (0<=i)&&decide (i<n)
 |32,[a,b,n]=>decide (0<=a)&&decide (a<=b)&&decide (b<=n)
 |39,[x,l,h]=>decide (l<=x)&&decide (x<=h)
 |_,_=>false
theorem DR {op:Nat} {cs:List Int} (h:td op cs=true):aG op cs:=by
 unfold td at h
 split at h
 ·simp only[Bool.and_eq_true,decide_eq_true_eq]at h;exact h
 ·simp only[Bool.and_eq_true,decide_eq_true_eq]at h;exact⟨h.1.1,h.1.2,h.2⟩
 ·have h:=Nat.le_of_ble_eq_true h
  show _<=eu
  unfold eu;omega
 ·simp only[Bool.and_eq_true,decide_eq_true_eq]at h;exact h
 ·simp only[Bool.and_eq_true,decide_eq_true_eq]at h;exact⟨h.1.1,h.1.2,h.2⟩
 ·simp only[Bool.and_eq_true,decide_eq_true_eq]at h;exact h
 ·cases h
def cx (op:Nat) (args:List I):M Unit:=λn k=>match o5 args with
 |some cs=>cond (td op cs) (k () n) (.lZ op args (k () n))
 |none=> .lZ op args (k () n)
theorem cS {op:Nat} {args:List I} {lo hi:Int} (h1:lo<=ah op (args.map (·.den ρ))) (h2:ah op (args.map (·.den ρ))<=hi):
 ae S L (cd op args lo hi) n ρ λaa n' l=>l.aA n'/\l.den aa=ah op (args.map (·.den ρ)):=by
 intro A k hk
 unfold cd at hk
 split at hk
 ·rename_i cs _ hcs
  exact⟨_,n,_,Nat.le_refl _,agree.refl _ _,⟨I.br _ _,by rw[I.ay,vq hcs]⟩,hk⟩
 ·exact⟨_,n+1,_,Nat.le_succ _,agree.bF _ _ _,⟨I.cq (Nat.lt_succ_self n),by simp[I.ba,ew]⟩,hk _ h1 h2 rfl⟩
theorem db {op:Nat} {args:List I} {α:Type} {x:M α} {R:Env->Nat->α->Prop} (h:aG op (args.map (·.den ρ))->ae S L x n ρ R):ae S L (bind (cx op args) λ_=>x) n ρ R:=by
 intro A k hk
 unfold M.bind cx at hk
 split at hk
 ·rename_i cs hcs
  cases hb:td op cs with
  |true=>
   rw[hb]at hk
   exact h (by rw[vq hcs];exact DR hb) A k hk
  |false=>
   rw[hb]at hk
   exact h hk.1 A k hk.2
 ·exact h hk.1 A k hk.2
def l5 (x:aM) (d:Int):M aM:=λn k=>
 cond (d==1) (k x n) <| cond (x.lo/d==x.hi/d) (k (.const (x.lo/d)) n) (.div n x.l d (x.lo/d) (x.hi/d) (k ⟨.var n,x.lo/d,x.hi/d⟩ (n+1)))
theorem tf {x:aM} {d:Int} (hd:0<d) (hx:x.ok n ρ):ae S L (l5 x d) n ρ λaa n' q=>q.ok n' aa/\q.l.den aa=x.l.den ρ/d/\(q.lo=x.lo/d/\q.hi=x.hi/d):=by
 intro A k hk
 have h1:=Int.ediv_le_ediv hd hx.2.1
 have h2:=Int.ediv_le_ediv hd hx.2.2
 unfold l5 at hk
 cases zi:(d==1)with
 |true=>
  have e:d=1:=by simpa using zi
  subst e
  simp only[zi,cond_true]at hk
  exact⟨ρ,n,x,Nat.le_refl _,agree.refl _ _,⟨hx,by simp,by simp,by simp⟩,hk⟩
 |false=>
 simp only[zi,cond_false]at hk
 cases hc:(x.lo/d==x.hi/d)with
 |true=>
  simp only[hc,cond_true]at hk
  have hc:x.lo/d=x.hi/d:=by simpa using hc
  exact⟨ρ,n,_,Nat.le_refl _,agree.refl _ _,⟨aM.hP _ _ _,by simp only[aM.const,I.ay];omega,rfl,hc⟩,hk⟩
 |false=>
  simp only[hc,cond_false,T.holds]at hk
  have hm:=Int.emod_nonneg (x.l.den ρ) (show d≠0 by omega)
  have nd:=Int.emod_lt_of_pos (x.l.den ρ) hd
  have he:=Int.mul_ediv_add_emod (x.l.den ρ) d
  refine⟨_,n+1,_,Nat.le_succ _,agree.bF _ _ _,⟨⟨I.cq (Nat.lt_succ_self n),?_,?_⟩,?_,rfl,rfl⟩,hk (x.l.den ρ/d) h1 h2 (by omega) (by omega)⟩<;>
   simp only[I.ba,ew]<;>omega
def Be (x:aM) (d:Int):M aM:=
 bind (l5 x d) λq=>pure ⟨x.l.sub (q.l.smul d),cond (q.lo==q.hi) (x.lo-d*q.lo) 0,cond (q.lo==q.hi) (x.hi-d*q.lo) (d-1)⟩
theorem G9 {x:aM} {d:Int} (hd:0<d) (hx:x.ok n ρ):ae S L (Be x d) n ρ λaa n' q=>q.ok n' aa/\q.l.den aa=x.l.den ρ% d:=by
 refine(tf hd hx).bind λaa n' q hn ha ⟨hq,he,ix,Ur⟩=>ae.pure ?_
 have et:=hx.agree ha hn
 have hm:=Int.emod_nonneg (x.l.den ρ) (show d≠0 by omega)
 have nd:=Int.emod_lt_of_pos (x.l.den ρ) hd
 have Uq:=Int.mul_ediv_add_emod (x.l.den ρ) d
 have zL:(x.l.sub (q.l.smul d)).den aa=x.l.den ρ% d:=by
  rw[I.gz,I.gP,I.aP ha hx.1,he];omega
 refine⟨⟨I.oG et.1 (I.oF hq.1),?_,?_⟩,zL⟩
 ·cases hc:(q.lo==q.hi)with
  |true=>
   have hc:q.lo=q.hi:=by simpa using hc
   have:q.l.den aa=q.lo:=by have:=hq.2;omega
   simp only[cond_true,I.gz,I.gP,this];have:=et.2.1;omega
  |false=>simp only[cond_false,zL];omega
 ·cases hc:(q.lo==q.hi)with
  |true=>
   have hc:q.lo=q.hi:=by simpa using hc
   have:q.l.den aa=q.lo:=by have:=hq.2;omega
   simp only[cond_true,I.gz,I.gP,this];have:=et.2.2;omega
  |false=>simp only[cond_false,zL];omega
def two (k:IntKind):Int:=match k with| .i8| .u8=>256| .i16| .u16=>65536| .i32| .u32=>4294967296| .i64| .u64=>18446744073709551616
theorem mF (k:IntKind):two k=(2:Int)^k.bits:=by cases k<;>rfl
def half (k:IntKind):Int:=cond k.signed (two k/2) 0
theorem x4 (k:IntKind) (x:Int):k.wrap x=(x+half k)% two k-half k:=by
 cases k<;>simp only[IntKind.wrap,IntKind.signed,IntKind.bits,half,two,cond_true,cond_false,Bool.true_and,Bool.false_and]<;>
  simp<;>(try split)<;>omega
def mG (k:IntKind) (x:aM):M aM:=
 cond (decide (-half k<=x.lo)&&decide (x.hi<two k-half k)) (pure x)
  (bind (Be ⟨x.l.add (.const (half k)),x.lo+half k,x.hi+half k⟩ (two k)) λr=>pure ⟨r.l.add (.const (-half k)),r.lo-half k,r.hi-half k⟩)
theorem oM {k:IntKind} {x:aM} (hx:x.ok n ρ):ae S L (mG k x) n ρ λaa n' q=>q.ok n' aa/\q.l.den aa=k.wrap (x.l.den ρ):=by
 have ht:0<two k:=by cases k<;>decide
 unfold mG
 cases hc:(decide (-half k<=x.lo)&&decide (x.hi<two k-half k))with
 |true=>
  simp only[Bool.and_eq_true,decide_eq_true_eq]at hc
  refine ae.pure ⟨hx,?_⟩
  have h1:=hx.2
  rw[x4,Int.emod_eq_of_lt (by omega) (by omega)];omega
 |false=>
  refine(G9 (x:=⟨x.l.add (.const (half k)),x.lo+half k,x.hi+half k⟩) ht ⟨I.nD hx.1 (I.br _ _),?_,?_⟩).bind λaa n' r hn ha ⟨hr,he⟩=>ae.pure ?_
  ·rw[I.den_add,I.ay];have:=hx.2.1;simp only;omega
  ·rw[I.den_add,I.ay];have:=hx.2.2;simp only;omega
  ·have e:(r.l.add (.const (-half k))).den aa=k.wrap (x.l.den ρ):=by
    rw[I.den_add,I.ay,he,I.den_add,I.ay,x4];omega
   refine⟨⟨I.nD hr.1 (I.br _ _),?_,?_⟩,e⟩<;>simp only[I.den_add,I.ay]<;>have:=hr.2<;>omega
def mulM (x y:aM):M aM:=λn k=>
 match x.l.bQ,y.l.bQ with
 |some c,_=>cond (decide (0<=c)) (k ⟨y.l.smul c,c*y.lo,c*y.hi⟩ n) .stuck
 |none,some c=>cond (decide (0<=c)) (k ⟨x.l.smul c,c*x.lo,c*x.hi⟩ n) .stuck
 |none,none=>cond (decide (0<=x.lo)&&decide (0<=y.lo)) (.mul n x.l y.l (x.lo*y.lo) (x.hi*y.hi) (k ⟨.var n,x.lo*y.lo,x.hi*y.hi⟩ (n+1))) .stuck
theorem Ha {x y:aM} (hx:x.ok n ρ) (hy:y.ok n ρ):ae S L (mulM x y) n ρ λaa n' q=>q.ok n' aa/\q.l.den aa=x.l.den ρ*y.l.den ρ:=by
 intro A k hk
 unfold mulM at hk
 cases h1:x.l.bQ with
 |some c=>
  simp only[h1]at hk
  by_cases hc:0<=c
  ·simp only[decide_eq_true hc,cond_true]at hk
   refine⟨ρ,n,_,Nat.le_refl _,agree.refl _ _,⟨⟨I.oF hy.1,?_,?_⟩,?_⟩,hk⟩
   ·simp only[I.gP];exact Int.mul_le_mul_of_nonneg_left hy.2.1 hc
   ·simp only[I.gP];exact Int.mul_le_mul_of_nonneg_left hy.2.2 hc
   ·simp only[I.gP,I.ej h1]
  ·simp only[decide_eq_false hc,cond_false,T.holds]at hk
 |none=>
  cases h2:y.l.bQ with
  |some c=>
   simp only[h1,h2]at hk
   by_cases hc:0<=c
   ·simp only[decide_eq_true hc,cond_true]at hk
    refine⟨ρ,n,_,Nat.le_refl _,agree.refl _ _,⟨⟨I.oF hx.1,?_,?_⟩,?_⟩,hk⟩
    ·simp only[I.gP];exact Int.mul_le_mul_of_nonneg_left hx.2.1 hc
    ·simp only[I.gP];exact Int.mul_le_mul_of_nonneg_left hx.2.2 hc
    ·simp only[I.gP,I.ej h2];exact Int.mul_comm _ _
   ·simp only[decide_eq_false hc,cond_false,T.holds]at hk
  |none=>
   simp only[h1,h2]at hk
   cases hc:(decide (0<=x.lo)&&decide (0<=y.lo))with
   |false=>simp only[hc,cond_false,T.holds]at hk
   |true=>
    simp only[hc,cond_true,T.holds]at hk
    simp only[Bool.and_eq_true,decide_eq_true_eq]at hc
    have a1:x.lo*y.lo<=x.l.den ρ*y.l.den ρ:=Int.mul_le_mul hx.2.1 hy.2.1 hc.2 (by have:=hx.2.1;omega)
    have a2:x.l.den ρ*y.l.den ρ<=x.hi*y.hi:=Int.mul_le_mul hx.2.2 hy.2.2 (by have:=hy.2.1;omega) (by have:=hx.2;omega)
    refine⟨_,n+1,_,Nat.le_succ _,agree.bF _ _ _,⟨⟨I.cq (Nat.lt_succ_self n),?_,?_⟩,?_⟩,hk _ a1 a2 rfl⟩<;>simp only[I.ba,ew]<;>assumption
def qU (op:BinOp) (k:IntKind) (x y:aM):M aM:=λn c=>
 cond k.signed .stuck (.bit n op k x.l y.l (c ⟨.var n,0,k.max⟩ (n+1)))
theorem TK {k:IntKind} (hk:k.signed=false) (x:Int):0<=k.wrap x/\k.wrap x<=k.max:=by
 cases k<;>simp[IntKind.signed]at hk<;>simp[IntKind.wrap,IntKind.signed,IntKind.bits,IntKind.max]<;>omega
theorem Kb {k:IntKind} (hk:k.signed=false) (op:BinOp) (x y:Int):0<=eM op k x y/\eM op k x y<=k.max:=by
 unfold eM
 split
 iterate 4 exact TK hk _
 cases k<;>simp[IntKind.signed]at hk<;>simp[IntKind.max,IntKind.signed,IntKind.bits]
theorem vA {op:BinOp} {k:IntKind} {x y:aM}:ae S L (qU op k x y) n ρ λaa n' q=>q.ok n' aa/\q.l.den aa=eM op k (x.l.den ρ) (y.l.den ρ):=by
 intro A c hk
 unfold qU at hk
 cases hs:k.signed with
 |true=>simp only[hs,cond_true,T.holds]at hk
 |false=>
  simp only[hs,cond_false,T.holds]at hk
  have hb:=Kb hs op (x.l.den ρ) (y.l.den ρ)
  refine⟨_,n+1,_,Nat.le_succ _,agree.bF _ _ _,⟨⟨I.cq (Nat.lt_succ_self n),?_,?_⟩,?_⟩,hk _ hb.1 hb.2 rfl⟩<;>simp only[I.ba,ew]<;>first|exact hb.1|exact hb.2
def xd (c:Int):Option (Int×Int):=
 match c with
 | .ofNat 0=>none
 | .ofNat c=>
  let b:=2^(Nat.log2 c+1)
  let a:=b-c
  cond (Nat.beq (2^Nat.log2 a) a) (some (a,b)) none
 |_=>none
theorem bv_and {w:Nat} (x y:Int):((BitVec.ofInt w x&&&BitVec.ofInt w y).toNat:Int)=(((x% 2^w).toNat&&&(y% 2^w).toNat:Nat):Int):=by
 rw[BitVec.toNat_and,BitVec.toNat_ofInt,BitVec.toNat_ofInt]
 congr
theorem Kf {w:Nat} (x y:Int):((BitVec.ofInt w x|||BitVec.ofInt w y).toNat:Int)=(((x% 2^w).toNat|||(y% 2^w).toNat:Nat):Int):=by
 rw[BitVec.toNat_or,BitVec.toNat_ofInt,BitVec.toNat_ofInt]
 congr
theorem J0 (x a b:Nat) (Uj:a<=b):x&&&(2^b-2^a)=2^a*(x/2^a)-2^b*(x/2^b):=by
 have e1:2^b-2^a=2^a*(2^(b-a)-1):=by
  rw[Nat.mul_sub,<-Nat.pow_add,Nat.mul_one];congr 2;omega
 have e2:x&&&(2^b-2^a)=2^a*(x/2^a% 2^(b-a)):=by
  rw[e1]
  apply Nat.eq_of_testBit_eq
  intro i
  rw[Nat.testBit_and,Nat.mul_comm (2^a) (2^(b-a)-1),Nat.mul_comm (2^a),Nat.testBit_mul_two_pow,Nat.testBit_mul_two_pow,Nat.testBit_two_pow_sub_one,Nat.testBit_mod_two_pow,Nat.testBit_div_two_pow]
  by_cases h:a<=i
  ·simp only[h,decide_true,Bool.true_and]
   rw[show i-a+a=i by omega,Bool.and_comm]
  ·simp[h]
 rw[e2]
 have e3:x/2^b=x/2^a/2^(b-a):=by
  rw[Nat.div_div_eq_div_mul,<-Nat.pow_add];congr 2;omega
 have dG:2^b=2^a*2^(b-a):=by rw[<-Nat.pow_add];congr 1;omega
 have l6:=Nat.div_add_mod (x/2^a) (2^(b-a))
 rw[e3,dG,Nat.mul_assoc,<-Nat.mul_sub]
 congr 1
 omega
theorem PT {c a b:Int} (h:xd c=some (a,b)):∃i j:Nat,i<=j/\a=2^i/\b=2^j/\c=b-a/\0<a/\0<b:=by
 unfold xd at h
 split at h
 ·cases h
 ·rename_i c hc
  have hc0:c≠0:=λe=>hc (by rw[e])
  cases hb:Nat.beq (2^Nat.log2 (2^(Nat.log2 c+1)-c)) (2^(Nat.log2 c+1)-c)with
  |false=>simp[hb]at h
  |true=>
   simp only[hb,cond_true,Option.some.injEq,Prod.mk.injEq]at h
   obtain⟨rfl,rfl⟩:=h
   have e:=Nat.eq_of_beq_eq_true hb
   have hlt:c<2^(Nat.log2 c+1):=Nat.lt_log2_self
   have hp:0<2^Nat.log2 (2^(Nat.log2 c+1)-c):=Nat.two_pow_pos _
   refine⟨Nat.log2 (2^(Nat.log2 c+1)-c),Nat.log2 c+1,?_,?_,?_,?_,?_,?_⟩
   ·rcases Nat.lt_or_ge (Nat.log2 c+1) (Nat.log2 (2^(Nat.log2 c+1)-c))with ad|ad
    ·have:=Nat.pow_lt_pow_right (a:=2) (by omega) ad
     omega
    ·exact ad
   ·rw[<-e];simp
   ·simp
   ·have:((2^(Nat.log2 c+1)-c:Nat):Int)=((2^(Nat.log2 c+1):Nat):Int)-(c:Int):=by omega
    simp only[Int.ofNat_eq_natCast]
    omega
   ·omega
   ·have:0<2^(Nat.log2 c+1):=Nat.two_pow_pos _
    omega
 ·cases h
def andM (x:aM) (a b:Int):M aM:=
 bind (l5 x a) λp=>bind (l5 x b) λq=>
  pure ⟨(p.l.smul a).sub (q.l.smul b),cond (q.lo==q.hi) (a*p.lo-b*q.lo) 0,cond (q.lo==q.hi) (a*p.hi-b*q.lo) (b-a)⟩
theorem JZ {x:aM} {i j:Nat} (iw:i<=j) (hx:x.ok n ρ) (h0:0<=x.lo):ae S L (andM x (2^i) (2^j)) n ρ λaa n' q=>q.ok n' aa/\q.l.den aa=((x.l.den ρ).toNat&&&(2^j-2^i):Nat):=by
 have hi:(0:Int)<2^i:=by have:=Nat.two_pow_pos i;exact_mod_cast this
 have hj:(0:Int)<2^j:=by have:=Nat.two_pow_pos j;exact_mod_cast this
 refine(tf hi hx).bind λak n1 p cv bG ⟨hp,ep,_,_⟩=>?_
 refine(tf hj (hx.agree bG cv)).bind λaH cA q bX bN ⟨hq,eq,_,_⟩=>ae.pure ?_
 rw[I.aP bG hx.1]at eq
 have rS:=hp.agree bN bX
 have K9:p.l.den aH=x.l.den ρ/2^i:=by rw[I.aP bN hp.1,ep]
 obtain⟨X,aX⟩:=Int.eq_ofNat_of_zero_le (show 0<=x.l.den ρ by have:=hx.2.1;omega)
 have e:((p.l.smul (2^i)).sub (q.l.smul (2^j))).den aH=((x.l.den ρ).toNat&&&(2^j-2^i):Nat):=by
  rw[I.gz,I.gP,I.gP,K9,eq,aX,Int.toNat_natCast,J0 X i j iw]
  have h1:2^j*(X/2^j)<=2^i*(X/2^i):=by
   have e3:X/2^j=X/2^i/2^(j-i):=by rw[Nat.div_div_eq_div_mul,<-Nat.pow_add];congr 2;omega
   have dG:2^j=2^i*2^(j-i):=by rw[<-Nat.pow_add];congr 1;omega
   rw[e3]
   conv=>lhs;rw[dG,Nat.mul_assoc]
   exact Nat.mul_le_mul_left _ (Nat.mul_div_le _ _)
  rw[Int.ofNat_sub h1]
  simp
 refine⟨⟨I.oG (I.oF rS.1) (I.oF hq.1),?_,?_⟩,e⟩
 ·cases hc:(q.lo==q.hi)with
  |true=>
   have hc:q.lo=q.hi:=by simpa using hc
   have h1:q.l.den aH=q.lo:=by have:=hq.2;omega
   simp only[cond_true,I.gz,I.gP,h1]
   have:=Int.mul_le_mul_of_nonneg_left rS.2.1 (Int.le_of_lt hi);omega
  |false=>simp only[cond_false,e];omega
 ·cases hc:(q.lo==q.hi)with
  |true=>
   have hc:q.lo=q.hi:=by simpa using hc
   have h1:q.l.den aH=q.lo:=by have:=hq.2;omega
   simp only[cond_true,I.gz,I.gP,h1]
   have:=Int.mul_le_mul_of_nonneg_left rS.2.2 (Int.le_of_lt hi);omega
  |false=>
   simp only[cond_false,e]
   have h2:(x.l.den ρ).toNat&&&(2^j-2^i)<=2^j-2^i:=Nat.and_le_right
   have h3:2^i<=2^j:=Nat.pow_le_pow_right (by omega) iw
   have h4:((2^j-2^i:Nat):Int)=2^j-2^i:=by rw[Int.ofNat_sub h3];simp
   omega
end
end Go.aZ
namespace Go.aZ
open M
def ig (c:Int) (g:Nat):Option Addr:=
 if c=-1 then none else match ab (g:Int)with
  |[[b,o,s]]=>some ⟨b.toNat,o.toNat,if s<0 then none else some s.toNat⟩
  |_=>some ⟨0,0,none⟩
theorem TQ (c:Int) (g:Nat):(ig c g).isNone=decide (c=-1):=by
 unfold ig
 split
 ·rename_i h;simp[h]
 ·rename_i h
  split<;>simp[h]
theorem Cw (p:Option Addr):∃c g,(-2<=c/\c<0)/\ig c g=p:=by
 cases p with
 |none=>exact⟨-1,0,by decide,rfl⟩
 |some a=>
  obtain⟨b,o,s⟩:=a
  have key:∀z:Int,∃c g,(-2<=c/\c<0)/\ig c g=some ⟨b,o,if z<0 then none else some z.toNat⟩:=λz=>by
   have h:=cE [[(b:Int),(o:Int),z]]
   refine⟨-2,(rc [[(b:Int),(o:Int),z]]).toNat,by decide,?_⟩
   unfold ig
   rw[if_neg (by decide),Int.toNat_of_nonneg h,dx]
   simp
  cases s with
  |none=>exact key (-1)
  |some k=>have:=key k;rwa [if_neg (by omega),Int.toNat_natCast]at this
def A.den (ρ:Env) (m:Nat->Nat):A->Value
 | .int k x=> .int k (x.l.den ρ)
 | .bool b=> .bool (b.den ρ)
 | .ptr b off=> .pointer (some ⟨m b,off,none⟩)
 | .gJ b off au=> .pointer (some ⟨m b,off+(au.l.den ρ).toNat,none⟩)
 | .gptr g off=> .pointer (some ⟨g,off,none⟩)
 | .ry g off au=> .pointer (some ⟨g,off+(au.l.den ρ).toNat,none⟩)
 | .slc b off len cap=> .slice (some ⟨m b,off,none⟩) len cap
 | .con v=>v
 | .str l=> .string (aF (J (l.den ρ)))
 | .rows _ _ code _ _=> .int .u8 (code.den ρ)
 | .sl b ax o ro len cap=>if cap.den ρ<0 then .slice (ig (cap.den ρ) (m b)) 0 0 else .slice (some ⟨m b,(o.den ρ).toNat+(ro.den ρ).toNat*ax,none⟩) (len.den ρ).toNat (cap.den ρ).toNat
 | .ep b ax o i j=> .pointer (some ⟨m b,(o.den ρ).toNat+(i.den ρ).toNat*ax+j,none⟩)
def qB (o ro len cap:Int):Prop:=(0<=o/\0<=ro/\0<=len/\len<=9223372036854775807)/\(-2<=cap/\ro+cap<=9223372036854775807)/\(cap<0->len=0)/\(0<=cap->len<=cap)
def A.ok (n nb:Nat) (ρ:Env):A->Prop
 | .int _ x=>x.ok n ρ
 | .bool b=>b.aA n
 | .ptr b _=>b<nb
 | .gJ b _ au=>b<nb/\au.ok n ρ/\0<=au.lo
 | .gptr .. =>True
 | .ry _ _ au=>au.ok n ρ/\0<=au.lo
 | .slc b .. =>b<nb
 | .con v=>v.oneCell'=true
 | .str l=>l.aA n/\0<=l.den ρ/\l.den ρ<=aO
 | .rows _ off code cap _=>(off.aA n/\code.aA n/\cap.aA n)/\(0<=code.den ρ/\code.den ρ<=aW)/\-2<=cap.den ρ/\cap.den ρ<=9223372036854775807
 | .sl b _ o ro len cap=>b<nb/\(o.aA n/\ro.aA n/\len.aA n/\cap.aA n)/\qB (o.den ρ) (ro.den ρ) (len.den ρ) (cap.den ρ)
 | .ep b _ o i _=>b<nb/\(o.aA n/\i.aA n)/\0<=o.den ρ/\0<=i.den ρ
theorem A.ok.ext {n n' nb e7:Nat} {ρ aa:Env} {a:A} (h:a.ok n nb ρ) (ha:agree n ρ aa) (hn:n<=n') (hb:nb<=e7):a.ok n' e7 aa:=by
 cases a<;>simp only[A.ok]at h⊢
 ·exact h.agree ha hn
 ·exact aC.aA.mono hn h
 ·omega
 ·exact⟨by omega,h.2.1.agree ha hn,h.2.2⟩
 ·exact⟨h.1.agree ha hn,h.2⟩
 ·omega
 ·exact h
 ·exact⟨h.1.mono hn,by rw[I.aP ha h.1];exact h.2⟩
 ·obtain⟨⟨h1,h2,h3⟩,h4⟩:=h
  exact⟨⟨h1.mono hn,h2.mono hn,h3.mono hn⟩,by rw[I.aP ha h2,I.aP ha h3];exact h4⟩
 ·obtain⟨h1,⟨h2,h3,h4,h5⟩,h6⟩:=h
  exact⟨by omega,⟨h2.mono hn,h3.mono hn,h4.mono hn,h5.mono hn⟩,by rw[I.aP ha h2,I.aP ha h3,I.aP ha h4,I.aP ha h5];exact h6⟩
 ·obtain⟨h1,⟨h2,h3⟩,h4⟩:=h
  exact⟨by omega,⟨h2.mono hn,h3.mono hn⟩,by rw[I.aP ha h2,I.aP ha h3];exact h4⟩
theorem A.fL {n nb:Nat} {ρ aa:Env} {m m':Nat->Nat} {a:A} (h:a.ok n nb ρ) (ha:agree n ρ aa) (hm:∀b,b<nb->m' b=m b):a.den aa m'=a.den ρ m:=by
 cases a<;>simp only[A.ok]at h<;>simp only[A.den]
 ·rw[I.aP ha h.1]
 ·rw[aC.aP ha h]
 ·rw[hm _ h]
 ·rw[hm _ h.1,I.aP ha h.2.1.1]
 ·rw[I.aP ha h.1.1]
 ·rw[hm _ h]
 ·rw[I.aP ha h.1]
 ·rw[I.aP ha h.1.2.1]
 ·obtain⟨h1,⟨h2,h3,h4,h5⟩,h6⟩:=h
  rw[hm _ h1,I.aP ha h2,I.aP ha h3,I.aP ha h4,I.aP ha h5]
 ·rw[hm _ h.1,I.aP ha h.2.1.1,I.aP ha h.2.1.2]
theorem A.xm {n nb:Nat} {ρ:Env} {m:Nat->Nat} {a:A} (h:a.ok n nb ρ):(a.den ρ m).oneCell'=true:=by
 cases a<;>first|rfl|exact h|(simp only[A.den];split<;>rfl)
def W.den (ρ:Env) (m:Nat->Nat):W->Value
 | .one a=>a.den ρ m
 | .agg l=> .agg (l.map (A.den ρ m)).toArray
def W.ok (n nb:Nat) (ρ:Env):W->Prop
 | .one a=>a.ok n nb ρ
 | .agg l=>∀a∈l,a.ok n nb ρ
theorem W.ok.ext {n n' nb e7:Nat} {ρ aa:Env} {x:W} (h:x.ok n nb ρ) (ha:agree n ρ aa) (hn:n<=n') (hb:nb<=e7):x.ok n' e7 aa:=by
 cases x with
 |one a=>exact A.ok.ext h ha hn hb
 |agg l=>exactλa h'=>(h a h').ext ha hn hb
theorem jA {n nb:Nat} {ρ aa:Env} {m m':Nat->Nat} {l:List A} (h:∀a∈l,a.ok n nb ρ) (ha:agree n ρ aa) (hm:∀b,b<nb->m' b=m b):l.map (A.den aa m')=l.map (A.den ρ m):=
 List.map_congr_left λa h'=>A.fL (h a h') ha hm
theorem W.fL {n nb:Nat} {ρ aa:Env} {m m':Nat->Nat} {x:W} (h:x.ok n nb ρ) (ha:agree n ρ aa) (hm:∀b,b<nb->m' b=m b):x.den aa m'=x.den ρ m:=by
 cases x with
 |one a=>exact A.fL h ha hm
 |agg l=>simp only[W.den,jA h ha hm]
def V.rel (ρ:Env) (m:Nat->Nat):V->Value->Prop
 | .w x,v=>v=x.den ρ m
 | .c7 l,v=>v= .tuple (l.map (W.den ρ m)).toArray
 | .any,_=>True
 | .h9 b len lo,v=>∃c:Nat,lo<=c/\v= .slice (some ⟨m b,0,none⟩) len c
 | .iO f dZ,v=>v= .func (.func f) #[] (dZ.map (A.den ρ m)).toArray
def V.ok (n nb:Nat) (ρ:Env):V->Prop
 | .w x=>x.ok n nb ρ
 | .c7 l=>∀x∈l,x.ok n nb ρ
 | .any=>True
 | .h9 b _ _=>b<nb
 | .iO _ dZ=>∀a∈dZ,A.ok n nb ρ a
theorem V.ok.ext {n n' nb e7:Nat} {ρ aa:Env} {x:V} (h:x.ok n nb ρ) (ha:agree n ρ aa) (hn:n<=n') (hb:nb<=e7):x.ok n' e7 aa:=by
 cases x with
 |w x=>exact W.ok.ext h ha hn hb
 |c7 l=>exactλa h'=>(h a h').ext ha hn hb
 |any=>trivial
 |h9 b len lo=>exact Nat.lt_of_lt_of_le h hb
 |iO f dZ=>exactλa h'=>(h a h').ext ha hn hb
theorem V.rel.ext {n nb:Nat} {ρ aa:Env} {m m':Nat->Nat} {x:V} {v:Value} (hr:x.rel ρ m v) (h:x.ok n nb ρ) (ha:agree n ρ aa) (hm:∀b,b<nb->m' b=m b):x.rel aa m' v:=by
 cases x with
 |w x=>simp only[V.rel]at hr⊢;rw[W.fL h ha hm];exact hr
 |c7 l=>simp only[V.rel]at hr⊢;rw[hr];congr 2;exact(List.map_congr_left λa h'=>W.fL (h a h') ha hm).symm
 |any=>trivial
 |h9 b len lo=>obtain⟨c,h1,h2⟩:=hr;exact⟨c,h1,by rw[hm b h];exact h2⟩
 |iO f dZ=>simp only[V.rel]at hr⊢;rw[hr];congr 2;exact(List.map_congr_left λa h'=>A.fL (h a h') ha hm).symm
section
variable {S:Nat->List Int->List Int->Prop} {L:V->Env->Prop} {n:Nat} {ρ:Env}
def vp (s:Int):List (Int×Nat)->Bool
 |[]=>true
 |(k,_)::r=>k% s==0&&vp s r
theorem Dk {s:Int} (ρ:Env):∀{l},vp s l=true->dF ρ l% s=0
 |[],_=>by simp[dF]
 |(k,i)::r,h=>by
  simp only[vp,Bool.and_eq_true,beq_iff_eq]at h
  have h1:=Dk ρ h.2
  obtain⟨c,hc⟩:=Int.dvd_of_emod_eq_zero h.1
  obtain⟨d,hd⟩:=Int.dvd_of_emod_eq_zero h1
  simp only[dF,hc,hd,Int.mul_assoc]
  rw[<-Int.mul_add];exact Int.mul_emod_right _ _
def I.mO (s:Int) (l:I):Bool:=l.c% s==0&&vp s l.ts
theorem I.yt {s:Int} (ρ:Env) {l:I} (h:l.mO s=true):l.den ρ% s=0:=by
 simp only[mO,Bool.and_eq_true,beq_iff_eq]at h
 have h1:=Dk ρ h.2
 obtain⟨c,hc⟩:=Int.dvd_of_emod_eq_zero h.1
 obtain⟨d,hd⟩:=Int.dvd_of_emod_eq_zero h1
 simp only[den,hc,hd]
 rw[<-Int.mul_add];exact Int.mul_emod_right _ _
def nM (h:Int):Nat:=2^(Nat.log2 h.toNat+1)
theorem Di {x h:Int} (hx:x<=h) (h0:0<=x):x<(nM h:Int):=by
 have:h.toNat<2^(Nat.log2 h.toNat+1):=Nat.lt_log2_self
 unfold nM;omega
theorem bR {c:Bool} {α:Type} {x:M α} {R:Env->Nat->α->Prop} (h:c=true->ae S L x n ρ R):ae S L (cond c x fail) n ρ R:=by
 cases c with
 |true=>exact h rfl
 |false=>exact ae.fail
def lim (k:IntKind):Int:=two k-half k
theorem w8 (k:IntKind):lim k<=two k:=by cases k<;>decide
theorem Pq (k:IntKind):∃i:Nat,lim k=2^i/\i<=k.bits:=by cases k<;>first|exact⟨7,by decide,by decide⟩|exact⟨8,by decide,by decide⟩|exact⟨15,by decide,by decide⟩|exact⟨16,by decide,by decide⟩|exact⟨31,by decide,by decide⟩|exact⟨32,by decide,by decide⟩|exact⟨63,by decide,by decide⟩|exact⟨64,by decide,by decide⟩
def vo (x:I):List Nat->Nat
 |[]=>1
 |i::r=>cond (x.mO (2^i)) (2^i) (vo x r)
def orM (k:IntKind) (x y:aM):M aM:=
 cond (!(decide (0<=x.lo)&&decide (0<=y.lo)&&decide (x.hi<lim k)&&decide (y.hi<lim k))) (cond (decide (0<=x.lo)&&decide (x.hi<lim k)) (
  let s:=vo x.l [24,18,16,12,8,6,4]
  cond (x.l.mO s&&decide (y.hi<lim k)&&decide (x.hi+s<lim k)) (bind (cx 30 [y.l,.const s]) λ_=>pure ⟨x.l.add y.l,x.lo,x.hi+s⟩) fail) fail) <|
 cond (x.l.mO (nM y.hi)) (pure ⟨x.l.add y.l,x.lo+y.lo,cond (decide (x.hi+y.hi<two k)) (x.hi+y.hi) (two k-1)⟩) <|
 cond (y.l.mO (nM x.hi)) (pure ⟨x.l.add y.l,x.lo+y.lo,cond (decide (x.hi+y.hi<two k)) (x.hi+y.hi) (two k-1)⟩) (qU .or k x y)
theorem Bo {X Y s:Nat} (hs:∃i,s=2^i) (hx:X% s=0) (hy:Y<s):X|||Y=X+Y:=by
 obtain⟨i,rfl⟩:=hs
 have e:=Nat.div_add_mod X (2^i)
 rw[hx,Nat.add_zero]at e
 rw[<-e,<-Nat.two_pow_add_eq_or_of_lt hy]
theorem Cv {k:IntKind} {z:Int} (h0:0<=z) (h1:z<lim k):k.wrap z=z:=by
 rw[x4]
 have ad:0<=half k:=by cases k<;>decide
 unfold lim at h1
 rw[Int.emod_eq_of_lt (by omega) (by omega)]
 omega
theorem DA {k:IntKind} {x y:Int} (hx:0<=x) (hy:0<=y) (hx2:x<lim k) (AB:y<lim k):eM .or k x y=((x.toNat|||y.toNat:Nat):Int):=by
 have hl:=w8 k
 have hx3:x<2^k.bits:=by rw[<-mF];omega
 have AD:y<2^k.bits:=by rw[<-mF];omega
 obtain⟨i,hi,_⟩:=Pq k
 obtain⟨X,rfl⟩:=Int.eq_ofNat_of_zero_le hx
 obtain⟨Y,rfl⟩:=Int.eq_ofNat_of_zero_le hy
 have aX:X<2^i:=by rw[hi]at hx2;exact_mod_cast hx2
 have pB:Y<2^i:=by rw[hi]at AB;exact_mod_cast AB
 have h1:X|||Y<2^i:=Nat.or_lt_two_pow aX pB
 unfold eM
 simp only
 rw[Kf,Int.emod_eq_of_lt hx hx3,Int.emod_eq_of_lt hy AD]
 simp only[Int.toNat_natCast]
 exact Cv (by omega) (by rw[hi];exact_mod_cast h1)
theorem Dz {k:IntKind} {x y:Int} (hx:0<=x) (hy:0<=y) (hx2:x<lim k) (AB:y<two k):eM .and k x y=((x.toNat&&&y.toNat:Nat):Int):=by
 have hl:=w8 k
 have hx3:x<2^k.bits:=by rw[<-mF];omega
 have AD:y<2^k.bits:=by rw[<-mF];omega
 obtain⟨X,rfl⟩:=Int.eq_ofNat_of_zero_le hx
 obtain⟨Y,rfl⟩:=Int.eq_ofNat_of_zero_le hy
 have h1:X&&&Y<=X:=Nat.and_le_left
 unfold eM
 simp only
 rw[bv_and,Int.emod_eq_of_lt hx hx3,Int.emod_eq_of_lt hy AD]
 simp only[Int.toNat_natCast]
 exact Cv (by omega) (by omega)
theorem toNat_mod {x:Int} {s:Nat} (hx:0<=x) (h:x% (s:Int)=0):x.toNat% s=0:=by
 obtain⟨X,rfl⟩:=Int.eq_ofNat_of_zero_le hx
 simp only[Int.toNat_natCast]
 exact_mod_cast h
theorem QL {k:IntKind} {x y:aM} (hx:x.ok n ρ) (hy:y.ok n ρ):ae S L (orM k x y) n ρ λaa n' q=>q.ok n' aa/\q.l.den aa=eM .or k (x.l.den ρ) (y.l.den ρ):=by
 unfold orM
 cases hc:(!(decide (0<=x.lo)&&decide (0<=y.lo)&&decide (x.hi<lim k)&&decide (y.hi<lim k)))with
 |true=>
  simp only[cond_true]
  refine bR λh1=>bR λh2=>db λh3=>ae.pure ?_
  simp only[Bool.and_eq_true,decide_eq_true_eq]at h1 h2
  simp only[List.map_cons,List.map_nil,aG,I.ay]at h3
  obtain⟨⟨h4,h6⟩,h5⟩:=h2
  have qX:=hx.2;have DH:=hy.2
  generalize hs:vo x.l [24,18,16,12,8,6,4]=s at*
  have hm:=I.yt ρ h4
  have NC:∃i,s=2^i:=by
   rw[<-hs]
   generalize [24,18,16,12,8,6,4]=l
   induction l with
   |nil=>exact⟨0,rfl⟩
   |cons i r ih=>
    unfold vo
    cases x.l.mO (2^i)with
    |true=>exact⟨i,rfl⟩
    |false=>exact ih
  have e:x.l.den ρ+y.l.den ρ=eM .or k (x.l.den ρ) (y.l.den ρ):=by
   rw[DA (by omega) h3.1 (by omega) (by omega),Bo NC (toNat_mod (by omega) hm) (by omega)];omega
  exact⟨⟨I.nD hx.1 hy.1,by simp only[I.den_add];omega,by simp only[I.den_add];omega⟩,by rw[I.den_add];exact e⟩
 |false=>
  simp only[Bool.not_eq_false',Bool.and_eq_true,decide_eq_true_eq]at hc
  obtain⟨⟨⟨h1,h2⟩,m2⟩,Uf⟩:=hc
  have rO:=w8 k
  have h3:x.hi<two k:=by omega
  have h4:y.hi<two k:=by omega
  have qX:=hx.2;have DH:=hy.2
  have hb:=DA (k:=k) (x:=x.l.den ρ) (y:=y.l.den ρ) (by omega) (by omega) (by omega) (by omega)
  have hlt:eM .or k (x.l.den ρ) (y.l.den ρ)<two k:=by
   have e1:x.l.den ρ<2^k.bits:=by rw[<-mF];omega
   have e2:y.l.den ρ<2^k.bits:=by rw[<-mF];omega
   have h1:(x.l.den ρ).toNat|||(y.l.den ρ).toNat<2^k.bits:=Nat.or_lt_two_pow (by
    have:(x.l.den ρ).toNat=x.l.den ρ:=by omega
    exact_mod_cast (show((x.l.den ρ).toNat:Int)<2^k.bits by omega)) (by exact_mod_cast (show((y.l.den ρ).toNat:Int)<2^k.bits by omega))
   rw[hb,mF]
   exact_mod_cast h1
  have ok:∀q:Int,q=eM .or k (x.l.den ρ) (y.l.den ρ)->x.l.den ρ+y.l.den ρ=q->(aM.mk (x.l.add y.l) (x.lo+y.lo) (cond (decide (x.hi+y.hi<two k)) (x.hi+y.hi) (two k-1))).ok n ρ:=λq rU mf=>⟨I.nD hx.1 hy.1,by simp only[I.den_add];omega,by
   simp only[I.den_add]
   cases hd:decide (x.hi+y.hi<two k)with
   |true=>simp only[cond_true];omega
   |false=>simp only[cond_false];omega⟩
  simp only[cond_false]
  cases h5:x.l.mO (nM y.hi)with
  |true=>
   have hm:=I.yt ρ h5
   have hl:=Di DH.2 (by omega)
   have hs:x.l.den ρ+y.l.den ρ=eM .or k (x.l.den ρ) (y.l.den ρ):=by
    rw[hb,Bo (s:=nM y.hi) ⟨_,rfl⟩ (toNat_mod (by omega) hm) (by omega)];omega
   exact ae.pure ⟨ok _ rfl hs,by rw[I.den_add];exact hs⟩
  |false=>
   simp only[cond_false]
   cases h6:y.l.mO (nM x.hi)with
   |true=>
    have hm:=I.yt ρ h6
    have hl:=Di qX.2 (by omega)
    have hs:x.l.den ρ+y.l.den ρ=eM .or k (x.l.den ρ) (y.l.den ρ):=by
     rw[hb,Nat.or_comm,Bo (s:=nM x.hi) ⟨_,rfl⟩ (toNat_mod (by omega) hm) (by omega)];omega
    exact ae.pure ⟨ok _ rfl hs,by rw[I.den_add];exact hs⟩
   |false=>exact vA
def vt (k:IntKind) (x:aM) (c:Int):M aM:=
 match xd c with
 |some (a,b)=>cond (!(decide (0<=x.lo)&&decide (x.hi<lim k)&&decide (c<two k)&&decide (0<=c))) fail (andM x a b)
 |none=>cond (c==0&&decide (0<=x.lo)&&decide (x.hi<lim k)) (pure (.const 0)) fail
theorem Dp {k:IntKind} {x:aM} {c:Int} (hx:x.ok n ρ):ae S L (vt k x c) n ρ λaa n' q=>q.ok n' aa/\q.l.den aa=eM .and k (x.l.den ρ) c:=by
 unfold vt
 have qX:=hx.2
 cases hm:xd c with
 |some p=>
  obtain⟨a,b⟩:=p
  simp only
  cases hc:(!(decide (0<=x.lo)&&decide (x.hi<lim k)&&decide (c<two k)&&decide (0<=c)))with
  |true=>exact ae.fail
  |false=>
   simp only[Bool.not_eq_false',Bool.and_eq_true,decide_eq_true_eq]at hc
   obtain⟨⟨⟨h1,h2⟩,h3⟩,h4⟩:=hc
   obtain⟨i,j,iw,rfl,rfl,hce,_,_⟩:=PT hm
   refine(JZ iw hx h1).mono λaa n' q _ _ ⟨ho,he⟩=>⟨ho,?_⟩
   rw[he,Dz (by omega) h4 (by omega) h3]
   congr 2
   have h3:2^i<=2^j:=Nat.pow_le_pow_right (by omega) iw
   have h5:((2^j-2^i:Nat):Int)=2^j-2^i:=by rw[Int.ofNat_sub h3];simp
   omega
 |none=>
  simp only
  cases hc:(c==0&&decide (0<=x.lo)&&decide (x.hi<lim k))with
  |false=>exact ae.fail
  |true=>
   simp only[Bool.and_eq_true,beq_iff_eq,decide_eq_true_eq]at hc
   obtain⟨⟨rfl,h1⟩,h2⟩:=hc
   refine ae.pure ⟨aM.hP _ _ _,?_⟩
   rw[Dz (by omega) (Int.le_refl _) (by omega) (by cases k<;>decide)]
   simp[aM.const,I.ay]
theorem Ka (k:IntKind) (x y:Int):eM .and k x y=eM .and k y x:=by simp only[eM,BitVec.and_comm]
def yw (k:IntKind) (x y:aM):M aM:=
 match y.l.bQ,x.l.bQ with
 |some c,_=>vt k x c
 |none,some c=>vt k y c
 |none,none=>qU .and k x y
theorem JY {k:IntKind} {x y:aM} (hx:x.ok n ρ) (hy:y.ok n ρ):ae S L (yw k x y) n ρ λaa n' q=>q.ok n' aa/\q.l.den aa=eM .and k (x.l.den ρ) (y.l.den ρ):=by
 unfold yw
 cases h1:y.l.bQ with
 |some c=>simp only[I.ej h1];exact Dp hx
 |none=>
  cases h2:x.l.bQ with
  |some c=>simp only[I.ej h2];rw[Ka];exact Dp hy
  |none=>exact vA
def B4 (x y:aM):M aM:=λn k=> .shr n x.l y.l 0 x.hi (k ⟨.var n,0,x.hi⟩ (n+1))
theorem Sd {x y:aM} (hx:x.ok n ρ) (h0:0<=x.lo):ae S L (B4 x y) n ρ λaa n' q=>q.ok n' aa/\q.l.den aa=x.l.den ρ/2^(y.l.den ρ).toNat:=by
 intro A k hk
 simp only[B4,T.holds]at hk
 have hp:(0:Int)<2^(y.l.den ρ).toNat:=by have:=Nat.two_pow_pos (y.l.den ρ).toNat;exact_mod_cast this
 have b0:0<=x.l.den ρ:=by have:=hx.2;omega
 have a1:0<=x.l.den ρ/2^(y.l.den ρ).toNat:=Int.ediv_nonneg b0 (Int.le_of_lt hp)
 have a2:x.l.den ρ/2^(y.l.den ρ).toNat<=x.hi:=Int.le_trans (Int.ediv_le_self _ b0) hx.2.2
 exact⟨_,n+1,_,Nat.le_succ _,agree.bF _ _ _,⟨⟨I.cq (Nat.lt_succ_self n),by simp only[I.ba,ew];exact a1,by simp only[I.ba,ew];exact a2⟩,by simp only[I.ba,ew]⟩,hk _ a1 a2 rfl⟩
def isInt (k:IntKind) (x:M aM):M A:=bind x λr=>pure (.int k r)
def oA (x:aM):M aM:=cond (decide (0<=x.lo)) (pure x) (bind (cx 77 [x.l]) λ_=>pure ⟨x.l,0,x.hi⟩)
def Bf (x y:aM):M aM:=match x.l.bQ,y.l.bQ with
 |none,none=>bind (oA x) λx=>bind (oA y) λy=>mulM x y
 |_,_=>mulM x y
def yA (op:BinOp) (k:IntKind) (x:aM) (aD:IntKind) (y:aM):M A:=
 match op with
 | .shl=>match y.l.bQ with
  |some c=>cond (decide (0<=c)) (let s:Int:=2^min c.toNat k.bits;isInt k (mG k ⟨x.l.smul s,x.lo*s,x.hi*s⟩)) fail
  |none=>cond (decide (0<=x.lo)&&decide (0<=y.lo)&&decide (y.hi<=62)&&decide (x.hi*2^y.hi.toNat<lim k)) (isInt k (bind (cd 37 [x.l,y.l] 0 (x.hi*2^y.hi.toNat)) λl=>pure ⟨l,0,x.hi*2^y.hi.toNat⟩)) fail
 | .shr=>match y.l.bQ with
  |some c=>cond (decide (0<=c)) (isInt k (l5 x (2^min c.toNat k.bits))) fail
  |none=>cond (decide (0<=x.lo)&&decide (0<=y.lo)&&decide (y.hi<=(k.bits:Int))) (isInt k (B4 x y)) fail
 | .add=>cond (decide (k=aD)) (isInt k (mG k ⟨x.l.add y.l,x.lo+y.lo,x.hi+y.hi⟩)) fail
 | .sub=>cond (decide (k=aD)) (isInt k (mG k ⟨x.l.sub y.l,x.lo-y.hi,x.hi-y.lo⟩)) fail
 | .mul=>cond (decide (k=aD)) (isInt k (bind (Bf x y) (mG k))) fail
 | .quo=>match y.l.bQ with
  |some c=>cond (decide (k=aD)&&decide (0<c)) (bind (oA x) λx=>isInt k (bind (l5 x c) (mG k))) fail
  |none=>cond (decide (k=aD)) (bind (oA x) λx=>bind (cx 36 [y.l]) λ_=>isInt k (bind (bind (cd 76 [x.l,y.l] 0 x.hi) λl=>pure ⟨l,0,x.hi⟩) (mG k))) fail
 | .rem=>match y.l.bQ with
  |some c=>cond (decide (k=aD)&&decide (0<c)) (bind (oA x) λx=>isInt k (Be x c)) fail
  |none=>cond (decide (k=aD)) (bind (oA x) λx=>bind (cx 36 [y.l]) λ_=>isInt k (bind (cd 38 [x.l,y.l] 0 (cond (decide (y.hi-1<=x.hi)) (y.hi-1) x.hi)) λl=>pure ⟨l,0,cond (decide (y.hi-1<=x.hi)) (y.hi-1) x.hi⟩)) fail
 | .and=>cond (decide (k=aD)) (isInt k (yw k x y)) fail
 | .or=>cond (decide (k=aD)) (isInt k (orM k x y)) fail
 | .xor=>cond (decide (k=aD)) (isInt k (qU .xor k x y)) fail
 | .andNot=>cond (decide (k=aD)) (isInt k (qU .andNot k x y)) fail
 | .eql=>cond (decide (k=aD)) (pure (.bool (.mkEq x y))) fail
 | .neq=>cond (decide (k=aD)) (pure (.bool (.mkNot (.mkEq x y)))) fail
 | .lss=>cond (decide (k=aD)) (pure (.bool (.mkLt x y))) fail
 | .leq=>cond (decide (k=aD)) (pure (.bool (.mkLe x y))) fail
 | .gtr=>cond (decide (k=aD)) (pure (.bool (.mkLt y x))) fail
 | .geq=>cond (decide (k=aD)) (pure (.bool (.mkLe y x))) fail
theorem jf {k:IntKind} {x:M aM} {R:Env->Nat->A->Prop} {v:Int} (h:ae S L x n ρ λaa n' q=>q.ok n' aa/\q.l.den aa=v)
 (hR:∀aa n' (q:aM),n<=n'->agree n ρ aa->q.ok n' aa->q.l.den aa=v->R aa n' (.int k q)):ae S L (isInt k x) n ρ R:=
 h.bind λaa n' q hn ha ⟨ho,he⟩=>ae.pure (hR aa n' q hn ha ho he)
theorem sq {x:aM} (hx:x.ok n ρ):ae S L (oA x) n ρ λaa n' q=>q.ok n' aa/\q.l=x.l/\q.hi=x.hi/\0<=q.lo/\x.l.den aa=x.l.den ρ:=by
 unfold oA
 cases h:decide (0<=x.lo)with
 |true=>exact ae.pure ⟨hx,rfl,rfl,of_decide_eq_true h,rfl⟩
 |false=>
  refine db λhk=>ae.pure ⟨⟨hx.1,?_,hx.2.2⟩,rfl,rfl,Int.le_refl _,rfl⟩
  simpa [aG,vN]using hk
theorem P0 {x y:aM} (hx:x.ok n ρ) (hy:y.ok n ρ):ae S L (Bf x y) n ρ λaa n' q=>q.ok n' aa/\q.l.den aa=x.l.den ρ*y.l.den ρ:=by
 unfold Bf
 split
 ·refine(sq hx).bind λak n1 dk cv bG ⟨et,ex,_,_,jS⟩=>(sq (hy.agree bG cv)).bind λaH cA fc bX bN ⟨AA,Lc,_,_,Ld⟩=>(Ha (et.agree bN bX) AA).mono λdg jg q _ _ ⟨h1,h2⟩=>⟨h1,?_⟩
  rw[h2,Lc,Ld,I.aP bG hy.1,I.aP bN et.1,ex,jS]
 ·exact Ha hx hy
theorem J9 {nb:Nat} {m:Nat->Nat} (P:Program) {op:BinOp} {k aD:IntKind} {x y:aM} (t:TypeId) (hx:x.ok n ρ) (hy:y.ok n ρ):
 ae S L (yA op k x aD y) n ρ λaa n' a=>a.ok n' nb aa/\∀w,(binOp op t (.int k (x.l.den ρ)) (.int aD (y.l.den ρ))).run P w= .ok (a.den aa m) w:=by
 have bc:∀s:Nat,(0:Int)<2^s:=λs=>by have:=Nat.two_pow_pos s;exact_mod_cast this
 cases op<;>simp only[yA]
 case shl=>
  cases hc:y.l.bQ with
  |none=>
   refine bR λh0=>?_
   simp only[Bool.and_eq_true,decide_eq_true_eq]at h0
   obtain⟨⟨⟨h1,h2⟩,h3⟩,h4⟩:=h0
   have pY:=hx.2;have oh:=hy.2
   have hp:=bc (y.l.den ρ).toNat
   have e1:(0:Int)<=x.l.den ρ*2^(y.l.den ρ).toNat:=Int.mul_nonneg (by omega) (Int.le_of_lt hp)
   have e2:x.l.den ρ*2^(y.l.den ρ).toNat<=x.hi*2^y.hi.toNat:=Int.mul_le_mul pY.2 (by
    have:=Nat.pow_le_pow_right (n:=2) (by decide) (show(y.l.den ρ).toNat<=y.hi.toNat by omega)
    exact_mod_cast this) (Int.le_of_lt hp) (by omega)
   have hf:ah 37 ([x.l,y.l].map (·.den ρ))=x.l.den ρ*2^(y.l.den ρ).toNat:=rfl
   refine jf (v:=x.l.den ρ*2^(y.l.den ρ).toNat) ((cS (by rw[hf];exact e1) (by rw[hf];exact e2)).bind λak n1 l _ _ ⟨g1,g2⟩=>ae.pure ⟨⟨g1,by simp only;rw[g2,hf];exact e1,by simp only;rw[g2,hf];exact e2⟩,by simp only;rw[g2,hf]⟩) λaa n' q _ _ ho he=>⟨ho,λw=>?_⟩
   simp only[A.den,he,binOp,Op.shift]
   have Ml:(y.l.den ρ).toNat<=k.bits∨x.l.den ρ=0:=by
    rcases Nat.le_total (y.l.den ρ).toNat k.bits with h|h
    ·exact .inl h
    ·refine .inr ?_
     have h5:x.l.den ρ*2^(y.l.den ρ).toNat<lim k:=by omega
     have h6:=w8 k
     rw[mF]at h6
     have h7:(2:Int)^k.bits<=2^(y.l.den ρ).toNat:=by
      have:=Nat.pow_le_pow_right (n:=2) (by decide) h
      exact_mod_cast this
     rcases Int.lt_or_le 0 (x.l.den ρ)with cz|cz
     ·have:(1:Int)*2^(y.l.den ρ).toNat<=x.l.den ρ*2^(y.l.den ρ).toNat:=Int.mul_le_mul_of_nonneg_right (by omega) (Int.le_of_lt hp)
      omega
     ·omega
   rw[if_neg (by omega)]
   rcases Ml with h|h
   ·rw[show min (y.l.den ρ).toNat k.bits=(y.l.den ρ).toNat by omega]
    simp[Cv e1 (show x.l.den ρ*2^(y.l.den ρ).toNat<lim k by omega)]
   ·have hw:k.wrap 0=0:=by cases k<;>decide
    simp[h,hw]
  |some c=>
   refine bR λh0=>?_
   simp only[decide_eq_true_eq]at h0
   have hp:=bc (min c.toNat k.bits)
   refine jf (oM (x:=⟨x.l.smul (2^min c.toNat k.bits),x.lo*2^min c.toNat k.bits,x.hi*2^min c.toNat k.bits⟩) ⟨I.oF hx.1,?_,?_⟩) λaa n' q _ _ ho he=>⟨ho,λw=>?_⟩
   ·simp only[I.gP];rw[Int.mul_comm];exact Int.mul_le_mul_of_nonneg_left hx.2.1 (Int.le_of_lt hp)
   ·simp only[I.gP];rw[Int.mul_comm x.hi];exact Int.mul_le_mul_of_nonneg_left hx.2.2 (Int.le_of_lt hp)
   ·simp only[A.den,he,I.gP,I.ej hc,binOp,Op.shift]
    rw[if_neg (by omega)]
    simp[Int.mul_comm]
 case shr=>
  cases hc:y.l.bQ with
  |some c=>
   refine bR λh0=>?_
   simp only[decide_eq_true_eq]at h0
   have hp:=bc (min c.toNat k.bits)
   refine jf ((tf hp hx).mono λ_ _ q _ _ h=>⟨h.1,h.2.1⟩) λaa n' q _ _ ho he=>⟨ho,λw=>?_⟩
   simp only[A.den,he,I.ej hc,binOp,Op.shift]
   rw[if_neg (by omega)]
   simp[Int.fdiv_eq_ediv_of_nonneg _ (Int.le_of_lt hp)]
  |none=>
   refine bR λh0=>?_
   simp only[Bool.and_eq_true,decide_eq_true_eq]at h0
   refine jf (Sd hx h0.1.1) λaa n' q _ _ ho he=>⟨ho,λw=>?_⟩
   have oh:=hy.2
   simp only[A.den,he,binOp,Op.shift]
   rw[if_neg (by omega),show min (y.l.den ρ).toNat k.bits=(y.l.den ρ).toNat by omega]
   simp[Int.fdiv_eq_ediv_of_nonneg _ (Int.le_of_lt (bc _))]
 case add=>
  refine bR λh0=>?_
  simp only[decide_eq_true_eq]at h0;subst h0
  have pY:=hx.2;have oh:=hy.2
  refine jf (oM (x:=⟨x.l.add y.l,x.lo+y.lo,x.hi+y.hi⟩) ⟨I.nD hx.1 hy.1,by simp only[I.den_add];omega,by simp only[I.den_add];omega⟩) λaa n' q _ _ ho he=>⟨ho,λw=>?_⟩
  simp[A.den,he,I.den_add,binOp,Op.intArith]
 case sub=>
  refine bR λh0=>?_
  simp only[decide_eq_true_eq]at h0;subst h0
  have pY:=hx.2;have oh:=hy.2
  refine jf (oM (x:=⟨x.l.sub y.l,x.lo-y.hi,x.hi-y.lo⟩) ⟨I.oG hx.1 hy.1,by simp only[I.gz];omega,by simp only[I.gz];omega⟩) λaa n' q _ _ ho he=>⟨ho,λw=>?_⟩
  simp[A.den,he,I.gz,binOp,Op.intArith]
 case mul=>
  refine bR λh0=>?_
  simp only[decide_eq_true_eq]at h0;subst h0
  refine jf (v:=k.wrap (x.l.den ρ*y.l.den ρ)) ((P0 hx hy).bind λak n1 p _ _ ⟨hp,ep⟩=>by rw[<-ep];exact oM hp) λaa n' q _ _ ho he=>⟨ho,λw=>?_⟩
  simp[A.den,he,binOp,Op.intArith]
 case quo=>
  cases hc:y.l.bQ with
  |none=>
   refine bR λh0=>(sq hx).bind λaY n0 dk iW ha0 ⟨et,ex,y3,ix,jS⟩=>db λhk=>?_
   have h0:=of_decide_eq_true h0
   subst h0
   simp only[List.map_cons,List.map_nil,aG]at hk
   have ui:=I.aP ha0 hy.1
   have pY:=et.2
   have e1:=Int.ediv_nonneg (show 0<=dk.l.den aY by omega) (Int.le_of_lt hk)
   have e3:dk.l.den aY/y.l.den aY<=dk.l.den aY:=by
    have h5:=Int.ediv_le_self (y.l.den aY) (show 0<=dk.l.den aY by omega)
    exact h5
   have dG:dk.l.den aY/y.l.den aY<=dk.hi:=by omega
   have hf:ah 76 ([dk.l,y.l].map (·.den aY))=dk.l.den aY/y.l.den aY:=rfl
   refine jf (v:=k.wrap (dk.l.den aY/y.l.den aY)) (((cS (by rw[hf];exact e1) (by rw[hf];exact dG)).bind λak n1 l _ _ ⟨g1,g2⟩=>ae.pure (R:=λaa n' (q:aM)=>q.ok n' aa/\q.l.den aa=dk.l.den aY/y.l.den aY) ⟨⟨g1,by simp only;rw[g2,hf];exact e1,by simp only;rw[g2,hf];exact dG⟩,by simp only;rw[g2,hf]⟩).bind λak n1 p _ _ ⟨hp,ep⟩=>by rw[<-ep];exact oM hp) λaa n' q _ _ ho he=>⟨ho,λw=>?_⟩
   simp only[A.den,he,binOp,Op.intDiv]
   have Oc:0<y.l.den ρ:=ui▸hk
   have hx0:0<=x.l.den ρ:=by rw[<-jS,<-ex];omega
   rw[ui,ex,jS,if_neg (by simp),if_neg (by omega),Int.tdiv_eq_ediv_of_nonneg hx0]
   simp
  |some c=>
   refine bR λh0=>(sq hx).bind λaY n0 dk iW ha0 ⟨et,ex,y3,ix,jS⟩=>?_
   simp only[Bool.and_eq_true,decide_eq_true_eq]at h0
   obtain⟨h0,h1⟩:=h0
   subst h0
   have pY:=et.2
   refine jf (v:=k.wrap (dk.l.den aY/c)) ((tf h1 et).bind λak n1 p _ _ ⟨hp,ep,_⟩=>by rw[<-ep];exact oM hp) λaa n' q _ _ ho he=>⟨ho,λw=>?_⟩
   have hx0:0<=x.l.den ρ:=by rw[<-jS,<-ex];omega
   simp only[A.den,he,I.ej hc,binOp,Op.intDiv]
   rw[ex,jS,if_neg (by simp),if_neg (by omega),Int.tdiv_eq_ediv_of_nonneg hx0]
   simp
 case rem=>
  cases hc:y.l.bQ with
  |none=>
   refine bR λh0=>(sq hx).bind λaY n0 dk iW ha0 ⟨et,ex,y3,ix,jS⟩=>db λhk=>?_
   have h0:=of_decide_eq_true h0
   subst h0
   simp only[List.map_cons,List.map_nil,aG]at hk
   have ui:=I.aP ha0 hy.1
   have pY:=et.2;have oh:=(hy.agree ha0 iW).2
   have e1:=Int.emod_nonneg (dk.l.den aY) (show y.l.den aY≠0 by omega)
   have e2:=Int.emod_lt_of_pos (dk.l.den aY) hk
   have e3:dk.l.den aY% y.l.den aY<=dk.l.den aY:=by
    have h5:=Int.mul_ediv_add_emod (dk.l.den aY) (y.l.den aY)
    have h6:=Int.mul_nonneg (Int.le_of_lt hk) (Int.ediv_nonneg (show 0<=dk.l.den aY by omega) (Int.le_of_lt hk))
    omega
   have hf:ah 38 ([dk.l,y.l].map (·.den aY))=dk.l.den aY% y.l.den aY:=rfl
   have dG:dk.l.den aY% y.l.den aY<=cond (decide (y.hi-1<=dk.hi)) (y.hi-1) dk.hi:=by
    cases decide (y.hi-1<=dk.hi)with
    |true=>simp only[cond_true];omega
    |false=>simp only[cond_false];omega
   refine jf (v:=dk.l.den aY% y.l.den aY) ((cS (by rw[hf];exact e1) (by rw[hf];exact dG)).bind λak n1 l _ _ ⟨g1,g2⟩=>ae.pure ⟨⟨g1,by simp only;rw[g2,hf];exact e1,by simp only;rw[g2,hf];exact dG⟩,by simp only;rw[g2,hf]⟩) λaa n' q _ _ ho he=>⟨ho,λw=>?_⟩
   simp only[A.den,he,binOp,Op.intDiv]
   have Oc:0<y.l.den ρ:=ui▸hk
   have hx0:0<=x.l.den ρ:=by rw[<-jS,<-ex];omega
   rw[ui,ex,jS,if_neg (by simp),if_neg (by omega),Int.tmod_eq_emod_of_nonneg hx0]
   simp
  |some c=>
   refine bR λh0=>(sq hx).bind λaY n0 dk iW ha0 ⟨et,ex,y3,ix,jS⟩=>?_
   simp only[Bool.and_eq_true,decide_eq_true_eq]at h0
   obtain⟨h0,h1⟩:=h0
   subst h0
   have pY:=et.2
   refine jf (G9 h1 et) λaa n' q _ _ ho he=>⟨ho,λw=>?_⟩
   have hx0:0<=x.l.den ρ:=by rw[<-jS,<-ex];omega
   simp only[A.den,he,I.ej hc,binOp,Op.intDiv]
   rw[ex,jS,if_neg (by simp),if_neg (by omega),Int.tmod_eq_emod_of_nonneg hx0]
   simp
 case and=>
  refine bR λh0=>?_
  simp only[decide_eq_true_eq]at h0;subst h0
  refine jf (JY hx hy) λaa n' q _ _ ho he=>⟨ho,λw=>?_⟩
  simp[A.den,he,binOp,Op.intBits,eM]
 case or=>
  refine bR λh0=>?_
  simp only[decide_eq_true_eq]at h0;subst h0
  refine jf (QL hx hy) λaa n' q _ _ ho he=>⟨ho,λw=>?_⟩
  simp[A.den,he,binOp,Op.intBits,eM]
 case xor=>
  refine bR λh0=>?_
  simp only[decide_eq_true_eq]at h0;subst h0
  refine jf vA λaa n' q _ _ ho he=>⟨ho,λw=>?_⟩
  simp[A.den,he,binOp,Op.intBits,eM]
 case andNot=>
  refine bR λh0=>?_
  simp only[decide_eq_true_eq]at h0;subst h0
  refine jf vA λaa n' q _ _ ho he=>⟨ho,λw=>?_⟩
  simp[A.den,he,binOp,Op.intBits,eM]
 all_goals
  refine bR λh0=>?_
  simp only[decide_eq_true_eq]at h0;subst h0
  have e1:=aC.ky hx hy
  have e2:=aC.vU hx hy
  have e3:=aC.D9 hx hy
  have dG:=aC.vU hy hx
  have l6:=aC.D9 hy hx
  refine ae.pure ⟨?_,λw=>?_⟩
  ·first|exact e1.2|exact aC.mz e1.2|exact e2.2|exact e3.2|exact dG.2|exact l6.2
  ·simp[A.den,aC.l3,e1.1,e2.1,e3.1,dG.1,l6.1,binOp,Op.intCmp]
   try rfl
end
end Go.aZ
namespace Go.aZ
open M
abbrev af:=List A×(TypeId×Bool)
abbrev cF:=List (Nat×List (IntKind×Int))
structure b5 where
 b:World
 r:World
 ex:Nat->Prop
 ro:Nat->Prop
 ds:List Deferred
def bj:List A->Bool
 |[.rows _ _ _ _ _]=>false
 |_=>true
noncomputable def aE (ρ:Env):List A->Nat
 |[.rows _ _ _ cap k]=>if cap.den ρ<0 then 0 else k
 |_=>2
def aR:List ag->List Int->Prop
 |[],[]=>True
 |c::sh,z::r=>(c.cn.1<=z/\z<=c.cn.2)/\aR sh r
 |_,_=>False
def bM:List ag->List Int->List Value
 |c::sh,z::r=>c.val z::bM sh r
 |_,_=>[]
def bz (sh:List ag) (rows:List (List Int)):List Value:=rows.flatMap (bM sh)
def jk (cells:Array Value) (off:Nat) (sh:List ag) (rows:List (List Int)):Prop:=
 (∀row∈rows,aR sh row)/\∃pre post,cells.toList=pre++bz sh rows++post/\pre.length=off
theorem aR.len:∀{sh:List ag} {row:List Int},aR sh row->row.length=sh.length
 |[],[],_=>rfl
 |_::_,_::_,h=>by simp[aR.len h.2]
 |[],_::_,h=>h.elim
 |_::_,[],h=>h.elim
theorem aR.get:∀{sh:List ag} {row:List Int} {j:Nat} {c:ag},aR sh row->sh[j]?=some c->∃z,row[j]?=some z/\c.cn.1<=z/\z<=c.cn.2/\(bM sh row)[j]?=some (c.val z)
 |c'::sh,z::r,0,c,h,hc=>by
  simp only[List.getElem?_cons_zero,Option.some.injEq]at hc
  subst hc
  exact⟨z,rfl,h.1.1,h.1.2,rfl⟩
 |c'::sh,z::r,j+1,c,h,hc=>aR.get (sh:=sh) (row:=r) (j:=j) h.2 (by simpa using hc)
 |[],_,_,_,_,hc=>by simp at hc
 |_::_,[],_,_,h,_=>h.elim
theorem uU:∀{sh:List ag} {row:List Int},aR sh row->(bM sh row).length=sh.length
 |[],[],_=>rfl
 |_::_,_::_,h=>by simp[bM,uU h.2]
 |[],_::_,h=>h.elim
 |_::_,[],h=>h.elim
theorem kA {sh:List ag}:∀{rows:List (List Int)},(∀row∈rows,aR sh row)->(bz sh rows).length=rows.length*sh.length
 |[],_=>by simp[bz]
 |r::rs,h=>by
  have ih:=kA (rows:=rs) λrow hr=>h row (List.mem_cons_of_mem _ hr)
  have h1:=uU (h r (by simp))
  simp only[bz,List.flatMap_cons,List.length_append,List.length_cons]at ih⊢
  rw[ih,h1,Nat.succ_mul];omega
theorem ze {sh:List ag}:∀{rows:List (List Int)} {i j:Nat} {row:List Int} {v:Value},(∀row∈rows,aR sh row)->rows[i]?=some row->(bM sh row)[j]?=some v->(bz sh rows)[i*sh.length+j]?=some v
 |r::rs,0,j,row,v,h,hi,hj=>by
  simp only[List.getElem?_cons_zero,Option.some.injEq]at hi
  subst hi
  have hlt:=(List.getElem?_eq_some_iff.1 hj).1
  simp only[bz,List.flatMap_cons,Nat.zero_mul,Nat.zero_add]
  rw[List.getElem?_append_left hlt];exact hj
 |r::rs,i+1,j,row,v,h,hi,hj=>by
  have ih:=ze (rows:=rs) (i:=i) (λrow hr=>h row (List.mem_cons_of_mem _ hr)) (by simpa using hi) hj
  have h1:=uU (h r (by simp))
  simp only[bz,List.flatMap_cons]at ih⊢
  rw[List.getElem?_append_right (by rw[h1,Nat.succ_mul];omega),h1,Nat.succ_mul]
  rw[show i*sh.length+sh.length+j-sh.length=i*sh.length+j by omega];exact ih
 |[],i,_,_,_,_,hi,_=>by simp at hi
theorem rm (sh:List ag) (a b:List (List Int)):bz sh (a++b)=bz sh a++bz sh b:=by simp[bz]
def iL (F:Nat->Prop) (w:World) (sh:List ag) (rows:List (List Int)) (v:Value):Prop:=
 ((∃p,v= .slice p 0 0)/\rows=[])∨∃(g o cap:Nat) (cells:Array Value) (t:TypeId) (fz:Nat×Nat),v= .slice (some ⟨g,o,none⟩) rows.length cap/\(rows.length<=cap/\(cap:Int)<=9223372036854775807/\rows.length<=140737488351232)/\F g/\w.heap[g]?=some (.cells cells t fz)/\jk cells o sh rows
def mU (F:Nat->Prop) (w:World):ag->Int->Value->Prop
 | .sub k,z,v=>iL F w (eK k) (ab z) v
 |c,z,v=>v=c.val z
def cL (F:Nat->Prop) (w:World):List ag->List Int->List Value->Prop
 |[],[],[]=>True
 |c::sh,z::r,v::vs=>mU F w c z v/\cL F w sh r vs
 |_,_,_=>False
def cZ (F:Nat->Prop) (w:World) (sh:List ag):List (List Int)->List Value->Prop
 |[],vs=>vs=[]
 |row::rows,vs=>∃a b,vs=a++b/\cL F w sh row a/\cZ F w sh rows b
def eW (F:Nat->Prop) (w:World) (cells:Array Value) (off:Nat) (sh:List ag) (rows:List (List Int)):Prop:=
 (∀row∈rows,aR sh row)/\∃pre vs post,cells.toList=pre++vs++post/\pre.length=off/\cZ F w sh rows vs
def Fr (F:Nat->Prop) (w:World) (F':Nat->Prop) (w':World):Prop:=∀g,F g->∀o,w.heap[g]?=some o->F' g/\w'.heap[g]?=some o
theorem Fr.of {F F':Nat->Prop} (w:World) (h:∀g,F g->F' g):Fr F w F' w:=λg hg o ho=>⟨h g hg,ho⟩
theorem Fr.trans {F F' C2:Nat->Prop} {w w' gw:World} (h:Fr F w F' w') (h':Fr F' w' C2 gw):Fr F w C2 gw:=λg hg o ho=>by
 obtain⟨h1,h2⟩:=h g hg o ho
 exact h' g h1 o h2
theorem Fr.ext {F F':Nat->Prop} {w w':World} (h:∀g,F g->F' g) (he:w.Extends w'):Fr F w F' w':=λg hg o ho=>⟨h g hg,by rw[he.block g (Array.getElem?_eq_some_iff.1 ho).1];exact ho⟩
theorem iL.mono {F F':Nat->Prop} {w w':World} {sh:List ag} {rows:List (List Int)} {v:Value} (h:iL F w sh rows v) (hf:Fr F w F' w'):iL F' w' sh rows v:=by
 rcases h with h|⟨g,o,cap,cells,t,fz,h1,h2,h3,h4,h5⟩
 ·exact .inl h
 ·obtain⟨k1,k2⟩:=hf g h3 _ h4
  exact .inr ⟨g,o,cap,cells,t,fz,h1,h2,k1,k2,h5⟩
theorem mU.mono {F F':Nat->Prop} {w w':World} {c:ag} {z:Int} {v:Value} (h:mU F w c z v) (hf:Fr F w F' w'):mU F' w' c z v:=by
 cases c with
 |sub k=>exact iL.mono (F:=F) (w:=w) h hf
 |_=>exact h
theorem cL.mono {F F':Nat->Prop} {w w':World} (hf:Fr F w F' w'):∀{sh:List ag} {row:List Int} {vs:List Value},cL F w sh row vs->cL F' w' sh row vs
 |[],[],[],_=>trivial
 |c::sh,z::r,v::vs,h=>⟨h.1.mono hf,cL.mono hf h.2⟩
 |[],_::_,_,h=>h.elim
 |[],[],_::_,h=>h.elim
 |_::_,[],_,h=>h.elim
 |_::_,_::_,[],h=>h.elim
theorem cZ.mono {F F':Nat->Prop} {w w':World} (hf:Fr F w F' w') {sh:List ag}:∀{rows:List (List Int)} {vs:List Value},cZ F w sh rows vs->cZ F' w' sh rows vs
 |[],_,h=>h
 |row::rows,vs,h=>by
  obtain⟨a,b,h1,h2,h3⟩:=h
  exact⟨a,b,h1,h2.mono hf,cZ.mono hf h3⟩
theorem eW.mono {F F':Nat->Prop} {w w':World} {cells:Array Value} {off:Nat} {sh:List ag} {rows:List (List Int)} (h:eW F w cells off sh rows) (hf:Fr F w F' w'):eW F' w' cells off sh rows:=by
 obtain⟨h1,pre,vs,post,h2,h3,h4⟩:=h
 exact⟨h1,pre,vs,post,h2,h3,h4.mono hf⟩
theorem cL.len {F:Nat->Prop} {w:World}:∀{sh:List ag} {row:List Int} {vs:List Value},cL F w sh row vs->vs.length=sh.length
 |[],[],[],_=>rfl
 |c::sh,z::r,v::vs,h=>by simp[cL.len h.2]
 |[],_::_,_,h=>h.elim
 |[],[],_::_,h=>h.elim
 |_::_,[],_,h=>h.elim
 |_::_,_::_,[],h=>h.elim
theorem cZ.len {F:Nat->Prop} {w:World} {sh:List ag}:∀{rows:List (List Int)} {vs:List Value},cZ F w sh rows vs->vs.length=rows.length*sh.length
 |[],vs,h=>by
  have h:vs=[]:=h
  simp[h]
 |row::rows,vs,h=>by
  obtain⟨a,b,rfl,h2,h3⟩:=h
  have h4:=h2.len
  have h5:=cZ.len h3
  rw[List.length_append,h4,h5,List.length_cons,Nat.succ_mul,Nat.add_comm]
theorem uS {F:Nat->Prop} {w:World}:∀{sh:List ag} {row:List Int} {vs:List Value},eJ sh=true->aR sh row->(cL F w sh row vs↔vs=bM sh row)
 |[],[],[],_,_=>⟨λ_=>rfl,λ_=>trivial⟩
 |[],[],_::_,_,_=>⟨λh=>h.elim,λh=>by cases h⟩
 |c::sh,z::r,[],_,_=>⟨λh=>h.elim,λh=>by cases h⟩
 |c::sh,z::r,v::vs,hp,hr=>by
  have hp:(c.plain&&sh.all ag.plain)=true:=hp
  simp only[Bool.and_eq_true]at hp
  have ih:=uS (F:=F) (w:=w) (vs:=vs) hp.2 hr.2
  have hc:mU F w c z v↔v=c.val z:=by
   cases c with
   |sub k=>cases hp.1
   |_=>exact Iff.rfl
  simp only[cL,bM,List.cons.injEq,hc,ih]
 |[],_::_,_,_,h=>h.elim
 |_::_,[],_,_,h=>h.elim
theorem xF {F:Nat->Prop} {w:World} {sh:List ag} (hp:eJ sh=true):∀{rows:List (List Int)} {vs:List Value},(∀row∈rows,aR sh row)->(cZ F w sh rows vs↔vs=bz sh rows)
 |[],vs,_=>by simp[cZ,bz]
 |row::rows,vs,h=>by
  have ih:=λb=>xF (F:=F) (w:=w) hp (vs:=b) λr hr=>h r (List.mem_cons_of_mem _ hr)
  have h0:=h row (by simp)
  refine⟨λ⟨a,b,h1,h2,h3⟩=>?_,λh1=>⟨bM sh row,bz sh rows,by rw[h1];rfl,(uS hp h0).2 rfl,(ih _).2 rfl⟩⟩
  rw[h1,(uS hp h0).1 h2,(ih b).1 h3];rfl
theorem hM {F:Nat->Prop} {w:World} {cells:Array Value} {off:Nat} {sh:List ag} {rows:List (List Int)} (hp:eJ sh=true):eW F w cells off sh rows↔jk cells off sh rows:=
 ⟨λ⟨h1,pre,vs,post,h2,h3,h4⟩=>⟨h1,pre,post,by rw[h2,(xF hp h1).1 h4],h3⟩,λ⟨h1,pre,post,h2,h3⟩=>⟨h1,pre,bz sh rows,post,h2,h3,(xF hp h1).2 rfl⟩⟩
theorem cL.get {F:Nat->Prop} {w:World}:∀{sh:List ag} {row:List Int} {vs:List Value} {j:Nat} {c:ag},cL F w sh row vs->sh[j]?=some c->∃z v,row[j]?=some z/\vs[j]?=some v/\mU F w c z v
 |c'::sh,z::r,v::vs,0,c,h,hc=>by
  simp only[List.getElem?_cons_zero,Option.some.injEq]at hc
  subst hc
  exact⟨z,v,rfl,rfl,h.1⟩
 |c'::sh,z::r,v::vs,j+1,c,h,hc=>cL.get (sh:=sh) (row:=r) (vs:=vs) (j:=j) h.2 (by simpa using hc)
 |[],_,_,_,_,_,hc=>by simp at hc
 |_::_,[],_,_,_,h,_=>h.elim
 |_::_,_::_,[],_,_,h,_=>h.elim
theorem cZ.get {F:Nat->Prop} {w:World} {sh:List ag}:∀{rows:List (List Int)} {vs:List Value} {i:Nat} {row:List Int},cZ F w sh rows vs->rows[i]?=some row->cL F w sh row ((vs.drop (i*sh.length)).take sh.length)
 |r::rs,vs,0,row,h,hi=>by
  simp only[List.getElem?_cons_zero,Option.some.injEq]at hi
  subst hi
  obtain⟨a,b,rfl,h2,h3⟩:=h
  rw[Nat.zero_mul,List.drop_zero,<-h2.len,List.take_left]
  exact h2
 |r::rs,vs,i+1,row,h,hi=>by
  obtain⟨a,b,rfl,h2,h3⟩:=h
  have ih:=cZ.get (i:=i) h3 (by simpa using hi)
  rw[Nat.succ_mul,Nat.add_comm,<-List.drop_drop,<-h2.len,List.drop_left,h2.len]
  exact ih
 |[],_,_,_,_,hi=>by simp at hi
theorem oD {F:Nat->Prop} {w:World} {sh:List ag}:∀{r1 r2:List (List Int)} {v1 v2:List Value},cZ F w sh r1 v1->cZ F w sh r2 v2->cZ F w sh (r1++r2) (v1++v2)
 |[],r2,v1,v2,h1,h2=>by
  have h1:v1=[]:=h1
  subst h1;exact h2
 |r::r1,r2,v1,v2,h1,h2=>by
  obtain⟨a,b,rfl,k1,k2⟩:=h1
  exact⟨a,b++v2,by simp,k1,oD k2 h2⟩
theorem cZ.split {F:Nat->Prop} {w:World} {sh:List ag}:∀{rows:List (List Int)} {vs:List Value} (k:Nat),cZ F w sh rows vs->cZ F w sh (rows.take k) (vs.take (k*sh.length))/\cZ F w sh (rows.drop k) (vs.drop (k*sh.length))
 |rows,vs,0,h=>by simpa [cZ]using h
 |[],vs,k+1,h=>by
  have h:vs=[]:=h
  subst h
  simp[cZ]
 |r::rs,vs,k+1,h=>by
  obtain⟨a,b,rfl,h2,h3⟩:=h
  obtain⟨k1,k2⟩:=h3.split k
  have e:=h2.len
  have e2:(k+1)*sh.length=a.length+k*sh.length:=by rw[Nat.succ_mul,e,Nat.add_comm]
  rw[e2,List.take_length_add_append,List.drop_length_add_append]
  exact⟨⟨a,_,rfl,h2,k1⟩,k2⟩
def mL (kind:Nat) (fz:Nat×Nat) (n:Nat):Prop:=(kind=2/\fz=(0,0))∨(kind≠2/\fz=(n,n+1))
theorem mL.two {fz:Nat×Nat} {n:Nat} (h:mL 2 fz n):fz=(0,0):=by
 rcases h with h|h
 ·exact h.2
 ·exact absurd rfl h.1
theorem mL.uA {n:Nat}:mL 2 (0,0) n:= .inl ⟨rfl,rfl⟩
def eD (w0:b5) (ρ:Env) (F:Nat->Prop) (g:Nat) (sh:List ag) (off code cap:I) (kind:Nat) (t:TypeId) (w:World):Prop:=
 kind≠0->(cap.den ρ<0->ab (code.den ρ)=[])/\(0<=cap.den ρ->(w0.ex g∨w0.ro g∨w0.r.heap.size<=g)/\∃cells t' fz,w.heap[g]?=some (.cells cells t' fz)/\(0<=off.den ρ/\eW F w cells (off.den ρ).toNat sh (ab (code.den ρ)))/\
  (2<=kind->t'=t/\off.den ρ=0/\mL kind fz cells.size/\cells.size=(cap.den ρ).toNat*sh.length/\w0.b.heap.size<=g/\(w0.ex g∨w0.r.heap.size<=g)))
def a7 (w0:b5) (ρ:Env) (m:Nat->Nat) (bl:List af) (g:Nat):Prop:=
 (w0.ex g∨w0.ro g∨w0.r.heap.size<=g)/\∀(i:Nat) (p:af),bl[i]?=some p->2<=aE ρ p.1->m i≠g
structure Mem (w0:b5) (ρ:Env) (m:Nat->Nat) (bl:List af) (w:World):Prop where
 ext:w0.b.Extends w
 fD:w.os=w0.r.os
 jb:w.tape=w0.r.tape
 iY:w.output=w0.r.output
 eG:w0.r.heap.size<=w.heap.size
 iS:∀i:Nat,i<w0.r.heap.size->¬w0.ex i->w.heap[i]?=w0.r.heap[i]?
 c9:∀(i:Nat) (cs:List A) (t:TypeId×Bool),bl[i]?=some (cs,t)->bj cs=true->w0.b.heap.size<=m i/\(w0.ex (m i)∨w0.r.heap.size<=m i)/\∃r:List Value,(t.2=false->r=[])/\w.heap[m i]?=some (.cells (cs.map (A.den ρ m)++r).toArray t.1 (0,0))
 rws:∀(i:Nat) (sh:List ag) (off code cap:I) (kind:Nat) (t:TypeId×Bool),bl[i]?=some ([.rows sh off code cap kind],t)->eD w0 ρ (a7 w0 ρ m bl) (m i) sh off code cap kind t.1 w
 inj:∀(i j:Nat) (p q:af),bl[i]?=some p->bl[j]?=some q->m i=m j->i=j∨(aE ρ p.1<=1/\aE ρ q.1<=1)∨aE ρ p.1=0∨aE ρ q.1=0
theorem Mem.lt {w0:b5} {ρ:Env} {m:Nat->Nat} {bl:List af} {w:World} (h:Mem w0 ρ m bl w) {i:Nat} {p:af} (hi:bl[i]?=some p) (hk:aE ρ p.1≠0):m i<w.heap.size:=by
 obtain⟨cs,t⟩:=p
 by_cases ho:bj cs=true
 ·obtain⟨_,_,r,_,h2⟩:=h.c9 i cs t hi ho
  exact(Array.getElem?_eq_some_iff.1 h2).1
 ·unfold bj at ho
  split at ho
  ·rename_i sh off code cap k
   simp only[aE]at hk
   split at hk
   ·exact absurd rfl hk
   ·rename_i bp
    obtain⟨_,cells,t',fz,h2,_⟩:=(h.rws i _ _ _ _ _ t hi hk).2 (by omega)
    exact(Array.getElem?_eq_some_iff.1 h2).1
  ·exact absurd rfl ho
theorem iC {ρ:Env} {cs:List A} (h:bj cs=true):aE ρ cs=2:=by
 unfold bj at h
 unfold aE
 split<;>simp_all
def bm (n nb:Nat) (ρ:Env) (bl:List af):Prop:=∀p∈bl,∀a∈p.1,A.ok n nb ρ a
def ey (gl:cF) (w0:b5):Prop:=∀g cs,(g,cs)∈gl->g<w0.b.heap.size/\∃t mZ,w0.b.heap[g]?=some (.cells (cs.map λp=>Value.int p.1 p.2).toArray t mZ)
theorem bm.ext {n n' nb e7:Nat} {ρ aa:Env} {bl:List af} (h:bm n nb ρ bl) (ha:agree n ρ aa) (hn:n<=n') (hb:nb<=e7):bm n' e7 aa bl:=
 λp hp a h'=>(h p hp a h').ext ha hn hb
theorem eD.cK {w0:b5} {n nb:Nat} {ρ aa:Env} {F:Nat->Prop} {g:Nat} {sh:List ag} {off code cap:I} {kind:Nat} {t:TypeId} {w:World} (h:eD w0 ρ F g sh off code cap kind t w) (aK:(A.rows sh off code cap kind).ok n nb ρ) (ha:agree n ρ aa):eD w0 aa F g sh off code cap kind t w:=by
 unfold eD at*
 rw[I.aP ha aK.1.1,I.aP ha aK.1.2.1,I.aP ha aK.1.2.2]
 exact h
theorem eD.grow {w0:b5} {ρ:Env} {F F':Nat->Prop} {g:Nat} {sh:List ag} {off code cap:I} {kind:Nat} {t:TypeId} {w w':World} (h:eD w0 ρ F g sh off code cap kind t w) (hf:Fr F w F' w') (he:kind≠0->0<=cap.den ρ->w'.heap[g]?=w.heap[g]?):eD w0 ρ F' g sh off code cap kind t w':=by
 intro hk
 obtain⟨h1,h2⟩:=h hk
 refine⟨h1,λhc=>?_⟩
 rw[he hk hc]
 obtain⟨h3,cells,t',fz,h4,⟨h5,h6⟩,h7⟩:=h2 hc
 exact⟨h3,cells,t',fz,h4,⟨h5,h6.mono hf⟩,h7⟩
theorem eD.mono {w0:b5} {ρ:Env} {F F':Nat->Prop} {g:Nat} {sh:List ag} {off code cap:I} {kind:Nat} {t:TypeId} {w:World} (h:eD w0 ρ F g sh off code cap kind t w) (hf:∀g,F g->F' g):eD w0 ρ F' g sh off code cap kind t w:=
 h.grow (Fr.of w hf) λ_ _=>rfl
theorem a7.mono {w0:b5} {ρ aa:Env} {m m':Nat->Nat} {bl az:List af} (h:∀(i:Nat) (p:af),az[i]?=some p->2<=aE aa p.1->∃j q,bl[j]?=some q/\2<=aE ρ q.1/\m j=m' i):∀g,a7 w0 ρ m bl g->a7 w0 aa m' az g:=λg ⟨h1,h2⟩=>⟨h1,λi p hi hk=>by
 obtain⟨j,q,hj,hq,he⟩:=h i p hi hk
 rw[<-he];exact h2 j q hj hq⟩
theorem hY {n nb:Nat} {ρ aa:Env} {cs:List A} (aK:∀a∈cs,A.ok n nb ρ a) (ha:agree n ρ aa):aE aa cs=aE ρ cs:=by
 unfold aE
 split
 ·rename_i sh off code cap k
  have h1:A.ok n nb ρ (.rows sh off code cap k):=aK _ (by simp)
  rw[I.aP ha h1.1.2.2]
 ·rfl
theorem agree.sym {n:Nat} {ρ aa:Env} (h:agree n ρ aa):agree n aa ρ:=λi hi=>(h i hi).symm
theorem Mem.cK {w0:b5} {n:Nat} {ρ aa:Env} {m:Nat->Nat} {bl:List af} {w:World} (h:Mem w0 ρ m bl w) (hb:bm n bl.length ρ bl) (ha:agree n ρ aa):Mem w0 aa m bl w:=
 ⟨h.ext,h.fD,h.jb,h.iY,h.eG,h.iS,λi cs t hi ho=>by
  obtain⟨h1,h2,r,hr,h3⟩:=h.c9 i cs t hi ho
  exact⟨h1,h2,r,hr,by rw[jA (hb _ (List.mem_of_getElem? hi)) ha (λ_ _=>rfl)];exact h3⟩,
  λi sh off code cap kind t hi=>((h.rws i sh off code cap kind t hi).cK (hb _ (List.mem_of_getElem? hi) _ (by simp)) ha).mono (a7.mono λi p hi hk=>⟨i,p,hi,by rw[hY (hb _ (List.mem_of_getElem? hi)) ha]at hk;exact hk,rfl⟩),λi j p q hi hj he=>by
   rw[hY (hb _ (List.mem_of_getElem? hi)) ha,hY (hb _ (List.mem_of_getElem? hj)) ha]
   exact h.inj i j p q hi hj he⟩
theorem e6 {ρ:Env} {sh:List ag} {off code cap:I} {k:Nat} (hk:k≠0) (hc:0<=cap.den ρ):aE ρ [.rows sh off code cap k]=k:=by
 simp only[aE]
 rw[if_neg (by omega)]
theorem Mem.grow {w0:b5} {ρ:Env} {m:Nat->Nat} {bl:List af} {w w':World} (h:Mem w0 ρ m bl w) (he:w.Extends w'):Mem w0 ρ m bl w':=
 ⟨h.ext.trans he,he.os.trans h.fD,he.tape.trans h.jb,he.output.trans h.iY,Nat.le_trans h.eG he.size,λi hi hx=>(he.block i (Nat.lt_of_lt_of_le hi h.eG)).trans (h.iS i hi hx),λi cs t hi ho=>by
  obtain⟨h1,h2,r,hr,h3⟩:=h.c9 i cs t hi ho
  exact⟨h1,h2,r,hr,by rw[he.block _ (h.lt hi (by rw[iC ho];decide))];exact h3⟩,λi sh off code cap kind t hi=>(h.rws i sh off code cap kind t hi).grow (Fr.ext (λ_ h=>h) he) λhk hc=>he.block _ (h.lt hi (by simp only[e6 hk hc];exact hk)),h.inj⟩
theorem Mem.ne {w0:b5} {ρ:Env} {m:Nat->Nat} {bl:List af} {w:World} (h:Mem w0 ρ m bl w) {i j:Nat} {p q:af} (hi:bl[i]?=some p) (hj:bl[j]?=some q) (hp:2<=aE ρ p.1) (hq:aE ρ q.1≠0) (hne:i≠j):m i≠m j:=λe=>by
 rcases h.inj i j p q hi hj e with h|h|h|h
 ·exact hne h
 ·omega
 ·omega
 ·exact hq h
def bS (n nb:Nat) (ρ:Env) (m:Nat->Nat) (tm:List V) (tmps:Array Value):Prop:=
 tm.length=tmps.size/\∀(i:Nat) (v:V),tm[i]?=some v->v.ok n nb ρ/\∃x,tmps[i]?=some x/\v.rel ρ m x
theorem bS.ext {n n' nb e7:Nat} {ρ aa:Env} {m m':Nat->Nat} {tm:List V} {tmps:Array Value} (h:bS n nb ρ m tm tmps) (ha:agree n ρ aa) (hn:n<=n') (hb:nb<=e7) (hm:∀b,b<nb->m' b=m b):bS n' e7 aa m' tm tmps:=
 ⟨h.1,λi v hv=>by obtain⟨h1,x,h2,h3⟩:=h.2 i v hv;exact⟨h1.ext ha hn hb,x,h2,h3.ext h1 ha hm⟩⟩
def lL:List V->Nat->V->List V
 |[],_,_=>[]
 |_::r,0,v=>v::r
 |x::r,i+1,v=>x::lL r i v
theorem B1:∀(l:List V) (i:Nat) (v:V),lL l i v=l.set i v
 |[],_,_=>rfl
 |_::_,0,_=>rfl
 |_::r,i+1,v=>by simp[lL,B1 r i v]
def cD (tm:List V) (d:Option Tmp) (v:V):List V:=match d with|some d=>lL tm d v|none=>tm
theorem bS.put {n nb:Nat} {ρ:Env} {m:Nat->Nat} {tm:List V} {a:Act} {v:V} {x:Value} (h:bS n nb ρ m tm a.tmps) (d:Option Tmp) (hv:v.ok n nb ρ) (hx:v.rel ρ m x):bS n nb ρ m (cD tm d v) (a.put d x).tmps:=by
 cases d with
 |none=>exact h
 |some d=>
  simp only[cD,Act.put,B1]
  refine⟨by simp[h.1],λi u hu=>?_⟩
  rw[List.getElem?_set]at hu
  by_cases hd:d=i
  ·subst hd
   simp only[if_true]at hu
   split at hu
   ·rename_i hlt
    simp only[Option.some.injEq]at hu
    subst hu
    exact⟨hv,x,by simp[<-h.1,hlt],hx⟩
   ·cases hu
  ·rw[if_neg hd]at hu
   obtain⟨h1,y,h2,h3⟩:=h.2 i u hu
   exact⟨h1,y,by rw[Array.getElem?_setIfInBounds_ne (by omega)];exact h2,h3⟩
def rb:Value->Option A
 | .int k n=>some (.int k (.const n))
 | .bool b=>some (.bool (.lit b))
 | .string s=>cond (Nat.ble s.size 1000000) (some (.str (.const (dz s.data.toList)))) none
 |v=>cond v.oneCell' (some (.con v)) none
theorem DX {v:Value} {a:A} (h:rb v=some a) (n nb:Nat) (ρ:Env) (m:Nat->Nat):a.ok n nb ρ/\a.den ρ m=v:=by
 unfold rb at h
 split at h
 ·simp only[Option.some.injEq]at h;subst h;exact⟨aM.hP _ _ _,by simp[A.den,aM.const,I.ay]⟩
 ·simp only[Option.some.injEq]at h;subst h;exact⟨trivial,rfl⟩
 ·rename_i s
  cases hc:Nat.ble s.size 1000000 with
  |false=>simp[hc]at h
  |true=>
   simp only[hc,cond_true,Option.some.injEq]at h
   subst h
   have hl:s.data.toList.length<=eu:=by
    have:=Nat.le_of_ble_eq_true hc
    have h2:s.data.toList.length=s.size:=by simp
    unfold eu;omega
   refine⟨⟨I.br _ _,by rw[I.ay];exact ku _,by rw[I.ay];exact jI hl⟩,?_⟩
   simp[A.den,I.ay,gu,aF]
 ·cases hc:v.oneCell' with
  |false=>simp[hc]at h
  |true=>simp only[hc,cond_true,Option.some.injEq]at h;subst h;exact⟨hc,rfl⟩
def mV:List Value->Option (List A)
 |[]=>some []
 |v::r=>match rb v,mV r with|some a,some l=>some (a::l)|_,_=>none
theorem mW:∀{vs:List Value} {l:List A},mV vs=some l->∀(n nb:Nat) (ρ:Env) (m:Nat->Nat),(∀a∈l,A.ok n nb ρ a)/\l.map (A.den ρ m)=vs
 |[],l,h,n,nb,ρ,m=>by simp[mV]at h;subst h;simp
 |v::r,l,h,n,nb,ρ,m=>by
  simp only[mV]at h
  cases h1:rb v with
  |none=>simp[h1]at h
  |some a=>
   cases h2:mV r with
   |none=>simp[h1,h2]at h
   |some aT=>
    simp only[h1,h2,Option.some.injEq]at h
    subst h
    have e1:=DX h1 n nb ρ m
    have e2:=mW h2 n nb ρ m
    exact⟨λa ha=>by rcases List.mem_cons.1 ha with rfl|ha;exact e1.1;exact e2.1 a ha,by simp[e1.2,e2.2]⟩
def vQ:Value->V
 | .agg cs=>match mV cs.toList with|some l=> .w (.agg l)|none=> .any
 | .tuple _=> .any
 |v=>match rb v with|some a=> .w (.one a)|none=> .any
theorem KF (v:Value) (n nb:Nat) (ρ:Env) (m:Nat->Nat):(vQ v).ok n nb ρ/\(vQ v).rel ρ m v:=by
 unfold vQ
 split
 ·rename_i cs
  cases h:mV cs.toList with
  |none=>exact⟨trivial,trivial⟩
  |some l=>have e:=mW h n nb ρ m;exact⟨e.1,by simp[V.rel,W.den,e.2]⟩
 ·exact⟨trivial,trivial⟩
 ·cases h:rb v with
  |none=>exact⟨trivial,trivial⟩
  |some a=>have e:=DX h n nb ρ m;exact⟨e.1,by simp[V.rel,W.den,e.2]⟩
def aU (tm:List V):Operand->V
 | .tmp t=>(tm[t]?).getD .any
 | .const v=>vQ v
 | .global g=> .w (.one (.gptr g 0))
 | .func f=> .w (.one (.con (.func (.func f) #[] #[])))
theorem bf {n nb:Nat} {ρ:Env} {m:Nat->Nat} {tm:List V} {a:Act} (h:bS n nb ρ m tm a.tmps) (x:Operand):(aU tm x).ok n nb ρ/\(aU tm x).rel ρ m (a.eval x):=by
 cases x with
 |tmp t=>
  simp only[aU,Act.eval]
  cases ht:tm[t]? with
  |none=>exact⟨trivial,trivial⟩
  |some v=>
   obtain⟨h1,y,h2,h3⟩:=h.2 t v ht
   exact⟨h1,by simp only[Option.getD_some];rw[show a.tmps.getD t undef=y by simp[h2]];exact h3⟩
 |const v=>exact KF v n nb ρ m
 |global g=>exact⟨trivial,rfl⟩
 |func f=>exact⟨rfl,rfl⟩
def dW (P:Program) (t:TypeId):Option Bool:=
 match P.underlying t with|some (.struct _)=>some true|some (.array _ _)=>some true|some _=>some false|none=>none
def ct (P:Program) (t:TypeId):Option Nat:=match P.info? t with|some i=>some i.size|none=>none
theorem ic {P:Program} {t:TypeId} {b:Bool} (h:dW P t=some b) (w:World):(isAgg t).run P w= .ok b w:=by
 unfold dW at h
 cases hu:P.underlying t with
 |none=>simp[hu]at h
 |some d=>cases d<;>simp[hu]at h<;>subst h<;>simp[isAgg,run_underlying hu]
theorem dL {P:Program} {t:TypeId} {k:Nat} (h:ct P t=some k) (w:World):(sizeOf t).run P w= .ok k w:=by
 unfold ct at h
 cases hi:P.info? t with
 |none=>simp[hi]at h
 |some i=>simp[hi]at h;subst h;simp[sizeOf,typeInfo,hi]
def q9 (bl:List af) (gl:cF):A->Option (List A)
 | .ptr b off=>match bl[b]? with|some (cs,_)=>cond (bj cs) (some (cs.drop off)) none|none=>none
 | .gptr g off=>match gl.find? (λp=>Nat.beq p.1 g)with|some (_,cs)=>some ((cs.drop off).map λp=> .int p.1 (.const p.2))|none=>none
 |_=>none
theorem dS (g o j:Nat):(⟨g,o,none⟩:Addr).add j=⟨g,o+j,none⟩:=by unfold Addr.add;split<;>simp_all
theorem yP {w0:b5} {w:World} {n:Nat} {ρ:Env} {m:Nat->Nat} {bl:List af} {gl:cF} {p:A} {cs:List A} (hm:Mem w0 ρ m bl w) (hb:bm n bl.length ρ bl) (hg:ey gl w0) (h:q9 bl gl p=some cs):
 ∃g o,p.den ρ m= .pointer (some ⟨g,o,none⟩)/\(∀a∈cs,A.ok n bl.length ρ a)/\∀j a,cs[j]?=some a->w.cell? ⟨g,o+j,none⟩=some (a.den ρ m):=by
 unfold q9 at h
 split at h
 ·rename_i b off
  cases hbl:bl[b]? with
  |none=>simp[hbl]at h
  |some q=>
   obtain⟨C,t⟩:=q
   simp only[hbl]at h
   cases e4:bj C with
   |false=>simp[e4]at h
   |true=>
   simp only[e4,cond_true,Option.some.injEq]at h
   subst h
   obtain⟨h1,_,r,_,h2⟩:=hm.c9 b C t hbl e4
   refine⟨m b,off,rfl,λa ha=>hb _ (List.mem_of_getElem? hbl) a (List.mem_of_mem_drop ha),λj a hj=>?_⟩
   rw[List.getElem?_drop]at hj
   have hlt:off+j<C.length:=(List.getElem?_eq_some_iff.1 hj).1
   simp only[World.cell?,h2,Option.isSome_none,Bool.false_eq_true,if_false,List.getElem?_toArray]
   rw[List.getElem?_append_left (by simpa using hlt),List.getElem?_map,hj];rfl
 ·rename_i g off
  cases hf:gl.find? (λp=>Nat.beq p.1 g)with
  |none=>simp[hf]at h
  |some q=>
   obtain⟨a6,C⟩:=q
   simp only[hf,Option.some.injEq]at h
   subst h
   have gh:a6=g:=by have:=List.find?_some hf;exact Nat.eq_of_beq_eq_true this
   subst gh
   obtain⟨h1,t,mZ,h2⟩:=hg a6 C (List.mem_of_find?_eq_some hf)
   refine⟨a6,off,rfl,λa ha=>?_,λj a hj=>?_⟩
   ·obtain⟨p,_,rfl⟩:=List.mem_map.1 ha;exact aM.hP _ _ _
   ·rw[List.getElem?_map,List.getElem?_drop]at hj
    cases hq:C[off+j]? with
    |none=>simp[hq]at hj
    |some q=>
     simp only[hq,Option.map_some,Option.some.injEq]at hj
     subst hj
     have:=hm.ext.cell ⟨a6,off+j,none⟩ h1
     rw[this]
     simp[World.cell?,h2,hq,A.den,aM.const,I.ay]
 ·cases h
def A3 (P:Program) (bl:List af) (gl:cF) (ty:TypeId) (p:A):M V:=
 match q9 bl gl p,dW P ty,ct P ty with
 |some cs,some true,some k=>cond (Nat.ble k cs.length) (pure (.w (.agg (cs.take k)))) fail
 |some (a::_),some false,_=>pure (.w (.one a))
 |_,_,_=>fail
section
variable {S:Nat->List Int->List Int->Prop} {L:V->Env->Prop} {n:Nat} {ρ:Env} {m:Nat->Nat} {bl:List af} {gl:cF} {w0:b5} {P:Program}
def fK (w0:b5) (m:Nat->Nat) (bl:List af) (n:Nat) (ρ:Env) (run:World->Result Value) (aa:Env) (n':Nat) (v:V):Prop:=
 v.ok n' bl.length aa/\∃val,v.rel aa m val/\∀w,Mem w0 ρ m bl w->run w= .ok val w
theorem Ps (hb:bm n bl.length ρ bl) (hg:ey gl w0) (hex:∃w,Mem w0 ρ m bl w) (ty:TypeId) (p:A):ae S L (A3 P bl gl ty p) n ρ (fK w0 m bl n ρ λw=>(Instr.loadAt ty (p.den ρ m)).run P w):=by
 obtain⟨mH,hx⟩:=hex
 unfold A3
 cases hc:q9 bl gl p with
 |none=>exact ae.fail
 |some cs=>
  obtain⟨g,o,hp,aK,_⟩:=yP hx hb hg hc
  have hcell:∀w,Mem w0 ρ m bl w->∀j a,cs[j]?=some a->w.cell? ⟨g,o+j,none⟩=some (a.den ρ m):=λw hw=>by
   obtain⟨a6,aV,og,_,h'⟩:=yP hw hb hg hc
   rw[hp]at og
   simp only[Value.pointer.injEq,Option.some.injEq,Addr.mk.injEq,and_true]at og
   obtain⟨rfl,rfl⟩:=og
   exact h'
  cases ha:dW P ty with
  |none=>exact ae.fail
  |some b=>
   cases b with
   |true=>
    cases hs:ct P ty with
    |none=>exact ae.fail
    |some k=>
     refine bR λhk=>ae.pure ⟨λa h=>aK a (List.mem_of_mem_take h),_,rfl,λw hw=>?_⟩
     have hk:k<=cs.length:=Nat.le_of_ble_eq_true hk
     have hl:=run_loadCells_list (P:=P) w ⟨g,o,none⟩ ((cs.take k).map (A.den ρ m)) λj v hj=>by
      rw[dS]
      rw[List.getElem?_map]at hj
      cases hq:(cs.take k)[j]? with
      |none=>simp[hq]at hj
      |some a=>
       simp only[hq,Option.map_some,Option.some.injEq]at hj
       subst hj
       refine hcell w hw j a ?_
       rw[List.getElem?_take]at hq
       split at hq
       ·exact hq
       ·cases hq
     simp only[List.length_map,List.length_take,Nat.min_eq_left hk]at hl
     simp[Instr.loadAt,Instr.sureAddr,hp,loadVar,ic ha,dL hs,hl,W.den]
   |false=>
    cases cs with
    |nil=>exact ae.fail
    |cons a r=>
     refine ae.pure ⟨aK a (by simp),_,rfl,λw hw=>?_⟩
     have:=hcell w hw 0 a rfl
     simp only[Nat.add_zero]at this
     simp[Instr.loadAt,Instr.sureAddr,hp,loadVar,ic ha,this,W.den]
def hX (k:IntKind):List A->Option (List aM)
 |[]=>some []
 | .int aD x::r=>cond (decide (k=aD)) (match hX k r with|some l=>some (x::l)|none=>none) none
 |_::_=>none
theorem Gz {k:IntKind}:∀{cs:List A} {l:List aM},hX k cs=some l->cs=l.map (.int k)
 |[],l,h=>by simp[hX]at h;subst h;rfl
 | .int aD x::r,l,h=>by
  simp only[hX]at h
  by_cases hk:k=aD
  ·subst hk
   simp only[decide_true,cond_true]at h
   cases h1:hX k r with
   |none=>simp[h1]at h
   |some aT=>simp only[h1,Option.some.injEq]at h;subst h;simp[Gz h1]
  ·simp[hk]at h
 | .bool _::_,_,h=>by simp[hX]at h
 | .ptr .. ::_,_,h=>by simp[hX]at h
 | .gJ .. ::_,_,h=>by simp[hX]at h
 | .gptr .. ::_,_,h=>by simp[hX]at h
 | .slc .. ::_,_,h=>by simp[hX]at h
 | .con _::_,_,h=>by simp[hX]at h
 | .str _::_,_,h=>by simp[hX]at h
 | .rows .. ::_,_,h=>by simp[hX]at h
 | .sl .. ::_,_,h=>by simp[hX]at h
 | .ep .. ::_,_,h=>by simp[hX]at h
def sf:List aM->Int
 |[]=>0
 |[x]=>x.lo
 |x::r=>min x.lo (sf r)
def se:List aM->Int
 |[]=>0
 |[x]=>x.hi
 |x::r=>max x.hi (se r)
theorem G5 {n:Nat} {ρ:Env}:∀{l:List aM},(∀x∈l,x.ok n ρ)->∀x∈l,sf l<=x.l.den ρ/\x.l.den ρ<=se l
 |[],_,x,hx=>by simp at hx
 |[y],h,x,hx=>by
  simp at hx;subst hx
  have:=(h x (by simp)).2
  exact this
 |y::z::r,h,x,hx=>by
  have ih:=G5 (l:=z::r) (λx hx=>h x (List.mem_cons_of_mem _ hx))
  simp only[sf,se]
  rcases List.mem_cons.1 hx with rfl|hx
  ·have:=(h x (by simp)).2;omega
  ·have:=ih x hx;omega
def kindOf (P:Program) (ty:TypeId):Option IntKind:=match P.underlying ty with|some (.int k)=>some k|_=>none
def mr:List Int->Int
 |[]=>0
 |[x]=>x
 |x::r=>cond (decide (x<=mr r)) x (mr r)
def mq:List Int->Int
 |[]=>0
 |[x]=>x
 |x::r=>cond (decide (mq r<=x)) x (mq r)
theorem G6:∀(l:List Int),∀z∈l,mr l<=z/\z<=mq l
 |[],_,h=>by cases h
 |[x],z,h=>by simp at h;subst h;simp[mr,mq]
 |x::y::r,z,h=>by
  unfold mr mq
  have ih:=G6 (y::r)
  rcases List.mem_cons.1 h with rfl|h
  ·refine⟨?_,?_⟩
   ·cases hc:decide (z<=mr (y::r))with
    |true=>simp
    |false=>simp at hc⊢;omega
   ·cases hc:decide (mq (y::r)<=z)with
    |true=>simp
    |false=>simp at hc⊢;omega
  ·have:=ih z h
   refine⟨?_,?_⟩
   ·cases hc:decide (x<=mr (y::r))with
    |true=>simp at hc⊢;omega
    |false=>simp;exact this.1
   ·cases hc:decide (mq (y::r)<=x)with
    |true=>simp at hc⊢;omega
    |false=>simp;exact this.2
def B0 (P:Program) (bl:List af) (ty:TypeId) (b off:Nat) (au:aM):M V:=λn c=>
 match bl[b]?,kindOf P ty with
 |some (cs,_),some k=>match hX k ((cs.drop off).take (au.hi.toNat+1))with
  |some l=>cond (Nat.beq l.length (au.hi.toNat+1)&&decide (0<=au.lo)&&bj cs) (.sel n (l.map (·.l)) au.l (sf l) (se l) (c (.w (.one (.int k ⟨.var n,sf l,se l⟩))) (n+1))) .stuck
  |none=> .stuck
 |_,_=> .stuck
theorem R7 (hb:bm n bl.length ρ bl) (ty:TypeId) (b off:Nat) {au:aM} (tP:au.ok n ρ):ae S L (B0 P bl ty b off au) n ρ (fK w0 m bl n ρ λw=>(Instr.loadAt ty ((A.gJ b off au).den ρ m)).run P w):=by
 intro Jd c hk
 unfold B0 at hk
 cases hbl:bl[b]? with
 |none=>simp[hbl,T.holds]at hk
 |some q=>
  obtain⟨cs,t⟩:=q
  cases ec:kindOf P ty with
  |none=>simp[hbl,ec,T.holds]at hk
  |some k=>
   cases hi:hX k ((cs.drop off).take (au.hi.toNat+1))with
   |none=>simp[hbl,ec,hi,T.holds]at hk
   |some l=>
    cases hc:(Nat.beq l.length (au.hi.toNat+1)&&decide (0<=au.lo)&&bj cs)with
    |false=>simp[hbl,ec,hi,hc,T.holds]at hk
    |true=>
     simp only[hbl,ec,hi,hc,cond_true,T.holds]at hk
     simp only[Bool.and_eq_true,decide_eq_true_eq]at hc
     obtain⟨hc,hq⟩:=hc
     have hlen:=Nat.eq_of_beq_eq_true hc.1
     have e:=Gz hi
     have qX:=tP.2
     have hlt:(au.l.den ρ).toNat<l.length:=by omega
     have Nu:∀x∈l,x.ok n ρ:=λx hx=>by
      have:A.int k x∈(cs.drop off).take (au.hi.toNat+1):=by rw[e];exact List.mem_map_of_mem hx
      exact hb _ (List.mem_of_getElem? hbl) _ (List.mem_of_mem_drop (List.mem_of_mem_take this))
     have hz:((l.map (·.l)).map (·.den ρ)).getD (au.l.den ρ).toNat 0=(l[(au.l.den ρ).toNat]).l.den ρ:=by
      simp[List.getD,hlt]
     have iV:=G5 Nu _ (List.getElem_mem hlt)
     refine⟨_,n+1,_,Nat.le_succ _,agree.bF _ _ _,(show fK w0 m bl n ρ _ (bF ρ n (((l.map (·.l)).map (·.den ρ)).getD (au.l.den ρ).toNat 0)) (n+1) (.w (.one (.int k ⟨.var n,sf l,se l⟩))) from⟨⟨I.cq (Nat.lt_succ_self n),?_,?_⟩,_,rfl,?_⟩),hk _ (by rw[hz];exact iV.1) (by rw[hz];exact iV.2) rfl⟩
     ·simp only[I.ba,ew,hz];exact iV.1
     ·simp only[I.ba,ew,hz];exact iV.2
     ·intro w hw
      obtain⟨_,_,r,_,h2⟩:=hw.c9 b cs t hbl hq
      have hu:dW P ty=some false:=by
       unfold kindOf at ec
       unfold dW
       cases hq:P.underlying ty with
       |none=>simp[hq]at ec
       |some d=>cases d<;>simp[hq]at ec<;>rfl
      have hcs:cs[off+(au.l.den ρ).toNat]?=some (.int k (l[(au.l.den ρ).toNat])):=by
       have h3:((cs.drop off).take (au.hi.toNat+1))[(au.l.den ρ).toNat]?=some (.int k (l[(au.l.den ρ).toNat])):=by rw[e];simp[hlt]
       rw[List.getElem?_take,if_pos (by omega),List.getElem?_drop]at h3
       exact h3
      have hcell:w.cell? ⟨m b,off+(au.l.den ρ).toNat,none⟩=some (.int k ((l[(au.l.den ρ).toNat]).l.den ρ)):=by
       have FM:off+(au.l.den ρ).toNat<cs.length:=(List.getElem?_eq_some_iff.1 hcs).1
       simp only[World.cell?,h2,Option.isSome_none,Bool.false_eq_true,if_false,List.getElem?_toArray]
       rw[List.getElem?_append_left (by simpa using FM),List.getElem?_map,hcs];rfl
      simp only[W.den,A.den,I.ba,ew,hz];simp[Instr.loadAt,Instr.sureAddr,loadVar,ic hu,hcell]
def BZ (P:Program) (gl:cF) (ty:TypeId) (g off:Nat) (au:aM):M V:=λn c=>
 match gl.find? (λp=>Nat.beq p.1 g),kindOf P ty with
 |some (_,cs),some k=>cond (((cs.drop off).take (au.hi.toNat+1)).all (λp=>decide (p.1=k))&&Nat.beq ((cs.drop off).take (au.hi.toNat+1)).length (au.hi.toNat+1)&&decide (0<=au.lo))
  (.sel n (((cs.drop off).take (au.hi.toNat+1)).map λp=> .const p.2) au.l (mr (((cs.drop off).take (au.hi.toNat+1)).map (·.2))) (mq (((cs.drop off).take (au.hi.toNat+1)).map (·.2)))
    (c (.w (.one (.int k ⟨.var n,mr (((cs.drop off).take (au.hi.toNat+1)).map (·.2)),mq (((cs.drop off).take (au.hi.toNat+1)).map (·.2))⟩))) (n+1))) .stuck
 |_,_=> .stuck
theorem R6 (hg:ey gl w0) (ty:TypeId) (g off:Nat) {au:aM} (tP:au.ok n ρ):ae S L (BZ P gl ty g off au) n ρ (fK w0 m bl n ρ λw=>(Instr.loadAt ty ((A.ry g off au).den ρ m)).run P w):=by
 intro Jd c hk
 unfold BZ at hk
 cases hf:gl.find? (λp=>Nat.beq p.1 g)with
 |none=>simp[hf,T.holds]at hk
 |some q=>
  obtain⟨a6,cs⟩:=q
  have gh:a6=g:=by have:=List.find?_some hf;exact Nat.eq_of_beq_eq_true this
  subst gh
  cases ec:kindOf P ty with
  |none=>simp[hf,ec,T.holds]at hk
  |some k=>
   simp only[hf,ec]at hk
   generalize hC:(cs.drop off).take (au.hi.toNat+1)=C at hk
   cases hc:(C.all (λp=>decide (p.1=k))&&Nat.beq C.length (au.hi.toNat+1)&&decide (0<=au.lo))with
   |false=>simp[hc,T.holds]at hk
   |true=>
    simp only[hc,cond_true,T.holds]at hk
    simp only[Bool.and_eq_true,decide_eq_true_eq]at hc
    obtain⟨⟨c1,av⟩,bg⟩:=hc
    have av:=Nat.eq_of_beq_eq_true av
    have qX:=tP.2
    have hlt:(au.l.den ρ).toNat<C.length:=by omega
    have hz:((C.map λp=>I.const p.2).map (·.den ρ)).getD (au.l.den ρ).toNat 0=(C[(au.l.den ρ).toNat]).2:=by
     simp[List.getD,hlt,I.ay]
    have iV:=G6 (C.map (·.2)) _ (List.mem_map_of_mem (List.getElem_mem hlt))
    refine⟨_,n+1,_,Nat.le_succ _,agree.bF _ _ _,(show fK w0 m bl n ρ _ (bF ρ n (((C.map λp=>I.const p.2).map (·.den ρ)).getD (au.l.den ρ).toNat 0)) (n+1) (.w (.one (.int k ⟨.var n,mr (C.map (·.2)),mq (C.map (·.2))⟩))) from⟨⟨I.cq (Nat.lt_succ_self n),?_,?_⟩,_,rfl,?_⟩),hk _ (by rw[hz];exact iV.1) (by rw[hz];exact iV.2) rfl⟩
    ·simp only[I.ba,ew,hz];exact iV.1
    ·simp only[I.ba,ew,hz];exact iV.2
    ·intro w hw
     have hu:dW P ty=some false:=by
      unfold kindOf at ec
      unfold dW
      cases hq:P.underlying ty with
      |none=>simp[hq]at ec
      |some d=>cases d<;>simp[hq]at ec<;>rfl
     have c3:(C[(au.l.den ρ).toNat]).1=k:=by simpa using List.all_eq_true.1 c1 _ (List.getElem_mem hlt)
     have hcs:cs[off+(au.l.den ρ).toNat]?=some (C[(au.l.den ρ).toNat]):=by
      have h3:C[(au.l.den ρ).toNat]?=some (C[(au.l.den ρ).toNat]):=List.getElem?_eq_getElem hlt
      have h4:C[(au.l.den ρ).toNat]?=cs[off+(au.l.den ρ).toNat]?:=by rw[<-hC,List.getElem?_take,if_pos (by omega),List.getElem?_drop]
      rw[<-h4,h3]
     obtain⟨MS,t,mZ,Mt⟩:=hg a6 cs (List.mem_of_find?_eq_some hf)
     have hcell:w.cell? ⟨a6,off+(au.l.den ρ).toNat,none⟩=some (.int k (C[(au.l.den ρ).toNat]).2):=by
      rw[hw.ext.cell _ MS]
      simp only[World.cell?,Mt,Option.isSome_none,Bool.false_eq_true,if_false,List.getElem?_toArray]
      rw[List.getElem?_map,hcs,Option.map_some,c3]
     simp only[W.den,A.den,I.ba,ew,hz];simp[Instr.loadAt,Instr.sureAddr,loadVar,ic hu,hcell]
end
end Go.aZ
namespace Go.aZ
open M
abbrev dp:=FuncId->Option (List af->List V->M V)
def qL (P:Program) (o:Oper) (a:Act) (w:World) (val:Value):Prop:=
 (execOp a.eval o).run P w= .ok (.value val) w∨
 ∃f args,(execOp a.eval o).run P w= .ok (.enter f args) w/\Calls P f args w λe gw=>e= .returned val/\w.Extends gw
def qJ (P:Program) (f:FuncId) (args:Array Value) (w:World) (val:Value):Prop:=
 (callFunc f args).run P w= .ok (.value val) w∨
 ((callFunc f args).run P w= .ok (.enter f args) w/\Calls P f args w λe gw=>e= .returned val/\w.Extends gw)
def cU (ρ:Env) (m:Nat->Nat):List V->List Value->Prop
 |[],[]=>True
 |v::r,x::s=>v.rel ρ m x/\cU ρ m r s
 |_,_=>False
def fr (S:Nat->List Int->List Int->Prop) (P:Program) (gl:cF) (w0:b5) (aL:dp):Prop:=
 ∀f g,aL f=some g->∀(L:V->Env->Prop) (n:Nat) (ρ:Env) (m:Nat->Nat) (bl:List af) (vs:List V) (xs:List Value),bm n bl.length ρ bl->(∃w,Mem w0 ρ m bl w)->(∀v∈vs,v.ok n bl.length ρ)->cU ρ m vs xs->
  ae S L (g bl vs) n ρ λaa n' v=>v.ok n' bl.length aa/\∃val,v.rel aa m val/\∀w,Mem w0 ρ m bl w->qJ P f xs.toArray w val
def ti (P:Program) (s:TypeId) (f:Nat):Option Field:=match P.underlying s with|some (.struct bT)=>bT[f]?|_=>none
def jn (P:Program) (t:TypeId):Option (Nat×TypeId):=match P.underlying t with|some (.array n e)=>some (n,e)|_=>none
def dP (P:Program) (t:TypeId):Option TypeId:=match P.underlying t with|some (.slice e)=>some e|_=>none
def uH (P:Program) (t:TypeId) (l:List A) (off:Nat):M V:=
 match dW P t,ct P t with
 |some true,some k=>pure (.w (.agg ((l.drop off).take k)))
 |some false,_=>match l[off]? with|some a=>pure (.w (.one a))|none=>fail
 |_,_=>fail
def AI (P:Program) (t:TypeId) (x:V) (au:aM):M V:=
 match x with
 | .w (.one (.ptr b off))=>match jn P t with
  |some (len,e)=>match ct P e with
   |some s=>match au.l.bQ with
    |some i=>cond (decide (0<=i)&&decide (i<len)) (pure (.w (.one (.ptr b (off+i.toNat*s))))) fail
    |none=>cond (Nat.beq s 1&&decide (0<=au.lo)&&decide (au.hi<len)) (pure (.w (.one (.gJ b off au)))) fail
   |none=>fail
  |none=>fail
 | .w (.one (.gptr g off))=>match jn P t with
  |some (len,e)=>match ct P e with
   |some s=>match au.l.bQ with
    |some i=>cond (decide (0<=i)&&decide (i<len)) (pure (.w (.one (.gptr g (off+i.toNat*s))))) fail
    |none=>cond (Nat.beq s 1) (bind (cx 74 [au.l,.const len]) λ_=>pure (.w (.one (.ry g off ⟨au.l,0,(len:Int)-1⟩)))) fail
   |none=>fail
  |none=>fail
 | .w (.one (.slc b off len _))=>match dP P t with
  |some e=>match ct P e with
   |some s=>match au.l.bQ with
    |some i=>cond (decide (0<=i)&&decide (i<len)) (pure (.w (.one (.ptr b (off+i.toNat*s))))) fail
    |none=>cond (Nat.beq s 1&&decide (0<=au.lo)&&decide (au.hi<len)) (pure (.w (.one (.gJ b off au)))) fail
   |none=>fail
  |none=>fail
 | .h9 b len _=>match dP P t with
  |some e=>match ct P e with
   |some s=>match au.l.bQ with
    |some i=>cond (decide (0<=i)&&decide (i<len)) (pure (.w (.one (.ptr b (i.toNat*s))))) fail
    |none=>fail
   |none=>fail
  |none=>fail
 |_=>fail
def nx:List V->Option (List A)
 |[]=>some []
 | .w (.one a)::r=>match nx r with|some l=>some (a::l)|none=>none
 |_::_=>none
def nZ:List A->List A->Option aC
 |[],[]=>some (.lit true)
 | .int k x::r,.int aD y::ed=>cond (decide (k=aD)) (match nZ r ed with|some b=>some (.mkAnd (.mkEq x y) b)|none=>none) none
 |_,_=>none
def y7 (P:Program) (t:TypeId) (x y:List A):Option aC:=
 match jn P t with
 |some (len,e)=>match kindOf P e,ct P e with
  |some _,some 1=>cond (Nat.beq x.length len&&Nat.beq y.length len&& !P.eqGuardType P.depth t) (nZ x y) none
  |_,_=>none
 |none=>none
def rn (P:Program):Nat->List Field->Bool
 |_,[]=>true
 |i,f::r=>(f.name != "_")&&Nat.beq f.offset i&&rn P (i+1) r
noncomputable def jR (P:Program):List Field->List A->List A->M aC
 |[],[],[]=>pure (.lit true)
 |f::bT,.int k a::xs,.int aD b::dm=>match kindOf P f.type with
  |some k2=>cond (decide (k=aD)) (bind (jR P bT xs dm) λr=>pure (.mkAnd (.mkEq a b) r)) fail
  |none=>fail
 |f::bT,.str a::xs,.str b::dm=>match P.underlying f.type with
  |some .string=>bind (cd 4 [a,b] 0 1) λl=>bind (jR P bT xs dm) λr=>pure (.mkAnd (.mkEq ⟨l,0,1⟩ (.const 1)) r)
  |_=>fail
 |_,_,_=>fail
noncomputable def vW (P:Program) (g:TypeId->List A->List A->M aC):Nat->List Field->List A->List A->M aC
 |_,[],_,_=>pure (.lit true)
 |o,f::bT,x,y=>match ct P f.type with
  |some s=>cond ((f.name != "_")&&Nat.beq f.offset o) (bind (g f.type (x.take s) (y.take s)) λb=>bind (vW P g (o+s) bT (x.drop s) (y.drop s)) λr=>pure (.mkAnd b r)) fail
  |none=>fail
noncomputable def rh (P:Program):Nat->TypeId->List A->List A->M aC
 |0,_,_,_=>fail
 |d+1,t,x,y=>match P.underlying t with
  |some (.int k)=>match x,y with
   |[.int k1 a],[.int k2 b]=>cond (decide (k1=k2)) (pure (.mkEq a b)) fail
   |_,_=>fail
  |some .string=>match x,y with
   |[.str a],[.str b]=>bind (cd 4 [a,b] 0 1) λl=>pure (.mkEq ⟨l,0,1⟩ (.const 1))
   |_,_=>fail
  |some .bool=>match x,y with
   |[.bool a],[.bool b]=>pure (.mkIff a b)
   |_,_=>fail
  |some (.struct bT)=>cond (!P.stoodInHeld t) (vW P (rh P d) 0 bT.toList x y) fail
  |_=>fail
noncomputable def vX (P:Program) (t:TypeId) (x y:List A):M aC:=
 match P.underlying t with
 |some (.struct bT)=>cond (rn P 0 bT.toList&& !P.stoodInHeld t&& !P.eqGuardType P.depth t) (cond (bT.toList.all λf=>match P.underlying f.type with|some (.int _)=>true|some .string=>true|_=>false) (jR P bT.toList x y) (rh P 8 t x y))
  (cond (!P.eqGuardType P.depth t) (rh P 8 t x y) fail)
 |_=>fail
noncomputable def Cg (op:BinOp) (a b:I):M V:=
 match op with
 | .add=>bind (cx 3 [a,b]) λ_=>bind (cd 3 [a,b] 0 aO) λl=>pure (.w (.one (.str l)))
 | .eql=>bind (cd 4 [a,b] 0 1) λl=>pure (.w (.one (.bool (.mkEq ⟨l,0,1⟩ (.const 1)))))
 | .neq=>bind (cd 4 [a,b] 0 1) λl=>pure (.w (.one (.bool (.mkNot (.mkEq ⟨l,0,1⟩ (.const 1))))))
 | .lss=>bind (cd 5 [a,b] 0 1) λl=>pure (.w (.one (.bool (.mkEq ⟨l,0,1⟩ (.const 1)))))
 | .geq=>bind (cd 5 [a,b] 0 1) λl=>pure (.w (.one (.bool (.mkNot (.mkEq ⟨l,0,1⟩ (.const 1))))))
 |_=>fail
def IC (s:I):M V:=bind (cd 0 [s] 0 9223372036854775807) λl=>pure (.w (.one (.int .i64 ⟨l,0,9223372036854775807⟩)))
def IB (s i:I):M V:=bind (cx 1 [s,i]) λ_=>bind (cd 1 [s,i] 0 255) λl=>pure (.w (.one (.int .u8 ⟨l,0,255⟩)))
noncomputable def xV (s a b:I):M V:=bind (cx 2 [s,a,b]) λ_=>bind (cd 2 [s,a,b] 0 aO) λl=>pure (.w (.one (.str l)))
def je (v:V):Option I:=match v with| .w (.one (.int _ a))=>some a.l|_=>none
noncomputable def Ch (tm:List V) (s:I) (lo hi:Option Operand):M V:=
 match(match lo with|none=>some (I.const 0)|some x=>je (aU tm x))with
 |none=>fail
 |some a=>match hi with
  |none=>bind (cd 0 [s] 0 9223372036854775807) λb=>xV s a b
  |some y=>match je (aU tm y)with
   |some b=>xV s a b
   |none=>fail
noncomputable def Dx (P:Program) (op:BinOp) (t:TypeId) (x y:V):M V:=
 match x,y with
 | .w (.one (.int k a)),.w (.one (.int aD b))=>bind (yA op k a aD b) λr=>pure (.w (.one r))
 | .w (.agg a),.w (.agg b)=>match op,y7 P t a b with
  | .eql,some e=>pure (.w (.one (.bool e)))
  | .neq,some e=>pure (.w (.one (.bool (.mkNot e))))
  | .eql,none=>bind (vX P t a b) λe=>pure (.w (.one (.bool e)))
  | .neq,none=>bind (vX P t a b) λe=>pure (.w (.one (.bool (.mkNot e))))
  |_,_=>fail
 | .w (.one (.str a)),.w (.one (.str b))=>Cg op a b
 | .w (.one (.bool a)),.w (.one (.bool b))=>match op,P.underlying t with
  | .eql,some .bool=>pure (.w (.one (.bool (.mkIff a b))))
  | .neq,some .bool=>pure (.w (.one (.bool (.mkNot (.mkIff a b)))))
  |_,_=>fail
 |_,_=>fail
def IT (op:UnOp) (x:V):M V:=
 match op,x with
 | .not,.w (.one (.bool b))=>pure (.w (.one (.bool (.mkNot b))))
 | .xor,.w (.one (.int k a))=>cond (!k.signed&&decide (0<=a.lo)&&decide (a.hi<two k)) (pure (.w (.one (.int k ⟨(I.const (two k-1)).sub a.l,two k-1-a.hi,two k-1-a.lo⟩)))) fail
 | .neg,.w (.one (.int k a))=>bind (mG k ⟨a.l.smul (-1),-a.hi,-a.lo⟩) λr=>pure (.w (.one (.int k r)))
 |_,_=>fail
def DY (P:Program) (src dst:TypeId) (x:V):M V:=
 match P.underlying src,P.underlying dst,x with
 |some _,some .string,.w (.one (.int _ a))=>match a.l.bQ with
  |some c=>cond (Nat.ble (Utf8.encode c).size 1000) (pure (.w (.one (.str (.const (dz (Utf8.encode c).data.toList)))))) fail
  |none=>fail
 |_,_,_=>match P.underlying src,kindOf P dst,x with
 |some _,some k,.w (.one (.int _ a))=>bind (mG k a) λr=>pure (.w (.one (.int k r)))
 |_,_,_=>fail
def vP (v:V):Option Int:=match v with| .w (.one (.int _ a))=>a.l.bQ|_=>none
def xp (tm:List V):Option Operand->Option (Option Int)
 |none=>some none
 |some x=>match vP (aU tm x)with|some c=>some (some c)|none=>none
def Is (P:Program) (t:TypeId) (x:V) (lo hi:Option Int):M V:=
 match x,jn P t with
 | .w (.one (.ptr b off)),some (n,e)=>match ct P e with
  |some s=>cond (decide (0<=lo.getD 0)&&decide (lo.getD 0<=hi.getD n)&&decide (hi.getD n<=n)&&decide (lo.getD 0<n)) (pure (.w (.one (.slc b (off+(lo.getD 0).toNat*s) ((hi.getD n).toNat-(lo.getD 0).toNat) (n-(lo.getD 0).toNat))))) fail
  |none=>fail
 | .w (.one (.slc b off len cap)),none=>match dP P t with
  |some e=>match ct P e with
   |some s=>cond (decide (0<=lo.getD 0)&&decide (lo.getD 0<=hi.getD len)&&decide (hi.getD len<=cap)&&decide (lo.getD 0<cap)) (pure (.w (.one (.slc b (off+(lo.getD 0).toNat*s) ((hi.getD len).toNat-(lo.getD 0).toNat) (cap-(lo.getD 0).toNat))))) fail
   |none=>fail
  |none=>fail
 |_,_=>fail
def Hd (x:V):M V:=
 match x with
 | .w (.one (.ptr b o))=>pure (.w (.one (.ptr b o)))
 | .w (.one (.gJ b o i))=>pure (.w (.one (.gJ b o i)))
 | .w (.one (.gptr g o))=>pure (.w (.one (.gptr g o)))
 |_=>fail
def W.cells:W->List A
 | .one a=>[a]
 | .agg l=>l
def gx (P:Program) (t:TypeId):Option (List A):=
 match P.info? t with
 |some i=>match i.zero with
  |some z=>mV z.cells.toList
  |none=>none
 |none=>none
def l7 (place:Nat->Option (Nat×Nat)):List A->List (Nat×V)->Option (List A)
 |cells,[]=>some cells
 |cells,(i,.w u)::r=>match place i with
  |some (off,size)=>cond (Nat.beq u.cells.length size&&Nat.ble (off+size) cells.length) (l7 place (cells.take off++u.cells++cells.drop (off+size)) r) none
  |none=>none
 |_,_::_=>none
def yH (P:Program) (t:TypeId) (parts:List (Nat×V)):Option (List A):=
 match gx P t,P.underlying t with
 |some z,some (.array _ e)=>match ct P e with
  |some s=>l7 (λi=>some (i*s,s)) z parts
  |none=>none
 |some z,some (.struct fields)=>match fields.toList.mapM (λf=>(P.info? f.type).map λi=>(f.offset,i.size))with
  |some places=>l7 (places.toArray[·]?) z parts
  |none=>none
 |_,_=>none
noncomputable def BA (P:Program) (aL:dp) (gl:cF) (bl:List af) (tm:List V) (o:Oper):M V:=
 match o.op with
 | .move x| .assign x=>pure (aU tm x)
 | .load t x=>match aU tm x with
  | .w (.one (.gJ b off au))=>B0 P bl t b off au
  | .w (.one (.ry g off au))=>BZ P gl t g off au
  | .w (.one p)=>A3 P bl gl t p
  |_=>fail
 | .nilCheck x=>Hd (aU tm x)
 | .pick c x y=>match aU tm c with
  | .w (.one (.bool (.lit v)))=>pure (cond v (aU tm x) (aU tm y))
  |_=>fail
 | .binOp op t x y _=>Dx P op t (aU tm x) (aU tm y)
 | .unOp op _ x=>IT op (aU tm x)
 | .convert s d x=>DY P s d (aU tm x)
 | .indexAddr t x au=>match aU tm au with
  | .w (.one (.int _ i))=>AI P t (aU tm x) i
  |_=>fail
 | .index t x au=>match aU tm x with
  | .w (.one (.str s))=>match P.underlying t,je (aU tm au)with
   |some .string,some i=>IB s i
   |_,_=>fail
  |_=>match aU tm x,vP (aU tm au),jn P t with
   | .w (.agg l),some i,some (len,e)=>match ct P e with
    |some s=>cond (decide (0<=i)&&decide (i<len)) (uH P e l (i.toNat*s)) fail
    |none=>fail
   |_,_,_=>fail
 | .fieldAddr s x f=>match aU tm x,ti P s f with
  | .w (.one (.ptr b off)),some fd=>match ct P fd.type with
   |some (_+1)=>pure (.w (.one (.ptr b (off+fd.offset))))
   |_=>fail
  |_,_=>fail
 | .field s x f=>match aU tm x,ti P s f with
  | .w (.agg l),some fd=>uH P fd.type l fd.offset
  |_,_=>fail
 | .extract x i=>match aU tm x with
  | .c7 l=>match l[i]? with|some u=>pure (.w u)|none=>fail
  |_=>fail
 | .slice t x lo hi none=>match aU tm x,P.underlying t with
  | .w (.one (.str s)),some .string=>Ch tm s lo hi
  |_,_=>match xp tm lo,xp tm hi with
   |some l,some h=>Is P t (aU tm x) l h
   |_,_=>fail
 | .call c=>match c.callee with
  | .value (.func f)=>match aL f with
   |some g=>g bl (c.args.toList.map (aU tm))
   |none=>fail
  | .builtin .len=>match c.args.toList,c.argTypes.toList with
   |[x],[t]=>match aU tm x,P.underlying t with
    | .w (.one (.str s)),some .string=>IC s
    |_,_=>match aU tm x,dP P t with
     | .w (.one (.slc _ _ len _)),some _=>pure (.w (.one (.int .i64 (.const len))))
     | .h9 _ len _,some _=>pure (.w (.one (.int .i64 (.const len))))
     |_,_=>fail
   |_,_=>fail
  |_=>fail
 | .makeFunc (.func f) first dZ=>match first.toList,nx (dZ.toList.map (aU tm))with
  |[],some l=>pure (.iO f l)
  |_,_=>fail
 | .build t parts=>match yH P t (parts.toList.map λp=>(p.1,aU tm p.2))with
  |some l=>pure (.w (.agg l))
  |none=>fail
 | .sliceToArrayPointer t x=>match aU tm x,jn P t with
  | .h9 b len _,some (k,_)=>cond (Nat.ble k len) (pure (.w (.one (.ptr b 0)))) fail
  |_,_=>fail
 |_=>fail
section
variable {S:Nat->List Int->List Int->Prop} {L:V->Env->Prop} {n:Nat} {ρ:Env} {m:Nat->Nat} {bl:List af} {gl:cF} {w0:b5} {P:Program} {tm:List V} {a:Act}
def fs (w0:b5) (m:Nat->Nat) (bl:List af) (n:Nat) (ρ:Env) (P:Program) (o:Oper) (a:Act) (aa:Env) (n':Nat) (v:V):Prop:=
 v.ok n' bl.length aa/\∃val,v.rel aa m val/\∀w,Mem w0 ρ m bl w->qL P o a w val
theorem fs.of_run {o:Oper} {s:Sem Value} {aa:Env} {n':Nat} {v:V} (he:execOp a.eval o=(do pure (Next.value (<-s)))) (h:fK w0 m bl n ρ (λw=>s.run P w) aa n' v):fs w0 m bl n ρ P o a aa n' v:=by
 obtain⟨h1,val,h2,h3⟩:=h
 exact⟨h1,val,h2,λw hw=> .inl (by rw[he];simp[h3 w hw])⟩
theorem W.vM {n nb:Nat} {ρ:Env} {m:Nat->Nat} (u:W) (hu:u.ok n nb ρ):(u.den ρ m).cells=(u.cells.map (A.den ρ m)).toArray:=by
 cases u with
 |one a=>
  have:=A.xm (m:=m) hu
  simp only[W.den,W.cells,List.map_cons,List.map_nil]
  generalize A.den ρ m a=v at*
  cases v<;>first|rfl|simp[Value.oneCell']at this
 |agg l=>simp[W.den,W.cells,Value.cells]
theorem W.ra {n nb:Nat} {ρ:Env} {u:W} (hu:u.ok n nb ρ):∀a∈u.cells,A.ok n nb ρ a:=by
 cases u with
 |one a=>intro x hx;simp[W.cells]at hx;subst hx;exact hu
 |agg l=>exact hu
def vg (n nb:Nat) (ρ:Env) (m:Nat->Nat):List (Nat×V)->List (Nat×Value)->Prop
 |[],[]=>True
 |p::r,q::s=>(p.1=q.1/\V.ok n nb ρ p.2/\V.rel ρ m p.2 q.2)/\vg n nb ρ m r s
 |_,_=>False
theorem EF (off:Nat):∀(src:List Value) (dst:Array Value) (k:Nat),off+k+src.length<=dst.size->
 ((src.zipIdx k).foldl (λcs (c,j)=>cs.setIfInBounds (off+j) c) dst)=(dst.toList.take (off+k)++src++dst.toList.drop (off+k+src.length)).toArray
 |[],dst,k,h=>by simp
 |c::src,dst,k,h=>by
  simp only[List.length_cons]at h
  rw[List.zipIdx_cons,List.foldl_cons,EF off src _ (k+1) (by simp;omega)]
  congr 1
  simp only[Array.toList_setIfInBounds,List.length_cons]
  have h1:off+k<dst.toList.length:=by simp;omega
  rw[List.take_set,show off+(k+1)=off+k+1 by omega,List.drop_set_of_lt (by omega),List.take_add_one,List.getElem?_eq_getElem h1]
  rw[show off+k+1+src.length=off+k+(src.length+1) by omega]
  simp only[Option.toList_some]
  rw[List.set_append_right _ _ (by simp;omega)]
  have hm:min (off+k) dst.size=off+k:=Nat.min_eq_left (by omega)
  simp[hm]
theorem v8 {n nb:Nat} {ρ:Env} {m:Nat->Nat} {place:Nat->Option (Nat×Nat)}:∀{parts:List (Nat×V)} {vals:List (Nat×Value)} {cells l:List A},l7 place cells parts=some l->(∀a∈cells,A.ok n nb ρ a)->
 vg n nb ρ m parts vals->(∀a∈l,A.ok n nb ρ a)/\Instr.fill place (cells.map (A.den ρ m)).toArray vals=some (l.map (A.den ρ m)).toArray
 |[],[],cells,l,h,hc,_=>by simp[l7]at h;subst h;exact⟨hc,rfl⟩
 |(i,.w u)::r,(p4,x)::s,cells,l,h,hc,⟨⟨e1,e2,e3⟩,hr⟩=>by
  simp only at e1;subst e1
  simp only[V.rel]at e3
  have e3:x=u.den ρ m:=e3
  subst e3
  simp only[l7]at h
  cases hp:place i with
  |none=>simp[hp]at h
  |some q=>
   obtain⟨off,size⟩:=q
   simp only[hp]at h
   cases hq:(Nat.beq u.cells.length size&&Nat.ble (off+size) cells.length)with
   |false=>simp[hq]at h
   |true=>
    simp only[hq,cond_true]at h
    simp only[Bool.and_eq_true]at hq
    have q1:=Nat.eq_of_beq_eq_true hq.1
    have q2:=Nat.le_of_ble_eq_true hq.2
    have jZ:=W.vM (m:=m) u e2
    obtain⟨g1,g2⟩:=v8 (m:=m) h (λa ha=>by
     rcases List.mem_append.1 ha with ha|ha
     ·rcases List.mem_append.1 ha with ha|ha
      ·exact hc a (List.mem_of_mem_take ha)
      ·exact W.ra e2 a ha
     ·exact hc a (List.mem_of_mem_drop ha)) hr
    refine⟨g1,?_⟩
    simp only[Instr.fill,hp,jZ,List.size_toArray,List.length_map,q1]
    rw[if_neg (by simp;omega)]
    rw[<-g2]
    congr 1
    have:=EF off (u.cells.map (A.den ρ m)) (cells.map (A.den ρ m)).toArray 0 (by simp;omega)
    simp only[Nat.add_zero]at this
    rw[<-Array.foldl_toList]
    simp only[Array.toList_zipIdx]
    rw[this]
    simp[List.map_take,List.map_drop,q1]
 |(_,.c7 _)::_,_,_,_,h,_,_=>by simp[l7]at h
 |(_,.any)::_,_,_,_,h,_,_=>by simp[l7]at h
 |[],_::_,_,_,_,_,hr=>hr.elim
 |(_,.w _)::_,[],_,_,_,_,hr=>hr.elim
theorem Ke {n nb:Nat} {ρ:Env} {m:Nat->Nat} {t:TypeId} {parts:List (Nat×V)} {vals:List (Nat×Value)} {l:List A} (h:yH P t parts=some l)
 (hr:vg n nb ρ m parts vals):(∀a∈l,A.ok n nb ρ a)/\P.built t vals=some (l.map (A.den ρ m)).toArray:=by
 unfold yH at h
 unfold Program.built
 cases hz:gx P t with
 |none=>simp[hz]at h
 |some z=>
  unfold gx at hz
  cases hi:P.info? t with
  |none=>simp[hi]at hz
  |some it=>
   simp only[hi]at hz
   cases kK:it.zero with
   |none=>simp[kK]at hz
   |some z0=>
    simp only[kK]at hz
    have hzs:=mW hz n nb ρ m
    have hz1:z0.cells=(z.map (A.den ρ m)).toArray:=by rw[hzs.2]
    cases hu:P.underlying t with
    |none=>simp[gx,hi,kK,hz,hu]at h
    |some d=>
     cases d<;>try(simp[gx,hi,kK,hz,hu]at h;done)
     case array len e=>
      simp only[gx,hi,kK,hz,hu,ct]at h
      cases gi:P.info? e with
      |none=>simp[gi]at h
      |some UI=>
       simp only[gi]at h
       simp only[kK,gi,hz1]
       exact v8 h hzs.1 hr
     case struct fields=>
      simp only[gx,hi,kK,hz,hu]at h
      cases hp:fields.toList.mapM (λf=>(P.info? f.type).map λi=>(f.offset,i.size))with
      |none=>simp[hp]at h
      |some places=>
       simp only[hp]at h
       simp only[kK,hp,hz1]
       exact v8 h hzs.1 hr
theorem Bt {t:TypeId} {l:List A} {off:Nat} (hl:∀x∈l,A.ok n bl.length ρ x):ae S L (uH P t l off) n ρ (fK w0 m bl n ρ λw=>(part t (l.map (A.den ρ m)).toArray off).run P w):=by
 unfold uH
 cases h1:dW P t with
 |none=>exact ae.fail
 |some b=>
  cases b with
  |true=>
   cases h2:ct P t with
   |none=>exact ae.fail
   |some k=>
    refine ae.pure ⟨λx hx=>hl x (List.mem_of_mem_drop (List.mem_of_mem_take hx)),_,rfl,λw _=>?_⟩
    simp[part,ic h1,dL h2,W.den,List.map_take,List.map_drop,List.take_drop]
    try congr 1
  |false=>
   cases h3:l[off]? with
   |none=>exact ae.fail
   |some x=>
    refine ae.pure ⟨hl x (List.mem_of_getElem? h3),_,rfl,λw _=>?_⟩
    simp[part,ic h1,h3,W.den]
theorem k9 {t:TypeId} {len:Nat} {e:TypeId} (h:jn P t=some (len,e)):P.underlying t=some (.array len e):=by
 unfold jn at h
 cases hu:P.underlying t with
 |none=>simp[hu]at h
 |some d=>cases d<;>simp[hu]at h<;>simp[h]
theorem df {t e:TypeId} (h:dP P t=some e):P.underlying t=some (.slice e):=by
 unfold dP at h
 cases hu:P.underlying t with
 |none=>simp[hu]at h
 |some d=>cases d<;>simp[hu]at h<;>simp[h]
theorem AS {t:TypeId} {k:IntKind} (h:kindOf P t=some k):P.underlying t=some (.int k):=by
 unfold kindOf at h
 cases hu:P.underlying t with
 |none=>simp[hu]at h
 |some d=>cases d<;>simp[hu]at h<;>simp[h]
theorem y8 {s:TypeId} {f:Nat} {fd:Field} (h:ti P s f=some fd):∃bT,P.underlying s=some (.struct bT)/\bT[f]?=some fd:=by
 unfold ti at h
 cases hu:P.underlying s with
 |none=>simp[hu]at h
 |some d=>cases d<;>simp[hu]at h<;>exact⟨_,rfl,h⟩
theorem Oq {t:TypeId} {x:V} {k:IntKind} {au:aM} {X:Value} (hx:x.ok n bl.length ρ) (aX:x.rel ρ m X) (hi:au.ok n ρ):
 ae S L (AI P t x au) n ρ (fK w0 m bl n ρ λw=>(Instr.indexAt t X (.int k (au.l.den ρ))).run P w):=by
 unfold AI
 split
 ·rename_i b off
  simp only[V.rel,W.den,A.den]at aX;subst aX
  cases h1:jn P t with
  |none=>exact ae.fail
  |some q=>
   obtain⟨len,e⟩:=q
   cases h2:ct P e with
   |none=>simp only[h2];exact ae.fail
   |some s=>
    simp only[h2]
    cases h3:au.l.bQ with
    |some i=>
     refine bR λhc=>ae.pure ⟨hx,_,rfl,λw _=>?_⟩
     simp only[Bool.and_eq_true,decide_eq_true_eq]at hc
     simp[Instr.indexAt,asIntOf,run_underlying (k9 h1),Instr.sureAddr,I.ej h3,hc,dL h2,dS,W.den,A.den]
    |none=>
     refine bR λhc=>ae.pure ⟨?_,_,rfl,λw _=>?_⟩
     ·simp only[Bool.and_eq_true,decide_eq_true_eq]at hc
      exact⟨hx,hi,hc.1.2⟩
     ·simp only[Bool.and_eq_true,decide_eq_true_eq]at hc
      have hs:=Nat.eq_of_beq_eq_true hc.1.1
      subst hs
      have b1:=hi.2
      have c1:0<=au.l.den ρ:=by omega
      have av:au.l.den ρ<len:=by omega
      simp[Instr.indexAt,asIntOf,run_underlying (k9 h1),Instr.sureAddr,c1,av,dL h2,dS,W.den,A.den]
 ·rename_i g off
  simp only[V.rel,W.den,A.den]at aX;subst aX
  cases h1:jn P t with
  |none=>exact ae.fail
  |some q=>
   obtain⟨len,e⟩:=q
   cases h2:ct P e with
   |none=>simp only[h2];exact ae.fail
   |some s=>
    simp only[h2]
    cases h3:au.l.bQ with
    |some i=>
     refine bR λhc=>ae.pure ⟨trivial,_,rfl,λw _=>?_⟩
     simp only[Bool.and_eq_true,decide_eq_true_eq]at hc
     simp[Instr.indexAt,asIntOf,run_underlying (k9 h1),Instr.sureAddr,I.ej h3,hc,dL h2,dS,W.den,A.den]
    |none=>
     refine bR λhc=>db λhq=>ae.pure ⟨?_,_,rfl,λw _=>?_⟩
     ·simp only[List.map_cons,List.map_nil,I.ay,aG,vN]at hq
      exact⟨⟨hi.1,by show(0:Int)<=_;exact hq.1,by show _<=((len:Int)-1);have:=hq.2;simp only;omega⟩,Int.le_refl _⟩
     ·simp only[List.map_cons,List.map_nil,I.ay,aG,vN]at hq
      have hs:=Nat.eq_of_beq_eq_true hc
      subst hs
      simp[Instr.indexAt,asIntOf,run_underlying (k9 h1),Instr.sureAddr,hq.1,hq.2,dL h2,dS,W.den,A.den]
 ·rename_i b off len cap
  simp only[V.rel,W.den,A.den]at aX;subst aX
  cases h1:dP P t with
  |none=>exact ae.fail
  |some e=>
   cases h2:ct P e with
   |none=>simp only[h2];exact ae.fail
   |some s=>
    simp only[h2]
    cases h3:au.l.bQ with
    |some i=>
     refine bR λhc=>ae.pure ⟨hx,_,rfl,λw _=>?_⟩
     simp only[Bool.and_eq_true,decide_eq_true_eq]at hc
     simp[Instr.indexAt,asIntOf,run_underlying (df h1),Instr.sureAddr,I.ej h3,hc,dL h2,dS,W.den,A.den]
    |none=>
     refine bR λhc=>ae.pure ⟨?_,_,rfl,λw _=>?_⟩
     ·simp only[Bool.and_eq_true,decide_eq_true_eq]at hc
      exact⟨hx,hi,hc.1.2⟩
     ·simp only[Bool.and_eq_true,decide_eq_true_eq]at hc
      have hs:=Nat.eq_of_beq_eq_true hc.1.1
      subst hs
      have b1:=hi.2
      have c1:0<=au.l.den ρ:=by omega
      have av:au.l.den ρ<len:=by omega
      simp[Instr.indexAt,asIntOf,run_underlying (df h1),Instr.sureAddr,c1,av,dL h2,dS,W.den,A.den]
 ·rename_i b len lo
  obtain⟨c,_,aX⟩:=aX
  subst aX
  cases h1:dP P t with
  |none=>exact ae.fail
  |some e=>
   cases h2:ct P e with
   |none=>simp only[h2];exact ae.fail
   |some s=>
    simp only[h2]
    cases h3:au.l.bQ with
    |some i=>
     refine bR λhc=>ae.pure ⟨hx,_,rfl,λw _=>?_⟩
     simp only[Bool.and_eq_true,decide_eq_true_eq]at hc
     simp[Instr.indexAt,asIntOf,run_underlying (df h1),Instr.sureAddr,I.ej h3,hc,dL h2,dS,W.den,A.den]
    |none=>exact ae.fail
 ·exact ae.fail
theorem QG {vs:List V}:∀{l:List A} {xs:List Value},nx vs=some l->(∀v∈vs,V.ok n bl.length ρ v)->cU ρ m vs xs->(∀a∈l,A.ok n bl.length ρ a)/\xs=l.map (A.den ρ m):=by
 induction vs with
 |nil=>
  intro l xs h _ hr
  simp[nx]at h;subst h
  cases xs with
  |nil=>exact⟨λ_ h=>by simp at h,rfl⟩
  |cons _ _=>exact hr.elim
 |cons v r ih=>
  intro l xs h aK hr
  cases xs with
  |nil=>cases v<;>exact hr.elim
  |cons x s=>
   cases v with
   |w y=>
    cases y with
    |agg q=>simp[nx]at h
    |one a=>
     cases h1:nx r with
     |none=>simp[nx,h1]at h
     |some aT=>
      simp only[nx,h1,Option.some.injEq]at h
      subst h
      obtain⟨e1,e2⟩:=ih h1 (λv hv=>aK v (List.mem_cons_of_mem _ hv)) hr.2
      have h0:x=a.den ρ m:=hr.1
      exact⟨λb hb=>by rcases List.mem_cons.1 hb with rfl|hb;exact aK (.w (.one b)) (by simp);exact e1 b hb,by rw[h0,e2];rfl⟩
   |_=>simp[nx]at h
theorem Lb {e:TypeId} {k:IntKind} (he:P.underlying e=some (.int k)) (d:Nat) (xs dm:Array Value) (w:World):∀(l aT:List A) (i:Nat) (b:aC),nZ l aT=some b->(∀x∈l,A.ok n bl.length ρ x)->(∀x∈aT,A.ok n bl.length ρ x)->
 xs.toList.drop i=l.map (A.den ρ m)->dm.toList.drop i=aT.map (A.den ρ m)->b.aA n/\(Op.eqItems (d+1) e 1 xs dm (List.range' i l.length)).run P w= .ok (b.den ρ) w:=by
 intro l
 induction l with
 |nil=>
  intro aT i b h _ _ _ _
  cases aT with
  |nil=>simp[nZ]at h;subst h;exact⟨trivial,by simp[Op.eqItems,aC.den]⟩
  |cons y ed=>simp[nZ]at h
 |cons x r ih=>
  intro aT i b h hl nc hx hy
  cases aT with
  |nil=>cases x<;>simp[nZ]at h
  |cons y ed=>
   cases x<;>cases y<;>simp only[nZ]at h<;>try(cases h;done)
   rename_i k1 x k2 y
   by_cases hk:k1=k2
   ·subst hk
    simp only[decide_true,cond_true]at h
    cases hr:nZ r ed with
    |none=>simp[hr]at h
    |some bq=>
     simp only[hr,Option.some.injEq]at h
     subst h
     have Ny:x.ok n ρ:=hl (.int k1 x) (by simp)
     have Nz:y.ok n ρ:=nc (.int k1 y) (by simp)
     have e1:=aC.ky Ny Nz
     have tq:xs[i]?=some (.int k1 (x.l.den ρ)):=by
      have:=congrArg List.head? hx
      simpa [A.den]using this
     have tr:dm[i]?=some (.int k1 (y.l.den ρ)):=by
      have:=congrArg List.head? hy
      simpa [A.den]using this
     have pj:xs.toList.drop (i+1)=r.map (A.den ρ m):=by
      have:=congrArg List.tail hx
      simpa using this
     have aq:dm.toList.drop (i+1)=ed.map (A.den ρ m):=by
      have:=congrArg List.tail hy
      simpa using this
     obtain⟨s2,r2⟩:=ih ed (i+1) bq hr (λz hz=>hl z (List.mem_cons_of_mem _ hz)) (λz hz=>nc z (List.mem_cons_of_mem _ hz)) pj aq
     refine⟨aC.xP e1.2 s2,?_⟩
     simp only[List.length_cons,List.range'_succ,Op.eqItems,Sem.run_bind]
     have ke:(part e xs (i*1)).run P w= .ok (.int k1 (x.l.den ρ)) w:=by simp[part,isAgg,run_underlying he,tq]
     have qq:(part e dm (i*1)).run P w= .ok (.int k1 (y.l.den ρ)) w:=by simp[part,isAgg,run_underlying he,tr]
     simp only[ke,qq,Result.andThen_ok,run_equalIn_int w d e k1 k _ _ he,aC.vT,e1.1]
     by_cases hq:x.l.den ρ=y.l.den ρ
     ·simp[hq,r2]
     ·simp[hq]
   ·simp[hk]at h
theorem Ek {t:TypeId} {x y:List A} {b:aC} (h:y7 P t x y=some b) (hx:∀z∈x,A.ok n bl.length ρ z) (hy:∀z∈y,A.ok n bl.length ρ z):
 b.aA n/\P.eqGuardType P.depth t=false/\∀w,(Op.equalIn 10000 t (.agg (x.map (A.den ρ m)).toArray) (.agg (y.map (A.den ρ m)).toArray)).run P w= .ok (b.den ρ) w:=by
 unfold y7 at h
 cases h1:jn P t with
 |none=>simp[h1]at h
 |some q=>
  obtain⟨len,e⟩:=q
  simp only[h1]at h
  cases h2:kindOf P e with
  |none=>simp[h2]at h
  |some k=>
   cases h3:ct P e with
   |none=>simp[h2,h3]at h
   |some s=>
    match s,h3 with
    |0,h3=>simp[h2,h3]at h
    |s+2,h3=>simp[h2,h3]at h
    |1,h3=>
     simp only[h2,h3]at h
     cases hc:(Nat.beq x.length len&&Nat.beq y.length len&& !P.eqGuardType P.depth t)with
     |false=>simp[hc]at h
     |true=>
      simp only[hc,cond_true]at h
      simp only[Bool.and_eq_true,Bool.not_eq_true']at hc
      have hl:=Nat.eq_of_beq_eq_true hc.1.1
      have MW:∃i,P.info? e=some i/\P.cellsOf e=1:=by
       unfold ct at h3
       cases hq:P.info? e with
       |none=>simp[hq]at h3
       |some i=>simp[hq]at h3;exact⟨i,rfl,by simp[Program.cellsOf,hq,h3]⟩
      obtain⟨i,j4,bE⟩:=MW
      have kG:=λw=>Lb (P:=P) (bl:=bl) (n:=n) (ρ:=ρ) (m:=m) (AS h2) 9998 (x.map (A.den ρ m)).toArray (y.map (A.den ρ m)).toArray w x y 0 b h hx hy (by simp) (by simp)
      refine⟨(kG default).1,hc.2,λw=>?_⟩
      rw[show(10000:Nat)=9999+1 from rfl,run_equalIn_array w 9999 _ _ (k9 h1) j4,bE,List.range_eq_range',<-hl]
      exact(kG w).2
theorem pa (l:List UInt8):(aF l).toList=l:=ByteArray.toList_mk l
theorem jN (l:List UInt8):(aF l).size=l.length:=by simp[aF,ByteArray.size]
theorem Dw (l aT:List UInt8):(l==aT)=decide ((if l=aT then(1:Int)else 0)=1):=by
 by_cases h:l=aT
 ·subst h;simp
 ·rw[if_neg h];simp[h]
theorem s8 (p:Prop) [Decidable p]:(0:Int)<=(if p then 1 else 0)/\(if p then(1:Int)else 0)<=1:=by split<;>decide
theorem GP (b:Bool):b=decide ((if b=true then(1:Int)else 0)=1):=by cases b<;>rfl
theorem Sx {op:BinOp} {t:TypeId} {x y:Operand} {p q:I} (hp:(A.str p).ok n bl.length ρ) (hq:(A.str q).ok n bl.length ρ):
 ae S L (Cg op p q) n ρ (fK w0 m bl n ρ λw=>(do eqGuard op t x y (.string (aF (J (p.den ρ)))) (.string (aF (J (q.den ρ))));binOp op t (.string (aF (J (p.den ρ)))) (.string (aF (J (q.den ρ)))):Sem Value).run P w):=by
 have b1:=s8 (J (p.den ρ)=J (q.den ρ))
 have b2:=s8 (Op.bytesLess (J (p.den ρ)) (J (q.den ρ))=true)
 unfold Cg
 split
 ·refine db λhc=>?_
  have hc:(J (p.den ρ)).length+(J (q.den ρ)).length<=eu:=hc
  have hl:(J (p.den ρ)++J (q.den ρ)).length<=eu:=by simpa using hc
  refine(cS (op:=3) (args:=[p,q]) (ku _) (jI hl)).bind λak n1 l _ _ ⟨h1,h2⟩=>?_
  have h2:l.den ak=dz (J (p.den ρ)++J (q.den ρ)):=h2
  refine ae.pure ⟨⟨h1,by rw[h2];exact ku _,by rw[h2];exact jI hl⟩,_,rfl,λw _=>?_⟩
  have hr:=run_string_add_sum (P:=P) w (aF (J (p.den ρ))) (aF (J (q.den ρ))) (by rw[jN,jN];unfold eu at hc;omega)
  simp only[eqGuard,binOp_string_add,W.den,A.den,h2,gu]
  simp[hr]
  exact ByteArray.mk_append_mk _ _
 ·refine(cS (op:=4) (args:=[p,q]) b1.1 b1.2).bind λak n1 l _ _ ⟨h1,h2⟩=>?_
  have h2:l.den ak=if J (p.den ρ)=J (q.den ρ)then 1 else 0:=h2
  have e:=aC.ky (n:=n1) (ρ:=ak) (a:=⟨l,0,1⟩) (b:= .const 1) ⟨h1,by simp only[h2];exact b1.1,by simp only[h2];exact b1.2⟩ (aM.hP _ _ _)
  refine ae.pure ⟨e.2,_,rfl,λw _=>?_⟩
  simp only[W.den,A.den,binOp_string_eql,pa]
  rw[e.1]
  simp only[h2,aM.const,I.ay,Dw]
  simp[eqGuard]
 ·refine(cS (op:=4) (args:=[p,q]) b1.1 b1.2).bind λak n1 l _ _ ⟨h1,h2⟩=>?_
  have h2:l.den ak=if J (p.den ρ)=J (q.den ρ)then 1 else 0:=h2
  have e:=aC.ky (n:=n1) (ρ:=ak) (a:=⟨l,0,1⟩) (b:= .const 1) ⟨h1,by simp only[h2];exact b1.1,by simp only[h2];exact b1.2⟩ (aM.hP _ _ _)
  refine ae.pure ⟨aC.mz e.2,_,rfl,λw _=>?_⟩
  simp only[W.den,A.den,aC.l3,binOp_string_neq,pa]
  rw[e.1]
  simp only[h2,aM.const,I.ay,Dw]
  simp[eqGuard]
 ·refine(cS (op:=5) (args:=[p,q]) b2.1 b2.2).bind λak n1 l _ _ ⟨h1,h2⟩=>?_
  have h2:l.den ak=if Op.bytesLess (J (p.den ρ)) (J (q.den ρ))=true then 1 else 0:=h2
  have e:=aC.ky (n:=n1) (ρ:=ak) (a:=⟨l,0,1⟩) (b:= .const 1) ⟨h1,by simp only[h2];exact b2.1,by simp only[h2];exact b2.2⟩ (aM.hP _ _ _)
  refine ae.pure ⟨e.2,_,rfl,λw _=>?_⟩
  simp only[W.den,A.den,binOp_string_lss,pa]
  rw[e.1]
  simp only[h2,aM.const,I.ay]
  rw[<-GP]
  simp[eqGuard]
 ·refine(cS (op:=5) (args:=[p,q]) b2.1 b2.2).bind λak n1 l _ _ ⟨h1,h2⟩=>?_
  have h2:l.den ak=if Op.bytesLess (J (p.den ρ)) (J (q.den ρ))=true then 1 else 0:=h2
  have e:=aC.ky (n:=n1) (ρ:=ak) (a:=⟨l,0,1⟩) (b:= .const 1) ⟨h1,by simp only[h2];exact b2.1,by simp only[h2];exact b2.2⟩ (aM.hP _ _ _)
  refine ae.pure ⟨aC.mz e.2,_,rfl,λw _=>?_⟩
  simp only[W.den,A.den,aC.l3,binOp_string_geq,pa]
  rw[e.1]
  simp only[h2,aM.const,I.ay]
  rw[<-GP]
  simp[eqGuard]
 ·exact ae.fail
theorem Sz {t ty:TypeId} {p:I} (hu:P.underlying t=some .string) (hp:(A.str p).ok n bl.length ρ):
 ae S L (IC p) n ρ (fK w0 m bl n ρ λw=>(Builtin.len_ #[t] ty #[.string (aF (J (p.den ρ)))]).run P w):=by
 have hl:=oT hp.2.2
 unfold eu at hl
 refine(cS (op:=0) (args:=[p]) (Int.natCast_nonneg _) (by show((J (p.den ρ)).length:Int)<=_;omega)).bind λak n1 l _ _ ⟨h1,h2⟩=>?_
 have h2:l.den ak=((J (p.den ρ)).length:Int):=h2
 refine ae.pure ⟨⟨h1,by simp only[h2];omega,by simp only[h2];omega⟩,_,rfl,λw _=>?_⟩
 simp[Builtin.len_,run_underlying hu,goInt,W.den,A.den,h2,jN]
theorem Sy {t:TypeId} {k:IntKind} {p i:I} (hu:P.underlying t=some .string) (hp:(A.str p).ok n bl.length ρ):
 ae S L (IB p i) n ρ (fK w0 m bl n ρ λw=>(Instr.index t (.string (aF (J (p.den ρ)))) (.int k (i.den ρ))).run P w):=by
 refine db λhc=>?_
 have hc:0<=i.den ρ/\i.den ρ<((J (p.den ρ)).length:Int):=hc
 have hlt:(i.den ρ).toNat<(J (p.den ρ)).length:=by omega
 have hb:=((J (p.den ρ)).getD (i.den ρ).toNat 0).toNat_lt
 refine(cS (op:=1) (args:=[p,i]) (Int.natCast_nonneg _) (by show(((J (p.den ρ)).getD (i.den ρ).toNat 0).toNat:Int)<=_;omega)).bind λak n1 l _ _ ⟨h1,h2⟩=>?_
 have h2:l.den ak=(((J (p.den ρ)).getD (i.den ρ).toNat 0).toNat:Int):=h2
 refine ae.pure ⟨⟨h1,by simp only[h2];omega,by simp only[h2];omega⟩,_,rfl,λw _=>?_⟩
 have e:(aF (J (p.den ρ)))[(i.den ρ).toNat]?=some ((J (p.den ρ)).getD (i.den ρ).toNat 0):=by
  rw[ByteArray.getElem?_lt' _ _ (by rw[jN];exact hlt)]
  simp[aF,List.getD,hlt]
  rfl
 simp[Instr.index,asIntOf,run_underlying hu,hc.1,e,W.den,A.den,h2]
theorem SC {p a b:I} (hp:(A.str p).ok n bl.length ρ):ae S L (xV p a b) n ρ λaa n' v=>v.ok n' bl.length aa/\v.rel aa m (.string ((aF (J (p.den ρ))).extract (a.den ρ).toNat (b.den ρ).toNat))/\0<=a.den ρ/\a.den ρ<=b.den ρ/\b.den ρ<=((J (p.den ρ)).length:Int):=by
 refine db λhc=>?_
 have hc:0<=a.den ρ/\a.den ρ<=b.den ρ/\b.den ρ<=((J (p.den ρ)).length:Int):=hc
 have hl:=oT hp.2.2
 have hl2:(((J (p.den ρ)).drop (a.den ρ).toNat).take ((b.den ρ).toNat-(a.den ρ).toNat)).length<=eu:=by simp;omega
 refine(cS (op:=2) (args:=[p,a,b]) (ku _) (jI hl2)).bind λak n1 l _ _ ⟨h1,h2⟩=>?_
 have h2:l.den ak=dz (((J (p.den ρ)).drop (a.den ρ).toNat).take ((b.den ρ).toNat-(a.den ρ).toNat)):=h2
 refine ae.pure ⟨⟨h1,by rw[h2];exact ku _,by rw[h2];exact jI hl2⟩,?_,hc⟩
 show _=_
 simp only[W.den,A.den,h2,gu]
 congr 1
 exact ByteArray.extract_mk _ _ _
theorem p8 {v:V} {l:I} {x:Value} (h:je v=some l) (hr:v.rel ρ m x) (aK:v.ok n bl.length ρ):∃k,x= .int k (l.den ρ)/\l.aA n:=by
 unfold je at h
 split at h
 ·rename_i k a
  simp only[Option.some.injEq]at h;subst h
  exact⟨k,hr,aK.1⟩
 ·cases h
theorem ki {k:IntKind} {i:Int} {y:Nat} {iN:BoundsCode} (p1:0<=i) (bc:i<=y) (w:World):(Instr.sliceBound (.int k i) y iN).run P w= .ok i.toNat w:=by
 simp[Instr.sliceBound,asIntOf,p1,bc]
theorem SA {t:TypeId} {p:I} {lo hi:Option Operand} (hu:P.underlying t=some .string) (hp:(A.str p).ok n bl.length ρ) (ht:bS n bl.length ρ m tm a.tmps):
 ae S L (Ch tm p lo hi) n ρ (fK w0 m bl n ρ λw=>(Instr.sliceAt t (.string (aF (J (p.den ρ)))) (lo.map a.eval) (hi.map a.eval) none).run P w):=by
 unfold Ch
 split
 ·exact ae.fail
 ·rename_i la rN
  have ix:∃f:Option Value,lo.map a.eval=f/\(f=none/\la.den ρ=0∨∃k,f=some (.int k (la.den ρ))):=by
   cases lo with
   |none=>simp only[Option.some.injEq]at rN;subst rN;exact⟨none,rfl,.inl ⟨rfl,I.ay _ _⟩⟩
   |some x=>
    obtain⟨k,hk,_⟩:=p8 (m:=m) (bl:=bl) rN (bf ht x).2 (bf ht x).1
    exact⟨_,rfl,.inr ⟨k,by rw[<-hk];rfl⟩⟩
  obtain⟨Ev,e1,eo⟩:=ix
  have key:∀(lb:I) (ak:Env) (n1:Nat),n<=n1->agree n ρ ak->(hi.map a.eval=none/\lb.den ak=((J (p.den ρ)).length:Int)∨∃k,hi.map a.eval=some (.int k (lb.den ak)))->la.aA n->
   ae S L (xV p la lb) n1 ak (fK w0 m bl n ρ λw=>(Instr.sliceAt t (.string (aF (J (p.den ρ)))) (lo.map a.eval) (hi.map a.eval) none).run P w):=λlb ak n1 hn ha ad NP=>by
   have pQ:(A.str p).ok n1 bl.length ak:=hp.ext ha hn (Nat.le_refl _)
   have ep:p.den ak=p.den ρ:=I.aP ha hp.1
   have y2:la.den ak=la.den ρ:=I.aP ha NP
   refine(SC (m:=m) (bl:=bl) (a:=la) (b:=lb) pQ).mono λaH cA v _ _ ⟨q1,q2,q3,q4,q5⟩=>⟨q1,_,q2,λw _=>?_⟩
   rw[ep,y2]at*
   have iT:(Instr.sliceBounds false (aF (J (p.den ρ))).size (aF (J (p.den ρ))).size Ev (hi.map a.eval) none).run P w= .ok ((la.den ρ).toNat,(lb.den ak).toNat,(aF (J (p.den ρ))).size) w:=by
    rw[jN]
    rcases eo with⟨rfl,hz⟩|⟨k,rfl⟩<;>rcases ad with⟨h1,h2⟩|⟨k2,h1⟩
    ·rw[h1,hz,h2];simp[Instr.sliceBounds]
    ·rw[h1,hz];simp[Instr.sliceBounds,ki (P:=P) (by omega:0<=lb.den ak) q5]
    ·rw[h1,h2];simp[Instr.sliceBounds,ki (P:=P) (y:=(J (p.den ρ)).length) q3 (by omega)]
    ·rw[h1];simp[Instr.sliceBounds,ki (P:=P) (by omega:0<=lb.den ak) q5,ki (P:=P) (y:=(lb.den ak).toNat) q3 (by omega)]
   rw[e1]
   simp[Instr.sliceAt,Instr.slice,run_underlying hu,iT]
  have rP:la.aA n:=by
   cases lo with
   |none=>simp only[Option.some.injEq]at rN;subst rN;exact I.br _ _
   |some x=>exact(p8 (m:=m) (bl:=bl) rN (bf ht x).2 (bf ht x).1).choose_spec.2
  cases hi with
  |none=>
   have hl:=oT hp.2.2
   unfold eu at hl
   exact(cS (op:=0) (args:=[p]) (Int.natCast_nonneg _) (by show((J (p.den ρ)).length:Int)<=_;omega)).bind λak n1 l hn ha ⟨h1,h2⟩=>key l ak n1 hn ha (.inl ⟨rfl,h2⟩) rP
  |some y=>
   simp only
   cases hy:je (aU tm y)with
   |none=>exact ae.fail
   |some b=>
    obtain⟨k,hk,_⟩:=p8 (m:=m) (bl:=bl) hy (bf ht y).2 (bf ht y).1
    exact key b ρ n (Nat.le_refl _) (agree.refl _ _) (.inr ⟨k,by rw[<-hk];rfl⟩) rP
theorem ve {xs:List Operand} (h:bS n bl.length ρ m tm a.tmps):cU ρ m (xs.map (aU tm)) (xs.map a.eval):=by
 induction xs with
 |nil=>trivial
 |cons x r ih=>exact⟨(bf h x).2,ih⟩
theorem BT {c:Call} {f:FuncId} (hc:c.callee= .value (.func f)) (o:Oper) (ho:o.op= .call c):execOp a.eval o=callFunc f (c.args.map a.eval):=by
 simp only[execOp,ho,resolve,hc,Act.eval,Deferred.ofValue]
 simp[invoke,bind_pure_comp]
theorem y6 {nb:Nat} {m:Nat->Nat}:∀(bT:List Field) (x y:List A) (i n:Nat) (ρ:Env),rn P i bT=true->(∀a∈x,A.ok n nb ρ a)->(∀a∈y,A.ok n nb ρ a)->
 ae S L (jR P bT x y) n ρ λaa n' b=>b.aA n'/\∀(w:World) (d:Nat) (xs dm:Array Value),xs.toList.drop i=x.map (A.den ρ m)->dm.toList.drop i=y.map (A.den ρ m)->(Op.eqFields (d+1) xs dm bT).run P w= .ok (b.den aa) w
 |[],[],[],i,n,ρ,_,_,_=>ae.pure ⟨trivial,λw d xs dm _ _=>by simp[Op.eqFields,aC.den]⟩
 |f::bT,x::xs,y::dm,i,n,ρ,hf,hx,hy=>by
  cases x with
  |int k a=>
   cases y with
   |int aD b=>
    unfold rn at hf
    simp only[Bool.and_eq_true,bne_iff_ne,ne_eq]at hf
    obtain⟨⟨hn,ho⟩,hf⟩:=hf
    have ho:=Nat.eq_of_beq_eq_true ho
    unfold jR
    split
    ·rename_i k2 hk2
     have hu:=AS hk2
     refine bR λhk=>?_
     have hk:k=aD:=by simpa using hk
     subst hk
     have uD:a.ok n ρ:=hx (.int k a) (by simp)
     have uE:b.ok n ρ:=hy (.int k b) (by simp)
     refine(y6 (nb:=nb) (m:=m) bT xs dm (i+1) n ρ hf (λz hz=>hx z (List.mem_cons_of_mem _ hz)) (λz hz=>hy z (List.mem_cons_of_mem _ hz))).bind λaa n' r pN cY ⟨r1,r2⟩=>ae.pure ?_
     have e1:=aC.ky (uD.agree cY pN) (uE.agree cY pN)
     refine⟨aC.xP e1.2 r1,λw d hE hJ ue uf=>?_⟩
     have tq:hE[i]?=some (.int k (a.l.den ρ)):=by
      have:=congrArg List.head? ue
      simpa [A.den]using this
     have tr:hJ[i]?=some (.int k (b.l.den ρ)):=by
      have:=congrArg List.head? uf
      simpa [A.den]using this
     have pj:hE.toList.drop (i+1)=xs.map (A.den ρ m):=by
      have:=congrArg List.tail ue
      simpa using this
     have aq:hJ.toList.drop (i+1)=dm.map (A.den ρ m):=by
      have:=congrArg List.tail uf
      simpa using this
     have ke:(part f.type hE f.offset).run P w= .ok (.int k (a.l.den ρ)) w:=by simp[part,isAgg,run_underlying hu,ho,tq]
     have qq:(part f.type hJ f.offset).run P w= .ok (.int k (b.l.den ρ)) w:=by simp[part,isAgg,run_underlying hu,ho,tr]
     have y2:a.l.den aa=a.l.den ρ:=by
      have:=A.fL (m:=m) (m':=m) (hx (.int k a) (by simp)) cY (λ_ _=>rfl)
      simpa [A.den]using this
     have nX:b.l.den aa=b.l.den ρ:=by
      have:=A.fL (m:=m) (m':=m) (hy (.int k b) (by simp)) cY (λ_ _=>rfl)
      simpa [A.den]using this
     simp only[Op.eqFields,ne_eq,hn,not_false_eq_true,if_true,Sem.run_bind,ke,qq,Result.andThen_ok,run_equalIn_int w d f.type k k2 _ _ hu,aC.vT,e1.1,y2,nX]
     by_cases hq:a.l.den ρ=b.l.den ρ
     ·simp[hq,r2 w d hE hJ pj aq]
     ·simp[hq]
    ·exact ae.fail
   |_=>unfold jR;exact ae.fail
  |str a=>
   cases y with
   |str b=>
    unfold rn at hf
    simp only[Bool.and_eq_true,bne_iff_ne,ne_eq]at hf
    obtain⟨⟨hn,ho⟩,hf⟩:=hf
    have ho:=Nat.eq_of_beq_eq_true ho
    unfold jR
    split
    ·rename_i hu
     have b1:=s8 (J (a.den ρ)=J (b.den ρ))
     refine(cS (op:=4) (args:=[a,b]) b1.1 b1.2).bind λak n1 l cv pD ⟨h1,h2⟩=>?_
     have h2:l.den ak=if J (a.den ρ)=J (b.den ρ)then 1 else 0:=h2
     have ni:∀z∈xs,A.ok n1 nb ak z:=λz hz=>(hx z (List.mem_cons_of_mem _ hz)).ext pD cv (Nat.le_refl _)
     have Od:∀z∈dm,A.ok n1 nb ak z:=λz hz=>(hy z (List.mem_cons_of_mem _ hz)).ext pD cv (Nat.le_refl _)
     have ol:(⟨l,0,1⟩:aM).ok n1 ak:=⟨h1,by simp only[h2];exact b1.1,by simp only[h2];exact b1.2⟩
     refine(y6 (nb:=nb) (m:=m) bT xs dm (i+1) n1 ak hf ni Od).bind λaa n' r pN cY ⟨r1,r2⟩=>ae.pure ?_
     have e1:=aC.ky (n:=n') (ρ:=aa) (a:=⟨l,0,1⟩) (b:= .const 1) (ol.agree cY pN) (aM.hP _ _ _)
     refine⟨aC.xP e1.2 r1,λw d hE hJ ue uf=>?_⟩
     have tq:hE[i]?=some (.string (aF (J (a.den ρ)))):=by
      have:=congrArg List.head? ue
      simpa [A.den]using this
     have tr:hJ[i]?=some (.string (aF (J (b.den ρ)))):=by
      have:=congrArg List.head? uf
      simpa [A.den]using this
     have pj:hE.toList.drop (i+1)=xs.map (A.den ak m):=by
      have:=congrArg List.tail ue
      rw[List.map_congr_left (g:=A.den ρ m) λz hz=>A.fL (hx z (List.mem_cons_of_mem _ hz)) pD (λ_ _=>rfl)]
      simpa using this
     have aq:hJ.toList.drop (i+1)=dm.map (A.den ak m):=by
      have:=congrArg List.tail uf
      rw[List.map_congr_left (g:=A.den ρ m) λz hz=>A.fL (hy z (List.mem_cons_of_mem _ hz)) pD (λ_ _=>rfl)]
      simpa using this
     have ke:(part f.type hE f.offset).run P w= .ok (.string (aF (J (a.den ρ)))) w:=by simp[part,isAgg,run_underlying hu,ho,tq]
     have qq:(part f.type hJ f.offset).run P w= .ok (.string (aF (J (b.den ρ)))) w:=by simp[part,isAgg,run_underlying hu,ho,tr]
     have el:l.den aa=l.den ak:=I.aP cY h1
     have e2:(aC.mkEq ⟨l,0,1⟩ (.const 1)).den aa=decide (J (a.den ρ)=J (b.den ρ)):=by
      rw[e1.1]
      simp only[aM.const,I.ay,el,h2]
      by_cases hq:J (a.den ρ)=J (b.den ρ)<;>simp[hq]
     simp only[Op.eqFields,ne_eq,hn,not_false_eq_true,if_true,Sem.run_bind,ke,qq,Result.andThen_ok,run_equalIn_string w d f.type _ _ hu,aC.vT,e2,pa]
     by_cases hq:J (a.den ρ)=J (b.den ρ)
     ·simp[hq,r2 w d hE hJ pj aq]
     ·simp[hq]
    ·exact ae.fail
   |_=>unfold jR;exact ae.fail
  |_=>unfold jR;exact ae.fail
 |[],_::_,_,_,_,_,_,_,_=>by unfold jR;exact ae.fail
 |[],[],y::_,_,_,_,_,_,_=>by cases y<;>(unfold jR;exact ae.fail)
 |_::_,[],_,_,_,_,_,_,_=>by unfold jR;exact ae.fail
 |_::_,x::_,[],_,_,_,_,_,_=>by cases x<;>(unfold jR;exact ae.fail)
def sW (P:Program) (t:TypeId) (l:List Value) (v:Value):Prop:=(dW P t=some true/\v= .agg l.toArray)∨(dW P t=some false/\l=[v])
theorem Hz {t:TypeId} {xs:Array Value} {o s:Nat} (hs:ct P t=some s) {v:Value} (h:sW P t ((xs.toList.drop o).take s) v) (w:World):(part t xs o).run P w= .ok v w:=by
 obtain⟨l⟩:=xs
 rcases h with⟨h1,rfl⟩|⟨h1,h2⟩
 ·simp[part,ic h1,dL hs,List.take_drop]
 ·have h3:(⟨l⟩:Array Value)[o]?=some v:=by
   have h4:=congrArg List.head? h2
   rw[<-Array.getElem?_toList]
   cases s with
   |zero=>simp at h2
   |succ s=>simpa [List.head?_take,List.head?_drop]using h4
  simp[part,ic h1,h3]
theorem Ei {nb:Nat} {m:Nat->Nat} {g:TypeId->List A->List A->M aC} {D:Nat}
 (hg:∀(t:TypeId) (x y:List A) (n:Nat) (ρ:Env),(∀a∈x,A.ok n nb ρ a)->(∀a∈y,A.ok n nb ρ a)->ae S L (g t x y) n ρ λaa n' b=>b.aA n'/\∃hE hJ,sW P t (x.map (A.den ρ m)) hE/\sW P t (y.map (A.den ρ m)) hJ/\∀w,(Op.equalIn D t hE hJ).run P w= .ok (b.den aa) w):
 ∀(bT:List Field) (x y:List A) (o n:Nat) (ρ:Env),(∀a∈x,A.ok n nb ρ a)->(∀a∈y,A.ok n nb ρ a)->
 ae S L (vW P g o bT x y) n ρ λaa n' b=>b.aA n'/\∀(w:World) (xs dm:Array Value),xs.toList.drop o=x.map (A.den ρ m)->dm.toList.drop o=y.map (A.den ρ m)->(Op.eqFields D xs dm bT).run P w= .ok (b.den aa) w
 |[],x,y,o,n,ρ,_,_=>ae.pure ⟨trivial,λw xs dm _ _=>by simp[Op.eqFields,aC.den]⟩
 |f::bT,x,y,o,n,ρ,hx,hy=>by
  unfold vW
  cases hs:ct P f.type with
  |none=>exact ae.fail
  |some s=>
   simp only
   refine bR λhc=>?_
   simp only[Bool.and_eq_true,bne_iff_ne,ne_eq]at hc
   obtain⟨hn,ho⟩:=hc
   have ho:=Nat.eq_of_beq_eq_true ho
   refine(hg f.type (x.take s) (y.take s) n ρ (λa ha=>hx a (List.mem_of_mem_take ha)) (λa ha=>hy a (List.mem_of_mem_take ha))).bind λak n1 b cv bG ⟨b1,hE,hJ,b2,b3,b4⟩=>?_
   refine(Ei hg bT (x.drop s) (y.drop s) (o+s) n1 ak (λa ha=>(hx a (List.mem_of_mem_drop ha)).ext bG cv (Nat.le_refl _)) (λa ha=>(hy a (List.mem_of_mem_drop ha)).ext bG cv (Nat.le_refl _))).bind λaH cA r bX bN ⟨r1,r2⟩=>ae.pure ⟨aC.xP (b1.mono bX) r1,λw xs dm cT pZ=>?_⟩
   have ke:(part f.type xs f.offset).run P w= .ok hE w:=Hz hs (by rw[ho,cT,<-List.map_take];exact b2) w
   have qq:(part f.type dm f.offset).run P w= .ok hJ w:=Hz hs (by rw[ho,pZ,<-List.map_take];exact b3) w
   have pj:xs.toList.drop (o+s)=(x.drop s).map (A.den ak m):=by
    rw[<-List.drop_drop,cT,<-List.map_drop]
    exact(jA (λa ha=>hx a (List.mem_of_mem_drop ha)) bG (λ_ _=>rfl)).symm
   have aq:dm.toList.drop (o+s)=(y.drop s).map (A.den ak m):=by
    rw[<-List.drop_drop,pZ,<-List.map_drop]
    exact(jA (λa ha=>hy a (List.mem_of_mem_drop ha)) bG (λ_ _=>rfl)).symm
   have nX:b.den aH=b.den ak:=aC.aP bN b1
   simp only[Op.eqFields,ne_eq,hn,not_false_eq_true,if_true,Sem.run_bind,ke,qq,Result.andThen_ok,b4 w,aC.vT,nX]
   cases hq:b.den ak with
   |true=>simp[r2 w xs dm pj aq]
   |false=>simp
theorem Ej {nb:Nat} {m:Nat->Nat}:∀(d:Nat) (t:TypeId) (x y:List A) (n:Nat) (ρ:Env),(∀a∈x,A.ok n nb ρ a)->(∀a∈y,A.ok n nb ρ a)->∀D,d<=D->
 ae S L (rh P d t x y) n ρ λaa n' b=>b.aA n'/\∃hE hJ,sW P t (x.map (A.den ρ m)) hE/\sW P t (y.map (A.den ρ m)) hJ/\∀w,(Op.equalIn D t hE hJ).run P w= .ok (b.den aa) w
 |0,t,x,y,n,ρ,_,_,_,_=>ae.fail
 |d+1,t,x,y,n,ρ,hx,hy,D,hD=>by
  obtain⟨E,rfl⟩:∃E,D=E+1:=⟨D-1,by omega⟩
  unfold rh
  split
  ·rename_i k hu
   split
   ·rename_i k1 a k2 b
    refine bR λhk=>?_
    have hk:k1=k2:=by simpa using hk
    subst hk
    have uD:a.ok n ρ:=hx (.int k1 a) (by simp)
    have uE:b.ok n ρ:=hy (.int k1 b) (by simp)
    have e1:=aC.ky uD uE
    have cY:dW P t=some false:=by simp[dW,hu]
    refine ae.pure ⟨e1.2,_,_,.inr ⟨cY,rfl⟩,.inr ⟨cY,rfl⟩,λw=>?_⟩
    simp only[A.den]
    rw[run_equalIn_int w E t k1 k _ _ hu,e1.1]
    rfl
   ·exact ae.fail
  ·rename_i hu
   split
   ·rename_i a b
    have b1:=s8 (J (a.den ρ)=J (b.den ρ))
    have cY:dW P t=some false:=by simp[dW,hu]
    refine(cS (op:=4) (args:=[a,b]) b1.1 b1.2).bind λak n1 l cv pD ⟨h1,h2⟩=>ae.pure ?_
    have h2:l.den ak=if J (a.den ρ)=J (b.den ρ)then 1 else 0:=h2
    have ol:(⟨l,0,1⟩:aM).ok n1 ak:=⟨h1,by simp only[h2];exact b1.1,by simp only[h2];exact b1.2⟩
    have e1:=aC.ky (n:=n1) (ρ:=ak) (a:=⟨l,0,1⟩) (b:= .const 1) ol (aM.hP _ _ _)
    refine⟨e1.2,_,_,.inr ⟨cY,rfl⟩,.inr ⟨cY,rfl⟩,λw=>?_⟩
    simp only[A.den]
    rw[run_equalIn_string w E t _ _ hu,e1.1,pa,pa]
    simp only[aM.const,I.ay,h2]
    by_cases hq:J (a.den ρ)=J (b.den ρ)
    ·simp[hq]
    ·simp[hq]
   ·exact ae.fail
  ·rename_i hu
   split
   ·rename_i a b
    have cY:dW P t=some false:=by simp[dW,hu]
    have uD:a.aA n:=hx (.bool a) (by simp)
    have uE:b.aA n:=hy (.bool b) (by simp)
    refine ae.pure ⟨aC.BW uD uE,_,_,.inr ⟨cY,rfl⟩,.inr ⟨cY,rfl⟩,λw=>?_⟩
    simp only[A.den]
    rw[run_equalIn_bool w E t _ _ hu,aC.y1]
   ·exact ae.fail
  ·rename_i bT hu
   refine bR λhg=>?_
   have hg:P.stoodInHeld t=false:=by simpa using hg
   have cY:dW P t=some true:=by simp[dW,hu]
   refine(Ei (m:=m) (D:=E) (λt x y n ρ h1 h2=>Ej d t x y n ρ h1 h2 E (by omega)) bT.toList x y 0 n ρ hx hy).mono λaa n' b _ _ ⟨h1,h2⟩=>⟨h1,_,_,.inl ⟨cY,rfl⟩,.inl ⟨cY,rfl⟩,λw=>?_⟩
   have hf:P.fieldsOf t=bT:=by simp[Program.fieldsOf,hu]
   rw[run_equalIn_struct w E t _ _ (by rw[hf];exact hu) hg,hf]
   exact h2 w _ _ (by simp) (by simp)
  ·exact ae.fail
theorem El {nb:Nat} {m:Nat->Nat} {t:TypeId} {x y:List A} (hx:∀a∈x,A.ok n nb ρ a) (hy:∀a∈y,A.ok n nb ρ a):
 ae S L (vX P t x y) n ρ λaa n' b=>b.aA n'/\P.eqGuardType P.depth t=false/\∀w,(Op.equalIn 10000 t (.agg (x.map (A.den ρ m)).toArray) (.agg (y.map (A.den ρ m)).toArray)).run P w= .ok (b.den aa) w:=by
 unfold vX
 split
 ·rename_i bT hu
  have gS:dW P t=some true:=by simp[dW,hu]
  have deep:P.eqGuardType P.depth t=false->ae S L (rh P 8 t x y) n ρ λaa n' b=>b.aA n'/\P.eqGuardType P.depth t=false/\∀w,(Op.equalIn 10000 t (.agg (x.map (A.den ρ m)).toArray) (.agg (y.map (A.den ρ m)).toArray)).run P w= .ok (b.den aa) w:=λhg=>
   (Ej (m:=m) 8 t x y n ρ hx hy 10000 (by decide)).mono λaa n' b _ _ ⟨h1,hE,hJ,h2,h3,h4⟩=>⟨h1,hg,λw=>by
     rcases h2 with⟨_,rfl⟩|⟨h2,_⟩
     ·rcases h3 with⟨_,rfl⟩|⟨h3,_⟩
      ·exact h4 w
      ·rw[gS]at h3;cases h3
     ·rw[gS]at h2;cases h2⟩
  cases hg:(rn P 0 bT.toList&& !P.stoodInHeld t&& !P.eqGuardType P.depth t)with
  |true=>
   simp only[cond_true]
   simp only[Bool.and_eq_true,Bool.not_eq_true']at hg
   generalize (bT.toList.all λf=>match P.underlying f.type with|some (.int _)=>true|some .string=>true|_=>false)=flat
   cases flat with
   |true=>
    simp only[cond_true]
    refine(y6 (nb:=nb) (m:=m) bT.toList x y 0 n ρ hg.1.1 hx hy).mono λaa n' b _ _ ⟨h1,h2⟩=>⟨h1,hg.2,λw=>?_⟩
    have hf:P.fieldsOf t=bT:=by simp[Program.fieldsOf,hu]
    rw[run_equalIn_struct w 9999 t _ _ (by rw[hf];exact hu) hg.1.2,hf]
    exact h2 w 9998 _ _ (by simp) (by simp)
   |false=>exact deep hg.2
  |false=>
   simp only[cond_false]
   refine bR λhg2=>deep (by simpa using hg2)
 ·exact ae.fail
theorem Rq {aL:dp} (bV:fr S P gl w0 aL) (hb:bm n bl.length ρ bl) (hg:ey gl w0) (hex:∃w,Mem w0 ρ m bl w) (ht:bS n bl.length ρ m tm a.tmps) (o:Oper):
 ae S L (BA P aL gl bl tm o) n ρ (fs w0 m bl n ρ P o a):=by
 unfold BA
 split
 case h_1 x h=>
  exact ae.pure ⟨(bf ht x).1,_,(bf ht x).2,λw _=> .inl (by simp[execOp,h])⟩
 case h_2 x h=>
  exact ae.pure ⟨(bf ht x).1,_,(bf ht x).2,λw _=> .inl (by simp[execOp,h])⟩
 case h_3 t x h=>
  have hx:=bf ht x
  have he:execOp a.eval o=(do pure (Next.value (<-Instr.loadAt t (a.eval x)))):=by simp only[execOp,h]
  split
  ·rename_i b off au hv
   rw[hv]at hx
   have bA:a.eval x=(A.gJ b off au).den ρ m:=hx.2
   rw[bA]at he
   exact(R7 hb t b off hx.1.2.1).mono λ_ _ _ _ _ hq=>fs.of_run he hq
  ·rename_i g off au hv
   rw[hv]at hx
   have bA:a.eval x=(A.ry g off au).den ρ m:=hx.2
   rw[bA]at he
   exact(R6 hg t g off hx.1.1).mono λ_ _ _ _ _ hq=>fs.of_run he hq
  ·rename_i p _ _ hv
   rw[hv]at hx
   have bA:a.eval x=p.den ρ m:=hx.2
   rw[bA]at he
   exact(Ps hb hg hex t p).mono λ_ _ _ _ _ hq=>fs.of_run he hq
  ·exact ae.fail
 case h_4 x h=>
  have hx:=bf ht x
  unfold Hd
  split<;>first
   |exact ae.fail
   |(rename_i hv
     rw[hv]at hx
     refine ae.pure ⟨hx.1,_,rfl,λw _=> .inl ?_⟩
     have bA:=hx.2
     simp only[V.rel,W.den,A.den]at bA
     simp[execOp,h,bA,W.den,A.den])
 case h_5 c x y h=>
  have hc:=bf ht c
  split
  ·rename_i v hv
   rw[hv]at hc
   have e1:a.eval c= .bool v:=hc.2
   cases v with
   |true=>exact ae.pure ⟨(bf ht x).1,_,(bf ht x).2,λw _=> .inl (by simp[execOp,h,e1,asBool])⟩
   |false=>exact ae.pure ⟨(bf ht y).1,_,(bf ht y).2,λw _=> .inl (by simp[execOp,h,e1,asBool])⟩
  ·exact ae.fail
 case h_6 op t x y t' h=>
  have hx:=bf ht x
  have hy:=bf ht y
  unfold Dx
  split
  ·rename_i k p aD q jc hv2
   rw[jc]at hx;rw[hv2]at hy
   have e1:a.eval x= .int k (p.l.den ρ):=hx.2
   have e2:a.eval y= .int aD (q.l.den ρ):=hy.2
   refine(J9 (nb:=bl.length) (m:=m) P t hx.1 hy.1).bind λak n1 r _ _ ⟨h1,h2⟩=>ae.pure ⟨h1,_,rfl,λw _=> .inl ?_⟩
   have hgd:(eqGuard op t x y (.int k (p.l.den ρ)) (.int aD (q.l.den ρ))).run P w= .ok () w:=by cases op<;>simp[eqGuard]
   simp only[execOp,h,e1,e2]
   simp[hgd,h2,W.den]
  ·rename_i p q jc hv2
   rw[jc]at hx;rw[hv2]at hy
   have e1:a.eval x= .agg (p.map (A.den ρ m)).toArray:=hx.2
   have e2:a.eval y= .agg (q.map (A.den ρ m)).toArray:=hy.2
   split
   ·rename_i b heq
    obtain⟨s1,g1,r1⟩:=Ek (m:=m) heq hx.1 hy.1
    refine ae.pure ⟨s1,_,rfl,λw _=> .inl ?_⟩
    simp only[execOp,h,e1,e2]
    simp[run_eqGuard_agg w .eql t x y _ _ g1,run_eql_struct,r1,W.den,A.den]
   ·rename_i b heq
    obtain⟨s1,g1,r1⟩:=Ek (m:=m) heq hx.1 hy.1
    refine ae.pure ⟨aC.mz s1,_,rfl,λw _=> .inl ?_⟩
    simp only[execOp,h,e1,e2]
    simp[run_eqGuard_agg w .neq t x y _ _ g1,run_neq_struct,r1,W.den,A.den,aC.l3]
   ·rename_i heq
    refine(El (m:=m) (t:=t) hx.1 hy.1).bind λaa n' r _ _ ⟨r1,g1,r2⟩=>ae.pure ⟨r1,_,rfl,λw _=> .inl ?_⟩
    simp only[execOp,h,e1,e2]
    simp[run_eqGuard_agg w .eql t x y _ _ g1,run_eql_struct,r2,W.den,A.den]
   ·rename_i heq
    refine(El (m:=m) (t:=t) hx.1 hy.1).bind λaa n' r _ _ ⟨r1,g1,r2⟩=>ae.pure ⟨aC.mz r1,_,rfl,λw _=> .inl ?_⟩
    simp only[execOp,h,e1,e2]
    simp[run_eqGuard_agg w .neq t x y _ _ g1,run_neq_struct,r2,W.den,A.den,aC.l3]
   ·exact ae.fail
  ·rename_i p q jc hv2
   rw[jc]at hx;rw[hv2]at hy
   have e1:a.eval x= .string (aF (J (p.den ρ))):=hx.2
   have e2:a.eval y= .string (aF (J (q.den ρ))):=hy.2
   have he:execOp a.eval o=(do pure (Next.value (<-(do eqGuard op t x y (.string (aF (J (p.den ρ)))) (.string (aF (J (q.den ρ))));binOp op t (.string (aF (J (p.den ρ)))) (.string (aF (J (q.den ρ)))):Sem Value)))):=by simp only[execOp,h,e1,e2]
   exact(Sx (op:=op) (t:=t) (x:=x) (y:=y) (w0:=w0) (m:=m) hx.1 hy.1).mono λ_ _ _ _ _ hq=>fs.of_run he hq
  ·rename_i p q jc hv2
   rw[jc]at hx;rw[hv2]at hy
   have e1:a.eval x= .bool (p.den ρ):=hx.2
   have e2:a.eval y= .bool (q.den ρ):=hy.2
   have hgd:(eqGuard op t x y (.bool (p.den ρ)) (.bool (q.den ρ))).run P=λw=> .ok () w:=by funext w;cases op<;>simp[eqGuard]
   split
   ·rename_i hu
    refine ae.pure ⟨aC.BW hx.1 hy.1,_,rfl,λw _=> .inl ?_⟩
    simp only[execOp,h,e1,e2]
    simp[hgd,run_eql_bool w t _ _ hu,W.den,A.den,aC.y1]
   ·rename_i hu
    refine ae.pure ⟨aC.mz (aC.BW hx.1 hy.1),_,rfl,λw _=> .inl ?_⟩
    simp only[execOp,h,e1,e2]
    simp[hgd,run_neq_bool w t _ _ hu,W.den,A.den,aC.y1,aC.l3]
   ·exact ae.fail
  ·exact ae.fail
 case h_7 op t x h=>
  have hx:=bf ht x
  unfold IT
  split
  ·rename_i b hv
   rw[hv]at hx
   have e1:a.eval x= .bool (b.den ρ):=hx.2
   refine ae.pure ⟨aC.mz hx.1,_,rfl,λw _=> .inl ?_⟩
   simp[execOp,h,e1,Op.unary,W.den,A.den,aC.l3]
  ·rename_i k p hv
   rw[hv]at hx
   have e1:a.eval x= .int k (p.l.den ρ):=hx.2
   refine bR λhc=>?_
   simp only[Bool.and_eq_true,Bool.not_eq_true',decide_eq_true_eq]at hc
   have hp:=hx.1
   have DF:=aM.ok.agree (n':=n) hp (agree.refl n ρ) (Nat.le_refl _)
   have b2:=DF.2
   have e2:((I.const (two k-1)).sub p.l).den ρ=two k-1-p.l.den ρ:=by rw[I.gz,I.ay]
   refine ae.pure ⟨⟨I.oG (I.br _ _) DF.1,by simp only[e2];omega,by simp only[e2];omega⟩,_,rfl,λw _=> .inl ?_⟩
   have key:k.wrap (BitVec.ofInt k.bits (if k.signed=true then-1 else k.max)^^^BitVec.ofInt k.bits (p.l.den ρ)).toNat=two k-1-p.l.den ρ:=by
    have hk:=hc.1.1
    obtain⟨X,aX⟩:=Int.eq_ofNat_of_zero_le (show 0<=p.l.den ρ by omega)
    have hlt:X<2^k.bits:=by
     have:(X:Int)<2^k.bits:=by rw[<-mF,<-aX];omega
     exact_mod_cast this
    have hall:(BitVec.ofInt k.bits (if k.signed=true then-1 else k.max))=BitVec.allOnes k.bits:=by
     cases k<;>simp[IntKind.signed]at hk<;>rfl
    rw[hall,BitVec.allOnes_xor,BitVec.toNat_not,aX,BitVec.toNat_ofInt]
    have e3:((X:Int)% ((2^k.bits:Nat):Int)).toNat=X:=by
     rw[Int.emod_eq_of_lt (by omega) (by exact_mod_cast hlt)];rfl
    rw[e3,x4]
    have ad:half k=0:=by simp[half,hk]
    have h2:two k=((2^k.bits:Nat):Int):=by rw[mF];simp
    rw[ad,h2,Int.add_zero,Int.sub_zero,Int.emod_eq_of_lt (by omega) (by omega)]
    omega
   simp only[execOp,h,e1,Op.unary,Op.intBits,W.den,A.den,e2]
   simp at key
   simp[key]
  ·rename_i k p hv
   rw[hv]at hx
   have e1:a.eval x= .int k (p.l.den ρ):=hx.2
   have b2:=aM.ok.agree (n':=n) hx.1 (agree.refl n ρ) (Nat.le_refl _)
   have b3:=b2.2
   have e2:(p.l.smul (-1)).den ρ=-p.l.den ρ:=by rw[I.gP];omega
   refine(oM (k:=k) (x:=⟨p.l.smul (-1),-p.hi,-p.lo⟩) ⟨I.oF b2.1,by simp only[e2];omega,by simp only[e2];omega⟩).bind λak n1 r _ _ ⟨h1,h2⟩=>ae.pure ⟨h1,_,rfl,λw _=> .inl ?_⟩
   simp only[e2]at h2
   simp[execOp,h,e1,Op.unary,Op.intArith,W.den,A.den,h2]
  ·exact ae.fail
 case h_8 s d x h=>
  have hx:=bf ht x
  unfold DY
  split
  ·rename_i aD p hu hk hv
   rw[hv]at hx
   have e1:a.eval x= .int aD (p.l.den ρ):=hx.2
   split
   ·rename_i c hc
    refine bR λhsz=>?_
    have hl:(Utf8.encode c).data.toList.length<=eu:=by
     have:=Nat.le_of_ble_eq_true hsz
     have h2:(Utf8.encode c).data.toList.length=(Utf8.encode c).size:=by simp
     unfold eu;omega
    refine ae.pure ⟨⟨I.br _ _,by rw[I.ay];exact ku _,by rw[I.ay];exact jI hl⟩,_,rfl,λw _=> .inl ?_⟩
    simp[execOp,h,e1,convert,run_underlying hu,run_underlying hk,Conv.intToString,W.den,A.den,I.ay,gu,aF,I.ej hc]
   ·exact ae.fail
  ·split
   rotate_left
   ·exact ae.fail
   rename_i k aD p hu hk hv
   rw[hv]at hx
   have e1:a.eval x= .int aD (p.l.den ρ):=hx.2
   refine(oM (k:=k) hx.1).bind λak n1 r _ _ ⟨h1,h2⟩=>ae.pure ⟨h1,_,rfl,λw _=> .inl ?_⟩
   simp[execOp,h,e1,convert,run_underlying hu,run_underlying (AS hk),Conv.intToInt,W.den,A.den,h2]
 case h_9 t x au h=>
  have hx:=bf ht x
  have hi:=bf ht au
  split
  ·rename_i k i hv
   rw[hv]at hi
   have e1:a.eval au= .int k (i.l.den ρ):=hi.2
   have he:execOp a.eval o=(do pure (Next.value (<-Instr.indexAt t (a.eval x) (.int k (i.l.den ρ))))):=by simp only[execOp,h,e1]
   exact(Oq hx.1 hx.2 hi.1).mono λ_ _ _ _ _ hq=>fs.of_run he hq
  ·exact ae.fail
 case h_10 t x au h=>
  have hx:=bf ht x
  have hi:=bf ht au
  split
  ·rename_i s hv
   rw[hv]at hx
   have e1:a.eval x= .string (aF (J (s.den ρ))):=hx.2
   split
   ·rename_i i hu rI
    obtain⟨k,hk,_⟩:=p8 (m:=m) (bl:=bl) rI hi.2 hi.1
    have he:execOp a.eval o=(do pure (Next.value (<-Instr.index t (.string (aF (J (s.den ρ)))) (.int k (i.den ρ))))):=by simp only[execOp,h,e1,hk]
    exact(Sy (w0:=w0) (m:=m) hu hx.1).mono λ_ _ _ _ _ hq=>fs.of_run he hq
   ·exact ae.fail
  split
  ·rename_i l i len e hv rI n8
   rw[hv]at hx
   have e1:a.eval x= .agg (l.map (A.den ρ m)).toArray:=hx.2
   have e2:∃k,a.eval au= .int k i:=by
    unfold vP at rI
    split at rI
    ·rename_i k p hv2
     rw[hv2]at hi
     have:a.eval au= .int k (p.l.den ρ):=hi.2
     exact⟨k,by rw[this,I.ej rI]⟩
    ·cases rI
   obtain⟨k,e2⟩:=e2
   split
   ·rename_i s hs
    refine bR λhc=>?_
    simp only[Bool.and_eq_true,decide_eq_true_eq]at hc
    refine(Bt (w0:=w0) (m:=m) (bl:=bl) hx.1).mono λak n1 v _ _ ⟨q1,val,q2,q3⟩=>⟨q1,val,q2,λw hw=> .inl ?_⟩
    have:=q3 w hw
    simp[execOp,h,e1,e2,Instr.index,asIntOf,run_underlying (k9 n8),hc,dL hs,this]
   ·exact ae.fail
  ·exact ae.fail
 case h_11 s x f h=>
  have hx:=bf ht x
  split
  ·rename_i b off fd hv hf
   rw[hv]at hx
   have e1:a.eval x= .pointer (some ⟨m b,off,none⟩):=hx.2
   obtain⟨bT,hu,tI⟩:=y8 hf
   split
   ·rename_i k hs
    refine ae.pure ⟨hx.1,_,rfl,λw _=> .inl ?_⟩
    simp[execOp,h,e1,Instr.fieldAt,run_underlying hu,tI,Instr.sureAddr,fieldPlace,dL hs,dS,W.den,A.den]
   ·exact ae.fail
  ·exact ae.fail
 case h_12 s x f h=>
  have hx:=bf ht x
  split
  ·rename_i l fd hv hf
   rw[hv]at hx
   have e1:a.eval x= .agg (l.map (A.den ρ m)).toArray:=hx.2
   obtain⟨bT,hu,tI⟩:=y8 hf
   refine(Bt (w0:=w0) (m:=m) (bl:=bl) hx.1).mono λak n1 v _ _ ⟨q1,val,q2,q3⟩=>⟨q1,val,q2,λw hw=> .inl ?_⟩
   have:=q3 w hw
   simp[execOp,h,e1,Instr.field,asAgg,run_underlying hu,tI,this]
  ·exact ae.fail
 case h_13 x i h=>
  have hx:=bf ht x
  split
  ·rename_i l hv
   rw[hv]at hx
   have e1:a.eval x= .tuple (l.map (W.den ρ m)).toArray:=hx.2
   split
   ·rename_i u hu
    refine ae.pure ⟨hx.1 u (List.mem_of_getElem? hu),_,rfl,λw _=> .inl ?_⟩
    simp[execOp,h,e1,Instr.extract,hu]
   ·exact ae.fail
  ·exact ae.fail
 case h_14 t x lo hi h=>
  have hx:=bf ht x
  split
  ·rename_i s hv hu
   rw[hv]at hx
   have e1:a.eval x= .string (aF (J (s.den ρ))):=hx.2
   have he:execOp a.eval o=(do pure (Next.value (<-Instr.sliceAt t (.string (aF (J (s.den ρ)))) (lo.map a.eval) (hi.map a.eval) none))):=by simp only[execOp,h,e1];rfl
   exact(SA (w0:=w0) (m:=m) hu hx.1 ht).mono λ_ _ _ _ _ hq=>fs.of_run he hq
  have key:∀(y:Option Operand) (c:Option Int),xp tm y=some c->∃f:Int->Value,(∀c,∃k,f c= .int k c)/\y.map a.eval=c.map f:=by
   intro y c hy
   unfold xp at hy
   cases y with
   |none=>simp at hy;subst hy;exact⟨λc=> .int .i64 c,λc=>⟨_,rfl⟩,rfl⟩
   |some y=>
    simp only at hy
    have hi:=bf ht y
    unfold vP at hy
    split at hy
    ·rename_i c' hq
     split at hq
     ·rename_i k p hv2
      simp only[Option.some.injEq]at hy;subst hy
      rw[hv2]at hi
      have:a.eval y= .int k (p.l.den ρ):=hi.2
      exact⟨λc=> .int k c,λc=>⟨_,rfl⟩,by simp[this,I.ej hq]⟩
     ·cases hq
    ·cases hy
  split
  ·rename_i l ad h1 h2
   obtain⟨Ev,Ew,Ex⟩:=key lo l h1
   obtain⟨Ub,v7,Eo⟩:=key hi ad h2
   unfold Is
   split
   ·rename_i b off qj e hv n8
    rw[hv]at hx
    have e1:a.eval x= .pointer (some ⟨m b,off,none⟩):=hx.2
    split
    ·rename_i s hs
     refine bR λhc=>?_
     simp only[Bool.and_eq_true,decide_eq_true_eq]at hc
     refine ae.pure ⟨hx.1,_,rfl,λw _=> .inl ?_⟩
     have fP:(Instr.sliceBounds false qj qj (lo.map a.eval) (hi.map a.eval) none).run P w= .ok ((l.getD 0).toNat,(ad.getD qj).toNat,qj) w:=by
      rw[Ex,Eo]
      have c1:∀(k:IntKind) (i:Int) (y:Nat) (iN:BoundsCode),0<=i->i<=y->(Instr.sliceBound (.int k i) y iN).run P w= .ok i.toNat w:=λk i y iN p1 bc=>by
       simp[Instr.sliceBound,asIntOf,p1,bc]
      cases l with
      |none=>
       cases ad with
       |none=>simp[Instr.sliceBounds]
       |some h'=>
        obtain⟨aD,eF⟩:=v7 h'
        simp only[Option.getD_none,Option.getD_some]at hc
        simp[Instr.sliceBounds,eF,c1 aD h' qj _ (by omega) (by omega)]
      |some aT=>
       obtain⟨k1,c3⟩:=Ew aT
       cases ad with
       |none=>
        simp only[Option.getD_none,Option.getD_some]at hc
        simp[Instr.sliceBounds,c3,c1 k1 aT qj _ (by omega) (by omega)]
       |some h'=>
        obtain⟨aD,eF⟩:=v7 h'
        simp only[Option.getD_some]at hc
        simp[Instr.sliceBounds,eF,c3,c1 aD h' qj _ (by omega) (by omega),c1 k1 aT h'.toNat _ (by omega) (by omega)]
     simp only[execOp,h,e1,Option.map_none,Instr.sliceAt]
     simp[run_underlying (k9 n8),Instr.sureAddr,fP,dL hs,dS,W.den,A.den]
     intro hq
     have h3:=hc.2
     omega
    ·exact ae.fail
   ·rename_i b off len cap hv n8
    rw[hv]at hx
    have e1:a.eval x= .slice (some ⟨m b,off,none⟩) len cap:=hx.2
    split
    ·rename_i e pW
     split
     ·rename_i s hs
      refine bR λhc=>?_
      simp only[Bool.and_eq_true,decide_eq_true_eq]at hc
      refine ae.pure ⟨hx.1,_,rfl,λw _=> .inl ?_⟩
      have fP:(Instr.sliceBounds true len cap (lo.map a.eval) (hi.map a.eval) none).run P w= .ok ((l.getD 0).toNat,(ad.getD len).toNat,cap) w:=by
       rw[Ex,Eo]
       have c1:∀(k:IntKind) (i:Int) (y:Nat) (iN:BoundsCode),0<=i->i<=y->(Instr.sliceBound (.int k i) y iN).run P w= .ok i.toNat w:=λk i y iN p1 bc=>by
        simp[Instr.sliceBound,asIntOf,p1,bc]
       cases l with
       |none=>
        cases ad with
        |none=>simp[Instr.sliceBounds]
        |some h'=>
         obtain⟨aD,eF⟩:=v7 h'
         simp only[Option.getD_none,Option.getD_some]at hc
         simp[Instr.sliceBounds,eF,c1 aD h' cap _ (by omega) (by omega)]
       |some aT=>
        obtain⟨k1,c3⟩:=Ew aT
        cases ad with
        |none=>
         simp only[Option.getD_none,Option.getD_some]at hc
         simp[Instr.sliceBounds,c3,c1 k1 aT len _ (by omega) (by omega)]
        |some h'=>
         obtain⟨aD,eF⟩:=v7 h'
         simp only[Option.getD_some]at hc
         simp[Instr.sliceBounds,eF,c3,c1 aD h' cap _ (by omega) (by omega),c1 k1 aT h'.toNat _ (by omega) (by omega)]
      simp only[execOp,h,e1,Option.map_none,Instr.sliceAt]
      simp[run_underlying (df pW),Instr.slice,fP,dL hs,dS,W.den,A.den]
      intro hq
      have h3:=hc.2
      omega
     ·exact ae.fail
    ·exact ae.fail
   ·exact ae.fail
  ·exact ae.fail
 case h_15 c h=>
  split
  ·rename_i f hc
   split
   ·rename_i g zR
    have kD:∀v∈c.args.toList.map (aU tm),V.ok n bl.length ρ v:=λv hv=>by
     obtain⟨x,_,rfl⟩:=List.mem_map.1 hv
     exact(bf ht x).1
    refine(bV f g zR L n ρ m bl _ _ hb hex kD (ve (xs:=c.args.toList) ht)).mono λak n1 v _ _ ⟨q1,val,q2,q3⟩=>⟨q1,val,q2,λw hw=>?_⟩
    have he:=BT (a:=a) hc o h
    have ha:(c.args.toList.map a.eval).toArray=c.args.map a.eval:=by
     rw[<-Array.toList_map]
    have q4:=q3 w hw
    rw[ha]at q4
    rcases q4 with q4|⟨q4,q5⟩
    ·exact .inl (by rw[he];exact q4)
    ·exact .inr ⟨f,_,by rw[he];exact q4,q5⟩
   ·exact ae.fail
  ·rename_i hc
   split
   ·rename_i x t cT e5
    have hx:=bf ht x
    split
    ·rename_i s hv hu
     rw[hv]at hx
     have e1:a.eval x= .string (aF (J (s.den ρ))):=hx.2
     have a1:c.args=#[x]:=by rw[<-Array.toArray_toList (xs:=c.args),cT]
     have a2:c.argTypes=#[t]:=by rw[<-Array.toArray_toList (xs:=c.argTypes),e5]
     have he:execOp a.eval o=(do pure (Next.value (<-Builtin.len_ #[t] o.type #[.string (aF (J (s.den ρ)))]))):=by
      simp[execOp,h,resolve,hc,a1,a2,e1,invoke,builtin]
     exact(Sz (w0:=w0) (m:=m) hu hx.1).mono λ_ _ _ _ _ hq=>fs.of_run he hq
    split
    ·rename_i b off len cap e hv hs
     rw[hv]at hx
     have e1:a.eval x= .slice (some ⟨m b,off,none⟩) len cap:=hx.2
     refine ae.pure ⟨aM.hP _ _ _,_,rfl,λw _=> .inl ?_⟩
     have a1:c.args=#[x]:=by rw[<-Array.toArray_toList (xs:=c.args),cT]
     have a2:c.argTypes=#[t]:=by rw[<-Array.toArray_toList (xs:=c.argTypes),e5]
     simp[execOp,h,resolve,hc,a1,a2,e1,invoke,builtin,Builtin.len_,run_underlying (df hs),goInt,W.den,A.den,aM.const,I.ay]
    ·rename_i b len lo e hv hs
     rw[hv]at hx
     obtain⟨dU,_,e1⟩:=hx.2
     refine ae.pure ⟨aM.hP _ _ _,_,rfl,λw _=> .inl ?_⟩
     have a1:c.args=#[x]:=by rw[<-Array.toArray_toList (xs:=c.args),cT]
     have a2:c.argTypes=#[t]:=by rw[<-Array.toArray_toList (xs:=c.argTypes),e5]
     simp[execOp,h,resolve,hc,a1,a2,e1,invoke,builtin,Builtin.len_,run_underlying (df hs),goInt,W.den,A.den,aM.const,I.ay]
    ·exact ae.fail
   ·exact ae.fail
  ·exact ae.fail
 case h_16 f first dZ h=>
  split
  ·rename_i l hf hl
   obtain⟨g1,g2⟩:=QG (m:=m) hl (λv hv=>by obtain⟨x,_,rfl⟩:=List.mem_map.1 hv;exact(bf ht x).1) (ve (xs:=dZ.toList) ht)
   have hf':first=#[]:=by rw[<-Array.toArray_toList (xs:=first),hf]
   have Mo:dZ.map a.eval=(l.map (A.den ρ m)).toArray:=by rw[<-g2,<-Array.toList_map]
   refine ae.pure ⟨g1,_,rfl,λw _=> .inl ?_⟩
   simp only[execOp,h,Mo,hf']
   simp[Instr.makeFunc]
  ·exact ae.fail
 case h_17 t parts h=>
  split
  ·rename_i l hl
   obtain⟨g1,g2⟩:=Ke (n:=n) (nb:=bl.length) (ρ:=ρ) (m:=m) (vals:=(parts.map λ(i,x)=>(i,a.eval x)).toList) hl (by
    rw[Array.toList_map]
    generalize parts.toList=ib
    induction ib with
    |nil=>exact trivial
    |cons p r ih=>exact⟨⟨rfl,bf ht p.2⟩,ih⟩)
   refine ae.pure ⟨g1,_,rfl,λw _=> .inl ?_⟩
   simp only[execOp,h]
   simp[run_build w t _ _ g2,W.den]
  ·exact ae.fail
 case h_18 t x h=>
  have hx:=bf ht x
  split
  ·rename_i b len lo k e hv ha
   rw[hv]at hx
   refine bR λhc=>ae.pure ⟨hx.1,_,rfl,λw _=> .inl ?_⟩
   obtain⟨c,hc1,hc2⟩:=hx.2
   have hle:¬len<k:=by have:=Nat.le_of_ble_eq_true hc;omega
   simp only[execOp,h]
   rw[hc2]
   simp[Instr.arrayAt,run_underlying (k9 ha),hle,W.den,A.den]
  ·exact ae.fail
 case h_19=>exact ae.fail
end
end Go.aZ
namespace Go.aZ
open M
noncomputable def q8 (c:ag) (code i:I) (j:Nat):M A:=
 match c with
 | .int k lo hi=>bind (cd 21 [code,i,.const j] lo hi) λl=>pure (.int k ⟨l,lo,hi⟩)
 | .str=>bind (cd 21 [code,i,.const j] 0 aO) λl=>pure (.str l)
 | .bool=>bind (cd 21 [code,i,.const j] 0 1) λl=>pure (.bool (.mkEq ⟨l,0,1⟩ (.const 1)))
 | .sub _=>fail
noncomputable def vL (code i:I):Nat->List ag->M (List A)
 |_,[]=>pure []
 |j,c::r=>bind (q8 c code i j) λa=>bind (vL code i (j+1) r) λl=>pure (a::l)
noncomputable def BQ (c:ag) (code:I):Nat->I->M (List A)
 |0,_=>pure []
 |q+1,i=>bind (cx 21 [code,i]) λ_=>bind (q8 c code i 0) λa=>bind (BQ c code q (i.add (.const 1))) λl=>pure (a::l)
noncomputable def y5 (P:Program) (bl:List af) (t:TypeId) (b ax:Nat) (o i:I) (j:Nat):M V:=
 match bl[b]? with
 |some ([.rows sh off code cap kind],_)=>cond (Nat.blt 0 kind&&Nat.beq ax sh.length&&I.beq o off) (bind (cx 21 [code,i]) λ_=>match dW P t,ct P t with
  |some true,some k=>cond (Nat.ble (j+k) sh.length) (bind (vL code i j ((sh.drop j).take k)) λl=>pure (.w (.agg l))) (match sh,j with
   |[c],0=>bind (BQ c code k i) λl=>pure (.w (.agg l))
   |_,_=>fail)
  |some false,_=>match sh[j]? with
   |some c=>bind (q8 c code i j) λa=>pure (.w (.one a))
   |none=>fail
  |_,_=>fail) fail
 |_=>fail
def B5 (P:Program) (t:TypeId) (b ax:Nat) (o ro len:I) (au:I):M V:=
 match dP P t with
 |some e=>match ct P e with
  |some s=>cond (Nat.beq s ax) (bind (cx 30 [au,len]) λ_=>pure (.w (.one (.ep b ax o (ro.add au) 0)))) fail
  |none=>fail
 |none=>fail
def qR (op:Nat) (ls:List I):M Unit:=λn k=> .o6 op ls (k () n)
def B7 (P:Program) (t:TypeId) (b ax:Nat) (o ro len cap:I) (x y:I):M V:=
 match dP P t with
 |some e=>match ct P e with
  |some s=>cond (Nat.beq s ax) (bind (cx 32 [x,y,len]) λ_=>match x.bQ with
   |some 0=>pure (.w (.one (.sl b ax o ro y cap)))
   |_=>bind (qR 68 [len,cap]) λ_=>bind (cd 33 [ro,x,cap] 0 9223372036854775809) λr=>pure (.w (.one (.sl b ax o r (y.sub x) (cap.sub x))))) fail
  |none=>fail
 |none=>fail
def nR (tm:List V) (d:I):Option Operand->Option I
 |none=>some d
 |some x=>je (aU tm x)
def vE:List ag->Bool
 |[.int .u8 lo hi]=>decide (lo=0)&&decide (hi=255)
 |_=>false
noncomputable def B6 (bl:List af) (b ax:Nat) (o ro len:I):M V:=
 match bl[b]? with
 |some ([.rows sh off code cap kind],_)=>cond (Nat.blt 0 kind&&Nat.beq ax 1&&I.beq o off&&vE sh) (bind (cx 35 [code,ro,ro.add len]) λ_=>bind (cd 34 [code,ro,ro.add len] 0 aO) λl=>pure (.w (.one (.str l)))) fail
 |_=>fail
def ta {α:Type} (b:aC) (x y:M α):M α:=λn k=>match b with
 | .lit v=>cond v (x n k) (y n k)
 |b=> .nS b (x n k) (y n k)
def G4 (k:IntKind) (x y:aM):M V:=ta (.mkLt y x) (pure (.w (.one (.int k y)))) (pure (.w (.one (.int k x))))
def G0 (k:IntKind) (x y:aM):M V:=ta (.mkLt x y) (pure (.w (.one (.int k y)))) (pure (.w (.one (.int k x))))
def gO:List A->Option (List Bool)
 |[]=>some []
 | .bool (.lit b)::r=>match gO r with|some l=>some (b::l)|none=>none
 |_::_=>none
def nn:Nat->List Bool->List UInt8
 |_,[]=>[]
 |i,b::r=>cond b (UInt8.ofNat i::nn (i+1) r) (nn (i+1) r)
def BY (bl:List af) (b off:Nat) (au:aM):M V:=
 match bl[b]? with
 |some (cs,_)=>match gO ((cs.drop off).take (au.hi.toNat+1))with
  |some l=>cond (Nat.beq l.length (au.hi.toNat+1)&&Nat.ble au.hi.toNat 255&&decide (0<=au.lo)&&bj cs) (bind (cd 43 [.const (dz (nn 0 l)),au.l] 0 1) λr=>pure (.w (.one (.bool (.mkEq ⟨r,0,1⟩ (.const 1)))))) fail
  |none=>fail
 |none=>fail
noncomputable def BR (P:Program) (bl:List af) (tm:List V) (o:Oper):Option (M V):=
 match o.op with
 | .load t x=>match aU tm x with
  | .w (.one (.ep b ax o i j))=>some (y5 P bl t b ax o i j)
  | .w (.one (.gJ b off au))=>match P.underlying t with
   |some .bool=>some (BY bl b off au)
   |_=>none
  |_=>none
 | .nilCheck x=>match aU tm x with
  | .w (.one (.ep b ax o i j))=>some (pure (.w (.one (.ep b ax o i j))))
  |_=>none
 | .indexAddr t x au=>match aU tm x,aU tm au with
  | .w (.one (.sl b ax o ro len cap)),.w (.one (.int _ i))=>some (B5 P t b ax o ro len i.l)
  |_,_=>none
 | .sliceToArrayPointer t x=>match aU tm x,jn P t with
  | .w (.one (.sl b ax o ro len cap)),some (k,_)=>some (cond (Nat.blt 0 k) (bind (cx 30 [.const ((k:Int)-1),len]) λ_=>pure (.w (.one (.ep b ax o ro 0)))) fail)
  |_,_=>none
 | .fieldAddr s x f=>match aU tm x,ti P s f with
  | .w (.one (.ep b ax o i j)),some fd=>match ct P fd.type with
   |some (_+1)=>some (pure (.w (.one (.ep b ax o i (j+fd.offset)))))
   |_=>none
  |_,_=>none
 | .slice t x lo hi none=>match aU tm x with
  | .w (.one (.sl b ax o ro len cap))=>match nR tm (.const 0) lo,nR tm len hi with
   |some p,some q=>some (B7 P t b ax o ro len cap p q)
   |_,_=>none
  |_=>none
 | .convert s d x=>match aU tm x,dP P s,P.underlying d with
  | .w (.one (.sl b ax o ro len cap)),some e,some .string=>match P.underlying e with
   |some (.int .u8)=>some (B6 bl b ax o ro len)
   |_=>none
  |_,_,_=>none
 | .call c=>match c.callee with
  | .builtin .len=>match c.args.toList,c.argTypes.toList with
   |[x],[t]=>match aU tm x,dP P t with
    | .w (.one (.sl b ax o ro len cap)),some _=>some (pure (.w (.one (.int .i64 ⟨len,0,9223372036854775807⟩))))
    |_,_=>none
   |_,_=>none
  | .builtin .min=>match c.args.toList with
   |[x,y]=>match aU tm x,aU tm y with
    | .w (.one (.int k p)),.w (.one (.int aD q))=>cond (decide (k=aD)) (some (G4 k p q)) none
    |_,_=>none
   |_=>none
  | .builtin .max=>match c.args.toList with
   |[x,y]=>match aU tm x,aU tm y with
    | .w (.one (.int k p)),.w (.one (.int aD q))=>cond (decide (k=aD)) (some (G0 k p q)) none
    |_,_=>none
   |_=>none
  |_=>none
 | .binOp op t x y _=>match dP P t,aU tm x,aU tm y with
  |some _,.w (.one (.sl b ax o ro len cap)),.w (.one (.con (.slice none 0 0)))=>match op with
   | .eql=>some (bind (qR 53 [cap,len]) λ_=>pure (.w (.one (.bool (.eq cap (.const (-1)))))))
   | .neq=>some (bind (qR 53 [cap,len]) λ_=>pure (.w (.one (.bool (.mkNot (.eq cap (.const (-1))))))))
   |_=>none
  |_,_,_=>none
 |_=>none
def vw (bl:List af) (b off:Nat):Option (List ag×I×Nat):=
 match bl[b]? with
 |some ([.rows sh o code cap kind],_)=>match cap.bQ with
  |some c=>cond (Nat.beq off 0&&Nat.blt 0 kind&&I.beq o (.const 0)&&decide (0<=c)&&eJ sh) (some (sh,code,c.toNat)) none
  |none=>none
 |_=>none
noncomputable def vr (code:I) (sh:List ag):Nat->Nat->M (List A)
 |_,0=>pure []
 |i,k+1=>bind (vL code (.const i) 0 sh) λa=>bind (vr code sh (i+1) k) λl=>pure (a++l)
def B8 (P:Program) (t:TypeId) (b ax:Nat) (o ro len cap:I) (x y z:I):M V:=
 match dP P t with
 |some e=>match ct P e with
  |some s=>cond (Nat.beq s ax) (bind (cond (I.beq z len) (cx 78 [x,y,z,cap]) (cx 64 [x,y,z,len])) λ_=>bind (cd 33 [ro,x,z] 0 9223372036854775808) λr=>pure (.w (.one (.sl b ax o r (y.sub x) (z.sub x))))) fail
  |none=>fail
 |none=>fail
def AH (P:Program) (e:TypeId) (l:List A) (s:Nat) (i:I):Nat->Nat->M V
 |_,0=>fail
 |j,r+1=>ta (.eq i (.const j)) (uH P e l (j*s)) (AH P e l s i (j+1) r)
noncomputable def xE (P:Program) (bl:List af) (tm:List V) (o:Oper):Option (M V):=
 match o.op with
 | .index t x au=>match aU tm x,aU tm au,jn P t with
  | .w (.agg l),.w (.one (.int k p)),some (len,e)=>match ct P e,p.l.bQ with
   |some s,none=>cond (Nat.ble len 8) (some (AH P e l s p.l 0 len)) none
   |_,_=>none
  |_,_,_=>none
 | .indexAddr t x au=>match aU tm x,aU tm au with
  | .w (.one (.ptr b off)),.w (.one (.int _ i))=>match vw bl b off,jn P t with
   |some (sh,code,c),some (len,e)=>match ct P e with
    |some s=>cond (Nat.beq s sh.length&&Nat.beq len c) (some (bind (cx 30 [i.l,.const len]) λ_=>pure (.w (.one (.ep b s (.const 0) i.l 0))))) none
    |none=>none
   |_,_=>none
  |_,_=>none
 | .load t x=>match aU tm x with
  | .w (.one (.ptr b off))=>match vw bl b off,dW P t,ct P t with
   |some (sh,code,c),some true,some k=>cond (Nat.beq k (c*sh.length)) (some (bind (cx 31 [code,.const c]) λ_=>bind (vr code sh 0 c) λl=>pure (.w (.agg l)))) none
   |_,_,_=>none
  |_=>none
 | .slice t x lo (some hi) (some dv)=>match aU tm x with
  | .w (.one (.sl b ax aV ro len cap))=>match nR tm (.const 0) lo,je (aU tm hi),je (aU tm dv)with
   |some p,some q,some r=>some (B8 P t b ax aV ro len cap p q r)
   |_,_,_=>none
  |_=>none
 | .call c=>match c.callee with
  | .builtin .len=>match c.args.toList,c.argTypes.toList with
   |[x],[t]=>match aU tm x,dP P t with
    | .w (.one (.con (.slice none 0 0))),some _=>some (pure (.w (.one (.int .i64 (.const 0)))))
    |_,_=>none
   |_,_=>none
  |_=>none
 |_=>none
noncomputable def vV (aL:dp) (bl:List af) (tm:List V) (o:Oper):Option (M V):=
 match o.op with
 | .call c=>match c.callee with
  | .value (.tmp x)=>match aU tm (.tmp x)with
   | .w (.one (.con (.func (.func f) vY vZ)))=>cond (Nat.beq vY.size 0&&Nat.beq vZ.size 0) ((aL f).map λg=>g bl (c.args.toList.map (aU tm))) none
   |_=>none
  |_=>none
 |_=>none
noncomputable def nA (P:Program) (aL:dp) (gl:cF) (bl:List af) (tm:List V) (o:Oper):M V:=
 match BR P bl tm o with
 |some x=>x
 |none=>match xE P bl tm o with
  |some x=>x
  |none=>match vV aL bl tm o with
   |some x=>x
   |none=>BA P aL gl bl tm o
theorem jk.get {cells:Array Value} {off:Nat} {sh:List ag} {rows:List (List Int)} (h:jk cells off sh rows) {i j:Nat} {row:List Int} {v:Value} (hi:rows[i]?=some row) (hj:(bM sh row)[j]?=some v):cells[off+i*sh.length+j]?=some v:=by
 obtain⟨h1,pre,post,h2,h3⟩:=h
 have h4:=ze h1 hi hj
 rw[<-Array.getElem?_toList,h2,List.append_assoc,List.getElem?_append_right (by omega),List.getElem?_append_left]
 ·rw[show off+i*sh.length+j-pre.length=i*sh.length+j by omega];exact h4
 ·have:=(List.getElem?_eq_some_iff.1 h4).1;omega
theorem eW.cell {F:Nat->Prop} {w:World} {cells:Array Value} {off:Nat} {sh:List ag} {rows:List (List Int)} (h:eW F w cells off sh rows) {i j:Nat} {row:List Int} {c:ag} (hi:rows[i]?=some row) (hc:sh[j]?=some c):∃z v,row[j]?=some z/\cells[off+i*sh.length+j]?=some v/\mU F w c z v:=by
 obtain⟨h1,pre,vs,post,h2,h3,h4⟩:=h
 obtain⟨z,v,k1,k2,k3⟩:=(h4.get hi).get hc
 refine⟨z,v,k1,?_,k3⟩
 rw[List.getElem?_take]at k2
 split at k2
 ·rw[List.getElem?_drop]at k2
  have hlt:=(List.getElem?_eq_some_iff.1 k2).1
  rw[<-Array.getElem?_toList,h2,List.append_assoc,List.getElem?_append_right (by omega),List.getElem?_append_left (by omega)]
  rw[show off+i*sh.length+j-pre.length=i*sh.length+j by omega];exact k2
 ·cases k2
theorem H2:∀{sh:List ag} {row:List Int} {j:Nat} {c:ag} {z:Int},aR sh row->sh[j]?=some c->row[j]?=some z->(bM sh row)[j]?=some (c.val z)
 |c'::sh,z'::r,0,c,z,h,hc,hz=>by
  simp only[List.getElem?_cons_zero,Option.some.injEq]at hc hz
  subst hc;subst hz;rfl
 |c'::sh,z'::r,j+1,c,z,h,hc,hz=>by
  simp only[List.getElem?_cons_succ]at hc hz
  exact H2 (sh:=sh) h.2 hc hz
 |[],_,_,_,_,_,hc,_=>by simp at hc
 |_::_,[],_,_,_,h,_,_=>h.elim
theorem eW.get {F:Nat->Prop} {w:World} {cells:Array Value} {off:Nat} {sh:List ag} {rows:List (List Int)} (h:eW F w cells off sh rows) {i j:Nat} {row:List Int} {v:Value} {c:ag} (hi:rows[i]?=some row) (hc:sh[j]?=some c) (hp:c.plain=true) (hj:(bM sh row)[j]?=some v):cells[off+i*sh.length+j]?=some v:=by
 obtain⟨z,kU,k1,k2,k3⟩:=h.cell hi hc
 have e:=H2 (h.1 row (List.mem_of_getElem? hi)) hc k1
 rw[hj]at e
 have e2:kU=c.val z:=by
  cases c with
  |sub _=>cases hp
  |_=>exact k3
 rw[k2,e2,<-Option.some.inj e]
section
variable {S:Nat->List Int->List Int->Prop} {L:V->Env->Prop} {n:Nat} {ρ:Env} {m:Nat->Nat} {bl:List af} {gl:cF} {w0:b5} {P:Program} {tm:List V} {a:Act}
theorem yF {α:Type} {b:aC} {x y:M α} {R:Env->Nat->α->Prop} (h1:b.den ρ=true->ae S L x n ρ R) (h2:b.den ρ=false->ae S L y n ρ R):ae S L (ta b x y) n ρ R:=by
 intro A k hk
 unfold ta at hk
 cases hb:b.den ρ with
 |true=>
  cases b with
  |lit v=>simp only[aC.den]at hb;subst hb;exact h1 rfl A k hk
  |_=>exact h1 hb A k (hk.1 hb)
 |false=>
  cases b with
  |lit v=>simp only[aC.den]at hb;subst hb;exact h2 rfl A k hk
  |_=>exact h2 hb A k (hk.2 hb)
theorem vJ {nb:Nat} {c:ag} {code i:I} {j:Nat} {z:Int} {row:List Int} (hrow:(ab (code.den ρ))[(i.den ρ).toNat]?=some row) (hz:row[j]?=some z) (h1:c.cn.1<=z) (h2:z<=c.cn.2):
 ae S L (q8 c code i j) n ρ λaa n' x=>x.ok n' nb aa/\x.den aa m=c.val z/\c.plain=true:=by
 have hf:ah 21 ([code,i,I.const (j:Nat)].map (·.den ρ))=z:=by
  simp only[List.map_cons,List.map_nil,I.ay,ah,Int.toNat_natCast]
  simp[List.getD,hrow,hz]
 cases c with
 |int k lo hi=>
  refine(cS (by rw[hf];exact h1) (by rw[hf];exact h2)).bind λak n1 l _ _ ⟨g1,g2⟩=>ae.pure ⟨⟨g1,?_,?_⟩,?_,rfl⟩
  ·rw[g2,hf];exact h1
  ·rw[g2,hf];exact h2
  ·simp only[A.den,ag.val];rw[g2,hf]
 |str=>
  refine(cS (by rw[hf];exact h1) (by rw[hf];exact h2)).bind λak n1 l _ _ ⟨g1,g2⟩=>ae.pure ⟨⟨g1,?_,?_⟩,?_,rfl⟩
  ·rw[g2,hf];exact h1
  ·rw[g2,hf];exact h2
  ·simp only[A.den,ag.val];rw[g2,hf]
 |bool=>
  refine(cS (by rw[hf];exact h1) (by rw[hf];exact h2)).bind λak n1 l _ _ ⟨g1,g2⟩=>ae.pure ?_
  have aK:aM.ok n1 ak ⟨l,0,1⟩:=⟨g1,by simp only;rw[g2,hf];exact h1,by simp only;rw[g2,hf];exact h2⟩
  have e:=aC.ky aK (aM.hP n1 ak 1)
  refine⟨e.2,?_,rfl⟩
  simp only[A.den,ag.val]
  rw[e.1]
  simp only[aM.const,I.ay]
  rw[g2,hf]
 |sub k=>exact ae.fail
theorem yQ {nb:Nat} {sh:List ag} {row:List Int} (aK:aR sh row):∀{r:List ag} {n:Nat} {ρ:Env} {code i:I} {j:Nat},code.aA n->i.aA n->(ab (code.den ρ))[(i.den ρ).toNat]?=some row->(∀(x:Nat) (c:ag),r[x]?=some c->sh[j+x]?=some c)->
 ae S L (vL code i j r) n ρ λaa n' l=>(∀a∈l,A.ok n' nb aa a)/\l.length=r.length/\∀(x:Nat) (a:A),l[x]?=some a->∃c,sh[j+x]?=some c/\c.plain=true/\(bM sh row)[j+x]?=some (a.den aa m)
 |[],n,ρ,code,i,j,_,_,_,_=>ae.pure ⟨λ_ h=>by simp at h,rfl,λx a h=>by simp at h⟩
 |c::r,n,ρ,code,i,j,pV,tY,hrow,hr=>by
  have h0:=hr 0 c rfl
  obtain⟨z,h1,h2,h3,h4⟩:=aK.get h0
  refine(vJ (nb:=nb) (m:=m) hrow h1 h2 h3).bind λak n1 y hn ha ⟨g1,g2,g3⟩=>?_
  refine(yQ (nb:=nb) (r:=r) (n:=n1) (ρ:=ak) (code:=code) (i:=i) (j:=j+1) aK (pV.mono hn) (tY.mono hn) (by rw[I.aP ha pV,I.aP ha tY];exact hrow) (λx c hx=>by
   have:=hr (x+1) c (by simpa using hx)
   rw[show j+1+x=j+(x+1) by omega];exact this)).bind λaH cA l bX bN ⟨k1,k2,k3⟩=>ae.pure ⟨λb hb=>?_,by simp[k2],λx b hb=>?_⟩
  ·rcases List.mem_cons.1 hb with rfl|hb
   ·exact g1.ext bN bX (Nat.le_refl _)
   ·exact k1 b hb
  ·cases x with
   |zero=>
    simp only[List.getElem?_cons_zero,Option.some.injEq]at hb
    subst hb
    exact⟨c,h0,g3,by rw[A.fL g1 bN (λ_ _=>rfl),g2];exact h4⟩
   |succ x=>
    have:=k3 x b (by simpa using hb)
    rw[show j+(x+1)=j+1+x by omega];exact this
theorem H7 {nb:Nat} {c:ag} {code:I}:∀{q n:Nat} {ρ:Env} {i:I},(∀row∈ab (code.den ρ),aR [c] row)->code.aA n->i.aA n->
 ae S L (BQ c code q i) n ρ λaa n' l=>(∀a∈l,A.ok n' nb aa a)/\l.length=q/\∀(x:Nat) (a:A),l[x]?=some a->∃row,(ab (code.den ρ))[(i.den ρ).toNat+x]?=some row/\c.plain=true/\(bM [c] row)[0]?=some (a.den aa m)
 |0,n,ρ,i,_,_,_=>ae.pure ⟨λ_ h=>by simp at h,rfl,λx a h=>by simp at h⟩
 |q+1,n,ρ,i,cO,pV,tY=>by
  refine db λhk=>?_
  simp only[List.map_cons,List.map_nil,aG]at hk
  have hlt:(i.den ρ).toNat<(ab (code.den ρ)).length:=by omega
  have hrow:(ab (code.den ρ))[(i.den ρ).toNat]?=some (ab (code.den ρ))[(i.den ρ).toNat]:=List.getElem?_eq_getElem hlt
  have aK:=cO _ (List.getElem_mem hlt)
  generalize (ab (code.den ρ))[(i.den ρ).toNat]=row at hrow aK
  obtain⟨z,h1,h2,h3,h4⟩:=aK.get (show([c]:List ag)[0]?=some c from rfl)
  refine(vJ (nb:=nb) (m:=m) hrow h1 h2 h3).bind λak n1 y hn ha ⟨g1,g2,g4⟩=>?_
  have zF:=I.aP ha pV
  have hid:=I.aP ha tY
  refine(H7 (nb:=nb) (q:=q) (n:=n1) (ρ:=ak) (i:=i.add (.const 1)) (by rw[zF];exact cO) (pV.mono hn) (I.nD (tY.mono hn) (I.br _ _))).bind λaH cA l bX bN ⟨k1,k2,k3⟩=>ae.pure ⟨λb hb=>?_,by simp[k2],λx b hb=>?_⟩
  ·rcases List.mem_cons.1 hb with rfl|hb
   ·exact g1.ext bN bX (Nat.le_refl _)
   ·exact k1 b hb
  ·cases x with
   |zero=>
    simp only[List.getElem?_cons_zero,Option.some.injEq]at hb
    subst hb
    exact⟨row,by simpa using hrow,g4,by rw[A.fL g1 bN (λ_ _=>rfl),g2];exact h4⟩
   |succ x=>
    obtain⟨oC,r1,dK,r2⟩:=k3 x b (by simpa using hb)
    rw[zF,I.den_add,I.ay,hid]at r1
    exact⟨oC,by rw[<-r1];congr 1;omega,dK,r2⟩
theorem La (hb:bm n bl.length ρ bl) (hex:∃w,Mem w0 ρ m bl w) (t:TypeId) {b ax:Nat} {o i:I} {j:Nat} (hx:(A.ep b ax o i j).ok n bl.length ρ):
 ae S L (y5 P bl t b ax o i j) n ρ (fK w0 m bl n ρ λw=>(Instr.loadAt t ((A.ep b ax o i j).den ρ m)).run P w):=by
 obtain⟨mH,kJ⟩:=hex
 unfold y5
 split
 ·rename_i sh off code cap kind t' hbl
  refine bR λhc=>db λhk=>?_
  simp only[Bool.and_eq_true]at hc
  obtain⟨⟨c1,av⟩,bg⟩:=hc
  have c1:0<kind:=Nat.le_of_ble_eq_true c1
  have av:=Nat.eq_of_beq_eq_true av
  have bg:=I.beq_eq bg
  subst bg
  have mg:(A.rows sh o code cap kind).ok n bl.length ρ:=hb _ (List.mem_of_getElem? hbl) _ (by simp)
  simp only[List.map_cons,List.map_nil,aG]at hk
  have hlt:(i.den ρ).toNat<(ab (code.den ρ)).length:=by omega
  have hrow:(ab (code.den ρ))[(i.den ρ).toNat]?=some (ab (code.den ρ))[(i.den ρ).toNat]:=List.getElem?_eq_getElem hlt
  generalize (ab (code.den ρ))[(i.den ρ).toNat]=row at hrow
  have bp:0<=cap.den ρ:=by
   rcases Int.lt_or_le (cap.den ρ) 0 with h|h
   ·have:=(kJ.rws b sh o code cap kind t' hbl (by omega)).1 h
    rw[this]at hlt;simp at hlt
   ·exact h
  have gj:∀w,Mem w0 ρ m bl w->aR sh row/\∀(x:Nat) (v:Value) (c:ag),sh[x]?=some c->c.plain=true->(bM sh row)[x]?=some v->w.cell? ⟨m b,(o.den ρ).toNat+(i.den ρ).toNat*ax+x,none⟩=some v:=λw hw=>by
   obtain⟨_,cells,dX,fz,g1,⟨g2,g3⟩,_⟩:=(hw.rws b sh o code cap kind t' hbl (by omega)).2 bp
   refine⟨g3.1 _ (List.mem_of_getElem? hrow),λx v c hc hp hv=>?_⟩
   have:=g3.get hrow hc hp hv
   simp only[World.cell?,g1,Option.isSome_none,Bool.false_eq_true,if_false]
   rw[av];exact this
  have cO:=(gj mH kJ).1
  cases gS:dW P t with
  |none=>exact ae.fail
  |some cR=>
   cases cR with
   |true=>
    cases hs:ct P t with
    |none=>exact ae.fail
    |some k=>
     simp only
     cases hk2:Nat.ble (j+k) sh.length with
     |false=>
      simp only[cond_false]
      split
      ·rename_i c _
       have hall:∀row∈ab (code.den ρ),aR [c] row:=by
        obtain⟨_,cells,dX,fz,g1,⟨g2,g3⟩,_⟩:=(kJ.rws b [c] o code cap kind t' hbl (by omega)).2 bp
        exact g3.1
       refine(H7 (nb:=bl.length) (m:=m) (q:=k) (i:=i) hall mg.1.2.1 hx.2.1.2).bind λak n1 l hn ha ⟨g1,g2,g3⟩=>ae.pure ⟨g1,_,rfl,λw hw=>?_⟩
       have hl:=run_loadCells_list (P:=P) w ⟨m b,(o.den ρ).toNat+(i.den ρ).toNat*ax+0,none⟩ (l.map (A.den ak m)) λx v hj=>by
        rw[dS]
        rw[List.getElem?_map]at hj
        cases hq:l[x]? with
        |none=>simp[hq]at hj
        |some y=>
         simp only[hq,Option.map_some,Option.some.injEq]at hj
         subst hj
         obtain⟨oC,r1,dK,r2⟩:=g3 x y hq
         obtain⟨_,cells,dX,fz,e1,⟨e2,e3⟩,_⟩:=(hw.rws b [c] o code cap kind t' hbl (by omega)).2 bp
         have:=e3.get (j:=0) (c:=c) r1 rfl dK r2
         simp only[World.cell?,e1,Option.isSome_none,Bool.false_eq_true,if_false]
         simp only[List.length_cons,List.length_nil]at av this
         rw[av]
         rw[<-this];congr 1;omega
       simp only[List.length_map,g2,Nat.add_zero]at hl
       simp[Instr.loadAt,Instr.sureAddr,A.den,loadVar,ic gS,dL hs,hl,W.den]
      ·exact ae.fail
     |true=>
     simp only[cond_true]
     have hk2:=Nat.le_of_ble_eq_true hk2
     refine(yQ (nb:=bl.length) (m:=m) (r:=(sh.drop j).take k) cO mg.1.2.1 hx.2.1.2 hrow (λx c uh=>by
      rw[List.getElem?_take]at uh
      split at uh
      ·rw[List.getElem?_drop]at uh;exact uh
      ·cases uh)).bind λak n1 l hn ha ⟨g1,g2,g3⟩=>ae.pure ⟨g1,_,rfl,λw hw=>?_⟩
     have hl:=run_loadCells_list (P:=P) w ⟨m b,(o.den ρ).toNat+(i.den ρ).toNat*ax+j,none⟩ (l.map (A.den ak m)) λx v hj=>by
      rw[dS]
      rw[List.getElem?_map]at hj
      cases hq:l[x]? with
      |none=>simp[hq]at hj
      |some y=>
       simp only[hq,Option.map_some,Option.some.injEq]at hj
       subst hj
       rw[Nat.add_assoc]
       obtain⟨c,q1,q2,q3⟩:=g3 x y hq
       exact(gj w hw).2 (j+x) _ c q1 q2 q3
     simp only[List.length_map,g2,List.length_take,List.length_drop,Nat.min_eq_left (show k<=sh.length-j by omega)]at hl
     simp[Instr.loadAt,Instr.sureAddr,A.den,loadVar,ic gS,dL hs,hl,W.den]
   |false=>
    cases hc:sh[j]? with
    |none=>simp only;exact ae.fail
    |some c=>
     simp only
     obtain⟨z,h1,h2,h3,h4⟩:=cO.get hc
     refine(vJ (nb:=bl.length) (m:=m) hrow h1 h2 h3).bind λak n1 y hn ha ⟨g1,g2,g3⟩=>ae.pure ⟨g1,_,rfl,λw hw=>?_⟩
     have:=(gj w hw).2 j _ c hc g3 h4
     have Ai:(A.ep b ax o i j).den ρ m= .pointer (some ⟨m b,(o.den ρ).toNat+(i.den ρ).toNat*ax+j,none⟩):=rfl
     simp[Instr.loadAt,Instr.sureAddr,Ai,loadVar,ic gS,this,W.den,g2]
 ·exact ae.fail
theorem jD {b ax:Nat} {o ro len cap:I} (hx:(A.sl b ax o ro len cap).ok n bl.length ρ):∃p,(A.sl b ax o ro len cap).den ρ m= .slice p (len.den ρ).toNat (if cap.den ρ<0 then 0 else(cap.den ρ).toNat)/\(cap.den ρ<0->p=ig (cap.den ρ) (m b))/\(0<=cap.den ρ->p=some ⟨m b,(o.den ρ).toNat+(ro.den ρ).toNat*ax,none⟩):=by
 obtain⟨_,_,_,_,h3,_⟩:=hx
 simp only[A.den]
 by_cases hc:cap.den ρ<0
 ·rw[if_pos hc,if_pos hc,h3 hc]
  exact⟨_,rfl,λ_=>rfl,λh=>by omega⟩
 ·rw[if_neg hc,if_neg hc]
  exact⟨_,rfl,λh=>absurd h hc,λ_=>rfl⟩
theorem Sg {t:TypeId} {b ax:Nat} {o ro len cap au:I} {k:IntKind} (hx:(A.sl b ax o ro len cap).ok n bl.length ρ) (hi:au.aA n):
 ae S L (B5 P t b ax o ro len au) n ρ (fK w0 m bl n ρ λw=>(Instr.indexAt t ((A.sl b ax o ro len cap).den ρ m) (.int k (au.den ρ))).run P w):=by
 unfold B5
 cases h1:dP P t with
 |none=>exact ae.fail
 |some e=>
  cases h2:ct P e with
  |none=>simp only[h2];exact ae.fail
  |some s=>
   simp only[h2]
   refine bR λhs=>db λhk=>ae.pure ?_
   have hs:=Nat.eq_of_beq_eq_true hs
   subst hs
   simp only[List.map_cons,List.map_nil,aG]at hk
   obtain⟨x1,⟨ef,fb,fo,fH⟩,⟨ga,kX,kY,kZ⟩,lR,ee,fG⟩:=hx
   have bp:¬(cap.den ρ<0):=λh=>by have:=ee h;omega
   refine⟨⟨x1,⟨ef,I.nD fb hi⟩,ga,by rw[I.den_add];omega⟩,_,rfl,λw _=>?_⟩
   have av:au.den ρ<((len.den ρ).toNat:Int):=by omega
   have e1:(ro.den ρ+au.den ρ).toNat=(ro.den ρ).toNat+(au.den ρ).toNat:=by omega
   simp only[A.den,if_neg bp,W.den,I.den_add,e1]
   simp[-Int.ofNat_toNat,Instr.indexAt,asIntOf,run_underlying (df h1),hk.1,av,dL h2,dS,Nat.add_mul,Nat.add_assoc]
theorem yC {d:I} {y:Option Operand} {l:I} (h:nR tm d y=some l) (ht:bS n bl.length ρ m tm a.tmps):(y=none/\l=d)∨∃k,y.map a.eval=some (.int k (l.den ρ))/\l.aA n:=by
 cases y with
 |none=>exact .inl ⟨rfl,by simpa [nR]using h.symm⟩
 |some x=>
  obtain⟨k,hk,h2⟩:=p8 (m:=m) (bl:=bl) h (bf ht x).2 (bf ht x).1
  exact .inr ⟨k,by rw[<-hk];rfl,h2⟩
theorem vx {op:Nat} {ls:List I} (h:aG op (ls.map (·.den ρ))):ae S L (qR op ls) n ρ λaa n' _=>aa=ρ/\n'=n:=λA k hk=>⟨ρ,n,(),Nat.le_refl _,agree.refl _ _,⟨rfl,rfl⟩,hk h⟩
theorem Sl {t:TypeId} {b ax:Nat} {o ro len cap p q:I} {lo hi:Option Operand} (hx:(A.sl b ax o ro len cap).ok n bl.length ρ) (ht:bS n bl.length ρ m tm a.tmps) (hp:nR tm (.const 0) lo=some p) (hq:nR tm len hi=some q):
 ae S L (B7 P t b ax o ro len cap p q) n ρ (fK w0 m bl n ρ λw=>(Instr.sliceAt t ((A.sl b ax o ro len cap).den ρ m) (lo.map a.eval) (hi.map a.eval) none).run P w):=by
 unfold B7
 cases h1:dP P t with
 |none=>exact ae.fail
 |some e=>
  cases h2:ct P e with
  |none=>simp only[h2];exact ae.fail
  |some s=>
   simp only[h2]
   refine bR λhs=>db λhk=>?_
   have hs:=Nat.eq_of_beq_eq_true hs
   subst hs
   simp only[List.map_cons,List.map_nil,aG]at hk
   obtain⟨k1,k2,k3⟩:=hk
   have et:=hx
   obtain⟨x1,⟨ef,fb,fo,fH⟩,⟨ga,kX,kY,kZ⟩,⟨lR,kW⟩,ee,fG⟩:=hx
   have kG:=yC hp ht
   have wO:=yC hq ht
   have qA:p.aA n:=by rcases kG with⟨_,rfl⟩|⟨_,_,h⟩;exact I.br _ _;exact h
   have sC:q.aA n:=by rcases wO with⟨_,rfl⟩|⟨_,_,h⟩;exact fo;exact h
   obtain⟨ptr,e1,e2,e3⟩:=jD (m:=m) et
   have iT:∀w,(Instr.sliceBounds true (len.den ρ).toNat (if cap.den ρ<0 then 0 else(cap.den ρ).toNat) (lo.map a.eval) (hi.map a.eval) none).run P w= .ok ((p.den ρ).toNat,(q.den ρ).toNat,(if cap.den ρ<0 then 0 else(cap.den ρ).toNat)) w:=λw=>by
    have hle:(len.den ρ)<=((if cap.den ρ<0 then 0 else(cap.den ρ).toNat:Nat):Int):=by
     split
     ·rename_i h;rw[ee h];simp
     ·rename_i h;have:=fG (by omega);omega
    generalize (if cap.den ρ<0 then 0 else(cap.den ρ).toNat)=C at hle
    rcases kG with⟨rfl,rfl⟩|⟨GG,og,_⟩<;>rcases wO with⟨rfl,rfl⟩|⟨OV,lB,_⟩
    ·simp[Instr.sliceBounds,I.ay]
    ·rw[lB];simp[Instr.sliceBounds,I.ay,ki (P:=P) (by omega:0<=q.den ρ) (by omega:q.den ρ<=(C:Int))]
    ·rw[og];simp[Instr.sliceBounds,ki (P:=P) (y:=(q.den ρ).toNat) k1 (by omega)]
    ·rw[og,lB];simp[Instr.sliceBounds,ki (P:=P) (by omega:0<=q.den ρ) (by omega:q.den ρ<=(C:Int)),ki (P:=P) (y:=(q.den ρ).toNat) k1 (by omega)]
   have du:∀(w:World) (r:Int),r=(if p.den ρ=cap.den ρ then ro.den ρ else ro.den ρ+p.den ρ)->
    (Instr.sliceAt t ((A.sl b s o ro len cap).den ρ m) (lo.map a.eval) (hi.map a.eval) none).run P w= .ok (if cap.den ρ-p.den ρ<0 then .slice (ig (cap.den ρ-p.den ρ) (m b)) 0 0 else .slice (some ⟨m b,(o.den ρ).toNat+r.toNat*s,none⟩) (q.den ρ-p.den ρ).toNat (cap.den ρ-p.den ρ).toNat) w:=λw r hr=>by
    rw[e1]
    have dG:(q.den ρ).toNat-(p.den ρ).toNat=(q.den ρ-p.den ρ).toNat:=by omega
    simp only[Instr.sliceAt,Sem.run_bind,run_underlying (df h1),Result.andThen_ok,Instr.slice,iT w,dL h2,Sem.run_pure,dG]
    by_cases hc:cap.den ρ<0
    ·have hl:=ee hc
     have wL:p.den ρ=0:=by omega
     rw[if_pos hc,e2 hc,if_pos (by omega)]
     have:q.den ρ=0:=by omega
     simp[wL,this,hc]
    ·rw[if_neg hc,e3 (by omega)]
     have jU:=fG (by omega)
     have m6:¬(cap.den ρ-p.den ρ<0):=by omega
     rw[if_neg m6]
     have l6:(cap.den ρ).toNat-(p.den ρ).toNat=(cap.den ρ-p.den ρ).toNat:=by omega
     rw[l6]
     by_cases tV:p.den ρ=cap.den ρ
     ·rw[if_pos tV]at hr
      have h7:(cap.den ρ).toNat=(p.den ρ).toNat:=by omega
      rw[if_pos h7,hr]
     ·rw[if_neg tV]at hr
      have h7:¬(cap.den ρ).toNat=(p.den ρ).toNat:=by omega
      rw[if_neg h7,hr]
      have mY:(ro.den ρ+p.den ρ).toNat=(ro.den ρ).toNat+(p.den ρ).toNat:=by omega
      rw[mY,Nat.add_mul,<-Nat.add_assoc]
      simp[dS]
   split
   ·rename_i h0
    have wL:=I.ej h0 (ρ:=ρ)
    refine ae.pure ⟨⟨x1,⟨ef,fb,sC,fH⟩,⟨ga,kX,by omega,by omega⟩,⟨lR,kW⟩,λh=>?_,λh=>?_⟩,_,rfl,λw _=>?_⟩
    ·have:=ee h;omega
    ·have:=fG h;omega
    ·have hr:=du w (ro.den ρ) (by rw[wL];split<;>omega)
     rw[wL]at hr
     simp only[Int.sub_zero]at hr
     simp only[W.den,A.den]at hr⊢
     exact hr
   ·have fP:(0:Int)<=ah 33 ([ro,p,cap].map (·.den ρ)):=by
     simp only[List.map_cons,List.map_nil,ah];split<;>omega
    have ln:ah 33 ([ro,p,cap].map (·.den ρ))<=9223372036854775809:=by
     simp only[List.map_cons,List.map_nil,ah]
     by_cases hc:cap.den ρ<0
     ·have:=ee hc;split<;>omega
     ·have:=fG (by omega);split<;>omega
    refine(vx (op:=68) (ls:=[len,cap]) (show len.den ρ<=cap.den ρ∨len.den ρ=0 from by
     by_cases hc:cap.den ρ<0
     ·exact .inr (ee hc)
     ·exact .inl (fG (by omega)))).bind λaY n0 _ _ _ ⟨p3,iW⟩=>?_
    have p3:=p3.symm;have iW:=iW.symm
    subst p3;subst iW
    refine(cS fP ln).bind λak n1 r hn ha ⟨g1,g2⟩=>ae.pure ?_
    simp only[List.map_cons,List.map_nil,ah]at g2
    have a1:=I.aP ha ef;have a2:=I.aP ha sC;have a3:=I.aP ha qA;have a4:=I.aP ha fH
    refine⟨⟨x1,⟨ef.mono hn,g1,I.oG (sC.mono hn) (qA.mono hn),I.oG (fH.mono hn) (qA.mono hn)⟩,?_⟩,_,rfl,λw _=>?_⟩
    ·rw[I.gz,I.gz,a1,a2,a3,a4,g2]
     refine⟨⟨ga,?_,by omega,by omega⟩,⟨?_,?_⟩,λh=>?_,λh=>?_⟩
     ·split<;>omega
     ·by_cases hc:cap.den ρ<0
      ·have:=ee hc;omega
      ·have:=fG (by omega);omega
     ·split<;>omega
     ·by_cases hc:cap.den ρ<0
      ·have:=ee hc;omega
      ·have:=fG (by omega);omega
     ·by_cases hc:cap.den ρ<0
      ·have:=ee hc;omega
      ·have:=fG (by omega);omega
    ·refine(du w (r.den ak) g2).trans ?_
     simp only[W.den,A.den,I.gz,a1,a2,a3,a4]
theorem RT (w:World) (src e:TypeId) (hs:P.underlying src=some (.slice e)) (he:P.underlying e=some (.int .u8)) (p:Option Addr) (c:Nat):
 ∀dst,P.underlying dst=some .string->(convert src dst (.slice p 0 c)).run P w= .ok (.string ByteArray.empty) w:=by
 intro dst hd
 cases p with
 |none=>exact run_convert_bytes_nil w src e hs he _ _ dst hd
 |some a=>
  have hl:(loadCells a 0).run P w= .ok ([]:List Value).toArray w:=by
   have:=run_loadCells_list (P:=P) w a ([]:List Value) (λj v hj=>by simp at hj)
   simpa using this
  rw[run_convert_bytes_string w src dst e _ 0 c hs he hd,run_bytesToString w _ 0 c [] hl]
  simp
theorem Sj (hb:bm n bl.length ρ bl) (hex:∃w,Mem w0 ρ m bl w) {src dst e:TypeId} (hs:P.underlying src=some (.slice e)) (he:P.underlying e=some (.int .u8)) (hd:P.underlying dst=some .string) {b ax:Nat} {o ro len cap:I} (hx:(A.sl b ax o ro len cap).ok n bl.length ρ):
 ae S L (B6 bl b ax o ro len) n ρ (fK w0 m bl n ρ λw=>(convert src dst ((A.sl b ax o ro len cap).den ρ m)).run P w):=by
 obtain⟨mH,kJ⟩:=hex
 unfold B6
 split
 ·rename_i sh off code b9 kind t' hbl
  refine bR λhc=>db λhk=>?_
  simp only[Bool.and_eq_true]at hc
  obtain⟨⟨⟨c1,av⟩,bg⟩,bw⟩:=hc
  have c1:0<kind:=Nat.le_of_ble_eq_true c1
  have av:=Nat.eq_of_beq_eq_true av
  have bg:=I.beq_eq bg
  subst bg;subst av
  simp only[List.map_cons,List.map_nil,aG,I.den_add]at hk
  obtain⟨ptr,e1,e2,e3⟩:=jD (m:=m) hx
  obtain⟨x1,⟨ef,fb,fo,fH⟩,⟨ga,kX,kY,kZ⟩,⟨lR,kW⟩,ee,fG⟩:=hx
  generalize hR:ab (code.den ρ)=rows at hk
  have gV:b9.den ρ<0->rows=[]:=λh=>by rw[<-hR];exact(kJ.rws b sh o code b9 kind t' hbl (by omega)).1 h
  have cT:(((rows.drop (ro.den ρ).toNat).take (len.den ρ).toNat).map λrow=>row.getD 0 0).length=(len.den ρ).toNat:=by
   simp;omega
  have hf:ah 34 ([code,ro,ro.add len].map (·.den ρ))=dz ((((rows.drop (ro.den ρ).toNat).take (len.den ρ).toNat).map λrow=>row.getD 0 0).map λz=>UInt8.ofNat z.toNat):=by
   simp only[List.map_cons,List.map_nil,ah,I.den_add,hR]
   have:(ro.den ρ+len.den ρ).toNat-(ro.den ρ).toNat=(len.den ρ).toNat:=by omega
   rw[this,List.map_map];rfl
  generalize aX:(((rows.drop (ro.den ρ).toNat).take (len.den ρ).toNat).map λrow=>row.getD 0 0)=xs at cT hf
  have hl:(xs.map λz=>UInt8.ofNat z.toNat).length<=eu:=by
   have:(xs.map λz=>UInt8.ofNat z.toNat).length=(len.den ρ).toNat:=by simp[cT]
   unfold eu;omega
  refine(cS (by rw[hf];exact ku _) (by rw[hf];exact jI hl)).bind λak n1 l _ _ ⟨g1,g2⟩=>ae.pure ⟨⟨g1,by rw[g2,hf];exact ku _,by rw[g2,hf];exact jI hl⟩,_,rfl,λw hw=>?_⟩
  have hval:(W.one (A.str l)).den ak m= .string (strOfNums xs):=by
   simp only[W.den,A.den,g2,hf,gu]
   rfl
  rw[hval]
  show(convert src dst ((A.sl b 1 o ro len cap).den ρ m)).run P w=_
  rw[e1]
  by_cases bp:cap.den ρ<0
  ·have hl0:=ee bp
   rw[e2 bp,if_pos bp]
   have Gg:xs=[]:=List.eq_nil_of_length_eq_zero (by rw[cT,hl0];rfl)
   rw[Gg,show(len.den ρ).toNat=0 by omega,RT w src e hs he _ _ dst hd]
   rfl
  ·rw[e3 (by omega),if_neg bp]
   by_cases tD:b9.den ρ<0
   ·have pR:=gV tD
    have hl0:len.den ρ=0:=by rw[pR]at hk;simp at hk;omega
    have Gg:xs=[]:=List.eq_nil_of_length_eq_zero (by rw[cT,hl0];rfl)
    exact run_convert_bytes_arg w src e hs he (m b) _ _ _ xs cT (λi hi=>by rw[hl0]at hi;simp at hi) dst hd
   ·obtain⟨_,cells,dX,fz,k1,⟨k2,k3⟩,_⟩:=(hw.rws b sh o code b9 kind t' hbl (by omega)).2 (by omega)
    refine run_convert_bytes_arg w src e hs he (m b) _ _ _ xs cT (λi hi=>?_) dst hd
    have hlt:(ro.den ρ).toNat+i<rows.length:=by omega
    have hrow:(ab (code.den ρ))[(ro.den ρ).toNat+i]?=some rows[(ro.den ρ).toNat+i]:=by rw[hR];exact List.getElem?_eq_getElem hlt
    have eQ:∃lo hi,sh=[.int .u8 lo hi]:=by
     unfold vE at bw
     split at bw
     ·exact⟨_,_,rfl⟩
     ·cases bw
    obtain⟨lo,bE,rfl⟩:=eQ
    have mg:=k3.1 _ (List.mem_of_getElem? hrow)
    obtain⟨z,q1,_,_,q4⟩:=mg.get (j:=0) (c:= .int .u8 lo bE) rfl
    have:=k3.get (j:=0) (c:= .int .u8 lo bE) hrow rfl rfl q4
    have hz:xs.getD i 0=z:=by
     rw[<-aX]
     have:i<(len.den ρ).toNat:=hi
     simp[List.getD,List.getElem?_take,this,hlt,q1]
    simp only[World.cell?,k1,Option.isSome_none,Bool.false_eq_true,if_false,hz]
    simp only[List.length_cons,List.length_nil,Nat.add_zero,Nat.zero_add,Nat.mul_one]at this
    rw[show(o.den ρ).toNat+(ro.den ρ).toNat*1+i=(o.den ρ).toNat+((ro.den ρ).toNat+i) by omega]
    exact this
 ·exact ae.fail
theorem PV {k:IntKind} {x y:aM} {t:TypeId} {ts:Array TypeId} (hx:x.ok n ρ) (hy:y.ok n ρ):ae S L (G4 k x y) n ρ (fK w0 m bl n ρ λw=>(Builtin.min_ ts t #[.int k (x.l.den ρ),.int k (y.l.den ρ)]).run P w):=by
 have e:=aC.vU hy hx
 have hr:∀w,(Builtin.min_ ts t #[.int k (x.l.den ρ),.int k (y.l.den ρ)]).run P w= .ok (.int k (if y.l.den ρ<x.l.den ρ then y.l.den ρ else x.l.den ρ)) w:=λw=>by
  simp[Builtin.min_,Builtin.min2]
 refine yF (λhb=>ae.pure ⟨hy,_,rfl,λw _=>?_⟩) λhb=>ae.pure ⟨hx,_,rfl,λw _=>?_⟩
 ·rw[e.1]at hb
  simp only[hr,if_pos (of_decide_eq_true hb)];rfl
 ·rw[e.1]at hb
  simp only[hr,if_neg (of_decide_eq_false hb)];rfl
theorem PU {k:IntKind} {x y:aM} {t:TypeId} {ts:Array TypeId} (hx:x.ok n ρ) (hy:y.ok n ρ):ae S L (G0 k x y) n ρ (fK w0 m bl n ρ λw=>(Builtin.max_ ts t #[.int k (x.l.den ρ),.int k (y.l.den ρ)]).run P w):=by
 have e:=aC.vU hx hy
 have hr:∀w,(Builtin.max_ ts t #[.int k (x.l.den ρ),.int k (y.l.den ρ)]).run P w= .ok (.int k (if x.l.den ρ<y.l.den ρ then y.l.den ρ else x.l.den ρ)) w:=λw=>by
  simp[Builtin.max_,Builtin.max2]
 refine yF (λhb=>ae.pure ⟨hy,_,rfl,λw _=>?_⟩) λhb=>ae.pure ⟨hx,_,rfl,λw _=>?_⟩
 ·rw[e.1]at hb
  simp only[hr,if_pos (of_decide_eq_true hb)];rfl
 ·rw[e.1]at hb
  simp only[hr,if_neg (of_decide_eq_false hb)];rfl
theorem DE:∀{cs:List A} {l:List Bool},gO cs=some l->cs=l.map λb=>A.bool (.lit b)
 |[],l,h=>by simp[gO]at h;subst h;rfl
 | .bool (.lit b)::r,l,h=>by
  simp only[gO]at h
  cases hr:gO r with
  |none=>simp[hr]at h
  |some aT=>
   simp only[hr,Option.some.injEq]at h
   subst h
   simp[DE hr]
 | .bool (.eq ..)::_,_,h| .bool (.lt ..)::_,_,h| .bool (.le ..)::_,_,h| .bool (.not ..)::_,_,h| .bool (.and ..)::_,_,h| .bool (.iff ..)::_,_,h=>by simp[gO]at h
 | .int .. ::_,_,h=>by simp[gO]at h
 | .ptr .. ::_,_,h=>by simp[gO]at h
 | .gJ .. ::_,_,h=>by simp[gO]at h
 | .gptr .. ::_,_,h=>by simp[gO]at h
 | .slc .. ::_,_,h=>by simp[gO]at h
 | .con _::_,_,h=>by simp[gO]at h
 | .str _::_,_,h=>by simp[gO]at h
 | .rows .. ::_,_,h=>by simp[gO]at h
 | .sl .. ::_,_,h=>by simp[gO]at h
 | .ep .. ::_,_,h=>by simp[gO]at h
theorem Gj:∀(l:List Bool) (s:Nat),s+l.length<=256->∀i:Nat,i<256->(UInt8.ofNat i∈nn s l↔s<=i/\l[i-s]?=some true)
 |[],s,_,i,_=>by simp[nn]
 |b::r,s,h,i,hi=>by
  simp only[List.length_cons]at h
  have ih:=Gj r (s+1) (by omega) i hi
  have hne:s≠i->UInt8.ofNat i≠UInt8.ofNat s:=λhne he=>by
   have:=congrArg UInt8.toNat he
   simp at this;omega
  have key:(s+1<=i/\r[i-(s+1)]?=some true)↔(s<i/\(b::r)[i-s]?=some true):=by
   constructor
   ·rintro⟨h1,h2⟩
    refine⟨h1,?_⟩
    rw[show i-s=(i-(s+1))+1 by omega];simpa using h2
   ·rintro⟨h1,h2⟩
    refine⟨h1,?_⟩
    rw[show i-s=(i-(s+1))+1 by omega]at h2;simpa using h2
  unfold nn
  cases b with
  |true=>
   simp only[cond_true,List.mem_cons,ih,key]
   by_cases he:s=i
   ·subst he;simp
   ·constructor
    ·rintro(h1|h1)
     ·exact absurd h1 (hne he)
     ·exact⟨by omega,h1.2⟩
    ·rintro⟨h1,h2⟩;exact .inr ⟨by omega,h2⟩
  |false=>
   simp only[cond_false,ih,key]
   by_cases he:s=i
   ·subst he;simp
   ·constructor
    ·rintro⟨h1,h2⟩;exact⟨by omega,h2⟩
    ·rintro⟨h1,h2⟩;exact⟨by omega,h2⟩
theorem R5 (hb:bm n bl.length ρ bl) {ty:TypeId} (hu:P.underlying ty=some .bool) (b off:Nat) {au:aM} (tP:au.ok n ρ):ae S L (BY bl b off au) n ρ (fK w0 m bl n ρ λw=>(Instr.loadAt ty ((A.gJ b off au).den ρ m)).run P w):=by
 unfold BY
 cases hbl:bl[b]? with
 |none=>exact ae.fail
 |some q=>
  obtain⟨cs,t⟩:=q
  simp only
  cases hi:gO ((cs.drop off).take (au.hi.toNat+1))with
  |none=>exact ae.fail
  |some l=>
   refine bR λhc=>?_
   simp only[Bool.and_eq_true,decide_eq_true_eq]at hc
   obtain⟨⟨⟨hc1,hc2⟩,Um⟩,hq⟩:=hc
   have hlen:=Nat.eq_of_beq_eq_true hc1
   have tv:=Nat.le_of_ble_eq_true hc2
   have e:=DE hi
   have qX:=tP.2
   have hlt:(au.l.den ρ).toNat<l.length:=by omega
   have cI:dz (nn 0 l)=(I.const (dz (nn 0 l))).den ρ:=(I.ay _ _).symm
   have hf:ah 43 ([I.const (dz (nn 0 l)),au.l].map (·.den ρ))=if l[(au.l.den ρ).toNat]=true then 1 else 0:=by
    simp only[List.map_cons,List.map_nil,ah,I.ay,gu]
    have:=Gj l 0 (by omega) (au.l.den ρ).toNat (by omega)
    simp only[Nat.sub_zero,Nat.zero_le,true_and,List.getElem?_eq_getElem hlt,Option.some.injEq]at this
    simp only[this]
   have b1:=s8 (l[(au.l.den ρ).toNat]=true)
   refine(cS (by rw[hf];exact b1.1) (by rw[hf];exact b1.2)).bind λak n1 r hn ha ⟨g1,g2⟩=>?_
   rw[hf]at g2
   have e2:=aC.ky (n:=n1) (ρ:=ak) (a:=⟨r,0,1⟩) (b:= .const 1) ⟨g1,by simp only[g2];exact b1.1,by simp only[g2];exact b1.2⟩ (aM.hP _ _ _)
   refine ae.pure ⟨e2.2,_,rfl,λw hw=>?_⟩
   obtain⟨_,_,Ia,_,h2⟩:=hw.c9 b cs t hbl hq
   have hcs:cs[off+(au.l.den ρ).toNat]?=some (.bool (.lit l[(au.l.den ρ).toNat])):=by
    have h1:((cs.drop off).take (au.hi.toNat+1))[(au.l.den ρ).toNat]?=some (.bool (.lit l[(au.l.den ρ).toNat])):=by rw[e];simp[hlt]
    rw[List.getElem?_take]at h1
    split at h1
    ·rw[List.getElem?_drop]at h1;exact h1
    ·cases h1
   have Mv:=(List.getElem?_eq_some_iff.1 hcs).1
   have hcell:w.cell? ⟨m b,off+(au.l.den ρ).toNat,none⟩=some (.bool l[(au.l.den ρ).toNat]):=by
    simp only[World.cell?,h2,Option.isSome_none,Bool.false_eq_true,if_false,List.getElem?_toArray]
    rw[List.getElem?_append_left (by simpa using Mv),List.getElem?_map,hcs];rfl
   have gS:dW P ty=some false:=by unfold dW;rw[hu]
   have Ai:(A.gJ b off au).den ρ m= .pointer (some ⟨m b,off+(au.l.den ρ).toNat,none⟩):=rfl
   simp only[W.den,A.den]
   rw[e2.1]
   simp only[g2,aM.const,I.ay]
   have Mk:decide ((if l[(au.l.den ρ).toNat]=true then(1:Int)else 0)=1)=l[(au.l.den ρ).toNat]:=by
    cases l[(au.l.den ρ).toNat]<;>rfl
   rw[Mk]
   have NB:=Ai
   simp only[A.den]at NB
   simp[Instr.loadAt,Instr.sureAddr,loadVar,ic gS,hcell]
theorem BU (w:World) {t e:TypeId} (hu:P.underlying t=some (.slice e)) (p:Option Addr) (l c:Nat):(binOp .eql t (.slice p l c) (.slice none 0 0)).run P w= .ok (.bool p.isNone) w:=by
 have h:binOp .eql t (.slice p l c) (.slice none 0 0)=(do pure (.bool (<-Op.equal t (.slice p l c) (.slice none 0 0)))):=rfl
 rw[h]
 simp only[Sem.run_bind,run_equal_slice_nil w t e p l c hu,Result.andThen_ok,Sem.run_pure]
theorem RW (w:World) {t e:TypeId} (hu:P.underlying t=some (.slice e)) (p:Option Addr) (l c:Nat):(binOp .neq t (.slice p l c) (.slice none 0 0)).run P w= .ok (.bool !p.isNone) w:=by
 have h:binOp .neq t (.slice p l c) (.slice none 0 0)=(do pure (.bool (!(<-Op.equal t (.slice p l c) (.slice none 0 0))))):=rfl
 rw[h]
 simp only[Sem.run_bind,run_equal_slice_nil w t e p l c hu,Result.andThen_ok,Sem.run_pure]
theorem Dt {b off:Nat} {sh:List ag} {code:I} {c:Nat} (h:vw bl b off=some (sh,code,c)):off=0/\∃cap kind t,bl[b]?=some ([.rows sh (.const 0) code cap kind],t)/\0<kind/\(∀ρ,cap.den ρ=(c:Int))/\eJ sh=true:=by
 unfold vw at h
 split at h
 ·rename_i bH o code' cap kind t hbl
  split at h
  ·rename_i q hq
   cases hc:(Nat.beq off 0&&Nat.blt 0 kind&&I.beq o (.const 0)&&decide (0<=q)&&eJ bH)with
   |false=>rw[hc]at h;cases h
   |true=>
    rw[hc]at h
    simp only[cond_true,Option.some.injEq,Prod.mk.injEq]at h
    obtain⟨rfl,rfl,rfl⟩:=h
    simp only[Bool.and_eq_true,decide_eq_true_eq]at hc
    obtain⟨⟨⟨⟨c1,av⟩,bg⟩,bw⟩,cG⟩:=hc
    have bg:=I.beq_eq bg
    subst bg
    exact⟨Nat.eq_of_beq_eq_true c1,cap,kind,t,hbl,Nat.le_of_ble_eq_true av,λρ=>by rw[I.ej hq];omega,cG⟩
  ·cases h
 ·cases h
theorem Dn {nb:Nat} {sh:List ag}:∀{k i:Nat} {n:Nat} {ρ:Env} {code:I},code.aA n->(∀row∈ab (code.den ρ),aR sh row)->(ab (code.den ρ)).length=i+k->
 ae S L (vr code sh i k) n ρ λaa n' l=>(∀a∈l,A.ok n' nb aa a)/\l.length=k*sh.length/\∀(x:Nat) (a:A),l[x]?=some a->(bz sh (ab (code.den ρ)))[i*sh.length+x]?=some (a.den aa m)
 |0,i,n,ρ,code,_,_,_=>ae.pure ⟨λ_ h=>by simp at h,by simp,λx a h=>by simp at h⟩
 |k+1,i,n,ρ,code,hs,cO,hl=>by
  unfold vr
  have hlt:i<(ab (code.den ρ)).length:=by omega
  have hrow:(ab (code.den ρ))[i]?=some (ab (code.den ρ))[i]:=List.getElem?_eq_getElem hlt
  generalize (ab (code.den ρ))[i]=row at hrow
  refine(yQ (nb:=nb) (m:=m) (r:=sh) (j:=0) (i:= .const (i:Nat)) (code:=code) (cO row (List.mem_of_getElem? hrow)) hs (I.br _ _) (by rw[I.ay,Int.toNat_natCast];exact hrow) (λx c hx=>by rw[Nat.zero_add];exact hx)).bind λak n1 l1 cv bG ⟨g1,g2,g3⟩=>?_
  have e1:code.den ak=code.den ρ:=I.aP bG hs
  refine(Dn (nb:=nb) (k:=k) (i:=i+1) (code:=code) (hs.mono cv) (by rw[e1];exact cO) (by rw[e1];omega)).bind λaH cA l2 bX bN ⟨k1,k2,k3⟩=>ae.pure ⟨λa ha=>?_,by rw[List.length_append,g2,k2,Nat.succ_mul];omega,λx a hx=>?_⟩
  ·rcases List.mem_append.1 ha with ha|ha
   ·exact(g1 a ha).ext bN bX (Nat.le_refl _)
   ·exact k1 a ha
  ·rw[List.getElem?_append]at hx
   split at hx
   ·rename_i hlt
    obtain⟨_,_,_,this⟩:=g3 x a hx
    rw[Nat.zero_add]at this
    rw[A.fL (g1 a (List.mem_of_getElem? hx)) bN (λ_ _=>rfl)]
    exact ze cO hrow this
   ·rename_i dI
    have:=k3 (x-l1.length) a hx
    rw[e1,g2]at this
    rw[g2]at dI
    rw[show i*sh.length+x=(i+1)*sh.length+(x-sh.length) by rw[Nat.succ_mul];omega]
    exact this
theorem Kr {α:Type} {p q r len cap:I} {f:Unit->M α} {R:Env->Nat->α->Prop} (fN:cap.den ρ<0->len.den ρ=0) (jU:0<=cap.den ρ->len.den ρ<=cap.den ρ) (h:(0<=p.den ρ/\p.den ρ<=q.den ρ/\q.den ρ<=r.den ρ/\r.den ρ<=cap.den ρ)->ae S L (f ()) n ρ R):
 ae S L (bind (cond (I.beq r len) (cx 78 [p,q,r,cap]) (cx 64 [p,q,r,len])) f) n ρ R:=by
 cases I.beq r len with
 |true=>exact db λhk=>h hk
 |false=>
  refine db λhk=>h ?_
  have hk:0<=p.den ρ/\p.den ρ<=q.den ρ/\q.den ρ<=r.den ρ/\r.den ρ<=len.den ρ/\0<len.den ρ:=hk
  have hc:0<=cap.den ρ:=by
   rcases Int.lt_or_le (cap.den ρ) 0 with h|h
   ·have:=fN h;omega
   ·exact h
  have:=jU hc
  omega
theorem Sk {t:TypeId} {b ax:Nat} {o ro len cap p q r:I} {lo:Option Operand} {hi dv:Operand} (hx:(A.sl b ax o ro len cap).ok n bl.length ρ) (ht:bS n bl.length ρ m tm a.tmps) (hp:nR tm (.const 0) lo=some p) (hq:je (aU tm hi)=some q) (hr:je (aU tm dv)=some r):
 ae S L (B8 P t b ax o ro len cap p q r) n ρ (fK w0 m bl n ρ λw=>(Instr.sliceAt t ((A.sl b ax o ro len cap).den ρ m) (lo.map a.eval) (some (a.eval hi)) (some (a.eval dv))).run P w):=by
 unfold B8
 cases h1:dP P t with
 |none=>exact ae.fail
 |some e=>
  cases h2:ct P e with
  |none=>simp only[h2];exact ae.fail
  |some s=>
   simp only[h2]
   refine bR λhs=>Kr (λh=>hx.2.2.2.2.1 h) (λh=>hx.2.2.2.2.2 h) λhk=>?_
   have hs:=Nat.eq_of_beq_eq_true hs
   subst hs
   obtain⟨k1,k2,k3,k4⟩:=hk
   have et:=hx
   obtain⟨x1,⟨ef,fb,fo,fH⟩,⟨ga,kX,kY,kZ⟩,⟨lR,kW⟩,ee,fG⟩:=hx
   have kG:=yC hp ht
   have qA:p.aA n:=by rcases kG with⟨_,rfl⟩|⟨_,_,h⟩;exact I.br _ _;exact h
   obtain⟨OV,lB,sC⟩:=p8 (m:=m) (bl:=bl) hq (bf ht hi).2 (bf ht hi).1
   obtain⟨UL,Al,Ij⟩:=p8 (m:=m) (bl:=bl) hr (bf ht dv).2 (bf ht dv).1
   obtain⟨ptr,e1,e2,e3⟩:=jD (m:=m) et
   have hc:¬(cap.den ρ<0):=by omega
   have jU:=fG (by omega)
   have Ee:=e1
   rw[if_neg hc,e3 (by omega)]at Ee
   have hf:ah 33 ([ro,p,r].map (·.den ρ))=(if p.den ρ=r.den ρ then ro.den ρ else ro.den ρ+p.den ρ):=rfl
   refine(cS (by rw[hf];split<;>omega) (by rw[hf];split<;>omega)).bind λak n1 Ia hn ha ⟨g1,g2⟩=>ae.pure ?_
   rw[hf]at g2
   have a1:=I.aP ha ef;have a2:=I.aP ha sC;have a3:=I.aP ha qA;have a4:=I.aP ha Ij
   refine⟨⟨x1,⟨ef.mono hn,g1,I.oG (sC.mono hn) (qA.mono hn),I.oG (Ij.mono hn) (qA.mono hn)⟩,?_⟩,_,rfl,λw _=>?_⟩
   ·rw[I.gz,I.gz,a1,a2,a3,a4,g2]
    refine⟨⟨ga,?_,by omega,by omega⟩,⟨by omega,?_⟩,λh=>by omega,λh=>by omega⟩
    ·split<;>omega
    ·split<;>omega
   ·rw[Ee]
    have iT:(Instr.sliceBounds true (len.den ρ).toNat (cap.den ρ).toNat (lo.map a.eval) (some (a.eval hi)) (some (a.eval dv))).run P w= .ok ((p.den ρ).toNat,(q.den ρ).toNat,(r.den ρ).toNat) w:=by
     rw[lB,Al]
     rcases kG with⟨rfl,rfl⟩|⟨GG,og,_⟩
     ·simp[Instr.sliceBounds,I.ay,ki (P:=P) (y:=(cap.den ρ).toNat) (by omega:0<=r.den ρ) (by omega),ki (P:=P) (y:=(r.den ρ).toNat) (by omega:0<=q.den ρ) (by omega)]
     ·rw[og]
      simp[Instr.sliceBounds,ki (P:=P) (y:=(cap.den ρ).toNat) (by omega:0<=r.den ρ) (by omega),ki (P:=P) (y:=(r.den ρ).toNat) (by omega:0<=q.den ρ) (by omega),ki (P:=P) (y:=(q.den ρ).toNat) k1 (by omega)]
    have dG:(q.den ρ).toNat-(p.den ρ).toNat=(q.den ρ-p.den ρ).toNat:=by omega
    have l6:(r.den ρ).toNat-(p.den ρ).toNat=(r.den ρ-p.den ρ).toNat:=by omega
    simp only[Instr.sliceAt,Sem.run_bind,run_underlying (df h1),Result.andThen_ok,Instr.slice,iT,dL h2,Sem.run_pure,dG,l6,W.den,A.den,I.gz,a1,a2,a3,a4,g2]
    rw[if_neg (show ¬(r.den ρ-p.den ρ<0) by omega)]
    by_cases tV:p.den ρ=r.den ρ
    ·rw[if_pos tV,if_pos (by omega)]
    ·rw[if_neg tV,if_neg (by omega)]
     have mY:(ro.den ρ+p.den ρ).toNat=(ro.den ρ).toNat+(p.den ρ).toNat:=by omega
     rw[mY,Nat.add_mul,<-Nat.add_assoc]
     simp[dS]
theorem RN (hb:bm n bl.length ρ bl) (hex:∃w,Mem w0 ρ m bl w) (ht:bS n bl.length ρ m tm a.tmps) (o:Oper) {q:M V} (hq:xE P bl tm o=some q):ae S L q n ρ (fs w0 m bl n ρ P o a):=by
 obtain⟨mH,kJ⟩:=hex
 unfold xE at hq
 split at hq
 ·rename_i t x au h
  have hx:=bf ht x
  have hi:=bf ht au
  split at hq
  ·rename_i l k p len e hv uc n8
   rw[hv]at hx;rw[uc]at hi
   split at hq
   ·rename_i s hs eP
    cases hc:Nat.ble len 8 with
    |false=>rw[hc]at hq;cases hq
    |true=>
     rw[hc]at hq
     simp only[cond_true,Option.some.injEq]at hq
     subst hq
     have e1:a.eval x= .agg (l.map (A.den ρ m)).toArray:=hx.2
     have e2:a.eval au= .int k (p.l.den ρ):=hi.2
     have main:∀r j,j+r=len->ae S L (AH P e l s p.l j r) n ρ (fs w0 m bl n ρ P o a):=by
      intro r
      induction r with
      |zero=>intro j _;exact ae.fail
      |succ r ih=>
       intro j hj
       refine yF (λhb=>?_) λ_=>ih (j+1) (by omega)
       have hb:p.l.den ρ=(I.const j).den ρ:=by simpa [aC.den]using hb
       rw[I.ay]at hb
       have hlt:((j:Nat):Int)<(len:Nat):=by omega
       have dI:(0:Int)<=(j:Nat):=by omega
       refine(Bt (w0:=w0) (m:=m) (bl:=bl) (off:=j*s) hx.1).mono λak n1 v _ _ ⟨q1,val,q2,q3⟩=>⟨q1,val,q2,λw hw=> .inl ?_⟩
       have:=q3 w hw
       rw[hb]at e2
       simp[execOp,h,e1,e2,Instr.index,asIntOf,run_underlying (k9 n8),dI,hlt,dL hs,this]
       intro hle;omega
     exact main len 0 (by omega)
   ·cases hq
  ·cases hq
 ·rename_i t x au h
  have hx:=bf ht x
  have hi:=bf ht au
  split at hq
  ·rename_i b off k i hv uc
   rw[hv]at hx;rw[uc]at hi
   split at hq
   ·rename_i sh code c len e ll n8
    split at hq
    ·rename_i s hs
     cases hc:(Nat.beq s sh.length&&Nat.beq len c)with
     |false=>rw[hc]at hq;cases hq
     |true=>
      rw[hc]at hq
      simp only[cond_true,Option.some.injEq]at hq
      subst hq
      simp only[Bool.and_eq_true]at hc
      have av:=Nat.eq_of_beq_eq_true hc.2
      subst av
      obtain⟨rfl,cap,kind,bC,hbl,hk,bp,FW⟩:=Dt ll
      refine db λwE=>ae.pure ?_
      simp only[List.map_cons,List.map_nil,aG,I.ay]at wE
      have bA:a.eval x= .pointer (some ⟨m b,0,none⟩):=hx.2
      have zX:a.eval au= .int k (i.l.den ρ):=hi.2
      have zY:aM.ok n ρ i:=hi.1
      have gX:b<bl.length:=hx.1
      refine⟨⟨gX,⟨I.br _ _,zY.1⟩,by rw[I.ay];omega,wE.1⟩,_,rfl,λw _=> .inl ?_⟩
      have c1:i.l.den ρ<((len:Nat):Int):=wE.2
      simp[execOp,h,bA,zX,Instr.indexAt,asIntOf,run_underlying (k9 n8),Instr.sureAddr,wE.1,c1,dL hs,dS,W.den,A.den,I.ay]
    ·cases hq
   ·cases hq
  ·cases hq
 ·rename_i t x h
  have hx:=bf ht x
  split at hq
  ·rename_i b off hv
   rw[hv]at hx
   split at hq
   ·rename_i sh code c k ll gS hs
    cases hc:(Nat.beq k (c*sh.length))with
    |false=>rw[hc]at hq;cases hq
    |true=>
     rw[hc]at hq
     simp only[cond_true,Option.some.injEq]at hq
     subst hq
     have hc:=Nat.eq_of_beq_eq_true hc
     subst hc
     obtain⟨rfl,cap,kind,bC,hbl,hk,bp,FW⟩:=Dt ll
     refine db λwF=>?_
     simp only[List.map_cons,List.map_nil,aG,I.ay]at wF
     have cH:(A.rows sh (.const 0) code cap kind).ok n bl.length ρ:=hb _ (List.mem_of_getElem? hbl) _ (by simp)
     have gj:∀w,Mem w0 ρ m bl w->∃cells t' fz,w.heap[m b]?=some (.cells cells t' fz)/\jk cells 0 sh (ab (code.den ρ)):=λw hw=>by
      obtain⟨_,cells,dX,fz,g1,⟨g2,g3⟩,_⟩:=(hw.rws b sh (.const 0) code cap kind bC hbl (by omega)).2 (by rw[bp];omega)
      rw[I.ay]at g3
      exact⟨cells,dX,fz,g1,(hM FW).1 g3⟩
     obtain⟨_,_,_,_,NL⟩:=gj mH kJ
     refine(Dn (nb:=bl.length) (m:=m) (k:=c) (i:=0) cH.1.2.1 NL.1 (by omega)).bind λak n1 l hn ha ⟨g1,g2,g3⟩=>ae.pure ⟨g1,_,rfl,λw hw=> .inl ?_⟩
     obtain⟨cells,dX,fz,q1,q2⟩:=gj w hw
     have hl:=run_loadCells_list (P:=P) w ⟨m b,0,none⟩ (l.map (A.den ak m)) λx v hj=>by
      rw[dS]
      rw[List.getElem?_map]at hj
      cases hq:l[x]? with
      |none=>simp[hq]at hj
      |some y=>
       simp only[hq,Option.map_some,Option.some.injEq]at hj
       subst hj
       have h3:=g3 x y hq
       rw[Nat.zero_mul,Nat.zero_add]at h3
       simp only[World.cell?,q1,Option.isSome_none,Bool.false_eq_true,if_false]
       obtain⟨_,pre,post,p1,bc⟩:=q2
       have hV:pre=[]:=List.eq_nil_of_length_eq_zero bc
       subst hV
       have hlt:=(List.getElem?_eq_some_iff.1 h3).1
       rw[<-Array.getElem?_toList,p1,List.nil_append,List.getElem?_append_left (by omega),Nat.zero_add]
       exact h3
     simp only[List.length_map,g2]at hl
     have bA:a.eval x= .pointer (some ⟨m b,0,none⟩):=hx.2
     simp[execOp,h,bA,Instr.loadAt,Instr.sureAddr,loadVar,ic gS,dL hs,hl,W.den]
   ·cases hq
  ·cases hq
 ·rename_i t x lo hi dv h
  have hx:=bf ht x
  split at hq
  ·rename_i b ax off ro len cap hv
   rw[hv]at hx
   have bA:a.eval x=(A.sl b ax off ro len cap).den ρ m:=hx.2
   have he:execOp a.eval o=(do pure (Next.value (<-Instr.sliceAt t ((A.sl b ax off ro len cap).den ρ m) (lo.map a.eval) (some (a.eval hi)) (some (a.eval dv))))):=by simp only[execOp,h,bA];rfl
   split at hq
   ·rename_i p e9 r hp lB hr
    cases hq
    exact(Sk hx.1 ht hp lB hr).mono λ_ _ _ _ _ hq=>fs.of_run he hq
   ·cases hq
  ·cases hq
 ·rename_i c h
  split at hq
  ·rename_i hc
   split at hq
   ·rename_i x t cT e5
    have hx:=bf ht x
    split at hq
    ·rename_i e hv hs
     cases hq
     rw[hv]at hx
     have bA:a.eval x= .slice none 0 0:=hx.2
     have a1:c.args=#[x]:=by rw[<-Array.toArray_toList (xs:=c.args),cT]
     have a2:c.argTypes=#[t]:=by rw[<-Array.toArray_toList (xs:=c.argTypes),e5]
     refine ae.pure ⟨aM.hP _ _ _,_,rfl,λw _=> .inl ?_⟩
     simp[execOp,h,resolve,hc,a1,a2,bA,invoke,builtin,Builtin.len_,run_underlying (df hs),goInt,W.den,A.den,aM.const,I.ay]
    ·cases hq
   ·cases hq
  ·cases hq
 ·cases hq
theorem BB {aL:dp} (bV:fr S P gl w0 aL) (hb:bm n bl.length ρ bl) (hg:ey gl w0) (hex:∃w,Mem w0 ρ m bl w) (ht:bS n bl.length ρ m tm a.tmps) (o:Oper):
 ae S L (nA P aL gl bl tm o) n ρ (fs w0 m bl n ρ P o a):=by
 unfold nA
 cases hq:BR P bl tm o with
 |none=>
  simp only
  cases mf:xE P bl tm o with
  |some q=>exact RN hb hex ht o mf
  |none=>
  simp only
  cases hd:vV aL bl tm o with
  |none=>exact Rq bV hb hg hex ht o
  |some q=>
   simp only
   unfold vV at hd
   split at hd
   ·rename_i c ho
    split at hd
    ·rename_i x hc
     split at hd
     ·rename_i f vY vZ hv
      cases hz:(Nat.beq vY.size 0&&Nat.beq vZ.size 0)with
      |false=>rw[hz]at hd;cases hd
      |true=>
       rw[hz]at hd
       simp only[cond_true,Option.map_eq_some_iff]at hd
       obtain⟨g,zR,rfl⟩:=hd
       simp only[Bool.and_eq_true,Nat.beq_eq]at hz
       have b7:vY=#[]:=Array.eq_empty_of_size_eq_zero hz.1
       have e1:vZ=#[]:=Array.eq_empty_of_size_eq_zero hz.2
       subst b7 e1
       have hx:=bf ht (.tmp x)
       rw[hv]at hx
       have bA:a.eval (.tmp x)= .func (.func f) #[] #[]:=hx.2
       have kD:∀v∈c.args.toList.map (aU tm),V.ok n bl.length ρ v:=λv hv=>by
        obtain⟨x,_,rfl⟩:=List.mem_map.1 hv
        exact(bf ht x).1
       have he:execOp a.eval o=callFunc f (c.args.map a.eval):=by
        simp only[execOp,ho,resolve,hc,bA,Deferred.ofValue]
        simp[invoke,bind_pure_comp]
       refine(bV f g zR L n ρ m bl _ _ hb hex kD (ve (xs:=c.args.toList) ht)).mono λak n1 v _ _ ⟨q1,val,q2,q3⟩=>⟨q1,val,q2,λw hw=>?_⟩
       have ha:(c.args.toList.map a.eval).toArray=c.args.map a.eval:=by
        rw[<-Array.toList_map]
       have q4:=q3 w hw
       rw[ha]at q4
       rcases q4 with q4|⟨q4,q5⟩
       ·exact .inl (by rw[he];exact q4)
       ·exact .inr ⟨f,_,by rw[he];exact q4,q5⟩
     ·cases hd
    ·cases hd
   ·cases hd
 |some q=>
  simp only
  unfold BR at hq
  split at hq
  case h_1 t x h=>
   have hx:=bf ht x
   split at hq
   ·rename_i b ax off i j hv
    cases hq
    rw[hv]at hx
    have bA:a.eval x=(A.ep b ax off i j).den ρ m:=hx.2
    have he:execOp a.eval o=(do pure (Next.value (<-Instr.loadAt t ((A.ep b ax off i j).den ρ m)))):=by simp only[execOp,h,bA]
    exact(La hb hex t hx.1).mono λ_ _ _ _ _ hq=>fs.of_run he hq
   ·rename_i b off au hv
    split at hq
    ·rename_i hu
     cases hq
     rw[hv]at hx
     have bA:a.eval x=(A.gJ b off au).den ρ m:=hx.2
     have he:execOp a.eval o=(do pure (Next.value (<-Instr.loadAt t ((A.gJ b off au).den ρ m)))):=by simp only[execOp,h,bA]
     exact(R5 hb hu b off hx.1.2.1).mono λ_ _ _ _ _ hq=>fs.of_run he hq
    ·cases hq
   ·cases hq
  case h_2 x h=>
   have hx:=bf ht x
   split at hq
   ·rename_i b ax off i j hv
    cases hq
    rw[hv]at hx
    refine ae.pure ⟨hx.1,_,rfl,λw _=> .inl ?_⟩
    have bA:=hx.2
    simp only[V.rel,W.den,A.den]at bA
    simp[execOp,h,bA,W.den,A.den]
   ·cases hq
  case h_3 t x au h=>
   have hx:=bf ht x
   have hi:=bf ht au
   split at hq
   ·rename_i b ax off ro len cap k i hv uc
    cases hq
    rw[hv]at hx
    rw[uc]at hi
    have bA:a.eval x=(A.sl b ax off ro len cap).den ρ m:=hx.2
    have zX:a.eval au= .int k (i.l.den ρ):=hi.2
    have he:execOp a.eval o=(do pure (Next.value (<-Instr.indexAt t ((A.sl b ax off ro len cap).den ρ m) (.int k (i.l.den ρ))))):=by simp only[execOp,h,bA,zX]
    have zY:aM.ok n ρ i:=hi.1
    exact(Sg hx.1 zY.1).mono λ_ _ _ _ _ hq=>fs.of_run he hq
   ·cases hq
  case h_4 t x h=>
   have hx:=bf ht x
   split at hq
   ·rename_i b ax off ro len cap k e hv ha
    cases hq
    rw[hv]at hx
    refine bR λhc=>db λhk=>?_
    have hc:0<k:=Nat.le_of_ble_eq_true hc
    simp only[List.map_cons,List.map_nil,I.ay,aG]at hk
    have aK:A.ok n bl.length ρ (.sl b ax off ro len cap):=hx.1
    obtain⟨h1,⟨h2,h3,h4,h5⟩,h6⟩:=aK
    have bp:¬cap.den ρ<0:=λNq=>by have:=h6.2.2.1 Nq;omega
    refine ae.pure ⟨⟨h1,⟨h2,h3⟩,h6.1.1,h6.1.2.1⟩,_,rfl,λw _=> .inl ?_⟩
    have bA:a.eval x=(A.sl b ax off ro len cap).den ρ m:=hx.2
    have hle:¬(len.den ρ).toNat<k:=by omega
    simp only[execOp,h]
    rw[bA]
    simp only[A.den,if_neg bp]
    simp[Instr.arrayAt,run_underlying (k9 ha),hle,W.den,A.den]
   ·cases hq
  case h_5 s x f h=>
   have hx:=bf ht x
   split at hq
   ·rename_i b ax off i j fd hv hf
    rw[hv]at hx
    obtain⟨bT,hu,tI⟩:=y8 hf
    split at hq
    ·rename_i k hs
     cases hq
     refine ae.pure ⟨hx.1,_,rfl,λw _=> .inl ?_⟩
     have bA:=hx.2
     simp only[V.rel,W.den,A.den]at bA
     simp[execOp,h,bA,Instr.fieldAt,run_underlying hu,tI,Instr.sureAddr,fieldPlace,dL hs,dS,W.den,A.den,Nat.add_assoc]
    ·cases hq
   ·cases hq
  case h_6 t x lo hi h=>
   have hx:=bf ht x
   split at hq
   ·rename_i b ax off ro len cap hv
    rw[hv]at hx
    have bA:a.eval x=(A.sl b ax off ro len cap).den ρ m:=hx.2
    have he:execOp a.eval o=(do pure (Next.value (<-Instr.sliceAt t ((A.sl b ax off ro len cap).den ρ m) (lo.map a.eval) (hi.map a.eval) none))):=by simp only[execOp,h,bA];rfl
    split at hq
    ·rename_i p e9 hp lB
     cases hq
     exact(Sl hx.1 ht hp lB).mono λ_ _ _ _ _ hq=>fs.of_run he hq
    ·cases hq
   ·cases hq
  case h_7 s d x h=>
   have hx:=bf ht x
   split at hq
   ·rename_i b ax off ro len cap e hv hs hd
    split at hq
    ·rename_i MD
     cases hq
     rw[hv]at hx
     have bA:a.eval x=(A.sl b ax off ro len cap).den ρ m:=hx.2
     have he:execOp a.eval o=(do pure (Next.value (<-convert s d ((A.sl b ax off ro len cap).den ρ m)))):=by simp only[execOp,h,bA]
     exact(Sj hb hex (df hs) MD hd hx.1).mono λ_ _ _ _ _ hq=>fs.of_run he hq
    ·cases hq
   ·cases hq
  case h_8 c h=>
   split at hq
   ·rename_i hc
    split at hq
    ·rename_i x t cT e5
     have hx:=bf ht x
     split at hq
     ·rename_i b ax off ro len cap e hv hs
      cases hq
      rw[hv]at hx
      have bA:a.eval x=(A.sl b ax off ro len cap).den ρ m:=hx.2
      have gX:(A.sl b ax off ro len cap).ok n bl.length ρ:=hx.1
      obtain⟨ptr,e1,_,_⟩:=jD (m:=m) gX
      rw[e1]at bA
      obtain⟨x1,⟨ef,fb,fo,fH⟩,⟨ga,kX,kY,kZ⟩,_⟩:=gX
      have a1:c.args=#[x]:=by rw[<-Array.toArray_toList (xs:=c.args),cT]
      have a2:c.argTypes=#[t]:=by rw[<-Array.toArray_toList (xs:=c.argTypes),e5]
      refine ae.pure ⟨⟨fo,kY,kZ⟩,_,rfl,λw _=> .inl ?_⟩
      have dG:((len.den ρ).toNat:Int)=len.den ρ:=by omega
      simp[-Int.ofNat_toNat,execOp,h,resolve,hc,a1,a2,bA,invoke,builtin,Builtin.len_,run_underlying (df hs),goInt,W.den,A.den,dG]
     ·cases hq
    ·cases hq
   ·rename_i hc
    split at hq
    ·rename_i x y cT
     have hx:=bf ht x
     have hy:=bf ht y
     split at hq
     ·rename_i k p aD e9 jc hv2
      by_cases gB:k=aD
      ·subst gB
       simp only[decide_true,cond_true]at hq
       cases hq
       rw[jc]at hx;rw[hv2]at hy
       have e1:a.eval x= .int k (p.l.den ρ):=hx.2
       have e2:a.eval y= .int k (e9.l.den ρ):=hy.2
       have a1:c.args=#[x,y]:=by rw[<-Array.toArray_toList (xs:=c.args),cT]
       have he:execOp a.eval o=(do pure (Next.value (<-Builtin.min_ c.argTypes o.type #[.int k (p.l.den ρ),.int k (e9.l.den ρ)]))):=by
        simp[execOp,h,resolve,hc,a1,e1,e2,invoke,builtin]
       exact(PV hx.1 hy.1).mono λ_ _ _ _ _ hq=>fs.of_run he hq
      ·simp[gB]at hq
     ·cases hq
    ·cases hq
   ·rename_i hc
    split at hq
    ·rename_i x y cT
     have hx:=bf ht x
     have hy:=bf ht y
     split at hq
     ·rename_i k p aD e9 jc hv2
      by_cases gB:k=aD
      ·subst gB
       simp only[decide_true,cond_true]at hq
       cases hq
       rw[jc]at hx;rw[hv2]at hy
       have e1:a.eval x= .int k (p.l.den ρ):=hx.2
       have e2:a.eval y= .int k (e9.l.den ρ):=hy.2
       have a1:c.args=#[x,y]:=by rw[<-Array.toArray_toList (xs:=c.args),cT]
       have he:execOp a.eval o=(do pure (Next.value (<-Builtin.max_ c.argTypes o.type #[.int k (p.l.den ρ),.int k (e9.l.den ρ)]))):=by
        simp[execOp,h,resolve,hc,a1,e1,e2,invoke,builtin]
       exact(PU hx.1 hy.1).mono λ_ _ _ _ _ hq=>fs.of_run he hq
      ·simp[gB]at hq
     ·cases hq
    ·cases hq
   ·cases hq
  case h_9 op t x y q0 h=>
   have hx:=bf ht x
   have hy:=bf ht y
   split at hq
   ·rename_i e b ax aV ro len cap hs jc hv2
    rw[jc]at hx;rw[hv2]at hy
    have bA:a.eval x=(A.sl b ax aV ro len cap).den ρ m:=hx.2
    have lE:a.eval y= .slice none 0 0:=hy.2
    have gX:(A.sl b ax aV ro len cap).ok n bl.length ρ:=hx.1
    obtain⟨ptr,e1,e2,e3⟩:=jD (m:=m) gX
    rw[e1]at bA
    obtain⟨x1,⟨ef,fb,fo,fH⟩,_,_,ee,_⟩:=gX
    have has:aG 53 ([cap,len].map (·.den ρ)):=ee
    have hp:ptr.isNone=decide (cap.den ρ=-1):=by
     rcases Int.lt_or_le (cap.den ρ) 0 with h0|h0
     ·rw[e2 h0,TQ]
     ·rw[e3 h0,decide_eq_false (by omega)];rfl
    split at hq
    ·cases hq
     refine(vx has).bind λak n1 _ _ _ ⟨gn,hn⟩=>?_
     have gn:=gn.symm
     have hn:=hn.symm
     subst gn hn
     refine ae.pure ⟨⟨fH,I.br _ _⟩,_,rfl,λw _=> .inl ?_⟩
     have hg0:eqGuard .eql t x y (.slice ptr (len.den ρ).toNat (if cap.den ρ<0 then 0 else(cap.den ρ).toNat)) (.slice none 0 0)=Pure.pure ():=rfl
     have he:execOp a.eval o=(do pure (Next.value (<-binOp .eql t (.slice ptr (len.den ρ).toNat (if cap.den ρ<0 then 0 else(cap.den ρ).toNat)) (.slice none 0 0)))):=by
      simp only[execOp,h,bA,lE,hg0,pure_bind]
     simp only[he,Sem.run_bind,BU w (df hs),Result.andThen_ok,Sem.run_pure,hp]
     simp[W.den,A.den,aC.den,I.ay]
    ·cases hq
     refine(vx has).bind λak n1 _ _ _ ⟨gn,hn⟩=>?_
     have gn:=gn.symm
     have hn:=hn.symm
     subst gn hn
     refine ae.pure ⟨aC.mz ⟨fH,I.br _ _⟩,_,rfl,λw _=> .inl ?_⟩
     have hg0:eqGuard .neq t x y (.slice ptr (len.den ρ).toNat (if cap.den ρ<0 then 0 else(cap.den ρ).toNat)) (.slice none 0 0)=Pure.pure ():=rfl
     have he:execOp a.eval o=(do pure (Next.value (<-binOp .neq t (.slice ptr (len.den ρ).toNat (if cap.den ρ<0 then 0 else(cap.den ρ).toNat)) (.slice none 0 0)))):=by
      simp only[execOp,h,bA,lE,hg0,pure_bind]
     simp only[he,Sem.run_bind,RW w (df hs),Result.andThen_ok,Sem.run_pure,hp]
     simp[W.den,A.den,aC.den,aC.l3,I.ay]
    ·cases hq
   ·cases hq
  case h_10=>cases hq
end
end Go.aZ
namespace Go.aZ
def Ea (ops:Array Oper) (n:Nat):Bool:=
 (List.range n).all λi=>match ops[i]? with
   |none=>false
   |some eR=>(eR.after.all λe=> !Region.binds .any e||Nat.blt e.on i)&&(match eR.op with| .select .. =>false|_=>true)&&
    (List.range n).all λj=>Nat.beq i j||match ops[j]? with
      |none=>false
      |some bO=>match bO.dst with
       |none=>true
       |some d=>(!(eR.looksAt ops).contains d||Region.waitsFor .any ops i j||Region.waitsFor .any ops j i)&& !(match eR.dst with|some yY=>Nat.beq yY d|none=>false)
def zM (size n:Nat):Array Bool:=((List.range size).map λi=>Nat.blt i n).toArray
def rp (o:Oper):Bool:=match o.op with| .move _| .assign _| .extract _ _=>true|_=>false
def lg (ops:Array Oper) (i:Nat):Bool:=match ops[i]? with|some o=>rp o|none=>false
def cX (o:Oper):Bool:=match o.op,o.guard,o.dst with| .alloc _,none,some _=>true|_,_,_=>false
def jM (ops:Array Oper) (i:Nat):Bool:=match ops[i]? with|some o=>cX o|none=>false
def Hc (ops:Array Oper) (n:Nat):Bool:=
 (List.range n).all λi=> !jM ops i||match ops[i]? with
   |some eR=>match eR.dst with
    |some d=>(List.range n).all λj=>match ops[j]? with|some bO=> !(bO.looksAt ops).contains d|none=>true
    |none=>false
   |none=>false
def Iq (ops:Array Oper) (n:Nat):Bool:=
 (List.range n).all λi=>lg ops i||(List.range (n+1)).any λj=>Nat.blt i j&&Region.waitsFor .any ops j i&&(Nat.beq j n|| !lg ops j)
def Lr (ops:Array Oper) (n:Nat):Bool:=
 (List.range n).all λi=> !lg ops i||(List.range ops.size).all λj=>Nat.blt j n||Region.waitsFor .any ops j i||(match ops[i]?,ops[j]? with|some eR,some bO=>eR.apart ops bO|_,_=>false)
def sH (ops:Array Oper) (n:Nat):Bool:=
 Region.noSelect ops&&Lr ops n&&Hc ops n&&Ea ops n&&Nat.ble n ops.size&&(Nat.beq n ops.size||(Iq ops n&&Region.chainB .any ops n))&&Region.seqB .any ops (ops.size-n) n (zM ops.size n)
def calm (Q:Exit->Act->World->Prop):Exit->Act->World->Prop
 | .panic _,_,_=>False
 |e,a,w=>Q e a w
theorem jP {a b:Nat} (h:Nat.blt a b=true):a<b:=Nat.le_of_ble_eq_true h
theorem PL {a b:Nat} (h:a<b):Nat.blt a b=true:=Nat.ble_eq_true_of_le h
section
variable {P:Program} {ops:Array Oper} {C:World->Prop}
def lU (P:Program) (ops:Array Oper) (C:World->Prop) (o:Oper) (v:Value) (a:Act):Prop:=
 (Region.wanted o (yielded ops a.tmps)=true/\∀w,C w->qL P o a w v)∨(Region.wanted o (yielded ops a.tmps)=false/\v=undef)
def oR (P:Program) (ops:Array Oper) (C:World->Prop) (F:Act->Prop):List Oper->Act->Prop
 |[],a=>F a
 |o::r,a=>cond (cX o) (oR P ops C F r a) (∃v,lU P ops C o v a/\oR P ops C F r (a.put o.dst v))
theorem BC {Q:Act->Prop}:∀(l:List Oper) (a:Act),oR P ops C Q l a->∃(as:Nat->Act) (vs:Nat->Value),as 0=a/\(∀i o,l[i]?=some o->(cX o=false->lU P ops C o (vs i) (as i)/\as (i+1)=(as i).put o.dst (vs i))/\(cX o=true->as (i+1)=as i))/\Q (as l.length)
 |[],a,h=>⟨λ_=>a,λ_=>undef,rfl,λi o hi=>by simp at hi,h⟩
 |o::r,a,h=>by
  unfold oR at h
  cases ck:cX o with
  |true=>
   simp only[ck,cond_true]at h
   obtain⟨as,vs,b7,hs,hQ⟩:=BC r _ h
   refine⟨λi=>match i with|0=>a|i+1=>as i,λi=>match i with|0=>undef|i+1=>vs i,rfl,λi aV hi=>?_,hQ⟩
   cases i with
   |zero=>
    simp at hi;subst hi
    exact⟨λh1=>by(rw[ck]at h1;cases h1),λ_=>b7⟩
   |succ i=>
    simp at hi
    exact hs i aV hi
  |false=>
   simp only[ck,cond_false]at h
   obtain⟨v,hy,h2⟩:=h
   obtain⟨as,vs,b7,hs,hQ⟩:=BC r _ h2
   refine⟨λi=>match i with|0=>a|i+1=>as i,λi=>match i with|0=>v|i+1=>vs i,rfl,λi aV hi=>?_,hQ⟩
   cases i with
   |zero=>
    simp at hi;subst hi
    exact⟨λ_=>⟨hy,b7⟩,λh1=>by(rw[ck]at h1;cases h1)⟩
   |succ i=>
    simp at hi
    exact hs i aV hi
theorem I5 {Q:Exit->Act->World->Prop} {md:Region.Mode}:∀(f:Nat) (listed:Array Bool) (a:Act) (w:World),wpAny P md ops Q f listed a w->wpAny P md ops Q (f+1) listed a w
 |0,_,_,_,h=>⟨λ_=>h.2,λi hi=>by rw[h.1]at hi;cases hi⟩
 |f+1,_,_,_,h=>⟨h.1,λi hi=>wpOp_mono (λb6 w' h'=>I5 f _ b6 w' h') (h.2 i hi)⟩
theorem I4 {Q:Exit->Act->World->Prop} {md:Region.Mode} {listed:Array Bool} {a:Act} {w:World} {f kz:Nat} (h:wpAny P md ops Q f listed a w) (hle:f<=kz):wpAny P md ops Q kz listed a w:=by
 induction hle with
 |refl=>exact h
 |step _ ih=>exact I5 _ _ _ _ ih
theorem DZ {α:Type} {p q:α->Bool}:∀{l:List α},(∀x∈l,q x=true->p x=true)->(∃x∈l,p x=true/\q x=false)->l.countP q<l.countP p
 |[],_,⟨x,hx,_⟩=>by simp at hx
 |y::r,h1,⟨x,hx,h2,h3⟩=>by
  have hle:r.countP q<=r.countP p:=List.countP_mono_left λz hz=>h1 z (List.mem_cons_of_mem _ hz)
  rw[List.countP_cons,List.countP_cons]
  rcases List.mem_cons.1 hx with rfl|hx
  ·simp[h2,h3];omega
  ·have ih:=DZ (l:=r) (λz hz=>h1 z (List.mem_cons_of_mem _ hz)) ⟨x,hx,h2,h3⟩
   have:=h1 y (by simp)
   cases hq:q y<;>cases hp:p y<;>simp[hq,hp]at this⊢<;>omega
theorem l4 {n i:Nat} {eR:Oper} (h:Ea ops n=true) (hi:i<n) (ho:ops[i]?=some eR):
 (∀e∈eR.after,Region.binds .any e=true->e.on<i)/\(∀cs b,eR.op≠ .select cs b)/\
 ∀j bO d,j<n->j≠i->ops[j]?=some bO->bO.dst=some d->eR.dst≠some d/\(d∈eR.looksAt ops->Region.waitsFor .any ops i j=true∨Region.waitsFor .any ops j i=true):=by
 have h1:=List.all_eq_true.1 h i (List.mem_range.2 hi)
 simp only[ho,Bool.and_eq_true]at h1
 obtain⟨⟨h1,h2⟩,h3⟩:=h1
 refine⟨λe he hb=>?_,λcs b hc=>by simp[hc]at h2,λj bO d hj hne kF hd=>?_⟩
 ·have:=Array.all_eq_true_iff_forall_mem.1 h1 e he
  simp only[hb,Bool.not_true,Bool.false_or]at this
  exact jP this
 ·have h4:=List.all_eq_true.1 h3 j (List.mem_range.2 hj)
  have h5:Nat.beq i j=false:=by cases hb:Nat.beq i j with|false=>rfl|true=>exact absurd (Nat.eq_of_beq_eq_true hb).symm hne
  simp only[h5,Bool.false_or,kF,hd,Bool.and_eq_true]at h4
  refine⟨λMB=>?_,λgj=>?_⟩
  ·have:=h4.2
   simp[MB]at this
  ·have:=h4.1
   have hc:(eR.looksAt ops).contains d=true:=by simpa using gj
   simp only[hc,Bool.not_true,Bool.false_or,Bool.or_eq_true]at this
   exact this
theorem JL {a b:Act} (h1:a.defers=b.defers) (h2:∀t:Nat,a.tmps[t]?=b.tmps[t]?):a=b:=by
 cases a;cases b
 simp only at h1 h2
 rw[h1,Array.ext_getElem? h2]
theorem mx {a:Act} {o:Option Tmp} {v:Value} {t:Nat} (h:o≠some t):(a.put o v).tmps[t]?=a.tmps[t]?:=by
 cases o with
 |none=>rfl
 |some d=>simp only[Act.put];rw[Array.getElem?_setIfInBounds_ne (λe=>h (by rw[e]))]
theorem put_defers (a:Act) (o:Option Tmp) (v:Value):(a.put o v).defers=a.defers:=by cases o<;>rfl
theorem qp (a:Act) (o:Option Tmp) (v:Value):(a.put o v).tmps.size=a.tmps.size:=by cases o<;>simp[Act.put]
theorem Lp {o:Oper} {a:Act} {v:Value} {w:World} (hf:rp o=true) (hC:C w) (h:lU P ops C o v a):Yields P ops o v a:=by
 rcases h with⟨h1,h2⟩|h
 ·refine .inl ⟨h1,λw'=>?_⟩
  have h3:=h2 w hC
  unfold qL at h3
  unfold rp at hf
  split at hf
  ·rename_i x ho
   simp only[execOp,ho,Sem.run_pure]at h3⊢
   rcases h3 with h3|⟨f,args,h3,_⟩
   ·simp only[Result.ok.injEq,Next.value.injEq,and_true]at h3;rw[h3]
   ·simp at h3
  ·rename_i x ho
   simp only[execOp,ho,Sem.run_pure]at h3⊢
   rcases h3 with h3|⟨f,args,h3,_⟩
   ·simp only[Result.ok.injEq,Next.value.injEq,and_true]at h3;rw[h3]
   ·simp at h3
  ·rename_i x i ho
   simp only[execOp,ho,Sem.run_bind]at h3⊢
   unfold Instr.extract at h3⊢
   cases hx:a.eval x<;>simp only[hx]at h3⊢<;>try(simp[Result.andThen]at h3;done)
   rename_i vs
   cases hv:vs[i]? with
   |none=>simp[hv,Result.andThen]at h3
   |some u=>simp[hv]at h3;simp[h3]
  ·cases hf
 ·exact .inr h
theorem Sf {n:Nat} {listed:Array Bool} (hs:Iq ops n=true) (hc:Region.chainB .any ops n=true) (hn:n<ops.size) (inv:HeadInv .any ops n listed):
 ∀(d i:Nat),n-i=d->i<n->lg ops i=false->listed.getD i false=false->∀t,n<=t->t∉Region.ready .any ops listed:=by
 intro d
 induction d using Nat.strongRecOn with
 |_ d ih=>
  intro i hd hi eo j8 t ht hr
  obtain⟨_,Hr,Ah,hall⟩:=mem_ready.1 hr
  have N2:t<ops.size:=(Array.getElem?_eq_some_iff.1 Ah).1
  by_cases N3:t=n
  ·subst N3
   have h1:=List.all_eq_true.1 hs i (List.mem_range.2 hi)
   simp only[eo,Bool.false_or]at h1
   obtain⟨j,hj,jx⟩:=List.any_eq_true.1 h1
   simp only[Bool.and_eq_true,Bool.or_eq_true]at jx
   obtain⟨⟨FG,tQ⟩,zZ⟩:=jx
   have FG:=jP FG
   obtain⟨bO,kF,e,he,hb,wK⟩:=Region.waitsFor_spec tQ
   have Uw:j<=t:=by have:=List.mem_range.1 hj;omega
   by_cases FH:j=t
   ·subst FH
    have:bO=Hr:=Option.some.inj (kF.symm.trans Ah)
    subst this
    have h2:=hall e he hb
    rw[wK,j8]at h2
    cases h2
   ·cases hl:listed.getD j false with
    |true=>
     have h2:=inv.closed j bO kF hl e he hb
     rw[wK,j8]at h2
     cases h2
    |false=>
     have MM:lg ops j=false:=by
      rcases zZ with h3|h3
      ·exact absurd (Nat.eq_of_beq_eq_true h3) FH
      ·simpa using h3
     exact ih (t-j) (by omega) j rfl (by omega) MM hl t (Nat.le_refl _) hr
  ·have h1:=List.all_eq_true.1 hc t (List.mem_range.2 N2)
   simp only[Bool.or_eq_true,decide_eq_true_eq]at h1
   rcases h1 with h1|h1
   ·omega
   ·obtain⟨aV,gW,e,he,hb,wK⟩:=Region.waitsFor_spec h1
    have:aV=Hr:=Option.some.inj (gW.symm.trans Ah)
    subst this
    have h2:=hall e he hb
    rw[wK,getD_both (inv.tail (t-1) (by omega) (by omega))]at h2
    cases h2
theorem Lo {o:Oper} (h:rp o=true):cX o=false:=by
 unfold rp at h
 unfold cX
 cases ho:o.op<;>simp only[ho]at h⊢<;>cases h
theorem P3 {n i j:Nat} {eR bO:Oper} {d:Tmp} (h:Hc ops n=true) (hi:i<n) (ho:ops[i]?=some eR) (ck:cX eR=true) (hd:eR.dst=some d) (hj:j<n) (kF:ops[j]?=some bO):d∉bO.looksAt ops:=by
 have h1:=List.all_eq_true.1 h i (List.mem_range.2 hi)
 have ha:jM ops i=true:=by simp[jM,ho,ck]
 simp only[ha,Bool.not_true,Bool.false_or,ho,hd]at h1
 have h2:=List.all_eq_true.1 h1 j (List.mem_range.2 hj)
 simp only[kF,Bool.not_eq_true']at h2
 intro hm
 have:(bO.looksAt ops).contains d=true:=by simpa using hm
 rw[this]at h2;cases h2
theorem TH {Q:Exit->Act->World->Prop} {o:Oper} {i:Nat} {v:Value} {a:Act} {w:World} {K:Act->World->Prop} (hi:ops[i]?=some o) (hC:C w) (hy:lU P ops C o v a) (h:∀w',w.Extends w'->K (a.put o.dst v) w'):wpOp P ops Q i K a w:=by
 unfold wpOp
 simp only[hi]
 rcases hy with⟨h1,h2⟩|⟨h1,h2⟩
 ·rw[if_pos h1]
  refine .inl ?_
  unfold Oper.wp
  rcases h2 w hC with h3|⟨f,args,h3,h4⟩
  ·rw[h3];exact h w (World.Extends.refl w)
  ·rw[h3]
   refine h4.mono λe gw ⟨he,hx⟩=>?_
   subst he
   exact h gw hx
 ·rw[if_neg (by simp[h1]),<-h2]
  exact h w (World.Extends.refl w)
theorem lU.of_same {o:Oper} {v:Value} {a b6:Act} (hy:lU P ops C o v a) (he:execOp b6.eval o=execOp a.eval o) (hw:Region.wanted o (yielded ops b6.tmps)=Region.wanted o (yielded ops a.tmps)):lU P ops C o v b6:=by
 unfold lU qL at*
 rw[he,hw]
 exact hy
structure Df (ops:Array Oper) (n:Nat) (S:Nat->Prop) (a an b:Act) (cQ:Nat->Nat):Prop where
 d:b.defers=a.defers
 ax:b.tmps.size=a.tmps.size
 q:∀t:Nat,(∃j o,j<n/\S j/\ops[j]?=some o/\cX o=false/\o.dst=some t)->b.tmps[t]?=an.tmps[t]?
 sY:∀(t:Nat) j o,j<n->S j->ops[j]?=some o->cX o=true->o.dst=some t->t<b.tmps.size->b.tmps[t]?=some (.pointer (some ⟨cQ j,0,none⟩))
 no:∀t:Nat,(∀j o,j<n->S j->ops[j]?=some o->o.dst≠some t)->b.tmps[t]?=a.tmps[t]?
structure Fin (ops:Array Oper) (n:Nat) (an b:Act) (cQ:Nat->Nat):Prop where
 d:b.defers=an.defers
 ax:b.tmps.size=an.tmps.size
 sY:∀(t:Nat) j o,j<n->ops[j]?=some o->cX o=true->o.dst=some t->t<b.tmps.size->b.tmps[t]?=some (.pointer (some ⟨cQ j,0,none⟩))
 no:∀t:Nat,(∀j o,j<n->ops[j]?=some o->cX o=true->o.dst≠some t)->b.tmps[t]?=an.tmps[t]?
def nK (ops:Array Oper) (n:Nat) (S:Nat->Prop) (Z:Nat->Obj) (cQ:Nat->Nat) (ax:Nat) (w:World):Prop:=
 (∀j,j<n->S j->jM ops j=true->ax<=cQ j/\w.heap[cQ j]?=some (Z j))/\∀i j,i<n->j<n->S i->S j->jM ops i=true->jM ops j=true->cQ i=cQ j->i=j
theorem nK.grow {n:Nat} {S:Nat->Prop} {Z:Nat->Obj} {cQ:Nat->Nat} {ax:Nat} {w w':World} (h:nK ops n S Z cQ ax w) (he:w.Extends w'):nK ops n S Z cQ ax w':=
 ⟨λj h1 h2 h3=>by
  obtain⟨h4,h5⟩:=h.1 j h1 h2 h3
  exact⟨h4,by rw[he.block _ (Array.getElem?_eq_some_iff.1 h5).1];exact h5⟩,h.2⟩
theorem TI {Q:Exit->Act->World->Prop} {a:Act} {w:World} {l:List Oper} (n:Nat) (Z:Nat->Obj) (hm:P.follows .mixedOrders=true) (hB:sH l.toArray n=true) (hC:∀w',w.drew.Extends w'->C w')
 (pC:∀j o,j<n->l.toArray[j]?=some o->cX o=true->∀(b:Act) w',(execOp b.eval o).run P w'= .ok (.value (.pointer (some ⟨w'.heap.size,0,none⟩))) (w'.alloc (Z j)))
 (h:oR P l.toArray C (λan=>∀cQ b w',Fin l.toArray n an b cQ->w.drew.Extends w'->nK l.toArray n (λ_=>True) Z cQ w.drew.heap.size w'->wpList P l.toArray (calm Q) (l.drop n) b w') (l.take n) a):wpAny P .any l.toArray (calm Q) l.toArray.size (Array.replicate l.toArray.size false) a {w with drawn:=w.drawn+1}:=by
 simp only[sH,Bool.and_eq_true]at hB
 obtain⟨⟨⟨⟨⟨⟨Nr,MO⟩,fC⟩,mb⟩,hle⟩,F5⟩,NS⟩:=hB
 have hle:n<=l.length:=by simpa using Nat.le_of_ble_eq_true hle
 obtain⟨as,vs,b7,hs,aJ⟩:=BC _ _ h
 have hlen:(l.take n).length=n:=by simp;omega
 rw[hlen]at aJ
 have hop:∀i,i<n->∃o,l.toArray[i]?=some o/\(cX o=false->lU P l.toArray C o (vs i) (as i)/\as (i+1)=(as i).put o.dst (vs i))/\(cX o=true->as (i+1)=as i):=λi hi=>by
  have hlt:i<l.length:=by omega
  have h1:(l.take n)[i]?=some l[i]:=by rw[List.getElem?_take,if_pos hi,List.getElem?_eq_getElem hlt]
  have h2:=hs i _ h1
  exact⟨l[i],by simp[hlt],h2⟩
 have tE:∀i,i<=n->(as i).defers=a.defers/\(as i).tmps.size=a.tmps.size:=by
  intro i
  induction i with
  |zero=>intro _;rw[b7];exact⟨rfl,rfl⟩
  |succ i ih=>
   intro hi
   obtain⟨o,ho,h1,h2⟩:=hop i (by omega)
   cases ck:cX o with
   |true=>rw[h2 ck];exact ih (by omega)
   |false=>rw[(h1 ck).2,put_defers,qp];exact ih (by omega)
 have E1:∀i,i<=n->∀t:Nat,(∀j o,j<i->l.toArray[j]?=some o->cX o=false->o.dst≠some t)->(as i).tmps[t]?=a.tmps[t]?:=by
  intro i
  induction i with
  |zero=>intro _ t _;rw[b7]
  |succ i ih=>
   intro hi t eP
   obtain⟨o,ho,h1,h2⟩:=hop i (by omega)
   have Gn:=ih (by omega) t λj o hj=>eP j o (by omega)
   cases ck:cX o with
   |true=>rw[h2 ck];exact Gn
   |false=>rw[(h1 ck).2,mx (eP i o (by omega) ho ck)];exact Gn
 have E0:∀(d i:Nat),i+d=n->∀t:Nat,(∃j o,j<i/\l.toArray[j]?=some o/\o.dst=some t)->(as n).tmps[t]?=(as i).tmps[t]?:=by
  intro d
  induction d with
  |zero=>intro i hi t _;rw[show i=n by omega]
  |succ d ih=>
   intro i hi t hj
   obtain⟨o,ho,h1,h2⟩:=hop i (by omega)
   rw[ih (i+1) (by omega) t (by obtain⟨j,o,h1,h2⟩:=hj;exact⟨j,o,by omega,h2⟩)]
   cases ck:cX o with
   |true=>rw[h2 ck]
   |false=>
    rw[(h1 ck).2]
    obtain⟨j,bO,tQ,jx,zZ⟩:=hj
    exact mx ((l4 mb (show i<n by omega) ho).2.2 j bO t (by omega) (by omega) jx zZ).1
 have hsz:l.toArray.size=l.length:=by simp
 have main:∀(f:Nat) (listed:Array Bool) (b:Act) (w1:World) (cQ:Nat->Nat),HeadInv .any l.toArray n listed->w.drew.Extends w1->
  Df l.toArray n (λj=>listed.getD j false=true) a (as n) b cQ->nK l.toArray n (λj=>listed.getD j false=true) Z cQ w.drew.heap.size w1->
  (List.range n).countP (λi=> !listed.getD i false)+(l.length-n)<=f->wpAny P .any l.toArray (calm Q) f listed b w1:=by
  intro f
  have done:∀(listed:Array Bool) (b:Act) (w1:World) (cQ:Nat->Nat),HeadInv .any l.toArray n listed->w.drew.Extends w1->
   Df l.toArray n (λj=>listed.getD j false=true) a (as n) b cQ->nK l.toArray n (λj=>listed.getD j false=true) Z cQ w.drew.heap.size w1->(∀i,i<n->listed.getD i false=true)->
   wpAny P .any l.toArray (calm Q) (l.drop n).length listed b w1:=by
   intro listed b w1 cQ inv jW fx lk hall
   have hl:listed=zM l.toArray.size n:=by
    apply Array.ext_getElem?
    intro i
    unfold zM
    simp only[List.getElem?_toArray,List.getElem?_map]
    rcases Nat.lt_or_ge i l.length with hi|hi
    ·rw[List.getElem?_range (by simpa using hi)]
     have bE:i<listed.size:=by rw[inv.size];simpa using hi
     rcases Nat.lt_or_ge i n with bU|bU
     ·have:=hall i bU
      simp[bE]at this
      simp[bE,this,PL bU]
     ·have:=inv.tail i bU (by simpa using hi)
      simp[bE]at this
      have hb:Nat.blt i n=false:=by cases hq:Nat.blt i n with|false=>rfl|true=>have:=jP hq;omega
      simp[bE,this,hb]
    ·have h1:listed.size<=i:=by rw[inv.size];simpa using hi
     have h2:(List.range l.toArray.size)[i]?=none:=by simp;omega
     rw[h2,Array.getElem?_eq_none h1];rfl
   have wO:Region.seqB .any l.toArray (l.drop n).length n listed=true:=by rw[hl];simpa using NS
   refine wpAny_of_seq (P:=P) (md:= .any) (Q':=calm Q) (l.drop n) n listed b w1 (λj=>by simp[List.getElem?_drop]) wO (aJ cQ b w1 ?_ jW ?_)
   ·refine⟨fx.d.trans (tE n (Nat.le_refl _)).1.symm,fx.ax.trans (tE n (Nat.le_refl _)).2.symm,λt j o h1 h3 h4 h5=>fx.sY t j o h1 (hall j h1) h3 h4 h5,λt eP=>?_⟩
    by_cases hq:∃j o,j<n/\l.toArray[j]?=some o/\cX o=false/\o.dst=some t
    ·obtain⟨j,o,h1,h2,h3,h4⟩:=hq
     exact fx.q t ⟨j,o,h1,hall j h1,h2,h3,h4⟩
    ·have lB:∀j o,j<n->l.toArray[j]?=some o->cX o=false->o.dst≠some t:=λj o h1 h2 h3 h4=>hq ⟨j,o,h1,h2,h3,h4⟩
     rw[fx.no t λj o h1 _ h3=>(by
      cases ck:cX o with
      |true=>exact eP j o h1 h3 ck
      |false=>exact lB j o h1 h3 ck),E1 n (Nat.le_refl _) t lB]
   ·exact⟨λj h1 _ h3=>lk.1 j h1 (hall j h1) h3,λi j h1 h2 _ _ h5 h6=>lk.2 i j h1 h2 (hall i h1) (hall j h2) h5 h6⟩
  have Dm:∀(listed:Array Bool),(List.range n).countP (λi=> !listed.getD i false)=0->∀i,i<n->listed.getD i false=true:=λlisted hc i hi=>by
   cases hq:listed.getD i false with
   |true=>rfl
   |false=>
    have:0<(List.range n).countP (λi=> !listed.getD i false):=List.countP_pos_iff.2 ⟨i,List.mem_range.2 hi,by simp[hq]⟩
    omega
  induction f with
  |zero=>
   intro listed b w1 cQ inv jW fx lk hf
   have:=done listed b w1 cQ inv jW fx lk (Dm listed (by omega))
   exact I4 this (by simp;omega)
  |succ f ih=>
   intro listed b w1 cQ inv jW fx lk hf
   by_cases Mw:(List.range n).countP (λi=> !listed.getD i false)=0
   ·exact I4 (done listed b w1 cQ inv jW fx lk (Dm listed Mw)) (by simp;omega)
   ·
    have iZ:∃i,i<n/\listed.getD i false=false:=by
     have h1:0<(List.range n).countP (λi=> !listed.getD i false):=by omega
     obtain⟨i,hi,hq⟩:=List.countP_pos_iff.1 h1
     exact⟨i,List.mem_range.1 hi,by simpa using hq⟩
    have hne:Region.ready .any l.toArray listed≠[]:=by
     have key:∀k,∀i,i<=k->i<n->listed.getD i false=false->Region.ready .any l.toArray listed≠[]:=by
      intro k
      induction k with
      |zero=>
       intro i zV bU hq gV
       obtain⟨o,ho,_,_⟩:=hop i bU
       have hlt:i<listed.size:=by rw[inv.size];exact(Array.getElem?_eq_some_iff.1 ho).1
       have:i∈Region.ready .any l.toArray listed:=mem_ready.2 ⟨getD_in hlt hq,o,ho,λe he hb=>by have:=(l4 mb bU ho).1 e he hb;omega⟩
       rw[gV]at this;cases this
      |succ k AJ=>
       intro i zV bU hq gV
       obtain⟨o,ho,_,_⟩:=hop i bU
       have hlt:i<listed.size:=by rw[inv.size];exact(Array.getElem?_eq_some_iff.1 ho).1
       have:i∈Region.ready .any l.toArray listed:=mem_ready.2 ⟨getD_in hlt hq,o,ho,λe he hb=>by
        have h1:=(l4 mb bU ho).1 e he hb
        cases mf:listed.getD e.on false with
        |true=>rfl
        |false=>exact absurd gV (AJ e.on (by omega) (by omega) mf)⟩
       rw[gV]at this;cases this
     obtain⟨i,hi,hq⟩:=iZ
     exact key i i (Nat.le_refl _) hi hq
    have cp:∀i,i∈Region.ready .any l.toArray listed->∀j,(listed.setIfInBounds i true).getD j false=true↔(j=i∨listed.getD j false=true):=λi hi j=>by
     obtain⟨j8,eR,pO,hall⟩:=mem_ready.1 hi
     have hlt:i<listed.size:=by rw[inv.size];exact(Array.getElem?_eq_some_iff.1 pO).1
     by_cases hj:i=j
     ·subst hj;simp[hlt]
     ·rw[getD_set_ne false hj]
      exact⟨.inr,λh=>h.resolve_left (λe=>hj e.symm)⟩
    have FK:∀i,i∈Region.ready .any l.toArray listed->i<n->(List.range n).countP (λj=> !(listed.setIfInBounds i true).getD j false)+(l.length-n)<=f:=λi hi bU=>by
     obtain⟨j8,_⟩:=mem_ready.1 hi
     have:(List.range n).countP (λj=> !(listed.setIfInBounds i true).getD j false)<(List.range n).countP (λj=> !listed.getD j false):=by
      refine DZ (λj _ hj=>?_) ⟨i,List.mem_range.2 bU,?_,?_⟩
      ·cases hq:listed.getD j false with
       |false=>rfl
       |true=>rw[(cp i hi j).2 (.inr hq)]at hj;cases hj
      ·simp only[getD_both j8];rfl
      ·simp only[(cp i hi i).2 (.inl rfl)];rfl
     omega
    have step:∀i,i∈Region.ready .any l.toArray listed->i<n->∀o,l.toArray[i]?=some o->cX o=false->lU P l.toArray C o (vs i) b/\∀w',w1.Extends w'->wpAny P .any l.toArray (calm Q) f (listed.setIfInBounds i true) (b.put o.dst (vs i)) w':=by
     intro i hi bU o ho ck
     obtain⟨j8,eR,pO,hall⟩:=mem_ready.1 hi
     have:o=eR:=Option.some.inj (ho.symm.trans pO)
     subst this
     obtain⟨aV,gW,AA,_⟩:=hop i bU
     have:aV=o:=Option.some.inj (gW.symm.trans ho)
     subst this
     obtain⟨hy,he⟩:=AA ck
     have oa:=l4 mb bU ho
     have F6:∀t:Nat,t∈aV.looksAt l.toArray->b.tmps[t]?=(as i).tmps[t]?:=λt ht=>by
      by_cases hw:∃j bO,j<i/\l.toArray[j]?=some bO/\cX bO=false/\bO.dst=some t
      ·obtain⟨j,bO,h1,h2,px,h3⟩:=hw
       rw[<-E0 (n-i) i (by omega) t ⟨j,bO,h1,h2,h3⟩]
       refine fx.q t ⟨j,bO,by omega,?_,h2,px,h3⟩
       rcases(oa.2.2 j bO t (by omega) (by omega) h2 h3).2 ht with h4|h4
       ·obtain⟨Bk,Ag,e,lq,lr,m8⟩:=Region.waitsFor_spec h4
        have:Bk=aV:=Option.some.inj (Ag.symm.trans ho)
        subst this
        have:=hall e lq lr
        rwa [m8]at this
       ·obtain⟨sk,tU,e,lq,lr,m8⟩:=Region.waitsFor_spec h4
        have:sk=bO:=Option.some.inj (tU.symm.trans h2)
        subst this
        have:=(l4 mb (show j<n by omega) h2).1 e lq lr
        omega
      ·rw[E1 i (by omega) t λj bO h1 h2 px h3=>hw ⟨j,bO,h1,h2,px,h3⟩]
       refine fx.no t λj bO h1 hl h2 h3=>?_
       cases E5:cX bO with
       |true=>exact P3 fC h1 h2 E5 h3 bU ho ht
       |false=>
        by_cases fQ:j=i
        ·subst fQ
         rw[getD_both j8]at hl;cases hl
        ·rcases(oa.2.2 j bO t h1 fQ h2 h3).2 ht with h4|h4
         ·obtain⟨Bk,Ag,e,lq,lr,m8⟩:=Region.waitsFor_spec h4
          have:Bk=aV:=Option.some.inj (Ag.symm.trans ho)
          subst this
          have:=oa.1 e lq lr
          exact hw ⟨j,bO,by omega,h2,E5,h3⟩
         ·obtain⟨sk,tU,e,lq,lr,m8⟩:=Region.waitsFor_spec h4
          have:sk=bO:=Option.some.inj (tU.symm.trans h2)
          subst this
          have:=inv.closed j sk h2 hl e lq lr
          rw[m8,getD_both j8]at this;cases this
     have MI:∀x∈aV.op.operands,b.eval x=(as i).eval x:=λx hx=>by
      cases x with
      |tmp t=>
       have:=F6 t (List.mem_append_left _ (List.mem_filterMap.2 ⟨.tmp t,by simpa using hx,rfl⟩))
       simp only[Act.eval]
       simp[this]
      |_=>rfl
     have hex:execOp b.eval aV=execOp (as i).eval aV:=execOp_congr aV oa.2.1 MI
     have Ay:Region.wanted aV (yielded l.toArray b.tmps)=Region.wanted aV (yielded l.toArray (as i).tmps):=by
      unfold Region.wanted
      cases hg:aV.guard with
      |none=>rfl
      |some zh=>
       obtain⟨g,want⟩:=zh
       have:yielded l.toArray b.tmps g=yielded l.toArray (as i).tmps g:=by
        unfold yielded
        cases ht:(l.toArray[g]?).bind (·.dst)with
        |none=>rfl
        |some t=>
         have:=F6 t (List.mem_append_right _ (by simp only[hg,ht];simp))
         simp[this]
       simp only[this]
     refine⟨hy.of_same hex Ay,λw' lD=>?_⟩
     refine ih _ _ _ cQ (inv.set hi bU) (jW.trans lD) ⟨(put_defers _ _ _).trans fx.d,(qp _ _ _).trans fx.ax,?_,?_,?_⟩ (nK.grow (w:=w1) ⟨λj h1 h2 h3=>?_,λi1 iB h1 h2 h3 h4 h5 h6=>?_⟩ lD) (FK i hi bU)
     ·rintro t ⟨j,bO,h1,h2,h3,m2,h4⟩
      by_cases ht:aV.dst=some t
      ·have e1:(as n).tmps[t]?=(as (i+1)).tmps[t]?:=E0 (n-(i+1)) (i+1) (by omega) t ⟨i,aV,by omega,ho,ht⟩
       rw[e1,he,ht]
       simp only[Act.put]
       have F2:b.tmps.size=(as i).tmps.size:=fx.ax.trans (tE i (by omega)).2.symm
       rcases Nat.lt_or_ge t b.tmps.size with h5|h5
       ·simp[h5,F2▸h5]
       ·rw[Array.getElem?_eq_none (by simpa using h5),Array.getElem?_eq_none (by rw[Array.size_setIfInBounds,<-F2];exact h5)]
      ·rw[mx ht]
       rcases(cp i hi j).1 h2 with rfl|h5
       ·have:bO=aV:=Option.some.inj (h3.symm.trans ho)
        subst this
        exact absurd h4 ht
       ·exact fx.q t ⟨j,bO,h1,h5,h3,m2,h4⟩
     ·intro t j bO h1 h2 h3 h4 h5 h6
      rcases(cp i hi j).1 h2 with rfl|h7
      ·have:bO=aV:=Option.some.inj (h3.symm.trans ho)
       subst this
       rw[ck]at h4;cases h4
      ·have fQ:j≠i:=λe=>by subst e;rw[getD_both j8]at h7;cases h7
       have ht:aV.dst≠some t:=(oa.2.2 j bO t h1 fQ h3 h5).1
       rw[mx ht]
       rw[qp]at h6
       exact fx.sY t j bO h1 h7 h3 h4 h5 h6
     ·intro t eP
      have ht:aV.dst≠some t:=eP i aV bU ((cp i hi i).2 (.inl rfl)) ho
      rw[mx ht]
      exact fx.no t λj bO h1 h2 h3=>eP j bO h1 ((cp i hi j).2 (.inr h2)) h3
     ·rcases(cp i hi j).1 h2 with rfl|h7
      ·simp[jM,ho,ck]at h3
      ·exact lk.1 j h1 h7 h3
     ·have k1:listed.getD i1 false=true:=by
       rcases(cp i hi i1).1 h3 with rfl|h7
       ·simp[jM,ho,ck]at h5
       ·exact h7
      have k2:listed.getD iB false=true:=by
       rcases(cp i hi iB).1 h4 with rfl|h7
       ·simp[jM,ho,ck]at h6
       ·exact h7
      exact lk.2 i1 iB h1 h2 k1 k2 h5 h6
    by_cases eo:∃i,i∈Region.ready .any l.toArray listed/\i<n/\lg l.toArray i=true
    ·obtain⟨i,hi,bU,gg⟩:=eo
     obtain⟨o,ho,_,_⟩:=hop i bU
     obtain⟨j8,eR,pO,hall⟩:=mem_ready.1 hi
     have Fz:rp o=true:=by unfold lg at gg;simpa [ho]using gg
     have ck:cX o=false:=Lo Fz
     obtain⟨oh,Ad⟩:=step i hi bU o ho ck
     refine wpAny_first ho (Region.noSelect_spec Nr) (λc b6 w' hq=>hq.elim) f listed b w1 (λj bO kF fQ M0 MZ=>?_) hi (Lp Fz (hC w1 jW) oh) (Ad w1 (World.Extends.refl w1))
     have tT:Region.waitsFor .any l.toArray j i=false:=by
      cases hq:Region.waitsFor .any l.toArray j i with
      |false=>rfl
      |true=>
       obtain⟨sk,tU,e,lq,lr,m8⟩:=Region.waitsFor_spec hq
       have:sk=bO:=Option.some.inj (tU.symm.trans kF)
       subst this
       exact absurd m8 (MZ e lq lr)
     have FT:j<n->Region.waitsFor .any l.toArray i j=false:=λrM=>by
      cases hq:Region.waitsFor .any l.toArray i j with
      |false=>rfl
      |true=>
       obtain⟨aV,gW,e,lq,lr,m8⟩:=Region.waitsFor_spec hq
       have:aV=eR:=Option.some.inj (gW.symm.trans pO)
       subst this
       have:=hall e lq lr
       rw[m8,getD_both M0]at this;cases this
     by_cases rM:j<n
     ·have d1:=(l4 mb bU ho).2.2 j bO
      have d2:=(l4 mb rM kF).2.2 i o
      simp only[Oper.apart,Bool.and_eq_true]
      constructor
      ·cases hd:o.dst with
       |none=>rfl
       |some d=>
        have:=d2 d bU (λe=>fQ e.symm) ho hd
        simp only[Bool.and_eq_true,Bool.not_eq_true',bne_iff_ne,ne_eq]
        refine⟨?_,this.1⟩
        cases hc:(bO.looksAt l.toArray).contains d with
        |false=>rfl
        |true=>
         rcases this.2 (by simpa using hc)with h1|h1
         ·rw[tT]at h1;cases h1
         ·rw[FT rM]at h1;cases h1
      ·cases hd:bO.dst with
       |none=>rfl
       |some d=>
        have:=d1 d rM fQ kF hd
        simp only[Bool.not_eq_true']
        cases hc:(o.looksAt l.toArray).contains d with
        |false=>rfl
        |true=>
         rcases this.2 (by simpa using hc)with h1|h1
         ·rw[FT rM]at h1;cases h1
         ·rw[tT]at h1;cases h1
     ·have h1:=List.all_eq_true.1 MO i (List.mem_range.2 bU)
      simp only[gg,Bool.not_true,Bool.false_or]at h1
      have h2:=List.all_eq_true.1 h1 j (List.mem_range.2 (Array.getElem?_eq_some_iff.1 kF).1)
      have hb:Nat.blt j n=false:=by cases hq:Nat.blt j n with|false=>rfl|true=>exact absurd (jP hq) rM
      simp only[hb,tT,Bool.false_or,ho,kF]at h2
      exact h2
    ·
     have nf:∃i,i<n/\lg l.toArray i=false/\listed.getD i false=false:=by
      have key:∀k,∀i,i<=k->i<n->listed.getD i false=false->∃i,i<n/\lg l.toArray i=false/\listed.getD i false=false:=by
       intro k
       induction k with
       |zero=>
        intro i zV bU hq
        cases ea:lg l.toArray i with
        |false=>exact⟨i,bU,ea,hq⟩
        |true=>
         obtain⟨o,ho,_,_⟩:=hop i bU
         have hlt:i<listed.size:=by rw[inv.size];exact(Array.getElem?_eq_some_iff.1 ho).1
         exact absurd ⟨i,mem_ready.2 ⟨getD_in hlt hq,o,ho,λe he hb=>by have:=(l4 mb bU ho).1 e he hb;omega⟩,bU,ea⟩ eo
       |succ k AJ=>
        intro i zV bU hq
        cases ea:lg l.toArray i with
        |false=>exact⟨i,bU,ea,hq⟩
        |true=>
         obtain⟨o,ho,_,_⟩:=hop i bU
         have hlt:i<listed.size:=by rw[inv.size];exact(Array.getElem?_eq_some_iff.1 ho).1
         by_cases Fs:∀e∈o.after,Region.binds .any e=true->listed.getD e.on false=true
         ·exact absurd ⟨i,mem_ready.2 ⟨getD_in hlt hq,o,ho,Fs⟩,bU,ea⟩ eo
         ·have hex:∃e,e∈o.after/\Region.binds .any e=true/\¬listed.getD e.on false=true:=by
           apply Classical.byContradiction
           intro eP
           exact Fs λe he hb=>Classical.byContradiction λmf=>eP ⟨e,he,hb,mf⟩
          obtain⟨e,he,hb,mf⟩:=hex
          have h1:=(l4 mb bU ho).1 e he hb
          exact AJ e.on (by omega) (by omega) (by simpa using mf)
      obtain⟨i,hi,hq⟩:=iZ
      exact key i i (Nat.le_refl _) hi hq
     refine⟨λh0=>absurd h0 hne,λi hi=>?_⟩
     have bU:i<n:=by
      rcases Nat.lt_or_ge i n with h1|h1
      ·exact h1
      ·exfalso
       obtain⟨_,eR,pO,_⟩:=mem_ready.1 hi
       have Uu:i<l.toArray.size:=(Array.getElem?_eq_some_iff.1 pO).1
       simp only[Bool.or_eq_true,Bool.and_eq_true]at F5
       rcases F5 with h2|⟨h2,h3⟩
       ·have:=Nat.eq_of_beq_eq_true h2;omega
       ·obtain⟨i0,eE,pG,tX⟩:=nf
        exact Sf h2 h3 (by omega) inv (n-i0) i0 rfl eE pG tX i h1 hi
     obtain⟨o,ho,_,_⟩:=hop i bU
     cases ck:cX o with
     |false=>
      obtain⟨oh,Ad⟩:=step i hi bU o ho ck
      exact TH ho (hC w1 jW) oh Ad
     |true=>
      obtain⟨j8,_⟩:=mem_ready.1 hi
      have hgd:o.guard=none/\∃d,o.dst=some d:=by
       unfold cX at ck
       split at ck
       ·rename_i h1 h2 h3;exact⟨h2,_,h3⟩
       ·cases ck
      obtain⟨hgd,d,hd⟩:=hgd
      have oa:=l4 mb bU ho
      unfold wpOp
      simp only[ho]
      rw[if_pos (by simp[Region.wanted,hgd])]
      refine .inl ?_
      unfold Oper.wp
      rw[pC i o bU ho ck b w1]
      show wpAny P .any l.toArray (calm Q) f (listed.setIfInBounds i true) (b.put o.dst _) _
      have AF:∀j,j<n->listed.getD j false=true->jM l.toArray j=true->cQ j<w1.heap.size:=λj h1 h2 h3=>(Array.getElem?_eq_some_iff.1 (lk.1 j h1 h2 h3).2).1
      refine ih _ _ _ (λj=>if j=i then w1.heap.size else cQ j) (inv.set hi bU) (jW.alloc _) ⟨(put_defers _ _ _).trans fx.d,(qp _ _ _).trans fx.ax,?_,?_,?_⟩ ⟨λj h1 h2 h3=>?_,λi1 iB h1 h2 h3 h4 h5 h6 h7=>?_⟩ (FK i hi bU)
      ·rintro t ⟨j,bO,h1,h2,h3,m2,h4⟩
       rcases(cp i hi j).1 h2 with rfl|h5
       ·have:bO=o:=Option.some.inj (h3.symm.trans ho)
        subst this
        rw[ck]at m2;cases m2
       ·have fQ:j≠i:=λe=>by subst e;rw[getD_both j8]at h5;cases h5
        rw[mx (oa.2.2 j bO t h1 fQ h3 h4).1]
        exact fx.q t ⟨j,bO,h1,h5,h3,m2,h4⟩
      ·intro t j bO h1 h2 h3 h4 h5 h6
       rcases(cp i hi j).1 h2 with rfl|h7
       ·have:bO=o:=Option.some.inj (h3.symm.trans ho)
        subst this
        rw[h5]
        simp only[if_true]
        rw[qp]at h6
        simp[Act.put,h6]
       ·have fQ:j≠i:=λe=>by subst e;rw[getD_both j8]at h7;cases h7
        rw[mx (oa.2.2 j bO t h1 fQ h3 h5).1]
        rw[qp]at h6
        rw[if_neg fQ]
        exact fx.sY t j bO h1 h7 h3 h4 h5 h6
      ·intro t eP
       rw[mx (eP i o bU ((cp i hi i).2 (.inl rfl)) ho)]
       exact fx.no t λj bO h1 h2 h3=>eP j bO h1 ((cp i hi j).2 (.inr h2)) h3
      ·show w.drew.heap.size<=(if j=i then w1.heap.size else cQ j)/\(w1.alloc (Z i)).heap[(if j=i then w1.heap.size else cQ j)]?=some (Z j)
       by_cases fQ:j=i
       ·subst fQ
        rw[if_pos rfl]
        exact⟨jW.size,heap_alloc_new w1 (Z j)⟩
       ·rw[if_neg fQ]
        have h7:=((cp i hi j).1 h2).resolve_left fQ
        obtain⟨cz,bt⟩:=lk.1 j h1 h7 h3
        exact⟨cz,by rw[heap_alloc_old w1 _ (AF j h1 h7 h3)];exact bt⟩
      ·change (if i1=i then w1.heap.size else cQ i1)=(if iB=i then w1.heap.size else cQ iB)at h7
       by_cases cz:i1=i<;>by_cases bt:iB=i
       ·rw[cz,bt]
       ·rw[if_pos cz,if_neg bt]at h7
        have:=AF iB h2 (((cp i hi iB).1 h4).resolve_left bt) h6
        omega
       ·rw[if_neg cz,if_pos bt]at h7
        have:=AF i1 h1 (((cp i hi i1).1 h3).resolve_left cz) h5
        omega
       ·rw[if_neg cz,if_neg bt]at h7
        exact lk.2 i1 iB h1 h2 (((cp i hi i1).1 h3).resolve_left cz) (((cp i hi iB).1 h4).resolve_left bt) h5 h6 h7
 have OC:HeadInv .any l.toArray n (Array.replicate l.toArray.size false):=
  ⟨by simp,λj bO _ hl=>(by rw[getD_replicate_false]at hl;cases hl),λt _ ht=>getD_in (by simpa using ht) (getD_replicate_false _ _)⟩
 have xi:∀j,¬(Array.replicate l.toArray.size false).getD j false=true:=λj h=>by rw[getD_replicate_false]at h;cases h
 refine main l.toArray.size _ a _ (λ_=>0) OC (World.Extends.refl w.drew) ⟨rfl,rfl,λt ⟨j,o,_,h2,_⟩=>absurd h2 (xi j),λt j o _ h2=>absurd h2 (xi j),λ_ _=>rfl⟩ ⟨λj _ h2=>absurd h2 (xi j),λi j _ _ h3=>absurd h3 (xi i)⟩ ?_
 have:(List.range n).countP (λi=> !(Array.replicate l.toArray.size false).getD i false)<=n:=by
  have:=List.countP_le_length (p:=λi=> !(Array.replicate l.toArray.size false).getD i false) (l:=List.range n)
  simpa using this
 omega
end
end Go.aZ
