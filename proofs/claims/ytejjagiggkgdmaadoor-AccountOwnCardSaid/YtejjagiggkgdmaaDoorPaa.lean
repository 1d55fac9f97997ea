/- Texts as numbers. -/
import GoSem.ClaimData
import GoSem.Op.String
import Derived.WalkKit
import Derived.Laws.StructEq
import Derived.ChangeKeysEq
import Derived.Laws.Tables
import Derived.Laws.Strings2
import Derived.Laws.Concat
import Derived.Laws.Cover1
import Derived.Laws.Cover3
import Derived.Laws.BytesArg
import Derived.StillTail
import Derived.OrdersHeld

set_option linter.unusedVariables false
set_option linter.unusedSimpArgs false
namespace Go.aZ
def eo:List UInt8->Nat
 |[]=>0
 |b::r=>(b.toNat+1)+257*eo r
def o0:Nat->Nat->List UInt8
 |0,_=>[]
 |f+1,n=>match n with
  |0=>[]
  |k+1=>UInt8.ofNat (k% 257)::o0 f ((k+1)/257)
theorem ze (b:UInt8) (r:List UInt8):eo (b::r)=(b.toNat+1)+257*eo r:=rfl
theorem KP (b:UInt8) (r:List UInt8):eo (b::r)=(b.toNat+257*eo r)+1:=by rw[ze];omega
theorem IQ:∀(l:List UInt8) (f:Nat),l.length<=f->o0 f (eo l)=l
 |[],0,_=>rfl
 |[],f+1,_=>rfl
 |b::r,0,h=>by simp at h
 |b::r,f+1,h=>by
  have hb:=b.toNat_lt
  rw[KP]
  show UInt8.ofNat ((b.toNat+257*eo r)% 257)::o0 f ((b.toNat+257*eo r+1)/257)=b::r
  have e1:(b.toNat+257*eo r)% 257=b.toNat:=by omega
  have e2:(b.toNat+257*eo r+1)/257=eo r:=by omega
  rw[e1,e2,IQ r f (by simpa using h)]
  simp
theorem IS:∀(f n k:Nat),n<257^k->(o0 f n).length<=k
 |0,_,_,_=>by simp[o0]
 |f+1,0,k,_=>by simp[o0]
 |f+1,n+1,0,h=>by simp at h
 |f+1,n+1,k+1,h=>by
  have:(n+1)/257<257^k:=by rw[Nat.div_lt_iff_lt_mul (by decide)];rw[Nat.pow_succ]at h;exact h
  have ih:=IS f ((n+1)/257) k this
  simp only[o0,List.length_cons]
  omega
theorem Eh:∀(l:List UInt8),eo l<257^l.length
 |[]=>by simp[eo]
 |b::r=>by
  have ih:=Eh r
  have hb:=b.toNat_lt
  unfold eo
  rw[List.length_cons,Nat.pow_succ]
  omega
theorem Eg:∀(l:List UInt8),l.length<=eo l
 |[]=>by simp
 |b::r=>by
  have ih:=Eg r
  unfold eo
  rw[List.length_cons]
  omega
theorem Ei:∀(l:List UInt8),0<l.length->2^(l.length-1)<=eo l
 |[b],_=>by rw[ze];show 1<=_;omega
 |b::c::r,_=>by
  have ih:=Ei (c::r) (by simp)
  rw[ze b]
  simp only[List.length_cons,Nat.add_sub_cancel]at ih⊢
  rw[Nat.pow_succ]
  omega
def J (z:Int):List UInt8:=o0 (Nat.log2 z.toNat+1) z.toNat
def dF (l:List UInt8):Int:=eo l
theorem gD (l:List UInt8):J (dF l)=l:=by
 unfold J dF
 rw[Int.toNat_natCast]
 apply IQ
 by_cases h:l.length=0
 ·omega
 ·have h1:=Ei l (by omega)
  have h2:eo l≠0:=by have:=Eg l;omega
  have h3:=(Nat.le_log2 h2).2 h1
  omega
theorem kQ (l:List UInt8):0<=dF l:=Int.natCast_nonneg _
theorem JW (k:Nat):∃H:Int,(∀l:List UInt8,l.length<=k->dF l<=H)/\∀z:Int,z<=H->(J z).length<=k:=by
 refine⟨(257^k:Nat)-1,λl h=>?_,λz h=>?_⟩
 ·have h1:=Eh l
  have h2:257^l.length<=257^k:=Nat.pow_le_pow_right (by decide) h
  unfold dF
  omega
 ·unfold J
  apply IS
  have:=Nat.pow_pos (n:=k) (show 0<257 by decide)
  omega
def ez:Nat:=140737488351232
theorem yH:∃H:Int,(∀l:List UInt8,l.length<=ez->dF l<=H)/\∀z:Int,z<=H->(J z).length<=ez:=JW ez
noncomputable def aO:Int:=Classical.choose yH
theorem j6 {l:List UInt8} (h:l.length<=ez):dF l<=aO:=(Classical.choose_spec yH).1 l h
theorem pg {z:Int} (h:z<=aO):(J z).length<=ez:=(Classical.choose_spec yH).2 z h
theorem pf:0<=aO:=by have:=j6 (l:=[]) (by simp);exact this
def k8 (l:List UInt8):List UInt8:=cond (Nat.ble l.length 1000000) l []
theorem O9 (l:List UInt8):0<=dF (k8 l)/\dF (k8 l)<=aO:=by
 refine⟨kQ _,j6 ?_⟩
 unfold k8
 cases h:Nat.ble l.length 1000000 with
 |true=>have:=Nat.le_of_ble_eq_true h;simp only[cond_true];unfold ez;omega
 |false=>simp
def aH (l:List UInt8):ByteArray:=⟨l.toArray⟩
def m4 (z:Int):Nat:=if 0<=z then 2*z.toNat else 2*(-z).toNat-1
def o7 (n:Nat):Int:=if n% 2=0 then((n/2:Nat):Int)else-(((n+1)/2:Nat):Int)
theorem T2 (z:Int):o7 (m4 z)=z:=by
 unfold m4 o7
 split
 ·rw[if_pos (by omega)];omega
 ·rw[if_neg (by omega)];omega
def lc:List Nat->Nat
 |[]=>0
 |x::r=>2^x*(2*lc r+1)
def ja:Nat->Nat->Nat
 |0,_=>0
 |f+1,n=>if n% 2=0 then ja f (n/2)+1 else 0
theorem Js (k:Nat):∀(x f:Nat),x<f->ja f (2^x*(2*k+1))=x
 |0,f+1,_=>by
  unfold ja
  rw[if_neg (by rw[Nat.pow_zero,Nat.one_mul];omega)]
 |x+1,f+1,h=>by
  unfold ja
  have e:2^(x+1)*(2*k+1)=2*(2^x*(2*k+1)):=by rw[Nat.pow_succ,Nat.mul_comm (2^x) 2,Nat.mul_assoc]
  rw[e,if_pos (by omega),Nat.mul_div_cancel_left _ (by decide),Js k x f (by omega)]
def nR:Nat->Nat->List Nat
 |0,_=>[]
 |f+1,n=>if n=0 then []else ja n n::nR f (n/2^ja n n/2)
theorem Qb (x:Nat):x<2^x:=Nat.lt_two_pow_self
theorem Bq:∀l:List Nat,l.length<=lc l
 |[]=>Nat.le_refl _
 |x::r=>by
  have ih:=Bq r
  unfold lc
  have h1:1<=2^x:=Nat.one_le_two_pow
  have h2:2*lc r+1<=2^x*(2*lc r+1):=Nat.le_mul_of_pos_left _ h1
  rw[List.length_cons]
  omega
theorem Bs:∀(l:List Nat) (f:Nat),l.length<=f->nR f (lc l)=l
 |[],0,_=>rfl
 |[],f+1,_=>by simp[nR,lc]
 |x::r,0,h=>by simp at h
 |x::r,f+1,h=>by
  have h1:1<=2^x:=Nat.one_le_two_pow
  have h2:2^x<=2^x*(2*lc r+1):=Nat.le_mul_of_pos_right _ (by omega)
  have h3:=Qb x
  have hz:lc (x::r)≠0:=by
   have hl:lc (x::r)=2^x*(2*lc r+1):=rfl
   omega
  have ht:ja (lc (x::r)) (lc (x::r))=x:=by
   show ja (2^x*(2*lc r+1)) (2^x*(2*lc r+1))=x
   exact Js _ _ _ (by omega)
  unfold nR
  rw[if_neg hz,ht]
  have e:lc (x::r)/2^x/2=lc r:=by
   have hl:lc (x::r)=2^x*(2*lc r+1):=rfl
   rw[hl,Nat.mul_div_cancel_left _ (by omega)]
   omega
  rw[e,Bs r f (by simpa using h)]
theorem Bp (X:Nat):∀k:Nat,∃B,∀l:List Nat,l.length<=k->(∀x∈l,x<=X)->lc l<=B
 |0=>⟨0,λl h _=>by
  have:l=[]:=List.length_eq_zero_iff.1 (by omega)
  subst this;exact Nat.le_refl _⟩
 |k+1=>by
  obtain⟨B,hB⟩:=Bp X k
  refine⟨2^X*(2*B+1),λl h hx=>?_⟩
  cases l with
  |nil=>exact Nat.zero_le _
  |cons x r=>
   unfold lc
   have h1:=hB r (by simpa using h) λy hy=>hx y (List.mem_cons_of_mem _ hy)
   exact Nat.mul_le_mul (Nat.pow_le_pow_right (by decide) (hx x (by simp))) (by omega)
def rc (l:List (List Int)):Int:=(lc (l.map λrow=>lc (row.map m4)):Nat)
def ab (z:Int):List (List Int):=(nR z.toNat z.toNat).map λn=>(nR n n).map o7
theorem Qg (l:List Int):(l.map m4).map o7=l:=by
 rw[List.map_map]
 conv=>rhs;rw[<-List.map_id l]
 exact List.map_congr_left λz _=>T2 z
theorem dD (l:List (List Int)):ab (rc l)=l:=by
 unfold ab rc
 rw[Int.toNat_natCast,Bs _ _ (Bq _),List.map_map]
 conv=>rhs;rw[<-List.map_id l]
 refine List.map_congr_left λrow _=>?_
 simp only[Function.comp,id]
 rw[Bs _ _ (Bq _),Qg]
theorem cL (l:List (List Int)):0<=rc l:=Int.natCast_nonneg _
theorem DM (X:Int) (aX:0<=X):∃H:Int,∀l:List (List Int),l.length<=maxLen->(∀row∈l,row.length<=100/\∀z∈row,-X<=z/\z<=X)->rc l<=H:=by
 obtain⟨B,hB⟩:=Bp (2*X.toNat) 100
 obtain⟨C,hC⟩:=Bp B maxLen
 refine⟨(C:Nat),λl h hr=>?_⟩
 unfold rc
 have:=hC (l.map λrow=>lc (row.map m4)) (by simpa using h) λx hx=>by
  obtain⟨row,hrow,rfl⟩:=List.mem_map.1 hx
  refine hB _ (by simpa using(hr row hrow).1) λy hy=>?_
  obtain⟨z,hz,rfl⟩:=List.mem_map.1 hy
  have h1:=(hr row hrow).2 z hz
  unfold m4
  split<;>omega
 omega
def Cf (row:List Int):Prop:=row.length<=100/\∀z∈row,-(18446744073709551616+aO)<=z/\z<=18446744073709551616+aO
theorem DK:∃H:Int,∀l:List (List Int),l.length<=maxLen->(∀row∈l,Cf row)->rc l<=H:=DM _ (by have:=pf;omega)
noncomputable def gL:Int:=Classical.choose DK
theorem yO {l:List (List Int)} (h:l.length<=maxLen) (hr:∀row∈l,Cf row):rc l<=gL:=Classical.choose_spec DK l h hr
theorem vM:0<=gL:=Int.le_trans (cL []) (yO (l:=[]) (by simp) (by simp))
def Ce (row:List Int):Prop:=row.length<=100/\∀z∈row,-(18446744073709551616+aO+gL)<=z/\z<=18446744073709551616+aO+gL
theorem DL:∃H:Int,∀l:List (List Int),l.length<=maxLen->(∀row∈l,Ce row)->rc l<=H:=DM _ (by have:=pf;have:=vM;omega)
noncomputable def aF:Int:=max (Classical.choose DL) gL
theorem jD {l:List (List Int)} (h:l.length<=maxLen) (hr:∀row∈l,Ce row):rc l<=aF:=Int.le_trans (Classical.choose_spec DL l h hr) (Int.le_max_left _ _)
theorem J8:gL<=aF:=Int.le_max_right _ _
inductive ah where
 |int (k:IntKind) (lo hi:Int)
 |str
 |bool
 |sub (k:Nat)
def eQ:Nat->List ah
 |0=>[.int .u8 0 255]
 |_=>[.str]
def ah.plain:ah->Bool
 | .sub _=>false
 |_=>true
def eP (sh:List ah):Bool:=sh.all ah.plain
def ah.beq:ah->ah->Bool
 |int k lo hi,int aE Hv iw=>decide (k=aE)&&decide (lo=Hv)&&decide (hi=iw)
 |str,str=>true
 |bool,bool=>true
 |sub k,sub aE=>Nat.beq k aE
 |_,_=>false
theorem ah.beq_eq:∀{a b:ah},ah.beq a b=true->a=b
 |int k lo hi,int aE Hv iw,h=>by
  simp only[ah.beq,Bool.and_eq_true,decide_eq_true_eq]at h
  rw[h.1.1,h.1.2,h.2]
 |str,str,_=>rfl
 |bool,bool,_=>rfl
 |int ..,str,h=>by cases h
 |int ..,bool,h=>by cases h
 |str,int ..,h=>by cases h
 |str,bool,h=>by cases h
 |bool,int ..,h=>by cases h
 |bool,str,h=>by cases h
 |sub _,sub _,h=>by rw[Nat.eq_of_beq_eq_true h]
 |int ..,sub _,h=>by cases h
 |str,sub _,h=>by cases h
 |bool,sub _,h=>by cases h
 |sub _,int ..,h=>by cases h
 |sub _,str,h=>by cases h
 |sub _,bool,h=>by cases h
def gj:List ah->List ah->Bool
 |[],[]=>true
 |a::r,b::s=>ah.beq a b&&gj r s
 |_,_=>false
theorem l9:∀{a b:List ah},gj a b=true->a=b
 |[],[],_=>rfl
 |a::r,b::s,h=>by
  simp only[gj,Bool.and_eq_true]at h
  rw[ah.beq_eq h.1,l9 h.2]
 |[],_::_,h=>by cases h
 |_::_,[],h=>by cases h
noncomputable def ah.cx:ah->Int×Int
 |int _ lo hi=>(lo,hi)
 |str=>(0,aO)
 |bool=>(0,1)
 |sub _=>(0,gL)
def ah.val:ah->Int->Value
 |int k _ _,z=> .int k z
 |str,z=> .string (aH (J z))
 |bool,z=> .bool (decide (z=1))
 |sub _,_=> .slice none 0 0
def af:Nat->List Int->Int
 |0,[s]=>(J s).length
 |1,[s,i]=>((J s).getD i.toNat 0).toNat
 |2,[s,a,b]=>dF (((J s).drop a.toNat).take (b.toNat-a.toNat))
 |3,[s,t]=>dF (J s++J t)
 |4,[s,t]=>if J s=J t then 1 else 0
 |5,[s,t]=>if Op.bytesLess (J s) (J t)=true then 1 else 0
 |20,[c]=>(ab c).length
 |21,[c,i,j]=>((ab c).getD i.toNat []).getD j.toNat 0
 |22,[c,a,b]=>rc (((ab c).drop a.toNat).take (b.toNat-a.toNat))
 |23,c::row=>rc (ab c++[row])
 |24,[c,e]=>rc (ab c++ab e)
 |25,c::i::row=>rc ((ab c).set i.toNat row)
 |26,n::row=>rc (List.replicate n.toNat row)
 |27,[s]=>rc ((J s).map λb=>[(b.toNat:Int)])
 |34,[c,a,b]=>dF ((((ab c).drop a.toNat).take (b.toNat-a.toNat)).map λrow=>UInt8.ofNat (row.getD 0 0).toNat)
 |37,[x,y]=>x*2^y.toNat
 |38,[x,y]=>x% y
 |76,[x,y]=>x/y
 |33,[r,a,c]=>if a=c then r else r+a
 |29,[c,i,j,v]=>rc ((ab c).set i.toNat (((ab c).getD i.toNat []).set j.toNat v))
 |42,c::i::j::vs=>rc ((ab c).set i.toNat (((ab c).getD i.toNat []).take j.toNat++vs++((ab c).getD i.toNat []).drop (j.toNat+vs.length)))
 |43,[s,i]=>if UInt8.ofNat i.toNat∈J s then 1 else 0
 |61,c::a::k::row=>rc ((ab c).take a.toNat++List.replicate k.toNat row++(ab c).drop (a.toNat+k.toNat))
 |62,[a,b]=>min a b
 |63,[c,a,s]=>rc ((ab c).take a.toNat++ab s++(ab c).drop (a.toNat+(ab s).length))
 |28,[c]=>dF ((ab c).map λrow=>UInt8.ofNat (row.getD 0 0).toNat)
 |_,_=>0
noncomputable def wA:Nat->List Int->Prop
 |70,[l,c]=>c∣l
 |71,z::_=>(ab z).length<=1000000000
 |72,z::_=>64∣(ab z).length/\(ab z).length<=1000001000
 |73,z::_=>128∣(ab z).length/\(ab z).length<=1000001000
 |74,[i,l]=>0<=i/\i<l
 |78,[x,y,z,c]=>0<=x/\x<=y/\y<=z/\z<=c
 |79,[l,c]=>l<=c
 |75,l=>∀z∈l,(ab z).length<=100000000
 |77,[x]=>0<=x
 |80,[c,a,k]=>0<=a/\0<=k/\a+k<=(ab c).length
 |84,[_,_,d]=>(ab d).length<=100000000
 |_,_=>False
def az:Nat->List Int->Prop
 |1,[s,i]=>0<=i/\i<(J s).length
 |2,[s,a,b]=>0<=a/\a<=b/\b<=(J s).length
 |3,[s,t]=>(J s).length+(J t).length<=ez
 |21,[c,i]=>0<=i/\i<(ab c).length
 |30,[i,n]=>0<=i/\i<n
 |31,[c,n]=>n=(ab c).length
 |32,[a,b,n]=>0<=a/\a<=b/\b<=n
 |22,[c,a,b]=>0<=a/\a<=b/\b<=(ab c).length
 |35,[c,a,b]=>(0<=a/\a<=b/\b<=(ab c).length)/\b-a<=140737488351232
 |36,[y]=>0<y
 |39,[x,l,h]=>l<=x/\x<=h
 |40,[a,b]=>0<=a->0<=b
 |41,[s]=>(J s).length<=4294967280
 |44,[w,s]=>J w=[]∨(J s).length<=4294967280
 |23,[c,k]=>(ab c).length+k<=1073741824
 |26,[n]=>0<=n/\n<=1073741824
 |48,r::_=>(ab r).length<=1099511627776
 |50,s::_=>(J s).length<=1073741824
 |49,[l,c]=>0<=l/\l<=c/\c<=1073741824
 |64,[p,q,r,l]=>0<=p/\p<=q/\q<=r/\r<=l/\0<l
 |65,[c,a,k]=>0<=a/\0<k/\a+k<=(ab c).length
 |66,r::_=>(ab r).length<=1000000
 |68,[l,c]=>l<=c∨l=0
 |67,[c,i,k]=>((ab c).getD i.toNat []).length=k.toNat
 |53,[c,l]=>c<0->l=0
 |52,[c,a,b]=>0<=a/\a<b/\b<=(ab c).length/\(ab c).length<=1073741824
 |51,[c,i,r]=>(0<=i/\i<=(ab c).length)/\(ab r).length=1/\(ab c).length+1<=1073741824
 |op,l=>wA op l
end Go.aZ
namespace Go.aZ
abbrev Env:=Nat->Int
def bF (ρ:Env) (n:Nat) (z:Int):Env:=λi=>cond (Nat.beq i n) z (ρ i)
def bm (ρ:Env):Nat->List Int->Env
 |_,[]=>ρ
 |n,z::zs=>bm (bF ρ n z) (n+1) zs
def agree (n:Nat) (ρ aa:Env):Prop:=∀i,i<n->aa i=ρ i
theorem agree.refl (n:Nat) (ρ:Env):agree n ρ ρ:=λ_ _=>rfl
theorem agree.trans {n n':Nat} {ρ aa kI:Env} (h:agree n ρ aa) (h':agree n' aa kI) (hn:n<=n'):agree n ρ kI:=
 λi hi=>(h' i (by omega)).trans (h i hi)
theorem agree.mono {n n':Nat} {ρ aa:Env} (h:agree n' ρ aa) (hn:n<=n'):agree n ρ aa:=λi hi=>h i (by omega)
theorem eB (ρ:Env) (n:Nat) (z:Int):bF ρ n z n=z:=by simp[bF]
theorem yt (ρ:Env) {n i:Nat} (z:Int) (h:i≠n):bF ρ n z i=ρ i:=by
 unfold bF
 cases hb:Nat.beq i n with
 |false=>rfl
 |true=>exact absurd (Nat.eq_of_beq_eq_true hb) h
theorem agree.bF (n:Nat) (ρ:Env) (z:Int):agree n ρ (bF ρ n z):=λi hi=>yt ρ z (by omega)
theorem agree.bm:∀(zs:List Int) (n:Nat) (ρ:Env),agree n ρ (bm ρ n zs)
 |[],n,ρ=>agree.refl n ρ
 |z::zs,n,ρ=>(agree.bF n ρ z).trans (agree.bm zs (n+1) _) (by omega)
structure I where
 c:Int
 ts:List (Int×Nat)
def dK (ρ:Env):List (Int×Nat)->Int
 |[]=>0
 |(k,i)::r=>k*ρ i+dK ρ r
def I.den (ρ:Env) (l:I):Int:=dK ρ l.ts+l.c
def gS (k:Int) (i:Nat):List (Int×Nat)->List (Int×Nat)
 |[]=>[(k,i)]
 |(aE,j)::r=>cond (Nat.blt i j) ((k,i)::(aE,j)::r) (cond (Nat.beq i j) (cond (k+aE==0) r ((k+aE,i)::r)) ((aE,j)::gS k i r))
def rf:List (Int×Nat)->List (Int×Nat)->List (Int×Nat)
 |[],l=>l
 |(k,i)::r,l=>gS k i (rf r l)
def o5 (m:Int):List (Int×Nat)->List (Int×Nat)
 |[]=>[]
 |(k,i)::r=>(m*k,i)::o5 m r
theorem EF (ρ:Env) (k:Int) (i:Nat):∀l,dK ρ (gS k i l)=k*ρ i+dK ρ l
 |[]=>rfl
 |(aE,j)::r=>by
  unfold gS
  cases h1:Nat.blt i j with
  |true=>rfl
  |false=>
   cases h2:Nat.beq i j with
   |true=>
    have e:i=j:=Nat.eq_of_beq_eq_true h2
    subst e
    cases h3:(k+aE==0)with
    |true=>
     have h3:k+aE=0:=by simpa using h3
     simp only[cond_true,cond_false,dK]
     rw[<-Int.add_assoc,<-Int.add_mul,h3];simp
    |false=>simp only[cond_true,cond_false,dK];rw[Int.add_mul];omega
   |false=>simp only[cond_false,dK,EF ρ k i r];omega
theorem ED (ρ:Env):∀l aU,dK ρ (rf l aU)=dK ρ l+dK ρ aU
 |[],aU=>by simp[rf,dK]
 |(k,i)::r,aU=>by simp only[rf,EF,dK,ED ρ r aU];omega
theorem EG (ρ:Env) (m:Int):∀l,dK ρ (o5 m l)=m*dK ρ l
 |[]=>by simp[o5,dK]
 |(k,i)::r=>by simp only[o5,dK,EG ρ m r];rw[Int.mul_add,Int.mul_assoc]
def jZ (n:Nat) (l:List (Int×Nat)):Prop:=∀t∈l,t.2<n
theorem jZ.mono {n n':Nat} {l} (h:jZ n l) (hn:n<=n'):jZ n' l:=λt ht=>Nat.lt_of_lt_of_le (h t ht) hn
theorem IU {n:Nat} {k:Int} {i:Nat} (hi:i<n):∀{l},jZ n l->jZ n (gS k i l)
 |[],_=>by intro t ht;simp[gS]at ht;subst ht;exact hi
 |(aE,j)::r,h=>by
  have hr:jZ n r:=λt ht=>h t (List.mem_cons_of_mem _ ht)
  have hj:j<n:=h (aE,j) (by simp)
  have ih:=IU (k:=k) hi hr
  unfold gS
  intro t ht
  cases h1:Nat.blt i j<;>cases h2:Nat.beq i j<;>cases h3:(k+aE==0)<;>simp only[h1,h2,h3,cond_true,cond_false,List.mem_cons]at ht<;>
   first
   |(rcases ht with rfl|ht<;>first|exact hi|exact hj|(exact hr t ht)|(exact ih t ht)|(rcases ht with rfl|ht<;>first|exact hj|exact hr t ht))
   |exact hr t ht
theorem IT {n:Nat}:∀{l aU},jZ n l->jZ n aU->jZ n (rf l aU)
 |[],_,_,h'=>h'
 |(k,i)::r,_,h,h'=>IU (k:=k) (i:=i) (h (k,i) (by simp)) (IT (l:=r) (λt ht=>h t (List.mem_cons_of_mem _ ht)) h')
theorem IV {n:Nat} {m:Int}:∀{l},jZ n l->jZ n (o5 m l)
 |[],_=>λt ht=>by simp[o5]at ht
 |(k,i)::r,h=>by
  intro t ht
  simp only[o5,List.mem_cons]at ht
  rcases ht with rfl|ht
  ·exact h (k,i) (by simp)
  ·exact IV (λt ht=>h t (List.mem_cons_of_mem _ ht)) t ht
theorem EE {n:Nat} {ρ aa:Env} (h:agree n ρ aa):∀{l},jZ n l->dK aa l=dK ρ l
 |[],_=>rfl
 |(k,i)::r,hs=>by
  simp only[dK,h i (hs (k,i) (by simp)),EE h (l:=r) (λt ht=>hs t (List.mem_cons_of_mem _ ht))]
namespace I
def const (c:Int):I:=⟨c,[]⟩
def var (n:Nat):I:=⟨0,[(1,n)]⟩
def add (a b:I):I:=⟨a.c+b.c,rf a.ts b.ts⟩
def smul (m:Int) (a:I):I:=cond (m==0) ⟨0,[]⟩ ⟨m*a.c,o5 m a.ts⟩
def sub (a b:I):I:=a.add (b.smul (-1))
def bS (a:I):Option Int:=match a.ts with|[]=>some a.c|_=>none
def aC (n:Nat) (a:I):Prop:=jZ n a.ts
def rl:List (Int×Nat)->List (Int×Nat)->Bool
 |[],[]=>true
 |(k,i)::r,(aE,qo)::ei=>k==aE&&Nat.beq i qo&&rl r ei
 |_,_=>false
def beq (a b:I):Bool:=a.c==b.c&&rl a.ts b.ts
theorem D2:∀{a b},rl a b=true->a=b
 |[],[],_=>rfl
 |(k,i)::r,(aE,qo)::ei,h=>by
  simp only[rl,Bool.and_eq_true,beq_iff_eq]at h
  obtain⟨⟨h1,h2⟩,h3⟩:=h
  rw[h1,Nat.eq_of_beq_eq_true h2,D2 h3]
 |[],_::_,h=>by simp[rl]at h
 |_::_,[],h=>by simp[rl]at h
theorem beq_eq {a b:I} (h:beq a b=true):a=b:=by
 simp only[beq,Bool.and_eq_true,beq_iff_eq]at h
 cases a;cases b
 simp only at h
 rw[h.1,D2 h.2]
theorem aA (ρ:Env) (c:Int):(const c).den ρ=c:=by simp[const,den,dK]
theorem bc (ρ:Env) (n:Nat):(var n).den ρ=ρ n:=by simp[var,den,dK]
theorem den_add (ρ:Env) (a b:I):(a.add b).den ρ=a.den ρ+b.den ρ:=by simp only[add,den,ED];omega
theorem hP (ρ:Env) (m:Int) (a:I):(a.smul m).den ρ=m*a.den ρ:=by
 unfold smul
 cases h:(m==0)with
 |true=>have h:m=0:=by simpa using h
        subst h;simp[den,dK]
 |false=>simp only[cond_false,den,EG,Int.mul_add]
theorem gM (ρ:Env) (a b:I):(a.sub b).den ρ=a.den ρ-b.den ρ:=by simp only[sub,den_add,hP];omega
theorem er {ρ:Env} {a:I} {c:Int} (h:a.bS=some c):a.den ρ=c:=by
 unfold bS at h
 cases ha:a.ts with
 |nil=>simp[ha]at h;simp[den,ha,dK,h]
 |cons x r=>simp[ha]at h
theorem bt (n:Nat) (c:Int):(const c).aC n:=λt ht=>by simp[const]at ht
theorem cA {n i:Nat} (h:i<n):(var i).aC n:=λt ht=>by simp[var]at ht;subst ht;exact h
theorem n3 {n:Nat} {a b:I} (ha:a.aC n) (hb:b.aC n):(a.add b).aC n:=IT ha hb
theorem o3 {n:Nat} {m:Int} {a:I} (ha:a.aC n):(a.smul m).aC n:=by
 unfold smul
 cases(m==0)with
 |true=>exactλt ht=>by simp at ht
 |false=>exact IV ha
theorem o4 {n:Nat} {a b:I} (ha:a.aC n) (hb:b.aC n):(a.sub b).aC n:=n3 ha (o3 hb)
theorem aC.mono {n n':Nat} {a:I} (h:a.aC n) (hn:n<=n'):a.aC n':=jZ.mono h hn
theorem aQ {n:Nat} {ρ aa:Env} (h:agree n ρ aa) {a:I} (ha:a.aC n):a.den aa=a.den ρ:=by simp only[den,EE h ha]
end I
structure aP where
 l:I
 lo:Int
 hi:Int
def aP.ok (n:Nat) (ρ:Env) (x:aP):Prop:=x.l.aC n/\x.lo<=x.l.den ρ/\x.l.den ρ<=x.hi
theorem aP.ok.agree {n n':Nat} {ρ aa:Env} {x:aP} (h:x.ok n ρ) (ha:agree n ρ aa) (hn:n<=n'):x.ok n' aa:=
 ⟨h.1.mono hn,by rw[I.aQ ha h.1];exact h.2.1,by rw[I.aQ ha h.1];exact h.2.2⟩
def aP.const (c:Int):aP:=⟨.const c,c,c⟩
theorem aP.iu (n:Nat) (ρ:Env) (c:Int):(aP.const c).ok n ρ:=⟨I.bt n c,by simp[aP.const,I.aA],by simp[aP.const,I.aA]⟩
inductive aD where
 |lit (b:Bool)
 |eq (a b:I)
 |lt (a b:I)
 |le (a b:I)
 |not (a:aD)
 |and (a b:aD)
 |iff (a b:aD)
namespace aD
def den (ρ:Env):aD->Bool
 |lit b=>b
 |eq a b=>decide (a.den ρ=b.den ρ)
 |lt a b=>decide (a.den ρ<b.den ρ)
 |le a b=>decide (a.den ρ<=b.den ρ)
 |not a=> !a.den ρ
 |and a b=>a.den ρ&&b.den ρ
 |iff a b=>a.den ρ==b.den ρ
def aC (n:Nat):aD->Prop
 |lit _=>True
 |eq a b|lt a b|le a b=>a.aC n/\b.aC n
 |not a=>a.aC n
 |and a b=>a.aC n/\b.aC n
 |iff a b=>a.aC n/\b.aC n
theorem aC.mono {n n':Nat} (hn:n<=n'):∀{b:aD},b.aC n->b.aC n'
 |lit _,_=>trivial
 |eq _ _,h|lt _ _,h|le _ _,h=>⟨h.1.mono hn,h.2.mono hn⟩
 |not a,h=>aC.mono (b:=a) hn h
 |and a b,h=>⟨aC.mono (b:=a) hn h.1,aC.mono (b:=b) hn h.2⟩
 |iff a b,h=>⟨aC.mono (b:=a) hn h.1,aC.mono (b:=b) hn h.2⟩
theorem aQ {n:Nat} {ρ aa:Env} (ha:agree n ρ aa):∀{b:aD},b.aC n->b.den aa=b.den ρ
 |lit _,_=>rfl
 |eq _ _,h|lt _ _,h|le _ _,h=>by simp only[den,I.aQ ha h.1,I.aQ ha h.2]
 |not a,h=>by simp only[den,aQ (b:=a) ha h]
 |and a b,h=>by simp only[den,aQ (b:=a) ha h.1,aQ (b:=b) ha h.2]
 |iff a b,h=>by simp only[den,aQ (b:=a) ha h.1,aQ (b:=b) ha h.2]
def beq:aD->aD->Bool
 |lit a,lit b=>a==b
 |eq a b,eq c d|lt a b,lt c d|le a b,le c d=>I.beq a c&&I.beq b d
 |not a,not b=>beq a b
 |and a b,and c d|iff a b,iff c d=>beq a c&&beq b d
 |_,_=>false
theorem beq_eq:∀{a b:aD},beq a b=true->a=b
 |lit a,b,h=>by cases b<;>simp[beq]at h;rw[h]
 |eq a b,c,h=>by cases c<;>simp[beq]at h;rw[I.beq_eq h.1,I.beq_eq h.2]
 |lt a b,c,h=>by cases c<;>simp[beq]at h;rw[I.beq_eq h.1,I.beq_eq h.2]
 |le a b,c,h=>by cases c<;>simp[beq]at h;rw[I.beq_eq h.1,I.beq_eq h.2]
 |not a,c,h=>by cases c<;>simp[beq]at h;rw[beq_eq h]
 |and a b,c,h=>by cases c<;>simp[beq]at h;rw[beq_eq h.1,beq_eq h.2]
 |iff a b,c,h=>by cases c<;>simp[beq]at h;rw[beq_eq h.1,beq_eq h.2]
def mkNot:aD->aD
 |lit b=>lit (!b)
 |not a=>a
 |a=>not a
def mkAnd:aD->aD->aD
 |lit true,b=>b
 |lit false,_=>lit false
 |a,lit true=>a
 |a,lit false=>cond true (lit false) a
 |a,b=>and a b
def mkIff (a b:aD):aD:=
 match a with
 |lit true=>b
 |lit false=>mkNot b
 |_=>match b with
  |lit true=>a
  |lit false=>mkNot a
  |_=>cond (beq a b) (lit true) (iff a b)
theorem mq (ρ:Env) (a:aD):(mkNot a).den ρ= !a.den ρ:=by cases a<;>simp[mkNot,den]
theorem mT {n:Nat} {a:aD} (h:a.aC n):(mkNot a).aC n:=by cases a<;>exact h
theorem wG (ρ:Env) (a b:aD):(mkAnd a b).den ρ=(a.den ρ&&b.den ρ):=by
 unfold mkAnd;split<;>simp[den]
theorem ym {n:Nat} {a b:aD} (ha:a.aC n) (hb:b.aC n):(mkAnd a b).aC n:=by
 unfold mkAnd;split<;>first|exact hb|exact ha|trivial|exact⟨ha,hb⟩
theorem zv (ρ:Env) (a b:aD):(mkIff a b).den ρ=(a.den ρ==b.den ρ):=by
 unfold mkIff
 split
 ·simp[den]
 ·rw[mq];simp[den]
 ·split
  ·simp[den]
  ·rw[mq];simp[den]
  ·cases h:beq a b with
   |true=>have:=beq_eq h;subst this;simp[den]
   |false=>rfl
theorem Cq {n:Nat} {a b:aD} (ha:a.aC n) (hb:b.aC n):(mkIff a b).aC n:=by
 unfold mkIff
 split
 ·exact hb
 ·exact mT hb
 ·split
  ·exact ha
  ·exact mT ha
  ·cases beq a b with
   |true=>trivial
   |false=>exact⟨ha,hb⟩
def rL (d:I) (f:Int->Bool) (e:aD):aD:=match d.bS with|some c=>lit (f c)|none=>e
def mkLt (a b:aP):aD:=cond (decide (a.hi<b.lo)) (lit true) (cond (decide (b.hi<=a.lo)) (lit false) (rL (a.l.sub b.l) (λc=>decide (c<0)) (lt a.l b.l)))
def mkLe (a b:aP):aD:=cond (decide (a.hi<=b.lo)) (lit true) (cond (decide (b.hi<a.lo)) (lit false) (rL (a.l.sub b.l) (λc=>decide (c<=0)) (le a.l b.l)))
def mkEq (a b:aP):aD:=cond (decide (a.hi<b.lo)) (lit false) (cond (decide (b.hi<a.lo)) (lit false) (cond (a.lo==a.hi&&b.lo==b.hi&&a.lo==b.lo) (lit true) (cond (I.beq a.l b.l) (lit true) (rL (a.l.sub b.l) (λc=>decide (c=0)) (eq a.l b.l)))))
theorem zu {n:Nat} {ρ:Env} {d:I} {f:Int->Bool} {e:aD} (h:e.den ρ=f (d.den ρ)) (hs:e.aC n):(rL d f e).den ρ=e.den ρ/\(rL d f e).aC n:=by
 unfold rL
 split
 ·rename_i c hc
  exact⟨by rw[h,I.er hc];rfl,trivial⟩
 ·exact⟨rfl,hs⟩
theorem wH {n:Nat} {ρ:Env} {a b:aP} (ha:a.ok n ρ) (hb:b.ok n ρ):(mkLt a b).den ρ=decide (a.l.den ρ<b.l.den ρ)/\(mkLt a b).aC n:=by
 have h1:=ha.2;have h2:=hb.2
 unfold mkLt
 by_cases c1:a.hi<b.lo
 ·simp only[decide_eq_true c1,cond_true,den,aC,and_true];symm;simp;omega
 ·by_cases ax:b.hi<=a.lo
  ·simp only[decide_eq_false c1,decide_eq_true ax,cond_true,cond_false,den,aC,and_true];symm;simp;omega
  ·simp only[decide_eq_false c1,decide_eq_false ax,cond_false]
   have:=zu (n:=n) (ρ:=ρ) (d:=a.l.sub b.l) (f:=λc=>decide (c<0)) (e:=lt a.l b.l) (by simp only[den,I.gM];congr 1;simp;omega) ⟨ha.1,hb.1⟩
   exact⟨this.1,this.2⟩
theorem EH {n:Nat} {ρ:Env} {a b:aP} (ha:a.ok n ρ) (hb:b.ok n ρ):(mkLe a b).den ρ=decide (a.l.den ρ<=b.l.den ρ)/\(mkLe a b).aC n:=by
 have h1:=ha.2;have h2:=hb.2
 unfold mkLe
 by_cases c1:a.hi<=b.lo
 ·simp only[decide_eq_true c1,cond_true,den,aC,and_true];symm;simp;omega
 ·by_cases ax:b.hi<a.lo
  ·simp only[decide_eq_false c1,decide_eq_true ax,cond_true,cond_false,den,aC,and_true];symm;simp;omega
  ·simp only[decide_eq_false c1,decide_eq_false ax,cond_false]
   have:=zu (n:=n) (ρ:=ρ) (d:=a.l.sub b.l) (f:=λc=>decide (c<=0)) (e:=le a.l b.l) (by simp only[den,I.gM];congr 1;simp;omega) ⟨ha.1,hb.1⟩
   exact⟨this.1,this.2⟩
theorem kT {n:Nat} {ρ:Env} {a b:aP} (ha:a.ok n ρ) (hb:b.ok n ρ):(mkEq a b).den ρ=decide (a.l.den ρ=b.l.den ρ)/\(mkEq a b).aC n:=by
 have h1:=ha.2;have h2:=hb.2
 unfold mkEq
 by_cases c1:a.hi<b.lo
 ·simp only[decide_eq_true c1,cond_true,den,aC,and_true];symm;simp;omega
 ·by_cases ax:b.hi<a.lo
  ·simp only[decide_eq_false c1,decide_eq_true ax,cond_true,cond_false,den,aC,and_true];symm;simp;omega
  ·cases bh:(a.lo==a.hi&&b.lo==b.hi&&a.lo==b.lo)with
   |true=>
    simp only[Bool.and_eq_true,beq_iff_eq]at bh
    simp only[decide_eq_false c1,decide_eq_false ax,cond_false,cond_true,den,aC,and_true];symm;simp;omega
   |false=>
    cases bu:I.beq a.l b.l with
    |true=>simp only[decide_eq_false c1,decide_eq_false ax,cond_false,cond_true,den,aC,and_true,I.beq_eq bu];simp
    |false=>
     simp only[decide_eq_false c1,decide_eq_false ax,cond_false]
     have:=zu (n:=n) (ρ:=ρ) (d:=a.l.sub b.l) (f:=λc=>decide (c=0)) (e:=eq a.l b.l) (by simp only[den,I.gM];congr 1;simp;omega) ⟨ha.1,hb.1⟩
     exact⟨this.1,this.2⟩
end aD
end Go.aZ
namespace Go.aZ
inductive A where
 |int (k:IntKind) (x:aP)
 |bool (b:aD)
 |ptr (b off:Nat)
 |gY (b off:Nat) (ar:aP)
 |gptr (g off:Nat)
 |rP (g off:Nat) (ar:aP)
 |slc (b off len cap:Nat)
 |con (v:Value)
 |str (l:I)
 |rows (sh:List ah) (off code cap:I) (kind:Nat)
 |sl (b ay:Nat) (o ro len cap:I)
 |ep (b ay:Nat) (o i:I) (j:Nat)
inductive W where
 |one (a:A)
 |agg (l:List A)
inductive V where
 |w (x:W)
 |dg (l:List W)
 |any
 |iD (b len lo:Nat)
 |jg (f:Nat) (ee:List A)
def eS (op:BinOp) (k:IntKind) (x y:Int):Int:=
 match op with
 | .and=>k.wrap (BitVec.ofInt k.bits x&&&BitVec.ofInt k.bits y).toNat
 | .or=>k.wrap (BitVec.ofInt k.bits x|||BitVec.ofInt k.bits y).toNat
 | .xor=>k.wrap (BitVec.ofInt k.bits x^^^BitVec.ofInt k.bits y).toNat
 | .andNot=>k.wrap (BitVec.ofInt k.bits x&&&~~~(BitVec.ofInt k.bits y)).toNat
 |_=>0
inductive T where
 |stuck
 |leaf (v:V)
 |div (n:Nat) (x:I) (d lo hi:Int) (r:T)
 |mul (n:Nat) (x y:I) (lo hi:Int) (r:T)
 |bit (n:Nat) (op:BinOp) (k:IntKind) (x y:I) (r:T)
 |shr (n:Nat) (x y:I) (lo hi:Int) (r:T)
 |sel (n:Nat) (cs:List I) (ar:I) (lo hi:Int) (r:T)
 |oi (b:aD) (t e:T)
 |call (id:Nat) (args:List I) (n:Nat) (bds:List (Int×Int)) (r:T)
 |loop (eO:Nat) (init:List I) (n:Nat) (bds:List (Int×Int)) (r:T)
 |again (eO:Nat) (vals:List I)
 |both (a b:T)
 |fn (n:Nat) (op:Nat) (args:List I) (lo hi:Int) (r:T)
 |mo (op:Nat) (args:List I) (r:T)
 |me (n:Nat) (lo hi:Int) (r:T)
 |nat (n:Nat) (r:T)
 |pw (op:Nat) (args:List I) (r:T)
 |ind (n:Nat) (b:aD) (r:T)
def ml:List (Int×Int)->(List Int->Prop)->Prop
 |[],P=>P []
 |(l,h)::b,P=>∀r:Int,l<=r->r<=h->ml b (λrs=>P (r::rs))
def bb:List (Int×Int)->List Int->Prop
 |[],[]=>True
 |(l,h)::b,r::rs=>l<=r/\r<=h/\bb b rs
 |_,_=>False
theorem na:∀{b:List (Int×Int)} {P:List Int->Prop} {rs:List Int},ml b P->bb b rs->P rs
 |[],_,[],h,_=>h
 |(l,u)::b,P,r::rs,h,hi=>na (b:=b) (P:=λrs=>P (r::rs)) (h r hi.1 hi.2.1) hi.2.2
 |[],_,_::_,_,hi=>hi.elim
 |(_,_)::_,_,[],_,hi=>hi.elim
abbrev b6:=Nat->List Int->Prop
def b6.set (A:b6) (eO:Nat) (p:List Int->Prop):b6:=λi=>cond (Nat.beq i eO) p (A i)
def T.holds (S:Nat->List Int->List Int->Prop) (L:V->Env->Prop):T->b6->Env->Prop
 |stuck,_,_=>False
 |leaf v,_,ρ=>L v ρ
 |div n x d lo hi r,A,ρ=>∀q:Int,lo<=q->q<=hi->0<=x.den ρ-d*q->x.den ρ-d*q<d->r.holds S L A (bF ρ n q)
 |mul n x y lo hi r,A,ρ=>∀p:Int,lo<=p->p<=hi->p=x.den ρ*y.den ρ->r.holds S L A (bF ρ n p)
 |bit n op k x y r,A,ρ=>∀z:Int,0<=z->z<=k.max->z=eS op k (x.den ρ) (y.den ρ)->r.holds S L A (bF ρ n z)
 |shr n x y lo hi r,A,ρ=>∀z:Int,lo<=z->z<=hi->z=x.den ρ/2^(y.den ρ).toNat->r.holds S L A (bF ρ n z)
 |sel n cs ar lo hi r,A,ρ=>∀z:Int,lo<=z->z<=hi->z=(cs.map (·.den ρ)).getD (ar.den ρ).toNat 0->r.holds S L A (bF ρ n z)
 |oi b t e,A,ρ=>(b.den ρ=true->t.holds S L A ρ)/\(b.den ρ=false->e.holds S L A ρ)
 |call id args n bds r,A,ρ=>ml bds λrs=>S id (args.map (·.den ρ)) rs->r.holds S L A (bm ρ n rs)
 |loop eO init n bds r,A,ρ=>∃(j7:List Int->Prop) (j3:List Int->Nat),j7 (init.map (·.den ρ))/\
  ml bds λzs=>j7 zs->r.holds S L (A.set eO λvs=>j7 vs/\j3 vs<j3 zs) (bm ρ n zs)
 |again eO vals,A,ρ=>A eO (vals.map (·.den ρ))
 |both a b,A,ρ=>a.holds S L A ρ/\b.holds S L A ρ
 |fn n op args lo hi r,A,ρ=>∀z:Int,lo<=z->z<=hi->z=af op (args.map (·.den ρ))->r.holds S L A (bF ρ n z)
 |mo op args r,A,ρ=>az op (args.map (·.den ρ))/\r.holds S L A ρ
 |me n lo hi r,A,ρ=>∀z:Int,lo<=z->z<=hi->r.holds S L A (bF ρ n z)
 |nat n r,A,ρ=>∀z:Int,0<=z->r.holds S L A (bF ρ n z)
 |pw op args r,A,ρ=>az op (args.map (·.den ρ))->r.holds S L A ρ
 |ind n b r,A,ρ=>∀z:Int,0<=z->z<=1->b.den ρ=decide (z=1)->r.holds S L A (bF ρ n z)
abbrev M (α:Type):=Nat->(α->Nat->T)->T
namespace M
variable {α β:Type}
def pure (a:α):M α:=λn k=>k a n
def bind (x:M α) (f:α->M β):M β:=λn k=>x n λa n'=>f a n' k
def fail:M α:=λ_ _=> .stuck
def ae (S:Nat->List Int->List Int->Prop) (L:V->Env->Prop) (x:M α) (n:Nat) (ρ:Env) (R:Env->Nat->α->Prop):Prop:=
 ∀A k,(x n k).holds S L A ρ->∃aa n' a,n<=n'/\agree n ρ aa/\R aa n' a/\(k a n').holds S L A aa
variable {S:Nat->List Int->List Int->Prop} {L:V->Env->Prop} {n:Nat} {ρ:Env}
theorem ae.pure {a:α} {R:Env->Nat->α->Prop} (h:R ρ n a):ae S L (M.pure a) n ρ R:=
 λ_ _ hk=>⟨ρ,n,a,Nat.le_refl _,agree.refl _ _,h,hk⟩
theorem ae.fail {R:Env->Nat->α->Prop}:ae S L (M.fail:M α) n ρ R:=λ_ _ hk=>hk.elim
theorem ae.bind {x:M α} {f:α->M β} {R:Env->Nat->α->Prop} {c8:Env->Nat->β->Prop} (hx:ae S L x n ρ R)
 (hf:∀aa n' a,n<=n'->agree n ρ aa->R aa n' a->ae S L (f a) n' aa c8):ae S L (M.bind x f) n ρ c8:=by
 intro A k hk
 obtain⟨aa,n',a,hn,ha,hR,eK⟩:=hx A _ hk
 obtain⟨kI,sH,b,lS,fJ,kk,Nv⟩:=hf aa n' a hn ha hR A k eK
 exact⟨kI,sH,b,Nat.le_trans hn lS,ha.trans fJ hn,kk,Nv⟩
theorem ae.mono {x:M α} {R c8:Env->Nat->α->Prop} (hx:ae S L x n ρ R) (h:∀aa n' a,n<=n'->agree n ρ aa->R aa n' a->c8 aa n' a):ae S L x n ρ c8:=by
 intro A k hk
 obtain⟨aa,n',a,hn,ha,hR,eK⟩:=hx A k hk
 exact⟨aa,n',a,hn,ha,h _ _ _ hn ha hR,eK⟩
end M
open M
section
variable {S:Nat->List Int->List Int->Prop} {L:V->Env->Prop} {n:Nat} {ρ:Env}
def pv:List I->Option (List Int)
 |[]=>some []
 |l::r=>match l.bS,pv r with|some c,some s=>some (c::s)|_,_=>none
theorem vW {ρ:Env}:∀{l:List I} {cs:List Int},pv l=some cs->l.map (·.den ρ)=cs
 |[],cs,h=>by simp[pv]at h;subst h;rfl
 |l::r,cs,h=>by
  simp only[pv]at h
  cases h1:l.bS with
  |none=>simp[h1]at h
  |some c=>
   cases h2:pv r with
   |none=>simp[h1,h2]at h
   |some s=>
    simp only[h1,h2,Option.some.injEq]at h
    subst h
    simp only[List.map_cons,I.er h1,vW h2]
def ck (op:Nat) (args:List I) (lo hi:Int):M I:=λn k=>match Nat.ble op 5,pv args with
 |true,some cs=>k (.const (af op cs)) n
 |_,_=> .fn n op args lo hi (k (.var n) (n+1))
def tD:Nat->List Int->Bool
 |1,[s,i]=>decide (0<=i)&&decide (i<(J s).length)
 |2,[s,a,b]=>decide (0<=a)&&decide (a<=b)&&decide (b<=(J s).length)
 |3,[s,t]=>Nat.ble ((J s).length+(J t).length) 1000000
 |30,[i,n]=>decide (0<=i)&&decide (i<n)
 |32,[a,b,n]=>decide (0<=a)&&decide (a<=b)&&decide (b<=n)
 |39,[x,l,h]=>decide (l<=x)&&decide (x<=h)
 |_,_=>false
theorem Eo {op:Nat} {cs:List Int} (h:tD op cs=true):az op cs:=by
 unfold tD at h
 split at h
 ·simp only[Bool.and_eq_true,decide_eq_true_eq]at h;exact h
 ·simp only[Bool.and_eq_true,decide_eq_true_eq]at h;exact⟨h.1.1,h.1.2,h.2⟩
 ·have h:=Nat.le_of_ble_eq_true h
  show _<=ez
  unfold ez;omega
 ·simp only[Bool.and_eq_true,decide_eq_true_eq]at h;exact h
 ·simp only[Bool.and_eq_true,decide_eq_true_eq]at h;exact⟨h.1.1,h.1.2,h.2⟩
 ·simp only[Bool.and_eq_true,decide_eq_true_eq]at h;exact h
 ·cases h
def cF (op:Nat) (args:List I):M Unit:=λn k=>match pv args with
 |some cs=>cond (tD op cs) (k () n) (.mo op args (k () n))
 |none=> .mo op args (k () n)
theorem cZ {op:Nat} {args:List I} {lo hi:Int} (h1:lo<=af op (args.map (·.den ρ))) (h2:af op (args.map (·.den ρ))<=hi):
 ae S L (ck op args lo hi) n ρ λaa n' l=>l.aC n'/\l.den aa=af op (args.map (·.den ρ)):=by
 intro A k hk
 unfold ck at hk
 split at hk
 ·rename_i cs _ hcs
  exact⟨_,n,_,Nat.le_refl _,agree.refl _ _,⟨I.bt _ _,by rw[I.aA,vW hcs]⟩,hk⟩
 ·exact⟨_,n+1,_,Nat.le_succ _,agree.bF _ _ _,⟨I.cA (Nat.lt_succ_self n),by simp[I.bc,eB]⟩,hk _ h1 h2 rfl⟩
theorem dm {op:Nat} {args:List I} {α:Type} {x:M α} {R:Env->Nat->α->Prop} (h:az op (args.map (·.den ρ))->ae S L x n ρ R):ae S L (bind (cF op args) λ_=>x) n ρ R:=by
 intro A k hk
 unfold M.bind cF at hk
 split at hk
 ·rename_i cs hcs
  cases hb:tD op cs with
  |true=>
   rw[hb]at hk
   exact h (by rw[vW hcs];exact Eo hb) A k hk
  |false=>
   rw[hb]at hk
   exact h hk.1 A k hk.2
 ·exact h hk.1 A k hk.2
def mu (x:aP) (d:Int):M aP:=λn k=>
 cond (d==1) (k x n) <| cond (x.lo/d==x.hi/d) (k (.const (x.lo/d)) n) (.div n x.l d (x.lo/d) (x.hi/d) (k ⟨.var n,x.lo/d,x.hi/d⟩ (n+1)))
theorem tF {x:aP} {d:Int} (hd:0<d) (hx:x.ok n ρ):ae S L (mu x d) n ρ λaa n' q=>q.ok n' aa/\q.l.den aa=x.l.den ρ/d/\(q.lo=x.lo/d/\q.hi=x.hi/d):=by
 intro A k hk
 have h1:=Int.ediv_le_ediv hd hx.2.1
 have h2:=Int.ediv_le_ediv hd hx.2.2
 unfold mu at hk
 cases zN:(d==1)with
 |true=>
  have e:d=1:=by simpa using zN
  subst e
  simp only[zN,cond_true]at hk
  exact⟨ρ,n,x,Nat.le_refl _,agree.refl _ _,⟨hx,by simp,by simp,by simp⟩,hk⟩
 |false=>
 simp only[zN,cond_false]at hk
 cases hc:(x.lo/d==x.hi/d)with
 |true=>
  simp only[hc,cond_true]at hk
  have hc:x.lo/d=x.hi/d:=by simpa using hc
  exact⟨ρ,n,_,Nat.le_refl _,agree.refl _ _,⟨aP.iu _ _ _,by simp only[aP.const,I.aA];omega,rfl,hc⟩,hk⟩
 |false=>
  simp only[hc,cond_false,T.holds]at hk
  have hm:=Int.emod_nonneg (x.l.den ρ) (show d≠0 by omega)
  have nC:=Int.emod_lt_of_pos (x.l.den ρ) hd
  have he:=Int.mul_ediv_add_emod (x.l.den ρ) d
  refine⟨_,n+1,_,Nat.le_succ _,agree.bF _ _ _,⟨⟨I.cA (Nat.lt_succ_self n),?_,?_⟩,?_,rfl,rfl⟩,hk (x.l.den ρ/d) h1 h2 (by omega) (by omega)⟩<;>
   simp only[I.bc,eB]<;>omega
def BG (x:aP) (d:Int):M aP:=
 bind (mu x d) λq=>pure ⟨x.l.sub (q.l.smul d),cond (q.lo==q.hi) (x.lo-d*q.lo) 0,cond (q.lo==q.hi) (x.hi-d*q.lo) (d-1)⟩
theorem HK {x:aP} {d:Int} (hd:0<d) (hx:x.ok n ρ):ae S L (BG x d) n ρ λaa n' q=>q.ok n' aa/\q.l.den aa=x.l.den ρ% d:=by
 refine(tF hd hx).bind λaa n' q hn ha ⟨hq,he,iR,US⟩=>ae.pure ?_
 have ey:=hx.agree ha hn
 have hm:=Int.emod_nonneg (x.l.den ρ) (show d≠0 by omega)
 have nC:=Int.emod_lt_of_pos (x.l.den ρ) hd
 have UR:=Int.mul_ediv_add_emod (x.l.den ρ) d
 have Ak:(x.l.sub (q.l.smul d)).den aa=x.l.den ρ% d:=by
  rw[I.gM,I.hP,I.aQ ha hx.1,he];omega
 refine⟨⟨I.o4 ey.1 (I.o3 hq.1),?_,?_⟩,Ak⟩
 ·cases hc:(q.lo==q.hi)with
  |true=>
   have hc:q.lo=q.hi:=by simpa using hc
   have:q.l.den aa=q.lo:=by have:=hq.2;omega
   simp only[cond_true,I.gM,I.hP,this];have:=ey.2.1;omega
  |false=>simp only[cond_false,Ak];omega
 ·cases hc:(q.lo==q.hi)with
  |true=>
   have hc:q.lo=q.hi:=by simpa using hc
   have:q.l.den aa=q.lo:=by have:=hq.2;omega
   simp only[cond_true,I.gM,I.hP,this];have:=ey.2.2;omega
  |false=>simp only[cond_false,Ak];omega
def two (k:IntKind):Int:=match k with| .i8| .u8=>256| .i16| .u16=>65536| .i32| .u32=>4294967296| .i64| .u64=>18446744073709551616
theorem mZ (k:IntKind):two k=(2:Int)^k.bits:=by cases k<;>rfl
def half (k:IntKind):Int:=cond k.signed (two k/2) 0
theorem yz (k:IntKind) (x:Int):k.wrap x=(x+half k)% two k-half k:=by
 cases k<;>simp only[IntKind.wrap,IntKind.signed,IntKind.bits,half,two,cond_true,cond_false,Bool.true_and,Bool.false_and]<;>
  simp<;>(try split)<;>omega
def m1 (k:IntKind) (x:aP):M aP:=
 cond (decide (-half k<=x.lo)&&decide (x.hi<two k-half k)) (pure x)
  (bind (BG ⟨x.l.add (.const (half k)),x.lo+half k,x.hi+half k⟩ (two k)) λr=>pure ⟨r.l.add (.const (-half k)),r.lo-half k,r.hi-half k⟩)
theorem o9 {k:IntKind} {x:aP} (hx:x.ok n ρ):ae S L (m1 k x) n ρ λaa n' q=>q.ok n' aa/\q.l.den aa=k.wrap (x.l.den ρ):=by
 have ht:0<two k:=by cases k<;>decide
 unfold m1
 cases hc:(decide (-half k<=x.lo)&&decide (x.hi<two k-half k))with
 |true=>
  simp only[Bool.and_eq_true,decide_eq_true_eq]at hc
  refine ae.pure ⟨hx,?_⟩
  have h1:=hx.2
  rw[yz,Int.emod_eq_of_lt (by omega) (by omega)];omega
 |false=>
  refine(HK (x:=⟨x.l.add (.const (half k)),x.lo+half k,x.hi+half k⟩) ht ⟨I.n3 hx.1 (I.bt _ _),?_,?_⟩).bind λaa n' r hn ha ⟨hr,he⟩=>ae.pure ?_
  ·rw[I.den_add,I.aA];have:=hx.2.1;simp only;omega
  ·rw[I.den_add,I.aA];have:=hx.2.2;simp only;omega
  ·have e:(r.l.add (.const (-half k))).den aa=k.wrap (x.l.den ρ):=by
    rw[I.den_add,I.aA,he,I.den_add,I.aA,yz];omega
   refine⟨⟨I.n3 hr.1 (I.bt _ _),?_,?_⟩,e⟩<;>simp only[I.den_add,I.aA]<;>have:=hr.2<;>omega
def mulM (x y:aP):M aP:=λn k=>
 match x.l.bS,y.l.bS with
 |some c,_=>cond (decide (0<=c)) (k ⟨y.l.smul c,c*y.lo,c*y.hi⟩ n) .stuck
 |none,some c=>cond (decide (0<=c)) (k ⟨x.l.smul c,c*x.lo,c*x.hi⟩ n) .stuck
 |none,none=>cond (decide (0<=x.lo)&&decide (0<=y.lo)) (.mul n x.l y.l (x.lo*y.lo) (x.hi*y.hi) (k ⟨.var n,x.lo*y.lo,x.hi*y.hi⟩ (n+1))) .stuck
theorem HL {x y:aP} (hx:x.ok n ρ) (hy:y.ok n ρ):ae S L (mulM x y) n ρ λaa n' q=>q.ok n' aa/\q.l.den aa=x.l.den ρ*y.l.den ρ:=by
 intro A k hk
 unfold mulM at hk
 cases h1:x.l.bS with
 |some c=>
  simp only[h1]at hk
  by_cases hc:0<=c
  ·simp only[decide_eq_true hc,cond_true]at hk
   refine⟨ρ,n,_,Nat.le_refl _,agree.refl _ _,⟨⟨I.o3 hy.1,?_,?_⟩,?_⟩,hk⟩
   ·simp only[I.hP];exact Int.mul_le_mul_of_nonneg_left hy.2.1 hc
   ·simp only[I.hP];exact Int.mul_le_mul_of_nonneg_left hy.2.2 hc
   ·simp only[I.hP,I.er h1]
  ·simp only[decide_eq_false hc,cond_false,T.holds]at hk
 |none=>
  cases h2:y.l.bS with
  |some c=>
   simp only[h1,h2]at hk
   by_cases hc:0<=c
   ·simp only[decide_eq_true hc,cond_true]at hk
    refine⟨ρ,n,_,Nat.le_refl _,agree.refl _ _,⟨⟨I.o3 hx.1,?_,?_⟩,?_⟩,hk⟩
    ·simp only[I.hP];exact Int.mul_le_mul_of_nonneg_left hx.2.1 hc
    ·simp only[I.hP];exact Int.mul_le_mul_of_nonneg_left hx.2.2 hc
    ·simp only[I.hP,I.er h2];exact Int.mul_comm _ _
   ·simp only[decide_eq_false hc,cond_false,T.holds]at hk
  |none=>
   simp only[h1,h2]at hk
   cases hc:(decide (0<=x.lo)&&decide (0<=y.lo))with
   |false=>simp only[hc,cond_false,T.holds]at hk
   |true=>
    simp only[hc,cond_true,T.holds]at hk
    simp only[Bool.and_eq_true,decide_eq_true_eq]at hc
    have a1:x.lo*y.lo<=x.l.den ρ*y.l.den ρ:=Int.mul_le_mul hx.2.1 hy.2.1 hc.2 (by have:=hx.2.1;omega)
    have a2:x.l.den ρ*y.l.den ρ<=x.hi*y.hi:=Int.mul_le_mul hx.2.2 hy.2.2 (by have:=hy.2.1;omega) (by have:=hx.2;omega)
    refine⟨_,n+1,_,Nat.le_succ _,agree.bF _ _ _,⟨⟨I.cA (Nat.lt_succ_self n),?_,?_⟩,?_⟩,hk _ a1 a2 rfl⟩<;>simp only[I.bc,eB]<;>assumption
def rm (op:BinOp) (k:IntKind) (x y:aP):M aP:=λn c=>
 cond k.signed .stuck (.bit n op k x.l y.l (c ⟨.var n,0,k.max⟩ (n+1)))
theorem Ub {k:IntKind} (hk:k.signed=false) (x:Int):0<=k.wrap x/\k.wrap x<=k.max:=by
 cases k<;>simp[IntKind.signed]at hk<;>simp[IntKind.wrap,IntKind.signed,IntKind.bits,IntKind.max]<;>omega
theorem KK {k:IntKind} (hk:k.signed=false) (op:BinOp) (x y:Int):0<=eS op k x y/\eS op k x y<=k.max:=by
 unfold eS
 split
 iterate 4 exact Ub hk _
 cases k<;>simp[IntKind.signed]at hk<;>simp[IntKind.max,IntKind.signed,IntKind.bits]
theorem wg {op:BinOp} {k:IntKind} {x y:aP}:ae S L (rm op k x y) n ρ λaa n' q=>q.ok n' aa/\q.l.den aa=eS op k (x.l.den ρ) (y.l.den ρ):=by
 intro A c hk
 unfold rm at hk
 cases hs:k.signed with
 |true=>simp only[hs,cond_true,T.holds]at hk
 |false=>
  simp only[hs,cond_false,T.holds]at hk
  have hb:=KK hs op (x.l.den ρ) (y.l.den ρ)
  refine⟨_,n+1,_,Nat.le_succ _,agree.bF _ _ _,⟨⟨I.cA (Nat.lt_succ_self n),?_,?_⟩,?_⟩,hk _ hb.1 hb.2 rfl⟩<;>simp only[I.bc,eB]<;>first|exact hb.1|exact hb.2
def xI (c:Int):Option (Int×Int):=
 match c with
 | .ofNat 0=>none
 | .ofNat c=>
  let b:=2^(Nat.log2 c+1)
  let a:=b-c
  cond (Nat.beq (2^Nat.log2 a) a) (some (a,b)) none
 |_=>none
theorem bv_and {w:Nat} (x y:Int):((BitVec.ofInt w x&&&BitVec.ofInt w y).toNat:Int)=(((x% 2^w).toNat&&&(y% 2^w).toNat:Nat):Int):=by
 rw[BitVec.toNat_and,BitVec.toNat_ofInt,BitVec.toNat_ofInt]
 congr
theorem KO {w:Nat} (x y:Int):((BitVec.ofInt w x|||BitVec.ofInt w y).toNat:Int)=(((x% 2^w).toNat|||(y% 2^w).toNat:Nat):Int):=by
 rw[BitVec.toNat_or,BitVec.toNat_ofInt,BitVec.toNat_ofInt]
 congr
theorem Kz (x a b:Nat) (UK:a<=b):x&&&(2^b-2^a)=2^a*(x/2^a)-2^b*(x/2^b):=by
 have e1:2^b-2^a=2^a*(2^(b-a)-1):=by
  rw[Nat.mul_sub,<-Nat.pow_add,Nat.mul_one];congr 2;omega
 have e2:x&&&(2^b-2^a)=2^a*(x/2^a% 2^(b-a)):=by
  rw[e1]
  apply Nat.eq_of_testBit_eq
  intro i
  rw[Nat.testBit_and,Nat.mul_comm (2^a) (2^(b-a)-1),Nat.mul_comm (2^a),Nat.testBit_mul_two_pow,Nat.testBit_mul_two_pow,Nat.testBit_two_pow_sub_one,Nat.testBit_mod_two_pow,Nat.testBit_div_two_pow]
  by_cases h:a<=i
  ·simp only[h,decide_true,Bool.true_and]
   rw[show i-a+a=i by omega,Bool.and_comm]
  ·simp[h]
 rw[e2]
 have e3:x/2^b=x/2^a/2^(b-a):=by
  rw[Nat.div_div_eq_div_mul,<-Nat.pow_add];congr 2;omega
 have dL:2^b=2^a*2^(b-a):=by rw[<-Nat.pow_add];congr 1;omega
 have mv:=Nat.div_add_mod (x/2^a) (2^(b-a))
 rw[e3,dL,Nat.mul_assoc,<-Nat.mul_sub]
 congr 1
 omega
theorem Qh {c a b:Int} (h:xI c=some (a,b)):∃i j:Nat,i<=j/\a=2^i/\b=2^j/\c=b-a/\0<a/\0<b:=by
 unfold xI at h
 split at h
 ·cases h
 ·rename_i c hc
  have hc0:c≠0:=λe=>hc (by rw[e])
  cases hb:Nat.beq (2^Nat.log2 (2^(Nat.log2 c+1)-c)) (2^(Nat.log2 c+1)-c)with
  |false=>simp[hb]at h
  |true=>
   simp only[hb,cond_true,Option.some.injEq,Prod.mk.injEq]at h
   obtain⟨rfl,rfl⟩:=h
   have e:=Nat.eq_of_beq_eq_true hb
   have hlt:c<2^(Nat.log2 c+1):=Nat.lt_log2_self
   have hp:0<2^Nat.log2 (2^(Nat.log2 c+1)-c):=Nat.two_pow_pos _
   refine⟨Nat.log2 (2^(Nat.log2 c+1)-c),Nat.log2 c+1,?_,?_,?_,?_,?_,?_⟩
   ·rcases Nat.lt_or_ge (Nat.log2 c+1) (Nat.log2 (2^(Nat.log2 c+1)-c))with ad|ad
    ·have:=Nat.pow_lt_pow_right (a:=2) (by omega) ad
     omega
    ·exact ad
   ·rw[<-e];simp
   ·simp
   ·have:((2^(Nat.log2 c+1)-c:Nat):Int)=((2^(Nat.log2 c+1):Nat):Int)-(c:Int):=by omega
    simp only[Int.ofNat_eq_natCast]
    omega
   ·omega
   ·have:0<2^(Nat.log2 c+1):=Nat.two_pow_pos _
    omega
 ·cases h
def andM (x:aP) (a b:Int):M aP:=
 bind (mu x a) λp=>bind (mu x b) λq=>
  pure ⟨(p.l.smul a).sub (q.l.smul b),cond (q.lo==q.hi) (a*p.lo-b*q.lo) 0,cond (q.lo==q.hi) (a*p.hi-b*q.lo) (b-a)⟩
theorem Ky {x:aP} {i j:Nat} (h8:i<=j) (hx:x.ok n ρ) (h0:0<=x.lo):ae S L (andM x (2^i) (2^j)) n ρ λaa n' q=>q.ok n' aa/\q.l.den aa=((x.l.den ρ).toNat&&&(2^j-2^i):Nat):=by
 have hi:(0:Int)<2^i:=by have:=Nat.two_pow_pos i;exact_mod_cast this
 have hj:(0:Int)<2^j:=by have:=Nat.two_pow_pos j;exact_mod_cast this
 refine(tF hi hx).bind λaj n1 p cD bG ⟨hp,ep,_,_⟩=>?_
 refine(tF hj (hx.agree bG cD)).bind λaL cq q bZ bM ⟨hq,eq,_,_⟩=>ae.pure ?_
 rw[I.aQ bG hx.1]at eq
 have se:=hp.agree bM bZ
 have LF:p.l.den aL=x.l.den ρ/2^i:=by rw[I.aQ bM hp.1,ep]
 obtain⟨X,aX⟩:=Int.eq_ofNat_of_zero_le (show 0<=x.l.den ρ by have:=hx.2.1;omega)
 have e:((p.l.smul (2^i)).sub (q.l.smul (2^j))).den aL=((x.l.den ρ).toNat&&&(2^j-2^i):Nat):=by
  rw[I.gM,I.hP,I.hP,LF,eq,aX,Int.toNat_natCast,Kz X i j h8]
  have h1:2^j*(X/2^j)<=2^i*(X/2^i):=by
   have e3:X/2^j=X/2^i/2^(j-i):=by rw[Nat.div_div_eq_div_mul,<-Nat.pow_add];congr 2;omega
   have dL:2^j=2^i*2^(j-i):=by rw[<-Nat.pow_add];congr 1;omega
   rw[e3]
   conv=>lhs;rw[dL,Nat.mul_assoc]
   exact Nat.mul_le_mul_left _ (Nat.mul_div_le _ _)
  rw[Int.ofNat_sub h1]
  simp
 refine⟨⟨I.o4 (I.o3 se.1) (I.o3 hq.1),?_,?_⟩,e⟩
 ·cases hc:(q.lo==q.hi)with
  |true=>
   have hc:q.lo=q.hi:=by simpa using hc
   have h1:q.l.den aL=q.lo:=by have:=hq.2;omega
   simp only[cond_true,I.gM,I.hP,h1]
   have:=Int.mul_le_mul_of_nonneg_left se.2.1 (Int.le_of_lt hi);omega
  |false=>simp only[cond_false,e];omega
 ·cases hc:(q.lo==q.hi)with
  |true=>
   have hc:q.lo=q.hi:=by simpa using hc
   have h1:q.l.den aL=q.lo:=by have:=hq.2;omega
   simp only[cond_true,I.gM,I.hP,h1]
   have:=Int.mul_le_mul_of_nonneg_left se.2.2 (Int.le_of_lt hi);omega
  |false=>
   simp only[cond_false,e]
   have h2:(x.l.den ρ).toNat&&&(2^j-2^i)<=2^j-2^i:=Nat.and_le_right
   have h3:2^i<=2^j:=Nat.pow_le_pow_right (by omega) h8
   have h4:((2^j-2^i:Nat):Int)=2^j-2^i:=by rw[Int.ofNat_sub h3];simp
   omega
end
end Go.aZ
namespace Go.aZ
open M
def iI (c:Int) (g:Nat):Option Addr:=
 if c=-1 then none else match ab (g:Int)with
  |[[b,o,s]]=>some ⟨b.toNat,o.toNat,if s<0 then none else some s.toNat⟩
  |_=>some ⟨0,0,none⟩
theorem Uh (c:Int) (g:Nat):(iI c g).isNone=decide (c=-1):=by
 unfold iI
 split
 ·rename_i h;simp[h]
 ·rename_i h
  split<;>simp[h]
theorem C3 (p:Option Addr):∃c g,(-2<=c/\c<0)/\iI c g=p:=by
 cases p with
 |none=>exact⟨-1,0,by decide,rfl⟩
 |some a=>
  obtain⟨b,o,s⟩:=a
  have key:∀z:Int,∃c g,(-2<=c/\c<0)/\iI c g=some ⟨b,o,if z<0 then none else some z.toNat⟩:=λz=>by
   have h:=cL [[(b:Int),(o:Int),z]]
   refine⟨-2,(rc [[(b:Int),(o:Int),z]]).toNat,by decide,?_⟩
   unfold iI
   rw[if_neg (by decide),Int.toNat_of_nonneg h,dD]
   simp
  cases s with
  |none=>exact key (-1)
  |some k=>have:=key k;rwa [if_neg (by omega),Int.toNat_natCast]at this
def A.den (ρ:Env) (m:Nat->Nat):A->Value
 | .int k x=> .int k (x.l.den ρ)
 | .bool b=> .bool (b.den ρ)
 | .ptr b off=> .pointer (some ⟨m b,off,none⟩)
 | .gY b off ar=> .pointer (some ⟨m b,off+(ar.l.den ρ).toNat,none⟩)
 | .gptr g off=> .pointer (some ⟨g,off,none⟩)
 | .rP g off ar=> .pointer (some ⟨g,off+(ar.l.den ρ).toNat,none⟩)
 | .slc b off len cap=> .slice (some ⟨m b,off,none⟩) len cap
 | .con v=>v
 | .str l=> .string (aH (J (l.den ρ)))
 | .rows _ _ code _ _=> .int .u8 (code.den ρ)
 | .sl b ay o ro len cap=>if cap.den ρ<0 then .slice (iI (cap.den ρ) (m b)) 0 0 else .slice (some ⟨m b,(o.den ρ).toNat+(ro.den ρ).toNat*ay,none⟩) (len.den ρ).toNat (cap.den ρ).toNat
 | .ep b ay o i j=> .pointer (some ⟨m b,(o.den ρ).toNat+(i.den ρ).toNat*ay+j,none⟩)
def qU (o ro len cap:Int):Prop:=(0<=o/\0<=ro/\0<=len/\len<=9223372036854775807)/\(-2<=cap/\ro+cap<=9223372036854775807)/\(cap<0->len=0)/\(0<=cap->len<=cap)
def A.ok (n nb:Nat) (ρ:Env):A->Prop
 | .int _ x=>x.ok n ρ
 | .bool b=>b.aC n
 | .ptr b _=>b<nb
 | .gY b _ ar=>b<nb/\ar.ok n ρ/\0<=ar.lo
 | .gptr .. =>True
 | .rP _ _ ar=>ar.ok n ρ/\0<=ar.lo
 | .slc b .. =>b<nb
 | .con v=>v.oneCell'=true
 | .str l=>l.aC n/\0<=l.den ρ/\l.den ρ<=aO
 | .rows _ off code cap _=>(off.aC n/\code.aC n/\cap.aC n)/\(0<=code.den ρ/\code.den ρ<=aF)/\-2<=cap.den ρ/\cap.den ρ<=9223372036854775807
 | .sl b _ o ro len cap=>b<nb/\(o.aC n/\ro.aC n/\len.aC n/\cap.aC n)/\qU (o.den ρ) (ro.den ρ) (len.den ρ) (cap.den ρ)
 | .ep b _ o i _=>b<nb/\(o.aC n/\i.aC n)/\0<=o.den ρ/\0<=i.den ρ
theorem A.ok.ext {n n' nb fh:Nat} {ρ aa:Env} {a:A} (h:a.ok n nb ρ) (ha:agree n ρ aa) (hn:n<=n') (hb:nb<=fh):a.ok n' fh aa:=by
 cases a<;>simp only[A.ok]at h⊢
 ·exact h.agree ha hn
 ·exact aD.aC.mono hn h
 ·omega
 ·exact⟨by omega,h.2.1.agree ha hn,h.2.2⟩
 ·exact⟨h.1.agree ha hn,h.2⟩
 ·omega
 ·exact h
 ·exact⟨h.1.mono hn,by rw[I.aQ ha h.1];exact h.2⟩
 ·obtain⟨⟨h1,h2,h3⟩,h4⟩:=h
  exact⟨⟨h1.mono hn,h2.mono hn,h3.mono hn⟩,by rw[I.aQ ha h2,I.aQ ha h3];exact h4⟩
 ·obtain⟨h1,⟨h2,h3,h4,h5⟩,h6⟩:=h
  exact⟨by omega,⟨h2.mono hn,h3.mono hn,h4.mono hn,h5.mono hn⟩,by rw[I.aQ ha h2,I.aQ ha h3,I.aQ ha h4,I.aQ ha h5];exact h6⟩
 ·obtain⟨h1,⟨h2,h3⟩,h4⟩:=h
  exact⟨by omega,⟨h2.mono hn,h3.mono hn⟩,by rw[I.aQ ha h2,I.aQ ha h3];exact h4⟩
theorem A.fV {n nb:Nat} {ρ aa:Env} {m m':Nat->Nat} {a:A} (h:a.ok n nb ρ) (ha:agree n ρ aa) (hm:∀b,b<nb->m' b=m b):a.den aa m'=a.den ρ m:=by
 cases a<;>simp only[A.ok]at h<;>simp only[A.den]
 ·rw[I.aQ ha h.1]
 ·rw[aD.aQ ha h]
 ·rw[hm _ h]
 ·rw[hm _ h.1,I.aQ ha h.2.1.1]
 ·rw[I.aQ ha h.1.1]
 ·rw[hm _ h]
 ·rw[I.aQ ha h.1]
 ·rw[I.aQ ha h.1.2.1]
 ·obtain⟨h1,⟨h2,h3,h4,h5⟩,h6⟩:=h
  rw[hm _ h1,I.aQ ha h2,I.aQ ha h3,I.aQ ha h4,I.aQ ha h5]
 ·rw[hm _ h.1,I.aQ ha h.2.1.1,I.aQ ha h.2.1.2]
theorem A.xS {n nb:Nat} {ρ:Env} {m:Nat->Nat} {a:A} (h:a.ok n nb ρ):(a.den ρ m).oneCell'=true:=by
 cases a<;>first|rfl|exact h|(simp only[A.den];split<;>rfl)
def W.den (ρ:Env) (m:Nat->Nat):W->Value
 | .one a=>a.den ρ m
 | .agg l=> .agg (l.map (A.den ρ m)).toArray
def W.ok (n nb:Nat) (ρ:Env):W->Prop
 | .one a=>a.ok n nb ρ
 | .agg l=>∀a∈l,a.ok n nb ρ
theorem W.ok.ext {n n' nb fh:Nat} {ρ aa:Env} {x:W} (h:x.ok n nb ρ) (ha:agree n ρ aa) (hn:n<=n') (hb:nb<=fh):x.ok n' fh aa:=by
 cases x with
 |one a=>exact A.ok.ext h ha hn hb
 |agg l=>exactλa h'=>(h a h').ext ha hn hb
theorem jX {n nb:Nat} {ρ aa:Env} {m m':Nat->Nat} {l:List A} (h:∀a∈l,a.ok n nb ρ) (ha:agree n ρ aa) (hm:∀b,b<nb->m' b=m b):l.map (A.den aa m')=l.map (A.den ρ m):=
 List.map_congr_left λa h'=>A.fV (h a h') ha hm
theorem W.fV {n nb:Nat} {ρ aa:Env} {m m':Nat->Nat} {x:W} (h:x.ok n nb ρ) (ha:agree n ρ aa) (hm:∀b,b<nb->m' b=m b):x.den aa m'=x.den ρ m:=by
 cases x with
 |one a=>exact A.fV h ha hm
 |agg l=>simp only[W.den,jX h ha hm]
def V.rel (ρ:Env) (m:Nat->Nat):V->Value->Prop
 | .w x,v=>v=x.den ρ m
 | .dg l,v=>v= .tuple (l.map (W.den ρ m)).toArray
 | .any,_=>True
 | .iD b len lo,v=>∃c:Nat,lo<=c/\v= .slice (some ⟨m b,0,none⟩) len c
 | .jg f ee,v=>v= .func (.func f) #[] (ee.map (A.den ρ m)).toArray
def V.ok (n nb:Nat) (ρ:Env):V->Prop
 | .w x=>x.ok n nb ρ
 | .dg l=>∀x∈l,x.ok n nb ρ
 | .any=>True
 | .iD b _ _=>b<nb
 | .jg _ ee=>∀a∈ee,A.ok n nb ρ a
theorem V.ok.ext {n n' nb fh:Nat} {ρ aa:Env} {x:V} (h:x.ok n nb ρ) (ha:agree n ρ aa) (hn:n<=n') (hb:nb<=fh):x.ok n' fh aa:=by
 cases x with
 |w x=>exact W.ok.ext h ha hn hb
 |dg l=>exactλa h'=>(h a h').ext ha hn hb
 |any=>trivial
 |iD b len lo=>exact Nat.lt_of_lt_of_le h hb
 |jg f ee=>exactλa h'=>(h a h').ext ha hn hb
theorem V.rel.ext {n nb:Nat} {ρ aa:Env} {m m':Nat->Nat} {x:V} {v:Value} (hr:x.rel ρ m v) (h:x.ok n nb ρ) (ha:agree n ρ aa) (hm:∀b,b<nb->m' b=m b):x.rel aa m' v:=by
 cases x with
 |w x=>simp only[V.rel]at hr⊢;rw[W.fV h ha hm];exact hr
 |dg l=>simp only[V.rel]at hr⊢;rw[hr];congr 2;exact(List.map_congr_left λa h'=>W.fV (h a h') ha hm).symm
 |any=>trivial
 |iD b len lo=>obtain⟨c,h1,h2⟩:=hr;exact⟨c,h1,by rw[hm b h];exact h2⟩
 |jg f ee=>simp only[V.rel]at hr⊢;rw[hr];congr 2;exact(List.map_congr_left λa h'=>A.fV (h a h') ha hm).symm
section
variable {S:Nat->List Int->List Int->Prop} {L:V->Env->Prop} {n:Nat} {ρ:Env}
def vV (s:Int):List (Int×Nat)->Bool
 |[]=>true
 |(k,_)::r=>k% s==0&&vV s r
theorem DS {s:Int} (ρ:Env):∀{l},vV s l=true->dK ρ l% s=0
 |[],_=>by simp[dK]
 |(k,i)::r,h=>by
  simp only[vV,Bool.and_eq_true,beq_iff_eq]at h
  have h1:=DS ρ h.2
  obtain⟨c,hc⟩:=Int.dvd_of_emod_eq_zero h.1
  obtain⟨d,hd⟩:=Int.dvd_of_emod_eq_zero h1
  simp only[dK,hc,hd,Int.mul_assoc]
  rw[<-Int.mul_add];exact Int.mul_emod_right _ _
def I.m9 (s:Int) (l:I):Bool:=l.c% s==0&&vV s l.ts
theorem I.yW {s:Int} (ρ:Env) {l:I} (h:l.m9 s=true):l.den ρ% s=0:=by
 simp only[m9,Bool.and_eq_true,beq_iff_eq]at h
 have h1:=DS ρ h.2
 obtain⟨c,hc⟩:=Int.dvd_of_emod_eq_zero h.1
 obtain⟨d,hd⟩:=Int.dvd_of_emod_eq_zero h1
 simp only[den,hc,hd]
 rw[<-Int.mul_add];exact Int.mul_emod_right _ _
def oc (h:Int):Nat:=2^(Nat.log2 h.toNat+1)
theorem DQ {x h:Int} (hx:x<=h) (h0:0<=x):x<(oc h:Int):=by
 have:h.toNat<2^(Nat.log2 h.toNat+1):=Nat.lt_log2_self
 unfold oc;omega
theorem bT {c:Bool} {α:Type} {x:M α} {R:Env->Nat->α->Prop} (h:c=true->ae S L x n ρ R):ae S L (cond c x fail) n ρ R:=by
 cases c with
 |true=>exact h rfl
 |false=>exact ae.fail
def lim (k:IntKind):Int:=two k-half k
theorem xD (k:IntKind):lim k<=two k:=by cases k<;>decide
theorem PN (k:IntKind):∃i:Nat,lim k=2^i/\i<=k.bits:=by cases k<;>first|exact⟨7,by decide,by decide⟩|exact⟨8,by decide,by decide⟩|exact⟨15,by decide,by decide⟩|exact⟨16,by decide,by decide⟩|exact⟨31,by decide,by decide⟩|exact⟨32,by decide,by decide⟩|exact⟨63,by decide,by decide⟩|exact⟨64,by decide,by decide⟩
def vU (x:I):List Nat->Nat
 |[]=>1
 |i::r=>cond (x.m9 (2^i)) (2^i) (vU x r)
def orM (k:IntKind) (x y:aP):M aP:=
 cond (!(decide (0<=x.lo)&&decide (0<=y.lo)&&decide (x.hi<lim k)&&decide (y.hi<lim k))) (cond (decide (0<=x.lo)&&decide (x.hi<lim k)) (
  let s:=vU x.l [24,18,16,12,8,6,4]
  cond (x.l.m9 s&&decide (y.hi<lim k)&&decide (x.hi+s<lim k)) (bind (cF 30 [y.l,.const s]) λ_=>pure ⟨x.l.add y.l,x.lo,x.hi+s⟩) fail) fail) <|
 cond (x.l.m9 (oc y.hi)) (pure ⟨x.l.add y.l,x.lo+y.lo,cond (decide (x.hi+y.hi<two k)) (x.hi+y.hi) (two k-1)⟩) <|
 cond (y.l.m9 (oc x.hi)) (pure ⟨x.l.add y.l,x.lo+y.lo,cond (decide (x.hi+y.hi<two k)) (x.hi+y.hi) (two k-1)⟩) (rm .or k x y)
theorem BQ {X Y s:Nat} (hs:∃i,s=2^i) (hx:X% s=0) (hy:Y<s):X|||Y=X+Y:=by
 obtain⟨i,rfl⟩:=hs
 have e:=Nat.div_add_mod X (2^i)
 rw[hx,Nat.add_zero]at e
 rw[<-e,<-Nat.two_pow_add_eq_or_of_lt hy]
theorem C0 {k:IntKind} {z:Int} (h0:0<=z) (h1:z<lim k):k.wrap z=z:=by
 rw[yz]
 have ad:0<=half k:=by cases k<;>decide
 unfold lim at h1
 rw[Int.emod_eq_of_lt (by omega) (by omega)]
 omega
theorem D7 {k:IntKind} {x y:Int} (hx:0<=x) (hy:0<=y) (hx2:x<lim k) (A5:y<lim k):eS .or k x y=((x.toNat|||y.toNat:Nat):Int):=by
 have hl:=xD k
 have hx3:x<2^k.bits:=by rw[<-mZ];omega
 have A6:y<2^k.bits:=by rw[<-mZ];omega
 obtain⟨i,hi,_⟩:=PN k
 obtain⟨X,rfl⟩:=Int.eq_ofNat_of_zero_le hx
 obtain⟨Y,rfl⟩:=Int.eq_ofNat_of_zero_le hy
 have aX:X<2^i:=by rw[hi]at hx2;exact_mod_cast hx2
 have pW:Y<2^i:=by rw[hi]at A5;exact_mod_cast A5
 have h1:X|||Y<2^i:=Nat.or_lt_two_pow aX pW
 unfold eS
 simp only
 rw[KO,Int.emod_eq_of_lt hx hx3,Int.emod_eq_of_lt hy A6]
 simp only[Int.toNat_natCast]
 exact C0 (by omega) (by rw[hi];exact_mod_cast h1)
theorem D6 {k:IntKind} {x y:Int} (hx:0<=x) (hy:0<=y) (hx2:x<lim k) (A5:y<two k):eS .and k x y=((x.toNat&&&y.toNat:Nat):Int):=by
 have hl:=xD k
 have hx3:x<2^k.bits:=by rw[<-mZ];omega
 have A6:y<2^k.bits:=by rw[<-mZ];omega
 obtain⟨X,rfl⟩:=Int.eq_ofNat_of_zero_le hx
 obtain⟨Y,rfl⟩:=Int.eq_ofNat_of_zero_le hy
 have h1:X&&&Y<=X:=Nat.and_le_left
 unfold eS
 simp only
 rw[bv_and,Int.emod_eq_of_lt hx hx3,Int.emod_eq_of_lt hy A6]
 simp only[Int.toNat_natCast]
 exact C0 (by omega) (by omega)
theorem toNat_mod {x:Int} {s:Nat} (hx:0<=x) (h:x% (s:Int)=0):x.toNat% s=0:=by
 obtain⟨X,rfl⟩:=Int.eq_ofNat_of_zero_le hx
 simp only[Int.toNat_natCast]
 exact_mod_cast h
theorem Q9 {k:IntKind} {x y:aP} (hx:x.ok n ρ) (hy:y.ok n ρ):ae S L (orM k x y) n ρ λaa n' q=>q.ok n' aa/\q.l.den aa=eS .or k (x.l.den ρ) (y.l.den ρ):=by
 unfold orM
 cases hc:(!(decide (0<=x.lo)&&decide (0<=y.lo)&&decide (x.hi<lim k)&&decide (y.hi<lim k)))with
 |true=>
  simp only[cond_true]
  refine bT λh1=>bT λh2=>dm λh3=>ae.pure ?_
  simp only[Bool.and_eq_true,decide_eq_true_eq]at h1 h2
  simp only[List.map_cons,List.map_nil,az,I.aA]at h3
  obtain⟨⟨h4,h6⟩,h5⟩:=h2
  have rq:=hx.2;have Ee:=hy.2
  generalize hs:vU x.l [24,18,16,12,8,6,4]=s at*
  have hm:=I.yW ρ h4
  have N6:∃i,s=2^i:=by
   rw[<-hs]
   generalize [24,18,16,12,8,6,4]=l
   induction l with
   |nil=>exact⟨0,rfl⟩
   |cons i r ih=>
    unfold vU
    cases x.l.m9 (2^i)with
    |true=>exact⟨i,rfl⟩
    |false=>exact ih
  have e:x.l.den ρ+y.l.den ρ=eS .or k (x.l.den ρ) (y.l.den ρ):=by
   rw[D7 (by omega) h3.1 (by omega) (by omega),BQ N6 (toNat_mod (by omega) hm) (by omega)];omega
  exact⟨⟨I.n3 hx.1 hy.1,by simp only[I.den_add];omega,by simp only[I.den_add];omega⟩,by rw[I.den_add];exact e⟩
 |false=>
  simp only[Bool.not_eq_false',Bool.and_eq_true,decide_eq_true_eq]at hc
  obtain⟨⟨⟨h1,h2⟩,nr⟩,UG⟩:=hc
  have sa:=xD k
  have h3:x.hi<two k:=by omega
  have h4:y.hi<two k:=by omega
  have rq:=hx.2;have Ee:=hy.2
  have hb:=D7 (k:=k) (x:=x.l.den ρ) (y:=y.l.den ρ) (by omega) (by omega) (by omega) (by omega)
  have hlt:eS .or k (x.l.den ρ) (y.l.den ρ)<two k:=by
   have e1:x.l.den ρ<2^k.bits:=by rw[<-mZ];omega
   have e2:y.l.den ρ<2^k.bits:=by rw[<-mZ];omega
   have h1:(x.l.den ρ).toNat|||(y.l.den ρ).toNat<2^k.bits:=Nat.or_lt_two_pow (by
    have:(x.l.den ρ).toNat=x.l.den ρ:=by omega
    exact_mod_cast (show((x.l.den ρ).toNat:Int)<2^k.bits by omega)) (by exact_mod_cast (show((y.l.den ρ).toNat:Int)<2^k.bits by omega))
   rw[hb,mZ]
   exact_mod_cast h1
  have ok:∀q:Int,q=eS .or k (x.l.den ρ) (y.l.den ρ)->x.l.den ρ+y.l.den ρ=q->(aP.mk (x.l.add y.l) (x.lo+y.lo) (cond (decide (x.hi+y.hi<two k)) (x.hi+y.hi) (two k-1))).ok n ρ:=λq sg mD=>⟨I.n3 hx.1 hy.1,by simp only[I.den_add];omega,by
   simp only[I.den_add]
   cases hd:decide (x.hi+y.hi<two k)with
   |true=>simp only[cond_true];omega
   |false=>simp only[cond_false];omega⟩
  simp only[cond_false]
  cases h5:x.l.m9 (oc y.hi)with
  |true=>
   have hm:=I.yW ρ h5
   have hl:=DQ Ee.2 (by omega)
   have hs:x.l.den ρ+y.l.den ρ=eS .or k (x.l.den ρ) (y.l.den ρ):=by
    rw[hb,BQ (s:=oc y.hi) ⟨_,rfl⟩ (toNat_mod (by omega) hm) (by omega)];omega
   exact ae.pure ⟨ok _ rfl hs,by rw[I.den_add];exact hs⟩
  |false=>
   simp only[cond_false]
   cases h6:y.l.m9 (oc x.hi)with
   |true=>
    have hm:=I.yW ρ h6
    have hl:=DQ rq.2 (by omega)
    have hs:x.l.den ρ+y.l.den ρ=eS .or k (x.l.den ρ) (y.l.den ρ):=by
     rw[hb,Nat.or_comm,BQ (s:=oc x.hi) ⟨_,rfl⟩ (toNat_mod (by omega) hm) (by omega)];omega
    exact ae.pure ⟨ok _ rfl hs,by rw[I.den_add];exact hs⟩
   |false=>exact wg
def vY (k:IntKind) (x:aP) (c:Int):M aP:=
 match xI c with
 |some (a,b)=>cond (!(decide (0<=x.lo)&&decide (x.hi<lim k)&&decide (c<two k)&&decide (0<=c))) fail (andM x a b)
 |none=>cond (c==0&&decide (0<=x.lo)&&decide (x.hi<lim k)) (pure (.const 0)) fail
theorem DW {k:IntKind} {x:aP} {c:Int} (hx:x.ok n ρ):ae S L (vY k x c) n ρ λaa n' q=>q.ok n' aa/\q.l.den aa=eS .and k (x.l.den ρ) c:=by
 unfold vY
 have rq:=hx.2
 cases hm:xI c with
 |some p=>
  obtain⟨a,b⟩:=p
  simp only
  cases hc:(!(decide (0<=x.lo)&&decide (x.hi<lim k)&&decide (c<two k)&&decide (0<=c)))with
  |true=>exact ae.fail
  |false=>
   simp only[Bool.not_eq_false',Bool.and_eq_true,decide_eq_true_eq]at hc
   obtain⟨⟨⟨h1,h2⟩,h3⟩,h4⟩:=hc
   obtain⟨i,j,h8,rfl,rfl,hce,_,_⟩:=Qh hm
   refine(Ky h8 hx h1).mono λaa n' q _ _ ⟨ho,he⟩=>⟨ho,?_⟩
   rw[he,D6 (by omega) h4 (by omega) h3]
   congr 2
   have h3:2^i<=2^j:=Nat.pow_le_pow_right (by omega) h8
   have h5:((2^j-2^i:Nat):Int)=2^j-2^i:=by rw[Int.ofNat_sub h3];simp
   omega
 |none=>
  simp only
  cases hc:(c==0&&decide (0<=x.lo)&&decide (x.hi<lim k))with
  |false=>exact ae.fail
  |true=>
   simp only[Bool.and_eq_true,beq_iff_eq,decide_eq_true_eq]at hc
   obtain⟨⟨rfl,h1⟩,h2⟩:=hc
   refine ae.pure ⟨aP.iu _ _ _,?_⟩
   rw[D6 (by omega) (Int.le_refl _) (by omega) (by cases k<;>decide)]
   simp[aP.const,I.aA]
theorem KJ (k:IntKind) (x y:Int):eS .and k x y=eS .and k y x:=by simp only[eS,BitVec.and_comm]
def yZ (k:IntKind) (x y:aP):M aP:=
 match y.l.bS,x.l.bS with
 |some c,_=>vY k x c
 |none,some c=>vY k y c
 |none,none=>rm .and k x y
theorem Kx {k:IntKind} {x y:aP} (hx:x.ok n ρ) (hy:y.ok n ρ):ae S L (yZ k x y) n ρ λaa n' q=>q.ok n' aa/\q.l.den aa=eS .and k (x.l.den ρ) (y.l.den ρ):=by
 unfold yZ
 cases h1:y.l.bS with
 |some c=>simp only[I.er h1];exact DW hx
 |none=>
  cases h2:x.l.bS with
  |some c=>simp only[I.er h2];rw[KJ];exact DW hy
  |none=>exact wg
def Cy (x y:aP):M aP:=λn k=> .shr n x.l y.l 0 x.hi (k ⟨.var n,0,x.hi⟩ (n+1))
theorem SG {x y:aP} (hx:x.ok n ρ) (h0:0<=x.lo):ae S L (Cy x y) n ρ λaa n' q=>q.ok n' aa/\q.l.den aa=x.l.den ρ/2^(y.l.den ρ).toNat:=by
 intro A k hk
 simp only[Cy,T.holds]at hk
 have hp:(0:Int)<2^(y.l.den ρ).toNat:=by have:=Nat.two_pow_pos (y.l.den ρ).toNat;exact_mod_cast this
 have b0:0<=x.l.den ρ:=by have:=hx.2;omega
 have a1:0<=x.l.den ρ/2^(y.l.den ρ).toNat:=Int.ediv_nonneg b0 (Int.le_of_lt hp)
 have a2:x.l.den ρ/2^(y.l.den ρ).toNat<=x.hi:=Int.le_trans (Int.ediv_le_self _ b0) hx.2.2
 exact⟨_,n+1,_,Nat.le_succ _,agree.bF _ _ _,⟨⟨I.cA (Nat.lt_succ_self n),by simp only[I.bc,eB];exact a1,by simp only[I.bc,eB];exact a2⟩,by simp only[I.bc,eB]⟩,hk _ a1 a2 rfl⟩
def isInt (k:IntKind) (x:M aP):M A:=bind x λr=>pure (.int k r)
def oV (x:aP):M aP:=cond (decide (0<=x.lo)) (pure x) (bind (cF 77 [x.l]) λ_=>pure ⟨x.l,0,x.hi⟩)
def BH (x y:aP):M aP:=match x.l.bS,y.l.bS with
 |none,none=>bind (oV x) λx=>bind (oV y) λy=>mulM x y
 |_,_=>mulM x y
def y3 (op:BinOp) (k:IntKind) (x:aP) (aE:IntKind) (y:aP):M A:=
 match op with
 | .shl=>match y.l.bS with
  |some c=>cond (decide (0<=c)) (let s:Int:=2^min c.toNat k.bits;isInt k (m1 k ⟨x.l.smul s,x.lo*s,x.hi*s⟩)) fail
  |none=>cond (decide (0<=x.lo)&&decide (0<=y.lo)&&decide (y.hi<=62)&&decide (x.hi*2^y.hi.toNat<lim k)) (isInt k (bind (ck 37 [x.l,y.l] 0 (x.hi*2^y.hi.toNat)) λl=>pure ⟨l,0,x.hi*2^y.hi.toNat⟩)) fail
 | .shr=>match y.l.bS with
  |some c=>cond (decide (0<=c)) (isInt k (mu x (2^min c.toNat k.bits))) fail
  |none=>cond (decide (0<=x.lo)&&decide (0<=y.lo)&&decide (y.hi<=(k.bits:Int))) (isInt k (Cy x y)) fail
 | .add=>cond (decide (k=aE)) (isInt k (m1 k ⟨x.l.add y.l,x.lo+y.lo,x.hi+y.hi⟩)) fail
 | .sub=>cond (decide (k=aE)) (isInt k (m1 k ⟨x.l.sub y.l,x.lo-y.hi,x.hi-y.lo⟩)) fail
 | .mul=>cond (decide (k=aE)) (isInt k (bind (BH x y) (m1 k))) fail
 | .quo=>match y.l.bS with
  |some c=>cond (decide (k=aE)&&decide (0<c)) (bind (oV x) λx=>isInt k (bind (mu x c) (m1 k))) fail
  |none=>cond (decide (k=aE)) (bind (oV x) λx=>bind (cF 36 [y.l]) λ_=>isInt k (bind (bind (ck 76 [x.l,y.l] 0 x.hi) λl=>pure ⟨l,0,x.hi⟩) (m1 k))) fail
 | .rem=>match y.l.bS with
  |some c=>cond (decide (k=aE)&&decide (0<c)) (bind (oV x) λx=>isInt k (BG x c)) fail
  |none=>cond (decide (k=aE)) (bind (oV x) λx=>bind (cF 36 [y.l]) λ_=>isInt k (bind (ck 38 [x.l,y.l] 0 (cond (decide (y.hi-1<=x.hi)) (y.hi-1) x.hi)) λl=>pure ⟨l,0,cond (decide (y.hi-1<=x.hi)) (y.hi-1) x.hi⟩)) fail
 | .and=>cond (decide (k=aE)) (isInt k (yZ k x y)) fail
 | .or=>cond (decide (k=aE)) (isInt k (orM k x y)) fail
 | .xor=>cond (decide (k=aE)) (isInt k (rm .xor k x y)) fail
 | .andNot=>cond (decide (k=aE)) (isInt k (rm .andNot k x y)) fail
 | .eql=>cond (decide (k=aE)) (pure (.bool (.mkEq x y))) fail
 | .neq=>cond (decide (k=aE)) (pure (.bool (.mkNot (.mkEq x y)))) fail
 | .lss=>cond (decide (k=aE)) (pure (.bool (.mkLt x y))) fail
 | .leq=>cond (decide (k=aE)) (pure (.bool (.mkLe x y))) fail
 | .gtr=>cond (decide (k=aE)) (pure (.bool (.mkLt y x))) fail
 | .geq=>cond (decide (k=aE)) (pure (.bool (.mkLe y x))) fail
theorem jz {k:IntKind} {x:M aP} {R:Env->Nat->A->Prop} {v:Int} (h:ae S L x n ρ λaa n' q=>q.ok n' aa/\q.l.den aa=v)
 (hR:∀aa n' (q:aP),n<=n'->agree n ρ aa->q.ok n' aa->q.l.den aa=v->R aa n' (.int k q)):ae S L (isInt k x) n ρ R:=
 h.bind λaa n' q hn ha ⟨ho,he⟩=>ae.pure (hR aa n' q hn ha ho he)
theorem sN {x:aP} (hx:x.ok n ρ):ae S L (oV x) n ρ λaa n' q=>q.ok n' aa/\q.l=x.l/\q.hi=x.hi/\0<=q.lo/\x.l.den aa=x.l.den ρ:=by
 unfold oV
 cases h:decide (0<=x.lo)with
 |true=>exact ae.pure ⟨hx,rfl,rfl,of_decide_eq_true h,rfl⟩
 |false=>
  refine dm λhk=>ae.pure ⟨⟨hx.1,?_,hx.2.2⟩,rfl,rfl,Int.le_refl _,rfl⟩
  simpa [az,wA]using hk
theorem Qo {x y:aP} (hx:x.ok n ρ) (hy:y.ok n ρ):ae S L (BH x y) n ρ λaa n' q=>q.ok n' aa/\q.l.den aa=x.l.den ρ*y.l.den ρ:=by
 unfold BH
 split
 ·refine(sN hx).bind λaj n1 du cD bG ⟨ey,ex,_,_,kh⟩=>(sN (hy.agree bG cD)).bind λaL cq fl bZ bM ⟨A4,LI,_,_,LJ⟩=>(HL (ey.agree bM bZ) A4).mono λdq jA q _ _ ⟨h1,h2⟩=>⟨h1,?_⟩
  rw[h2,LI,LJ,I.aQ bG hy.1,I.aQ bM ey.1,ex,kh]
 ·exact HL hx hy
theorem KI {nb:Nat} {m:Nat->Nat} (P:Program) {op:BinOp} {k aE:IntKind} {x y:aP} (t:TypeId) (hx:x.ok n ρ) (hy:y.ok n ρ):
 ae S L (y3 op k x aE y) n ρ λaa n' a=>a.ok n' nb aa/\∀w,(binOp op t (.int k (x.l.den ρ)) (.int aE (y.l.den ρ))).run P w= .ok (a.den aa m) w:=by
 have bd:∀s:Nat,(0:Int)<2^s:=λs=>by have:=Nat.two_pow_pos s;exact_mod_cast this
 cases op<;>simp only[y3]
 case shl=>
  cases hc:y.l.bS with
  |none=>
   refine bT λh0=>?_
   simp only[Bool.and_eq_true,decide_eq_true_eq]at h0
   obtain⟨⟨⟨h1,h2⟩,h3⟩,h4⟩:=h0
   have qk:=hx.2;have oJ:=hy.2
   have hp:=bd (y.l.den ρ).toNat
   have e1:(0:Int)<=x.l.den ρ*2^(y.l.den ρ).toNat:=Int.mul_nonneg (by omega) (Int.le_of_lt hp)
   have e2:x.l.den ρ*2^(y.l.den ρ).toNat<=x.hi*2^y.hi.toNat:=Int.mul_le_mul qk.2 (by
    have:=Nat.pow_le_pow_right (n:=2) (by decide) (show(y.l.den ρ).toNat<=y.hi.toNat by omega)
    exact_mod_cast this) (Int.le_of_lt hp) (by omega)
   have hf:af 37 ([x.l,y.l].map (·.den ρ))=x.l.den ρ*2^(y.l.den ρ).toNat:=rfl
   refine jz (v:=x.l.den ρ*2^(y.l.den ρ).toNat) ((cZ (by rw[hf];exact e1) (by rw[hf];exact e2)).bind λaj n1 l _ _ ⟨g1,g2⟩=>ae.pure ⟨⟨g1,by simp only;rw[g2,hf];exact e1,by simp only;rw[g2,hf];exact e2⟩,by simp only;rw[g2,hf]⟩) λaa n' q _ _ ho he=>⟨ho,λw=>?_⟩
   simp only[A.den,he,binOp,Op.shift]
   have MM:(y.l.den ρ).toNat<=k.bits∨x.l.den ρ=0:=by
    rcases Nat.le_total (y.l.den ρ).toNat k.bits with h|h
    ·exact .inl h
    ·refine .inr ?_
     have h5:x.l.den ρ*2^(y.l.den ρ).toNat<lim k:=by omega
     have h6:=xD k
     rw[mZ]at h6
     have h7:(2:Int)^k.bits<=2^(y.l.den ρ).toNat:=by
      have:=Nat.pow_le_pow_right (n:=2) (by decide) h
      exact_mod_cast this
     rcases Int.lt_or_le 0 (x.l.den ρ)with cJ|cJ
     ·have:(1:Int)*2^(y.l.den ρ).toNat<=x.l.den ρ*2^(y.l.den ρ).toNat:=Int.mul_le_mul_of_nonneg_right (by omega) (Int.le_of_lt hp)
      omega
     ·omega
   rw[if_neg (by omega)]
   rcases MM with h|h
   ·rw[show min (y.l.den ρ).toNat k.bits=(y.l.den ρ).toNat by omega]
    simp[C0 e1 (show x.l.den ρ*2^(y.l.den ρ).toNat<lim k by omega)]
   ·have hw:k.wrap 0=0:=by cases k<;>decide
    simp[h,hw]
  |some c=>
   refine bT λh0=>?_
   simp only[decide_eq_true_eq]at h0
   have hp:=bd (min c.toNat k.bits)
   refine jz (o9 (x:=⟨x.l.smul (2^min c.toNat k.bits),x.lo*2^min c.toNat k.bits,x.hi*2^min c.toNat k.bits⟩) ⟨I.o3 hx.1,?_,?_⟩) λaa n' q _ _ ho he=>⟨ho,λw=>?_⟩
   ·simp only[I.hP];rw[Int.mul_comm];exact Int.mul_le_mul_of_nonneg_left hx.2.1 (Int.le_of_lt hp)
   ·simp only[I.hP];rw[Int.mul_comm x.hi];exact Int.mul_le_mul_of_nonneg_left hx.2.2 (Int.le_of_lt hp)
   ·simp only[A.den,he,I.hP,I.er hc,binOp,Op.shift]
    rw[if_neg (by omega)]
    simp[Int.mul_comm]
 case shr=>
  cases hc:y.l.bS with
  |some c=>
   refine bT λh0=>?_
   simp only[decide_eq_true_eq]at h0
   have hp:=bd (min c.toNat k.bits)
   refine jz ((tF hp hx).mono λ_ _ q _ _ h=>⟨h.1,h.2.1⟩) λaa n' q _ _ ho he=>⟨ho,λw=>?_⟩
   simp only[A.den,he,I.er hc,binOp,Op.shift]
   rw[if_neg (by omega)]
   simp[Int.fdiv_eq_ediv_of_nonneg _ (Int.le_of_lt hp)]
  |none=>
   refine bT λh0=>?_
   simp only[Bool.and_eq_true,decide_eq_true_eq]at h0
   refine jz (SG hx h0.1.1) λaa n' q _ _ ho he=>⟨ho,λw=>?_⟩
   have oJ:=hy.2
   simp only[A.den,he,binOp,Op.shift]
   rw[if_neg (by omega),show min (y.l.den ρ).toNat k.bits=(y.l.den ρ).toNat by omega]
   simp[Int.fdiv_eq_ediv_of_nonneg _ (Int.le_of_lt (bd _))]
 case add=>
  refine bT λh0=>?_
  simp only[decide_eq_true_eq]at h0;subst h0
  have qk:=hx.2;have oJ:=hy.2
  refine jz (o9 (x:=⟨x.l.add y.l,x.lo+y.lo,x.hi+y.hi⟩) ⟨I.n3 hx.1 hy.1,by simp only[I.den_add];omega,by simp only[I.den_add];omega⟩) λaa n' q _ _ ho he=>⟨ho,λw=>?_⟩
  simp[A.den,he,I.den_add,binOp,Op.intArith]
 case sub=>
  refine bT λh0=>?_
  simp only[decide_eq_true_eq]at h0;subst h0
  have qk:=hx.2;have oJ:=hy.2
  refine jz (o9 (x:=⟨x.l.sub y.l,x.lo-y.hi,x.hi-y.lo⟩) ⟨I.o4 hx.1 hy.1,by simp only[I.gM];omega,by simp only[I.gM];omega⟩) λaa n' q _ _ ho he=>⟨ho,λw=>?_⟩
  simp[A.den,he,I.gM,binOp,Op.intArith]
 case mul=>
  refine bT λh0=>?_
  simp only[decide_eq_true_eq]at h0;subst h0
  refine jz (v:=k.wrap (x.l.den ρ*y.l.den ρ)) ((Qo hx hy).bind λaj n1 p _ _ ⟨hp,ep⟩=>by rw[<-ep];exact o9 hp) λaa n' q _ _ ho he=>⟨ho,λw=>?_⟩
  simp[A.den,he,binOp,Op.intArith]
 case quo=>
  cases hc:y.l.bS with
  |none=>
   refine bT λh0=>(sN hx).bind λaY n0 du jq ha0 ⟨ey,ex,zx,iR,kh⟩=>dm λhk=>?_
   have h0:=of_decide_eq_true h0
   subst h0
   simp only[List.map_cons,List.map_nil,az]at hk
   have uQ:=I.aQ ha0 hy.1
   have qk:=ey.2
   have e1:=Int.ediv_nonneg (show 0<=du.l.den aY by omega) (Int.le_of_lt hk)
   have e3:du.l.den aY/y.l.den aY<=du.l.den aY:=by
    have h5:=Int.ediv_le_self (y.l.den aY) (show 0<=du.l.den aY by omega)
    exact h5
   have dL:du.l.den aY/y.l.den aY<=du.hi:=by omega
   have hf:af 76 ([du.l,y.l].map (·.den aY))=du.l.den aY/y.l.den aY:=rfl
   refine jz (v:=k.wrap (du.l.den aY/y.l.den aY)) (((cZ (by rw[hf];exact e1) (by rw[hf];exact dL)).bind λaj n1 l _ _ ⟨g1,g2⟩=>ae.pure (R:=λaa n' (q:aP)=>q.ok n' aa/\q.l.den aa=du.l.den aY/y.l.den aY) ⟨⟨g1,by simp only;rw[g2,hf];exact e1,by simp only;rw[g2,hf];exact dL⟩,by simp only;rw[g2,hf]⟩).bind λaj n1 p _ _ ⟨hp,ep⟩=>by rw[<-ep];exact o9 hp) λaa n' q _ _ ho he=>⟨ho,λw=>?_⟩
   simp only[A.den,he,binOp,Op.intDiv]
   have OG:0<y.l.den ρ:=uQ▸hk
   have hx0:0<=x.l.den ρ:=by rw[<-kh,<-ex];omega
   rw[uQ,ex,kh,if_neg (by simp),if_neg (by omega),Int.tdiv_eq_ediv_of_nonneg hx0]
   simp
  |some c=>
   refine bT λh0=>(sN hx).bind λaY n0 du jq ha0 ⟨ey,ex,zx,iR,kh⟩=>?_
   simp only[Bool.and_eq_true,decide_eq_true_eq]at h0
   obtain⟨h0,h1⟩:=h0
   subst h0
   have qk:=ey.2
   refine jz (v:=k.wrap (du.l.den aY/c)) ((tF h1 ey).bind λaj n1 p _ _ ⟨hp,ep,_⟩=>by rw[<-ep];exact o9 hp) λaa n' q _ _ ho he=>⟨ho,λw=>?_⟩
   have hx0:0<=x.l.den ρ:=by rw[<-kh,<-ex];omega
   simp only[A.den,he,I.er hc,binOp,Op.intDiv]
   rw[ex,kh,if_neg (by simp),if_neg (by omega),Int.tdiv_eq_ediv_of_nonneg hx0]
   simp
 case rem=>
  cases hc:y.l.bS with
  |none=>
   refine bT λh0=>(sN hx).bind λaY n0 du jq ha0 ⟨ey,ex,zx,iR,kh⟩=>dm λhk=>?_
   have h0:=of_decide_eq_true h0
   subst h0
   simp only[List.map_cons,List.map_nil,az]at hk
   have uQ:=I.aQ ha0 hy.1
   have qk:=ey.2;have oJ:=(hy.agree ha0 jq).2
   have e1:=Int.emod_nonneg (du.l.den aY) (show y.l.den aY≠0 by omega)
   have e2:=Int.emod_lt_of_pos (du.l.den aY) hk
   have e3:du.l.den aY% y.l.den aY<=du.l.den aY:=by
    have h5:=Int.mul_ediv_add_emod (du.l.den aY) (y.l.den aY)
    have h6:=Int.mul_nonneg (Int.le_of_lt hk) (Int.ediv_nonneg (show 0<=du.l.den aY by omega) (Int.le_of_lt hk))
    omega
   have hf:af 38 ([du.l,y.l].map (·.den aY))=du.l.den aY% y.l.den aY:=rfl
   have dL:du.l.den aY% y.l.den aY<=cond (decide (y.hi-1<=du.hi)) (y.hi-1) du.hi:=by
    cases decide (y.hi-1<=du.hi)with
    |true=>simp only[cond_true];omega
    |false=>simp only[cond_false];omega
   refine jz (v:=du.l.den aY% y.l.den aY) ((cZ (by rw[hf];exact e1) (by rw[hf];exact dL)).bind λaj n1 l _ _ ⟨g1,g2⟩=>ae.pure ⟨⟨g1,by simp only;rw[g2,hf];exact e1,by simp only;rw[g2,hf];exact dL⟩,by simp only;rw[g2,hf]⟩) λaa n' q _ _ ho he=>⟨ho,λw=>?_⟩
   simp only[A.den,he,binOp,Op.intDiv]
   have OG:0<y.l.den ρ:=uQ▸hk
   have hx0:0<=x.l.den ρ:=by rw[<-kh,<-ex];omega
   rw[uQ,ex,kh,if_neg (by simp),if_neg (by omega),Int.tmod_eq_emod_of_nonneg hx0]
   simp
  |some c=>
   refine bT λh0=>(sN hx).bind λaY n0 du jq ha0 ⟨ey,ex,zx,iR,kh⟩=>?_
   simp only[Bool.and_eq_true,decide_eq_true_eq]at h0
   obtain⟨h0,h1⟩:=h0
   subst h0
   have qk:=ey.2
   refine jz (HK h1 ey) λaa n' q _ _ ho he=>⟨ho,λw=>?_⟩
   have hx0:0<=x.l.den ρ:=by rw[<-kh,<-ex];omega
   simp only[A.den,he,I.er hc,binOp,Op.intDiv]
   rw[ex,kh,if_neg (by simp),if_neg (by omega),Int.tmod_eq_emod_of_nonneg hx0]
   simp
 case and=>
  refine bT λh0=>?_
  simp only[decide_eq_true_eq]at h0;subst h0
  refine jz (Kx hx hy) λaa n' q _ _ ho he=>⟨ho,λw=>?_⟩
  simp[A.den,he,binOp,Op.intBits,eS]
 case or=>
  refine bT λh0=>?_
  simp only[decide_eq_true_eq]at h0;subst h0
  refine jz (Q9 hx hy) λaa n' q _ _ ho he=>⟨ho,λw=>?_⟩
  simp[A.den,he,binOp,Op.intBits,eS]
 case xor=>
  refine bT λh0=>?_
  simp only[decide_eq_true_eq]at h0;subst h0
  refine jz wg λaa n' q _ _ ho he=>⟨ho,λw=>?_⟩
  simp[A.den,he,binOp,Op.intBits,eS]
 case andNot=>
  refine bT λh0=>?_
  simp only[decide_eq_true_eq]at h0;subst h0
  refine jz wg λaa n' q _ _ ho he=>⟨ho,λw=>?_⟩
  simp[A.den,he,binOp,Op.intBits,eS]
 all_goals
  refine bT λh0=>?_
  simp only[decide_eq_true_eq]at h0;subst h0
  have e1:=aD.kT hx hy
  have e2:=aD.wH hx hy
  have e3:=aD.EH hx hy
  have dL:=aD.wH hy hx
  have mv:=aD.EH hy hx
  refine ae.pure ⟨?_,λw=>?_⟩
  ·first|exact e1.2|exact aD.mT e1.2|exact e2.2|exact e3.2|exact dL.2|exact mv.2
  ·simp[A.den,aD.mq,e1.1,e2.1,e3.1,dL.1,mv.1,binOp,Op.intCmp]
   try rfl
end
end Go.aZ
namespace Go.aZ
open M
abbrev ag:=List A×(TypeId×Bool)
abbrev cN:=List (Nat×List (IntKind×Int))
structure b7 where
 b:World
 r:World
 ex:Nat->Prop
 ro:Nat->Prop
 ds:List Deferred
def bk:List A->Bool
 |[.rows _ _ _ _ _]=>false
 |_=>true
noncomputable def aG (ρ:Env):List A->Nat
 |[.rows _ _ _ cap k]=>if cap.den ρ<0 then 0 else k
 |_=>2
def aS:List ah->List Int->Prop
 |[],[]=>True
 |c::sh,z::r=>(c.cx.1<=z/\z<=c.cx.2)/\aS sh r
 |_,_=>False
def bL:List ah->List Int->List Value
 |c::sh,z::r=>c.val z::bL sh r
 |_,_=>[]
def bz (sh:List ah) (rows:List (List Int)):List Value:=rows.flatMap (bL sh)
def jE (cells:Array Value) (off:Nat) (sh:List ah) (rows:List (List Int)):Prop:=
 (∀row∈rows,aS sh row)/\∃pre post,cells.toList=pre++bz sh rows++post/\pre.length=off
theorem aS.len:∀{sh:List ah} {row:List Int},aS sh row->row.length=sh.length
 |[],[],_=>rfl
 |_::_,_::_,h=>by simp[aS.len h.2]
 |[],_::_,h=>h.elim
 |_::_,[],h=>h.elim
theorem aS.get:∀{sh:List ah} {row:List Int} {j:Nat} {c:ah},aS sh row->sh[j]?=some c->∃z,row[j]?=some z/\c.cx.1<=z/\z<=c.cx.2/\(bL sh row)[j]?=some (c.val z)
 |c'::sh,z::r,0,c,h,hc=>by
  simp only[List.getElem?_cons_zero,Option.some.injEq]at hc
  subst hc
  exact⟨z,rfl,h.1.1,h.1.2,rfl⟩
 |c'::sh,z::r,j+1,c,h,hc=>aS.get (sh:=sh) (row:=r) (j:=j) h.2 (by simpa using hc)
 |[],_,_,_,_,hc=>by simp at hc
 |_::_,[],_,_,h,_=>h.elim
theorem vr:∀{sh:List ah} {row:List Int},aS sh row->(bL sh row).length=sh.length
 |[],[],_=>rfl
 |_::_,_::_,h=>by simp[bL,vr h.2]
 |[],_::_,h=>h.elim
 |_::_,[],h=>h.elim
theorem kV {sh:List ah}:∀{rows:List (List Int)},(∀row∈rows,aS sh row)->(bz sh rows).length=rows.length*sh.length
 |[],_=>by simp[bz]
 |r::rs,h=>by
  have ih:=kV (rows:=rs) λrow hr=>h row (List.mem_cons_of_mem _ hr)
  have h1:=vr (h r (by simp))
  simp only[bz,List.flatMap_cons,List.length_append,List.length_cons]at ih⊢
  rw[ih,h1,Nat.succ_mul];omega
theorem zI {sh:List ah}:∀{rows:List (List Int)} {i j:Nat} {row:List Int} {v:Value},(∀row∈rows,aS sh row)->rows[i]?=some row->(bL sh row)[j]?=some v->(bz sh rows)[i*sh.length+j]?=some v
 |r::rs,0,j,row,v,h,hi,hj=>by
  simp only[List.getElem?_cons_zero,Option.some.injEq]at hi
  subst hi
  have hlt:=(List.getElem?_eq_some_iff.1 hj).1
  simp only[bz,List.flatMap_cons,Nat.zero_mul,Nat.zero_add]
  rw[List.getElem?_append_left hlt];exact hj
 |r::rs,i+1,j,row,v,h,hi,hj=>by
  have ih:=zI (rows:=rs) (i:=i) (λrow hr=>h row (List.mem_cons_of_mem _ hr)) (by simpa using hi) hj
  have h1:=vr (h r (by simp))
  simp only[bz,List.flatMap_cons]at ih⊢
  rw[List.getElem?_append_right (by rw[h1,Nat.succ_mul];omega),h1,Nat.succ_mul]
  rw[show i*sh.length+sh.length+j-sh.length=i*sh.length+j by omega];exact ih
 |[],i,_,_,_,_,hi,_=>by simp at hi
theorem rI (sh:List ah) (a b:List (List Int)):bz sh (a++b)=bz sh a++bz sh b:=by simp[bz]
def jc (F:Nat->Prop) (w:World) (sh:List ah) (rows:List (List Int)) (v:Value):Prop:=
 ((∃p,v= .slice p 0 0)/\rows=[])∨∃(g o cap:Nat) (cells:Array Value) (t:TypeId) (fz:Nat×Nat),v= .slice (some ⟨g,o,none⟩) rows.length cap/\(rows.length<=cap/\(cap:Int)<=9223372036854775807/\rows.length<=140737488351232)/\F g/\w.heap[g]?=some (.cells cells t fz)/\jE cells o sh rows
def nh (F:Nat->Prop) (w:World):ah->Int->Value->Prop
 | .sub k,z,v=>jc F w (eQ k) (ab z) v
 |c,z,v=>v=c.val z
def cU (F:Nat->Prop) (w:World):List ah->List Int->List Value->Prop
 |[],[],[]=>True
 |c::sh,z::r,v::vs=>nh F w c z v/\cU F w sh r vs
 |_,_,_=>False
def c7 (F:Nat->Prop) (w:World) (sh:List ah):List (List Int)->List Value->Prop
 |[],vs=>vs=[]
 |row::rows,vs=>∃a b,vs=a++b/\cU F w sh row a/\c7 F w sh rows b
def e7 (F:Nat->Prop) (w:World) (cells:Array Value) (off:Nat) (sh:List ah) (rows:List (List Int)):Prop:=
 (∀row∈rows,aS sh row)/\∃pre vs post,cells.toList=pre++vs++post/\pre.length=off/\c7 F w sh rows vs
def Fr (F:Nat->Prop) (w:World) (F':Nat->Prop) (w':World):Prop:=∀g,F g->∀o,w.heap[g]?=some o->F' g/\w'.heap[g]?=some o
theorem Fr.of {F F':Nat->Prop} (w:World) (h:∀g,F g->F' g):Fr F w F' w:=λg hg o ho=>⟨h g hg,ho⟩
theorem Fr.trans {F F' DA:Nat->Prop} {w w' gF:World} (h:Fr F w F' w') (h':Fr F' w' DA gF):Fr F w DA gF:=λg hg o ho=>by
 obtain⟨h1,h2⟩:=h g hg o ho
 exact h' g h1 o h2
theorem Fr.ext {F F':Nat->Prop} {w w':World} (h:∀g,F g->F' g) (he:w.Extends w'):Fr F w F' w':=λg hg o ho=>⟨h g hg,by rw[he.block g (Array.getElem?_eq_some_iff.1 ho).1];exact ho⟩
theorem jc.mono {F F':Nat->Prop} {w w':World} {sh:List ah} {rows:List (List Int)} {v:Value} (h:jc F w sh rows v) (hf:Fr F w F' w'):jc F' w' sh rows v:=by
 rcases h with h|⟨g,o,cap,cells,t,fz,h1,h2,h3,h4,h5⟩
 ·exact .inl h
 ·obtain⟨k1,k2⟩:=hf g h3 _ h4
  exact .inr ⟨g,o,cap,cells,t,fz,h1,h2,k1,k2,h5⟩
theorem nh.mono {F F':Nat->Prop} {w w':World} {c:ah} {z:Int} {v:Value} (h:nh F w c z v) (hf:Fr F w F' w'):nh F' w' c z v:=by
 cases c with
 |sub k=>exact jc.mono (F:=F) (w:=w) h hf
 |_=>exact h
theorem cU.mono {F F':Nat->Prop} {w w':World} (hf:Fr F w F' w'):∀{sh:List ah} {row:List Int} {vs:List Value},cU F w sh row vs->cU F' w' sh row vs
 |[],[],[],_=>trivial
 |c::sh,z::r,v::vs,h=>⟨h.1.mono hf,cU.mono hf h.2⟩
 |[],_::_,_,h=>h.elim
 |[],[],_::_,h=>h.elim
 |_::_,[],_,h=>h.elim
 |_::_,_::_,[],h=>h.elim
theorem c7.mono {F F':Nat->Prop} {w w':World} (hf:Fr F w F' w') {sh:List ah}:∀{rows:List (List Int)} {vs:List Value},c7 F w sh rows vs->c7 F' w' sh rows vs
 |[],_,h=>h
 |row::rows,vs,h=>by
  obtain⟨a,b,h1,h2,h3⟩:=h
  exact⟨a,b,h1,h2.mono hf,c7.mono hf h3⟩
theorem e7.mono {F F':Nat->Prop} {w w':World} {cells:Array Value} {off:Nat} {sh:List ah} {rows:List (List Int)} (h:e7 F w cells off sh rows) (hf:Fr F w F' w'):e7 F' w' cells off sh rows:=by
 obtain⟨h1,pre,vs,post,h2,h3,h4⟩:=h
 exact⟨h1,pre,vs,post,h2,h3,h4.mono hf⟩
theorem cU.len {F:Nat->Prop} {w:World}:∀{sh:List ah} {row:List Int} {vs:List Value},cU F w sh row vs->vs.length=sh.length
 |[],[],[],_=>rfl
 |c::sh,z::r,v::vs,h=>by simp[cU.len h.2]
 |[],_::_,_,h=>h.elim
 |[],[],_::_,h=>h.elim
 |_::_,[],_,h=>h.elim
 |_::_,_::_,[],h=>h.elim
theorem c7.len {F:Nat->Prop} {w:World} {sh:List ah}:∀{rows:List (List Int)} {vs:List Value},c7 F w sh rows vs->vs.length=rows.length*sh.length
 |[],vs,h=>by
  have h:vs=[]:=h
  simp[h]
 |row::rows,vs,h=>by
  obtain⟨a,b,rfl,h2,h3⟩:=h
  have h4:=h2.len
  have h5:=c7.len h3
  rw[List.length_append,h4,h5,List.length_cons,Nat.succ_mul,Nat.add_comm]
theorem vp {F:Nat->Prop} {w:World}:∀{sh:List ah} {row:List Int} {vs:List Value},eP sh=true->aS sh row->(cU F w sh row vs↔vs=bL sh row)
 |[],[],[],_,_=>⟨λ_=>rfl,λ_=>trivial⟩
 |[],[],_::_,_,_=>⟨λh=>h.elim,λh=>by cases h⟩
 |c::sh,z::r,[],_,_=>⟨λh=>h.elim,λh=>by cases h⟩
 |c::sh,z::r,v::vs,hp,hr=>by
  have hp:(c.plain&&sh.all ah.plain)=true:=hp
  simp only[Bool.and_eq_true]at hp
  have ih:=vp (F:=F) (w:=w) (vs:=vs) hp.2 hr.2
  have hc:nh F w c z v↔v=c.val z:=by
   cases c with
   |sub k=>cases hp.1
   |_=>exact Iff.rfl
  simp only[cU,bL,List.cons.injEq,hc,ih]
 |[],_::_,_,_,h=>h.elim
 |_::_,[],_,_,h=>h.elim
theorem yd {F:Nat->Prop} {w:World} {sh:List ah} (hp:eP sh=true):∀{rows:List (List Int)} {vs:List Value},(∀row∈rows,aS sh row)->(c7 F w sh rows vs↔vs=bz sh rows)
 |[],vs,_=>by simp[c7,bz]
 |row::rows,vs,h=>by
  have ih:=λb=>yd (F:=F) (w:=w) hp (vs:=b) λr hr=>h r (List.mem_cons_of_mem _ hr)
  have h0:=h row (by simp)
  refine⟨λ⟨a,b,h1,h2,h3⟩=>?_,λh1=>⟨bL sh row,bz sh rows,by rw[h1];rfl,(vp hp h0).2 rfl,(ih _).2 rfl⟩⟩
  rw[h1,(vp hp h0).1 h2,(ih b).1 h3];rfl
theorem iq {F:Nat->Prop} {w:World} {cells:Array Value} {off:Nat} {sh:List ah} {rows:List (List Int)} (hp:eP sh=true):e7 F w cells off sh rows↔jE cells off sh rows:=
 ⟨λ⟨h1,pre,vs,post,h2,h3,h4⟩=>⟨h1,pre,post,by rw[h2,(yd hp h1).1 h4],h3⟩,λ⟨h1,pre,post,h2,h3⟩=>⟨h1,pre,bz sh rows,post,h2,h3,(yd hp h1).2 rfl⟩⟩
theorem cU.get {F:Nat->Prop} {w:World}:∀{sh:List ah} {row:List Int} {vs:List Value} {j:Nat} {c:ah},cU F w sh row vs->sh[j]?=some c->∃z v,row[j]?=some z/\vs[j]?=some v/\nh F w c z v
 |c'::sh,z::r,v::vs,0,c,h,hc=>by
  simp only[List.getElem?_cons_zero,Option.some.injEq]at hc
  subst hc
  exact⟨z,v,rfl,rfl,h.1⟩
 |c'::sh,z::r,v::vs,j+1,c,h,hc=>cU.get (sh:=sh) (row:=r) (vs:=vs) (j:=j) h.2 (by simpa using hc)
 |[],_,_,_,_,_,hc=>by simp at hc
 |_::_,[],_,_,_,h,_=>h.elim
 |_::_,_::_,[],_,_,h,_=>h.elim
theorem c7.get {F:Nat->Prop} {w:World} {sh:List ah}:∀{rows:List (List Int)} {vs:List Value} {i:Nat} {row:List Int},c7 F w sh rows vs->rows[i]?=some row->cU F w sh row ((vs.drop (i*sh.length)).take sh.length)
 |r::rs,vs,0,row,h,hi=>by
  simp only[List.getElem?_cons_zero,Option.some.injEq]at hi
  subst hi
  obtain⟨a,b,rfl,h2,h3⟩:=h
  rw[Nat.zero_mul,List.drop_zero,<-h2.len,List.take_left]
  exact h2
 |r::rs,vs,i+1,row,h,hi=>by
  obtain⟨a,b,rfl,h2,h3⟩:=h
  have ih:=c7.get (i:=i) h3 (by simpa using hi)
  rw[Nat.succ_mul,Nat.add_comm,<-List.drop_drop,<-h2.len,List.drop_left,h2.len]
  exact ih
 |[],_,_,_,_,hi=>by simp at hi
theorem oZ {F:Nat->Prop} {w:World} {sh:List ah}:∀{r1 r2:List (List Int)} {v1 v2:List Value},c7 F w sh r1 v1->c7 F w sh r2 v2->c7 F w sh (r1++r2) (v1++v2)
 |[],r2,v1,v2,h1,h2=>by
  have h1:v1=[]:=h1
  subst h1;exact h2
 |r::r1,r2,v1,v2,h1,h2=>by
  obtain⟨a,b,rfl,k1,k2⟩:=h1
  exact⟨a,b++v2,by simp,k1,oZ k2 h2⟩
theorem c7.split {F:Nat->Prop} {w:World} {sh:List ah}:∀{rows:List (List Int)} {vs:List Value} (k:Nat),c7 F w sh rows vs->c7 F w sh (rows.take k) (vs.take (k*sh.length))/\c7 F w sh (rows.drop k) (vs.drop (k*sh.length))
 |rows,vs,0,h=>by simpa [c7]using h
 |[],vs,k+1,h=>by
  have h:vs=[]:=h
  subst h
  simp[c7]
 |r::rs,vs,k+1,h=>by
  obtain⟨a,b,rfl,h2,h3⟩:=h
  obtain⟨k1,k2⟩:=h3.split k
  have e:=h2.len
  have e2:(k+1)*sh.length=a.length+k*sh.length:=by rw[Nat.succ_mul,e,Nat.add_comm]
  rw[e2,List.take_length_add_append,List.drop_length_add_append]
  exact⟨⟨a,_,rfl,h2,k1⟩,k2⟩
def m7 (kind:Nat) (fz:Nat×Nat) (n:Nat):Prop:=(kind=2/\fz=(0,0))∨(kind≠2/\fz=(n,n+1))
theorem m7.two {fz:Nat×Nat} {n:Nat} (h:m7 2 fz n):fz=(0,0):=by
 rcases h with h|h
 ·exact h.2
 ·exact absurd rfl h.1
theorem m7.u4 {n:Nat}:m7 2 (0,0) n:= .inl ⟨rfl,rfl⟩
def eI (w0:b7) (ρ:Env) (F:Nat->Prop) (g:Nat) (sh:List ah) (off code cap:I) (kind:Nat) (t:TypeId) (w:World):Prop:=
 kind≠0->(cap.den ρ<0->ab (code.den ρ)=[])/\(0<=cap.den ρ->(w0.ex g∨w0.ro g∨w0.r.heap.size<=g)/\∃cells t' fz,w.heap[g]?=some (.cells cells t' fz)/\(0<=off.den ρ/\e7 F w cells (off.den ρ).toNat sh (ab (code.den ρ)))/\
  (2<=kind->t'=t/\off.den ρ=0/\m7 kind fz cells.size/\cells.size=(cap.den ρ).toNat*sh.length/\w0.b.heap.size<=g/\(w0.ex g∨w0.r.heap.size<=g)))
def a7 (w0:b7) (ρ:Env) (m:Nat->Nat) (bl:List ag) (g:Nat):Prop:=
 (w0.ex g∨w0.ro g∨w0.r.heap.size<=g)/\∀(i:Nat) (p:ag),bl[i]?=some p->2<=aG ρ p.1->m i≠g
structure Mem (w0:b7) (ρ:Env) (m:Nat->Nat) (bl:List ag) (w:World):Prop where
 ext:w0.b.Extends w
 fN:w.os=w0.r.os
 jv:w.tape=w0.r.tape
 js:w.output=w0.r.output
 eL:w0.r.heap.size<=w.heap.size
 jk:∀i:Nat,i<w0.r.heap.size->¬w0.ex i->w.heap[i]?=w0.r.heap[i]?
 dj:∀(i:Nat) (cs:List A) (t:TypeId×Bool),bl[i]?=some (cs,t)->bk cs=true->w0.b.heap.size<=m i/\(w0.ex (m i)∨w0.r.heap.size<=m i)/\∃r:List Value,(t.2=false->r=[])/\w.heap[m i]?=some (.cells (cs.map (A.den ρ m)++r).toArray t.1 (0,0))
 rws:∀(i:Nat) (sh:List ah) (off code cap:I) (kind:Nat) (t:TypeId×Bool),bl[i]?=some ([.rows sh off code cap kind],t)->eI w0 ρ (a7 w0 ρ m bl) (m i) sh off code cap kind t.1 w
 inj:∀(i j:Nat) (p q:ag),bl[i]?=some p->bl[j]?=some q->m i=m j->i=j∨(aG ρ p.1<=1/\aG ρ q.1<=1)∨aG ρ p.1=0∨aG ρ q.1=0
theorem Mem.lt {w0:b7} {ρ:Env} {m:Nat->Nat} {bl:List ag} {w:World} (h:Mem w0 ρ m bl w) {i:Nat} {p:ag} (hi:bl[i]?=some p) (hk:aG ρ p.1≠0):m i<w.heap.size:=by
 obtain⟨cs,t⟩:=p
 by_cases ho:bk cs=true
 ·obtain⟨_,_,r,_,h2⟩:=h.dj i cs t hi ho
  exact(Array.getElem?_eq_some_iff.1 h2).1
 ·unfold bk at ho
  split at ho
  ·rename_i sh off code cap k
   simp only[aG]at hk
   split at hk
   ·exact absurd rfl hk
   ·rename_i bp
    obtain⟨_,cells,t',fz,h2,_⟩:=(h.rws i _ _ _ _ _ t hi hk).2 (by omega)
    exact(Array.getElem?_eq_some_iff.1 h2).1
  ·exact absurd rfl ho
theorem iW {ρ:Env} {cs:List A} (h:bk cs=true):aG ρ cs=2:=by
 unfold bk at h
 unfold aG
 split<;>simp_all
def bn (n nb:Nat) (ρ:Env) (bl:List ag):Prop:=∀p∈bl,∀a∈p.1,A.ok n nb ρ a
def eC (gl:cN) (w0:b7):Prop:=∀g cs,(g,cs)∈gl->g<w0.b.heap.size/\∃t np,w0.b.heap[g]?=some (.cells (cs.map λp=>Value.int p.1 p.2).toArray t np)
theorem bn.ext {n n' nb fh:Nat} {ρ aa:Env} {bl:List ag} (h:bn n nb ρ bl) (ha:agree n ρ aa) (hn:n<=n') (hb:nb<=fh):bn n' fh aa bl:=
 λp hp a h'=>(h p hp a h').ext ha hn hb
theorem eI.cT {w0:b7} {n nb:Nat} {ρ aa:Env} {F:Nat->Prop} {g:Nat} {sh:List ah} {off code cap:I} {kind:Nat} {t:TypeId} {w:World} (h:eI w0 ρ F g sh off code cap kind t w) (aJ:(A.rows sh off code cap kind).ok n nb ρ) (ha:agree n ρ aa):eI w0 aa F g sh off code cap kind t w:=by
 unfold eI at*
 rw[I.aQ ha aJ.1.1,I.aQ ha aJ.1.2.1,I.aQ ha aJ.1.2.2]
 exact h
theorem eI.grow {w0:b7} {ρ:Env} {F F':Nat->Prop} {g:Nat} {sh:List ah} {off code cap:I} {kind:Nat} {t:TypeId} {w w':World} (h:eI w0 ρ F g sh off code cap kind t w) (hf:Fr F w F' w') (he:kind≠0->0<=cap.den ρ->w'.heap[g]?=w.heap[g]?):eI w0 ρ F' g sh off code cap kind t w':=by
 intro hk
 obtain⟨h1,h2⟩:=h hk
 refine⟨h1,λhc=>?_⟩
 rw[he hk hc]
 obtain⟨h3,cells,t',fz,h4,⟨h5,h6⟩,h7⟩:=h2 hc
 exact⟨h3,cells,t',fz,h4,⟨h5,h6.mono hf⟩,h7⟩
theorem eI.mono {w0:b7} {ρ:Env} {F F':Nat->Prop} {g:Nat} {sh:List ah} {off code cap:I} {kind:Nat} {t:TypeId} {w:World} (h:eI w0 ρ F g sh off code cap kind t w) (hf:∀g,F g->F' g):eI w0 ρ F' g sh off code cap kind t w:=
 h.grow (Fr.of w hf) λ_ _=>rfl
theorem a7.mono {w0:b7} {ρ aa:Env} {m m':Nat->Nat} {bl aB:List ag} (h:∀(i:Nat) (p:ag),aB[i]?=some p->2<=aG aa p.1->∃j q,bl[j]?=some q/\2<=aG ρ q.1/\m j=m' i):∀g,a7 w0 ρ m bl g->a7 w0 aa m' aB g:=λg ⟨h1,h2⟩=>⟨h1,λi p hi hk=>by
 obtain⟨j,q,hj,hq,he⟩:=h i p hi hk
 rw[<-he];exact h2 j q hj hq⟩
theorem iA {n nb:Nat} {ρ aa:Env} {cs:List A} (aJ:∀a∈cs,A.ok n nb ρ a) (ha:agree n ρ aa):aG aa cs=aG ρ cs:=by
 unfold aG
 split
 ·rename_i sh off code cap k
  have h1:A.ok n nb ρ (.rows sh off code cap k):=aJ _ (by simp)
  rw[I.aQ ha h1.1.2.2]
 ·rfl
theorem agree.sym {n:Nat} {ρ aa:Env} (h:agree n ρ aa):agree n aa ρ:=λi hi=>(h i hi).symm
theorem Mem.cT {w0:b7} {n:Nat} {ρ aa:Env} {m:Nat->Nat} {bl:List ag} {w:World} (h:Mem w0 ρ m bl w) (hb:bn n bl.length ρ bl) (ha:agree n ρ aa):Mem w0 aa m bl w:=
 ⟨h.ext,h.fN,h.jv,h.js,h.eL,h.jk,λi cs t hi ho=>by
  obtain⟨h1,h2,r,hr,h3⟩:=h.dj i cs t hi ho
  exact⟨h1,h2,r,hr,by rw[jX (hb _ (List.mem_of_getElem? hi)) ha (λ_ _=>rfl)];exact h3⟩,
  λi sh off code cap kind t hi=>((h.rws i sh off code cap kind t hi).cT (hb _ (List.mem_of_getElem? hi) _ (by simp)) ha).mono (a7.mono λi p hi hk=>⟨i,p,hi,by rw[iA (hb _ (List.mem_of_getElem? hi)) ha]at hk;exact hk,rfl⟩),λi j p q hi hj he=>by
   rw[iA (hb _ (List.mem_of_getElem? hi)) ha,iA (hb _ (List.mem_of_getElem? hj)) ha]
   exact h.inj i j p q hi hj he⟩
theorem ff {ρ:Env} {sh:List ah} {off code cap:I} {k:Nat} (hk:k≠0) (hc:0<=cap.den ρ):aG ρ [.rows sh off code cap k]=k:=by
 simp only[aG]
 rw[if_neg (by omega)]
theorem Mem.grow {w0:b7} {ρ:Env} {m:Nat->Nat} {bl:List ag} {w w':World} (h:Mem w0 ρ m bl w) (he:w.Extends w'):Mem w0 ρ m bl w':=
 ⟨h.ext.trans he,he.os.trans h.fN,he.tape.trans h.jv,he.output.trans h.js,Nat.le_trans h.eL he.size,λi hi hx=>(he.block i (Nat.lt_of_lt_of_le hi h.eL)).trans (h.jk i hi hx),λi cs t hi ho=>by
  obtain⟨h1,h2,r,hr,h3⟩:=h.dj i cs t hi ho
  exact⟨h1,h2,r,hr,by rw[he.block _ (h.lt hi (by rw[iW ho];decide))];exact h3⟩,λi sh off code cap kind t hi=>(h.rws i sh off code cap kind t hi).grow (Fr.ext (λ_ h=>h) he) λhk hc=>he.block _ (h.lt hi (by simp only[ff hk hc];exact hk)),h.inj⟩
theorem Mem.ne {w0:b7} {ρ:Env} {m:Nat->Nat} {bl:List ag} {w:World} (h:Mem w0 ρ m bl w) {i j:Nat} {p q:ag} (hi:bl[i]?=some p) (hj:bl[j]?=some q) (hp:2<=aG ρ p.1) (hq:aG ρ q.1≠0) (hne:i≠j):m i≠m j:=λe=>by
 rcases h.inj i j p q hi hj e with h|h|h|h
 ·exact hne h
 ·omega
 ·omega
 ·exact hq h
def bU (n nb:Nat) (ρ:Env) (m:Nat->Nat) (tm:List V) (tmps:Array Value):Prop:=
 tm.length=tmps.size/\∀(i:Nat) (v:V),tm[i]?=some v->v.ok n nb ρ/\∃x,tmps[i]?=some x/\v.rel ρ m x
theorem bU.ext {n n' nb fh:Nat} {ρ aa:Env} {m m':Nat->Nat} {tm:List V} {tmps:Array Value} (h:bU n nb ρ m tm tmps) (ha:agree n ρ aa) (hn:n<=n') (hb:nb<=fh) (hm:∀b,b<nb->m' b=m b):bU n' fh aa m' tm tmps:=
 ⟨h.1,λi v hv=>by obtain⟨h1,x,h2,h3⟩:=h.2 i v hv;exact⟨h1.ext ha hn hb,x,h2,h3.ext h1 ha hm⟩⟩
def l8:List V->Nat->V->List V
 |[],_,_=>[]
 |_::r,0,v=>v::r
 |x::r,i+1,v=>x::l8 r i v
theorem Cv:∀(l:List V) (i:Nat) (v:V),l8 l i v=l.set i v
 |[],_,_=>rfl
 |_::_,0,_=>rfl
 |_::r,i+1,v=>by simp[l8,Cv r i v]
def cK (tm:List V) (d:Option Tmp) (v:V):List V:=match d with|some d=>l8 tm d v|none=>tm
theorem bU.put {n nb:Nat} {ρ:Env} {m:Nat->Nat} {tm:List V} {a:Act} {v:V} {x:Value} (h:bU n nb ρ m tm a.tmps) (d:Option Tmp) (hv:v.ok n nb ρ) (hx:v.rel ρ m x):bU n nb ρ m (cK tm d v) (a.put d x).tmps:=by
 cases d with
 |none=>exact h
 |some d=>
  simp only[cK,Act.put,Cv]
  refine⟨by simp[h.1],λi u hu=>?_⟩
  rw[List.getElem?_set]at hu
  by_cases hd:d=i
  ·subst hd
   simp only[if_true]at hu
   split at hu
   ·rename_i hlt
    simp only[Option.some.injEq]at hu
    subst hu
    exact⟨hv,x,by simp[<-h.1,hlt],hx⟩
   ·cases hu
  ·rw[if_neg hd]at hu
   obtain⟨h1,y,h2,h3⟩:=h.2 i u hu
   exact⟨h1,y,by rw[Array.getElem?_setIfInBounds_ne (by omega)];exact h2,h3⟩
def rB:Value->Option A
 | .int k n=>some (.int k (.const n))
 | .bool b=>some (.bool (.lit b))
 | .string s=>cond (Nat.ble s.size 1000000) (some (.str (.const (dF s.data.toList)))) none
 |v=>cond v.oneCell' (some (.con v)) none
theorem Ev {v:Value} {a:A} (h:rB v=some a) (n nb:Nat) (ρ:Env) (m:Nat->Nat):a.ok n nb ρ/\a.den ρ m=v:=by
 unfold rB at h
 split at h
 ·simp only[Option.some.injEq]at h;subst h;exact⟨aP.iu _ _ _,by simp[A.den,aP.const,I.aA]⟩
 ·simp only[Option.some.injEq]at h;subst h;exact⟨trivial,rfl⟩
 ·rename_i s
  cases hc:Nat.ble s.size 1000000 with
  |false=>simp[hc]at h
  |true=>
   simp only[hc,cond_true,Option.some.injEq]at h
   subst h
   have hl:s.data.toList.length<=ez:=by
    have:=Nat.le_of_ble_eq_true hc
    have h2:s.data.toList.length=s.size:=by simp
    unfold ez;omega
   refine⟨⟨I.bt _ _,by rw[I.aA];exact kQ _,by rw[I.aA];exact j6 hl⟩,?_⟩
   simp[A.den,I.aA,gD,aH]
 ·cases hc:v.oneCell' with
  |false=>simp[hc]at h
  |true=>simp only[hc,cond_true,Option.some.injEq]at h;subst h;exact⟨hc,rfl⟩
def ni:List Value->Option (List A)
 |[]=>some []
 |v::r=>match rB v,ni r with|some a,some l=>some (a::l)|_,_=>none
theorem nj:∀{vs:List Value} {l:List A},ni vs=some l->∀(n nb:Nat) (ρ:Env) (m:Nat->Nat),(∀a∈l,A.ok n nb ρ a)/\l.map (A.den ρ m)=vs
 |[],l,h,n,nb,ρ,m=>by simp[ni]at h;subst h;simp
 |v::r,l,h,n,nb,ρ,m=>by
  simp only[ni]at h
  cases h1:rB v with
  |none=>simp[h1]at h
  |some a=>
   cases h2:ni r with
   |none=>simp[h1,h2]at h
   |some aU=>
    simp only[h1,h2,Option.some.injEq]at h
    subst h
    have e1:=Ev h1 n nb ρ m
    have e2:=nj h2 n nb ρ m
    exact⟨λa ha=>by rcases List.mem_cons.1 ha with rfl|ha;exact e1.1;exact e2.1 a ha,by simp[e1.2,e2.2]⟩
def wD:Value->V
 | .agg cs=>match ni cs.toList with|some l=> .w (.agg l)|none=> .any
 | .tuple _=> .any
 |v=>match rB v with|some a=> .w (.one a)|none=> .any
theorem Le (v:Value) (n nb:Nat) (ρ:Env) (m:Nat->Nat):(wD v).ok n nb ρ/\(wD v).rel ρ m v:=by
 unfold wD
 split
 ·rename_i cs
  cases h:ni cs.toList with
  |none=>exact⟨trivial,trivial⟩
  |some l=>have e:=nj h n nb ρ m;exact⟨e.1,by simp[V.rel,W.den,e.2]⟩
 ·exact⟨trivial,trivial⟩
 ·cases h:rB v with
  |none=>exact⟨trivial,trivial⟩
  |some a=>have e:=Ev h n nb ρ m;exact⟨e.1,by simp[V.rel,W.den,e.2]⟩
def aV (tm:List V):Operand->V
 | .tmp t=>(tm[t]?).getD .any
 | .const v=>wD v
 | .global g=> .w (.one (.gptr g 0))
 | .func f=> .w (.one (.con (.func (.func f) #[] #[])))
theorem bg {n nb:Nat} {ρ:Env} {m:Nat->Nat} {tm:List V} {a:Act} (h:bU n nb ρ m tm a.tmps) (x:Operand):(aV tm x).ok n nb ρ/\(aV tm x).rel ρ m (a.eval x):=by
 cases x with
 |tmp t=>
  simp only[aV,Act.eval]
  cases ht:tm[t]? with
  |none=>exact⟨trivial,trivial⟩
  |some v=>
   obtain⟨h1,y,h2,h3⟩:=h.2 t v ht
   exact⟨h1,by simp only[Option.getD_some];rw[show a.tmps.getD t undef=y by simp[h2]];exact h3⟩
 |const v=>exact Le v n nb ρ m
 |global g=>exact⟨trivial,rfl⟩
 |func f=>exact⟨rfl,rfl⟩
def eb (P:Program) (t:TypeId):Option Bool:=
 match P.underlying t with|some (.struct _)=>some true|some (.array _ _)=>some true|some _=>some false|none=>none
def cC (P:Program) (t:TypeId):Option Nat:=match P.info? t with|some i=>some i.size|none=>none
theorem iG {P:Program} {t:TypeId} {b:Bool} (h:eb P t=some b) (w:World):(isAgg t).run P w= .ok b w:=by
 unfold eb at h
 cases hu:P.underlying t with
 |none=>simp[hu]at h
 |some d=>cases d<;>simp[hu]at h<;>subst h<;>simp[isAgg,run_underlying hu]
theorem dQ {P:Program} {t:TypeId} {k:Nat} (h:cC P t=some k) (w:World):(sizeOf t).run P w= .ok k w:=by
 unfold cC at h
 cases hi:P.info? t with
 |none=>simp[hi]at h
 |some i=>simp[hi]at h;subst h;simp[sizeOf,typeInfo,hi]
def rz (bl:List ag) (gl:cN):A->Option (List A)
 | .ptr b off=>match bl[b]? with|some (cs,_)=>cond (bk cs) (some (cs.drop off)) none|none=>none
 | .gptr g off=>match gl.find? (λp=>Nat.beq p.1 g)with|some (_,cs)=>some ((cs.drop off).map λp=> .int p.1 (.const p.2))|none=>none
 |_=>none
theorem dX (g o j:Nat):(⟨g,o,none⟩:Addr).add j=⟨g,o+j,none⟩:=by unfold Addr.add;split<;>simp_all
theorem zi {w0:b7} {w:World} {n:Nat} {ρ:Env} {m:Nat->Nat} {bl:List ag} {gl:cN} {p:A} {cs:List A} (hm:Mem w0 ρ m bl w) (hb:bn n bl.length ρ bl) (hg:eC gl w0) (h:rz bl gl p=some cs):
 ∃g o,p.den ρ m= .pointer (some ⟨g,o,none⟩)/\(∀a∈cs,A.ok n bl.length ρ a)/\∀j a,cs[j]?=some a->w.cell? ⟨g,o+j,none⟩=some (a.den ρ m):=by
 unfold rz at h
 split at h
 ·rename_i b off
  cases hbl:bl[b]? with
  |none=>simp[hbl]at h
  |some q=>
   obtain⟨C,t⟩:=q
   simp only[hbl]at h
   cases fc:bk C with
   |false=>simp[fc]at h
   |true=>
   simp only[fc,cond_true,Option.some.injEq]at h
   subst h
   obtain⟨h1,_,r,_,h2⟩:=hm.dj b C t hbl fc
   refine⟨m b,off,rfl,λa ha=>hb _ (List.mem_of_getElem? hbl) a (List.mem_of_mem_drop ha),λj a hj=>?_⟩
   rw[List.getElem?_drop]at hj
   have hlt:off+j<C.length:=(List.getElem?_eq_some_iff.1 hj).1
   simp only[World.cell?,h2,Option.isSome_none,Bool.false_eq_true,if_false,List.getElem?_toArray]
   rw[List.getElem?_append_left (by simpa using hlt),List.getElem?_map,hj];rfl
 ·rename_i g off
  cases hf:gl.find? (λp=>Nat.beq p.1 g)with
  |none=>simp[hf]at h
  |some q=>
   obtain⟨a6,C⟩:=q
   simp only[hf,Option.some.injEq]at h
   subst h
   have gv:a6=g:=by have:=List.find?_some hf;exact Nat.eq_of_beq_eq_true this
   subst gv
   obtain⟨h1,t,np,h2⟩:=hg a6 C (List.mem_of_find?_eq_some hf)
   refine⟨a6,off,rfl,λa ha=>?_,λj a hj=>?_⟩
   ·obtain⟨p,_,rfl⟩:=List.mem_map.1 ha;exact aP.iu _ _ _
   ·rw[List.getElem?_map,List.getElem?_drop]at hj
    cases hq:C[off+j]? with
    |none=>simp[hq]at hj
    |some q=>
     simp only[hq,Option.map_some,Option.some.injEq]at hj
     subst hj
     have:=hm.ext.cell ⟨a6,off+j,none⟩ h1
     rw[this]
     simp[World.cell?,h2,hq,A.den,aP.const,I.aA]
 ·cases h
def Bw (P:Program) (bl:List ag) (gl:cN) (ty:TypeId) (p:A):M V:=
 match rz bl gl p,eb P ty,cC P ty with
 |some cs,some true,some k=>cond (Nat.ble k cs.length) (pure (.w (.agg (cs.take k)))) fail
 |some (a::_),some false,_=>pure (.w (.one a))
 |_,_,_=>fail
section
variable {S:Nat->List Int->List Int->Prop} {L:V->Env->Prop} {n:Nat} {ρ:Env} {m:Nat->Nat} {bl:List ag} {gl:cN} {w0:b7} {P:Program}
def fU (w0:b7) (m:Nat->Nat) (bl:List ag) (n:Nat) (ρ:Env) (run:World->Result Value) (aa:Env) (n':Nat) (v:V):Prop:=
 v.ok n' bl.length aa/\∃val,v.rel aa m val/\∀w,Mem w0 ρ m bl w->run w= .ok val w
theorem PQ (hb:bn n bl.length ρ bl) (hg:eC gl w0) (hex:∃w,Mem w0 ρ m bl w) (ty:TypeId) (p:A):ae S L (Bw P bl gl ty p) n ρ (fU w0 m bl n ρ λw=>(Instr.loadAt ty (p.den ρ m)).run P w):=by
 obtain⟨m2,hx⟩:=hex
 unfold Bw
 cases hc:rz bl gl p with
 |none=>exact ae.fail
 |some cs=>
  obtain⟨g,o,hp,aJ,_⟩:=zi hx hb hg hc
  have hcell:∀w,Mem w0 ρ m bl w->∀j a,cs[j]?=some a->w.cell? ⟨g,o+j,none⟩=some (a.den ρ m):=λw hw=>by
   obtain⟨a6,aW,oI,_,h'⟩:=zi hw hb hg hc
   rw[hp]at oI
   simp only[Value.pointer.injEq,Option.some.injEq,Addr.mk.injEq,and_true]at oI
   obtain⟨rfl,rfl⟩:=oI
   exact h'
  cases ha:eb P ty with
  |none=>exact ae.fail
  |some b=>
   cases b with
   |true=>
    cases hs:cC P ty with
    |none=>exact ae.fail
    |some k=>
     refine bT λhk=>ae.pure ⟨λa h=>aJ a (List.mem_of_mem_take h),_,rfl,λw hw=>?_⟩
     have hk:k<=cs.length:=Nat.le_of_ble_eq_true hk
     have hl:=run_loadCells_list (P:=P) w ⟨g,o,none⟩ ((cs.take k).map (A.den ρ m)) λj v hj=>by
      rw[dX]
      rw[List.getElem?_map]at hj
      cases hq:(cs.take k)[j]? with
      |none=>simp[hq]at hj
      |some a=>
       simp only[hq,Option.map_some,Option.some.injEq]at hj
       subst hj
       refine hcell w hw j a ?_
       rw[List.getElem?_take]at hq
       split at hq
       ·exact hq
       ·cases hq
     simp only[List.length_map,List.length_take,Nat.min_eq_left hk]at hl
     simp[Instr.loadAt,Instr.sureAddr,hp,loadVar,iG ha,dQ hs,hl,W.den]
   |false=>
    cases cs with
    |nil=>exact ae.fail
    |cons a r=>
     refine ae.pure ⟨aJ a (by simp),_,rfl,λw hw=>?_⟩
     have:=hcell w hw 0 a rfl
     simp only[Nat.add_zero]at this
     simp[Instr.loadAt,Instr.sureAddr,hp,loadVar,iG ha,this,W.den]
def iz (k:IntKind):List A->Option (List aP)
 |[]=>some []
 | .int aE x::r=>cond (decide (k=aE)) (match iz k r with|some l=>some (x::l)|none=>none) none
 |_::_=>none
theorem Ha {k:IntKind}:∀{cs:List A} {l:List aP},iz k cs=some l->cs=l.map (.int k)
 |[],l,h=>by simp[iz]at h;subst h;rfl
 | .int aE x::r,l,h=>by
  simp only[iz]at h
  by_cases hk:k=aE
  ·subst hk
   simp only[decide_true,cond_true]at h
   cases h1:iz k r with
   |none=>simp[h1]at h
   |some aU=>simp only[h1,Option.some.injEq]at h;subst h;simp[Ha h1]
  ·simp[hk]at h
 | .bool _::_,_,h=>by simp[iz]at h
 | .ptr .. ::_,_,h=>by simp[iz]at h
 | .gY .. ::_,_,h=>by simp[iz]at h
 | .gptr .. ::_,_,h=>by simp[iz]at h
 | .slc .. ::_,_,h=>by simp[iz]at h
 | .con _::_,_,h=>by simp[iz]at h
 | .str _::_,_,h=>by simp[iz]at h
 | .rows .. ::_,_,h=>by simp[iz]at h
 | .sl .. ::_,_,h=>by simp[iz]at h
 | .ep .. ::_,_,h=>by simp[iz]at h
def sF:List aP->Int
 |[]=>0
 |[x]=>x.lo
 |x::r=>min x.lo (sF r)
def sE:List aP->Int
 |[]=>0
 |[x]=>x.hi
 |x::r=>max x.hi (sE r)
theorem HG {n:Nat} {ρ:Env}:∀{l:List aP},(∀x∈l,x.ok n ρ)->∀x∈l,sF l<=x.l.den ρ/\x.l.den ρ<=sE l
 |[],_,x,hx=>by simp at hx
 |[y],h,x,hx=>by
  simp at hx;subst hx
  have:=(h x (by simp)).2
  exact this
 |y::z::r,h,x,hx=>by
  have ih:=HG (l:=z::r) (λx hx=>h x (List.mem_cons_of_mem _ hx))
  simp only[sF,sE]
  rcases List.mem_cons.1 hx with rfl|hx
  ·have:=(h x (by simp)).2;omega
  ·have:=ih x hx;omega
def kindOf (P:Program) (ty:TypeId):Option IntKind:=match P.underlying ty with|some (.int k)=>some k|_=>none
def mM:List Int->Int
 |[]=>0
 |[x]=>x
 |x::r=>cond (decide (x<=mM r)) x (mM r)
def mL:List Int->Int
 |[]=>0
 |[x]=>x
 |x::r=>cond (decide (mL r<=x)) x (mL r)
theorem HH:∀(l:List Int),∀z∈l,mM l<=z/\z<=mL l
 |[],_,h=>by cases h
 |[x],z,h=>by simp at h;subst h;simp[mM,mL]
 |x::y::r,z,h=>by
  unfold mM mL
  have ih:=HH (y::r)
  rcases List.mem_cons.1 h with rfl|h
  ·refine⟨?_,?_⟩
   ·cases hc:decide (z<=mM (y::r))with
    |true=>simp
    |false=>simp at hc⊢;omega
   ·cases hc:decide (mL (y::r)<=z)with
    |true=>simp
    |false=>simp at hc⊢;omega
  ·have:=ih z h
   refine⟨?_,?_⟩
   ·cases hc:decide (x<=mM (y::r))with
    |true=>simp at hc⊢;omega
    |false=>simp;exact this.1
   ·cases hc:decide (mL (y::r)<=x)with
    |true=>simp at hc⊢;omega
    |false=>simp;exact this.2
def Cu (P:Program) (bl:List ag) (ty:TypeId) (b off:Nat) (ar:aP):M V:=λn c=>
 match bl[b]?,kindOf P ty with
 |some (cs,_),some k=>match iz k ((cs.drop off).take (ar.hi.toNat+1))with
  |some l=>cond (Nat.beq l.length (ar.hi.toNat+1)&&decide (0<=ar.lo)&&bk cs) (.sel n (l.map (·.l)) ar.l (sF l) (sE l) (c (.w (.one (.int k ⟨.var n,sF l,sE l⟩))) (n+1))) .stuck
  |none=> .stuck
 |_,_=> .stuck
theorem Sy (hb:bn n bl.length ρ bl) (ty:TypeId) (b off:Nat) {ar:aP} (uw:ar.ok n ρ):ae S L (Cu P bl ty b off ar) n ρ (fU w0 m bl n ρ λw=>(Instr.loadAt ty ((A.gY b off ar).den ρ m)).run P w):=by
 intro JL c hk
 unfold Cu at hk
 cases hbl:bl[b]? with
 |none=>simp[hbl,T.holds]at hk
 |some q=>
  obtain⟨cs,t⟩:=q
  cases eh:kindOf P ty with
  |none=>simp[hbl,eh,T.holds]at hk
  |some k=>
   cases hi:iz k ((cs.drop off).take (ar.hi.toNat+1))with
   |none=>simp[hbl,eh,hi,T.holds]at hk
   |some l=>
    cases hc:(Nat.beq l.length (ar.hi.toNat+1)&&decide (0<=ar.lo)&&bk cs)with
    |false=>simp[hbl,eh,hi,hc,T.holds]at hk
    |true=>
     simp only[hbl,eh,hi,hc,cond_true,T.holds]at hk
     simp only[Bool.and_eq_true,decide_eq_true_eq]at hc
     obtain⟨hc,hq⟩:=hc
     have hlen:=Nat.eq_of_beq_eq_true hc.1
     have e:=Ha hi
     have rq:=uw.2
     have hlt:(ar.l.den ρ).toNat<l.length:=by omega
     have NZ:∀x∈l,x.ok n ρ:=λx hx=>by
      have:A.int k x∈(cs.drop off).take (ar.hi.toNat+1):=by rw[e];exact List.mem_map_of_mem hx
      exact hb _ (List.mem_of_getElem? hbl) _ (List.mem_of_mem_drop (List.mem_of_mem_take this))
     have hz:((l.map (·.l)).map (·.den ρ)).getD (ar.l.den ρ).toNat 0=(l[(ar.l.den ρ).toNat]).l.den ρ:=by
      simp[List.getD,hlt]
     have jo:=HG NZ _ (List.getElem_mem hlt)
     refine⟨_,n+1,_,Nat.le_succ _,agree.bF _ _ _,(show fU w0 m bl n ρ _ (bF ρ n (((l.map (·.l)).map (·.den ρ)).getD (ar.l.den ρ).toNat 0)) (n+1) (.w (.one (.int k ⟨.var n,sF l,sE l⟩))) from⟨⟨I.cA (Nat.lt_succ_self n),?_,?_⟩,_,rfl,?_⟩),hk _ (by rw[hz];exact jo.1) (by rw[hz];exact jo.2) rfl⟩
     ·simp only[I.bc,eB,hz];exact jo.1
     ·simp only[I.bc,eB,hz];exact jo.2
     ·intro w hw
      obtain⟨_,_,r,_,h2⟩:=hw.dj b cs t hbl hq
      have hu:eb P ty=some false:=by
       unfold kindOf at eh
       unfold eb
       cases hq:P.underlying ty with
       |none=>simp[hq]at eh
       |some d=>cases d<;>simp[hq]at eh<;>rfl
      have hcs:cs[off+(ar.l.den ρ).toNat]?=some (.int k (l[(ar.l.den ρ).toNat])):=by
       have h3:((cs.drop off).take (ar.hi.toNat+1))[(ar.l.den ρ).toNat]?=some (.int k (l[(ar.l.den ρ).toNat])):=by rw[e];simp[hlt]
       rw[List.getElem?_take,if_pos (by omega),List.getElem?_drop]at h3
       exact h3
      have hcell:w.cell? ⟨m b,off+(ar.l.den ρ).toNat,none⟩=some (.int k ((l[(ar.l.den ρ).toNat]).l.den ρ)):=by
       have Gn:off+(ar.l.den ρ).toNat<cs.length:=(List.getElem?_eq_some_iff.1 hcs).1
       simp only[World.cell?,h2,Option.isSome_none,Bool.false_eq_true,if_false,List.getElem?_toArray]
       rw[List.getElem?_append_left (by simpa using Gn),List.getElem?_map,hcs];rfl
      simp only[W.den,A.den,I.bc,eB,hz];simp[Instr.loadAt,Instr.sureAddr,loadVar,iG hu,hcell]
def Ct (P:Program) (gl:cN) (ty:TypeId) (g off:Nat) (ar:aP):M V:=λn c=>
 match gl.find? (λp=>Nat.beq p.1 g),kindOf P ty with
 |some (_,cs),some k=>cond (((cs.drop off).take (ar.hi.toNat+1)).all (λp=>decide (p.1=k))&&Nat.beq ((cs.drop off).take (ar.hi.toNat+1)).length (ar.hi.toNat+1)&&decide (0<=ar.lo))
  (.sel n (((cs.drop off).take (ar.hi.toNat+1)).map λp=> .const p.2) ar.l (mM (((cs.drop off).take (ar.hi.toNat+1)).map (·.2))) (mL (((cs.drop off).take (ar.hi.toNat+1)).map (·.2)))
    (c (.w (.one (.int k ⟨.var n,mM (((cs.drop off).take (ar.hi.toNat+1)).map (·.2)),mL (((cs.drop off).take (ar.hi.toNat+1)).map (·.2))⟩))) (n+1))) .stuck
 |_,_=> .stuck
theorem Sx (hg:eC gl w0) (ty:TypeId) (g off:Nat) {ar:aP} (uw:ar.ok n ρ):ae S L (Ct P gl ty g off ar) n ρ (fU w0 m bl n ρ λw=>(Instr.loadAt ty ((A.rP g off ar).den ρ m)).run P w):=by
 intro JL c hk
 unfold Ct at hk
 cases hf:gl.find? (λp=>Nat.beq p.1 g)with
 |none=>simp[hf,T.holds]at hk
 |some q=>
  obtain⟨a6,cs⟩:=q
  have gv:a6=g:=by have:=List.find?_some hf;exact Nat.eq_of_beq_eq_true this
  subst gv
  cases eh:kindOf P ty with
  |none=>simp[hf,eh,T.holds]at hk
  |some k=>
   simp only[hf,eh]at hk
   generalize hC:(cs.drop off).take (ar.hi.toNat+1)=C at hk
   cases hc:(C.all (λp=>decide (p.1=k))&&Nat.beq C.length (ar.hi.toNat+1)&&decide (0<=ar.lo))with
   |false=>simp[hc,T.holds]at hk
   |true=>
    simp only[hc,cond_true,T.holds]at hk
    simp only[Bool.and_eq_true,decide_eq_true_eq]at hc
    obtain⟨⟨c1,ax⟩,bh⟩:=hc
    have ax:=Nat.eq_of_beq_eq_true ax
    have rq:=uw.2
    have hlt:(ar.l.den ρ).toNat<C.length:=by omega
    have hz:((C.map λp=>I.const p.2).map (·.den ρ)).getD (ar.l.den ρ).toNat 0=(C[(ar.l.den ρ).toNat]).2:=by
     simp[List.getD,hlt,I.aA]
    have jo:=HH (C.map (·.2)) _ (List.mem_map_of_mem (List.getElem_mem hlt))
    refine⟨_,n+1,_,Nat.le_succ _,agree.bF _ _ _,(show fU w0 m bl n ρ _ (bF ρ n (((C.map λp=>I.const p.2).map (·.den ρ)).getD (ar.l.den ρ).toNat 0)) (n+1) (.w (.one (.int k ⟨.var n,mM (C.map (·.2)),mL (C.map (·.2))⟩))) from⟨⟨I.cA (Nat.lt_succ_self n),?_,?_⟩,_,rfl,?_⟩),hk _ (by rw[hz];exact jo.1) (by rw[hz];exact jo.2) rfl⟩
    ·simp only[I.bc,eB,hz];exact jo.1
    ·simp only[I.bc,eB,hz];exact jo.2
    ·intro w hw
     have hu:eb P ty=some false:=by
      unfold kindOf at eh
      unfold eb
      cases hq:P.underlying ty with
      |none=>simp[hq]at eh
      |some d=>cases d<;>simp[hq]at eh<;>rfl
     have da:(C[(ar.l.den ρ).toNat]).1=k:=by simpa using List.all_eq_true.1 c1 _ (List.getElem_mem hlt)
     have hcs:cs[off+(ar.l.den ρ).toNat]?=some (C[(ar.l.den ρ).toNat]):=by
      have h3:C[(ar.l.den ρ).toNat]?=some (C[(ar.l.den ρ).toNat]):=List.getElem?_eq_getElem hlt
      have h4:C[(ar.l.den ρ).toNat]?=cs[off+(ar.l.den ρ).toNat]?:=by rw[<-hC,List.getElem?_take,if_pos (by omega),List.getElem?_drop]
      rw[<-h4,h3]
     obtain⟨Nl,t,np,MU⟩:=hg a6 cs (List.mem_of_find?_eq_some hf)
     have hcell:w.cell? ⟨a6,off+(ar.l.den ρ).toNat,none⟩=some (.int k (C[(ar.l.den ρ).toNat]).2):=by
      rw[hw.ext.cell _ Nl]
      simp only[World.cell?,MU,Option.isSome_none,Bool.false_eq_true,if_false,List.getElem?_toArray]
      rw[List.getElem?_map,hcs,Option.map_some,da]
     simp only[W.den,A.den,I.bc,eB,hz];simp[Instr.loadAt,Instr.sureAddr,loadVar,iG hu,hcell]
end
end Go.aZ
namespace Go.aZ
open M
abbrev dx:=FuncId->Option (List ag->List V->M V)
def ra (P:Program) (o:Oper) (a:Act) (w:World) (val:Value):Prop:=
 (execOp a.eval o).run P w= .ok (.value val) w∨
 ∃f args,(execOp a.eval o).run P w= .ok (.enter f args) w/\Calls P f args w λe gF=>e= .returned val/\w.Extends gF
def q8 (P:Program) (f:FuncId) (args:Array Value) (w:World) (val:Value):Prop:=
 (callFunc f args).run P w= .ok (.value val) w∨
 ((callFunc f args).run P w= .ok (.enter f args) w/\Calls P f args w λe gF=>e= .returned val/\w.Extends gF)
def c2 (ρ:Env) (m:Nat->Nat):List V->List Value->Prop
 |[],[]=>True
 |v::r,x::s=>v.rel ρ m x/\c2 ρ m r s
 |_,_=>False
def fB (S:Nat->List Int->List Int->Prop) (P:Program) (gl:cN) (w0:b7) (aN:dx):Prop:=
 ∀f g,aN f=some g->∀(L:V->Env->Prop) (n:Nat) (ρ:Env) (m:Nat->Nat) (bl:List ag) (vs:List V) (xs:List Value),bn n bl.length ρ bl->(∃w,Mem w0 ρ m bl w)->(∀v∈vs,v.ok n bl.length ρ)->c2 ρ m vs xs->
  ae S L (g bl vs) n ρ λaa n' v=>v.ok n' bl.length aa/\∃val,v.rel aa m val/\∀w,Mem w0 ρ m bl w->q8 P f xs.toArray w val
def tI (P:Program) (s:TypeId) (f:Nat):Option Field:=match P.underlying s with|some (.struct bV)=>bV[f]?|_=>none
def jH (P:Program) (t:TypeId):Option (Nat×TypeId):=match P.underlying t with|some (.array n e)=>some (n,e)|_=>none
def dT (P:Program) (t:TypeId):Option TypeId:=match P.underlying t with|some (.slice e)=>some e|_=>none
def vd (P:Program) (t:TypeId) (l:List A) (off:Nat):M V:=
 match eb P t,cC P t with
 |some true,some k=>pure (.w (.agg ((l.drop off).take k)))
 |some false,_=>match l[off]? with|some a=>pure (.w (.one a))|none=>fail
 |_,_=>fail
def Bb (P:Program) (t:TypeId) (x:V) (ar:aP):M V:=
 match x with
 | .w (.one (.ptr b off))=>match jH P t with
  |some (len,e)=>match cC P e with
   |some s=>match ar.l.bS with
    |some i=>cond (decide (0<=i)&&decide (i<len)) (pure (.w (.one (.ptr b (off+i.toNat*s))))) fail
    |none=>cond (Nat.beq s 1&&decide (0<=ar.lo)&&decide (ar.hi<len)) (pure (.w (.one (.gY b off ar)))) fail
   |none=>fail
  |none=>fail
 | .w (.one (.gptr g off))=>match jH P t with
  |some (len,e)=>match cC P e with
   |some s=>match ar.l.bS with
    |some i=>cond (decide (0<=i)&&decide (i<len)) (pure (.w (.one (.gptr g (off+i.toNat*s))))) fail
    |none=>cond (Nat.beq s 1) (bind (cF 74 [ar.l,.const len]) λ_=>pure (.w (.one (.rP g off ⟨ar.l,0,(len:Int)-1⟩)))) fail
   |none=>fail
  |none=>fail
 | .w (.one (.slc b off len _))=>match dT P t with
  |some e=>match cC P e with
   |some s=>match ar.l.bS with
    |some i=>cond (decide (0<=i)&&decide (i<len)) (pure (.w (.one (.ptr b (off+i.toNat*s))))) fail
    |none=>cond (Nat.beq s 1&&decide (0<=ar.lo)&&decide (ar.hi<len)) (pure (.w (.one (.gY b off ar)))) fail
   |none=>fail
  |none=>fail
 | .iD b len _=>match dT P t with
  |some e=>match cC P e with
   |some s=>match ar.l.bS with
    |some i=>cond (decide (0<=i)&&decide (i<len)) (pure (.w (.one (.ptr b (i.toNat*s))))) fail
    |none=>fail
   |none=>fail
  |none=>fail
 |_=>fail
def nW:List V->Option (List A)
 |[]=>some []
 | .w (.one a)::r=>match nW r with|some l=>some (a::l)|none=>none
 |_::_=>none
def ou:List A->List A->Option aD
 |[],[]=>some (.lit true)
 | .int k x::r,.int aE y::ei=>cond (decide (k=aE)) (match ou r ei with|some b=>some (.mkAnd (.mkEq x y) b)|none=>none) none
 |_,_=>none
def zB (P:Program) (t:TypeId) (x y:List A):Option aD:=
 match jH P t with
 |some (len,e)=>match kindOf P e,cC P e with
  |some _,some 1=>cond (Nat.beq x.length len&&Nat.beq y.length len&& !P.eqGuardType P.depth t) (ou x y) none
  |_,_=>none
 |none=>none
def rJ (P:Program):Nat->List Field->Bool
 |_,[]=>true
 |i,f::r=>(f.name != "_")&&Nat.beq f.offset i&&rJ P (i+1) r
noncomputable def kg (P:Program):List Field->List A->List A->M aD
 |[],[],[]=>pure (.lit true)
 |f::bV,.int k a::xs,.int aE b::dv=>match kindOf P f.type with
  |some k2=>cond (decide (k=aE)) (bind (kg P bV xs dv) λr=>pure (.mkAnd (.mkEq a b) r)) fail
  |none=>fail
 |f::bV,.str a::xs,.str b::dv=>match P.underlying f.type with
  |some .string=>bind (ck 4 [a,b] 0 1) λl=>bind (kg P bV xs dv) λr=>pure (.mkAnd (.mkEq ⟨l,0,1⟩ (.const 1)) r)
  |_=>fail
 |_,_,_=>fail
noncomputable def wJ (P:Program) (g:TypeId->List A->List A->M aD):Nat->List Field->List A->List A->M aD
 |_,[],_,_=>pure (.lit true)
 |o,f::bV,x,y=>match cC P f.type with
  |some s=>cond ((f.name != "_")&&Nat.beq f.offset o) (bind (g f.type (x.take s) (y.take s)) λb=>bind (wJ P g (o+s) bV (x.drop s) (y.drop s)) λr=>pure (.mkAnd b r)) fail
  |none=>fail
noncomputable def rE (P:Program):Nat->TypeId->List A->List A->M aD
 |0,_,_,_=>fail
 |d+1,t,x,y=>match P.underlying t with
  |some (.int k)=>match x,y with
   |[.int k1 a],[.int k2 b]=>cond (decide (k1=k2)) (pure (.mkEq a b)) fail
   |_,_=>fail
  |some .string=>match x,y with
   |[.str a],[.str b]=>bind (ck 4 [a,b] 0 1) λl=>pure (.mkEq ⟨l,0,1⟩ (.const 1))
   |_,_=>fail
  |some .bool=>match x,y with
   |[.bool a],[.bool b]=>pure (.mkIff a b)
   |_,_=>fail
  |some (.struct bV)=>cond (!P.stoodInHeld t) (wJ P (rE P d) 0 bV.toList x y) fail
  |_=>fail
noncomputable def wK (P:Program) (t:TypeId) (x y:List A):M aD:=
 match P.underlying t with
 |some (.struct bV)=>cond (rJ P 0 bV.toList&& !P.stoodInHeld t&& !P.eqGuardType P.depth t) (cond (bV.toList.all λf=>match P.underlying f.type with|some (.int _)=>true|some .string=>true|_=>false) (kg P bV.toList x y) (rE P 8 t x y))
  (cond (!P.eqGuardType P.depth t) (rE P 8 t x y) fail)
 |_=>fail
noncomputable def CK (op:BinOp) (a b:I):M V:=
 match op with
 | .add=>bind (cF 3 [a,b]) λ_=>bind (ck 3 [a,b] 0 aO) λl=>pure (.w (.one (.str l)))
 | .eql=>bind (ck 4 [a,b] 0 1) λl=>pure (.w (.one (.bool (.mkEq ⟨l,0,1⟩ (.const 1)))))
 | .neq=>bind (ck 4 [a,b] 0 1) λl=>pure (.w (.one (.bool (.mkNot (.mkEq ⟨l,0,1⟩ (.const 1))))))
 | .lss=>bind (ck 5 [a,b] 0 1) λl=>pure (.w (.one (.bool (.mkEq ⟨l,0,1⟩ (.const 1)))))
 | .geq=>bind (ck 5 [a,b] 0 1) λl=>pure (.w (.one (.bool (.mkNot (.mkEq ⟨l,0,1⟩ (.const 1))))))
 |_=>fail
def Je (s:I):M V:=bind (ck 0 [s] 0 9223372036854775807) λl=>pure (.w (.one (.int .i64 ⟨l,0,9223372036854775807⟩)))
def Jd (s i:I):M V:=bind (cF 1 [s,i]) λ_=>bind (ck 1 [s,i] 0 255) λl=>pure (.w (.one (.int .u8 ⟨l,0,255⟩)))
noncomputable def ys (s a b:I):M V:=bind (cF 2 [s,a,b]) λ_=>bind (ck 2 [s,a,b] 0 aO) λl=>pure (.w (.one (.str l)))
def jy (v:V):Option I:=match v with| .w (.one (.int _ a))=>some a.l|_=>none
noncomputable def CL (tm:List V) (s:I) (lo hi:Option Operand):M V:=
 match(match lo with|none=>some (I.const 0)|some x=>jy (aV tm x))with
 |none=>fail
 |some a=>match hi with
  |none=>bind (ck 0 [s] 0 9223372036854775807) λb=>ys s a b
  |some y=>match jy (aV tm y)with
   |some b=>ys s a b
   |none=>fail
noncomputable def D4 (P:Program) (op:BinOp) (t:TypeId) (x y:V):M V:=
 match x,y with
 | .w (.one (.int k a)),.w (.one (.int aE b))=>bind (y3 op k a aE b) λr=>pure (.w (.one r))
 | .w (.agg a),.w (.agg b)=>match op,zB P t a b with
  | .eql,some e=>pure (.w (.one (.bool e)))
  | .neq,some e=>pure (.w (.one (.bool (.mkNot e))))
  | .eql,none=>bind (wK P t a b) λe=>pure (.w (.one (.bool e)))
  | .neq,none=>bind (wK P t a b) λe=>pure (.w (.one (.bool (.mkNot e))))
  |_,_=>fail
 | .w (.one (.str a)),.w (.one (.str b))=>CK op a b
 | .w (.one (.bool a)),.w (.one (.bool b))=>match op,P.underlying t with
  | .eql,some .bool=>pure (.w (.one (.bool (.mkIff a b))))
  | .neq,some .bool=>pure (.w (.one (.bool (.mkNot (.mkIff a b)))))
  |_,_=>fail
 |_,_=>fail
def Ju (op:UnOp) (x:V):M V:=
 match op,x with
 | .not,.w (.one (.bool b))=>pure (.w (.one (.bool (.mkNot b))))
 | .xor,.w (.one (.int k a))=>cond (!k.signed&&decide (0<=a.lo)&&decide (a.hi<two k)) (pure (.w (.one (.int k ⟨(I.const (two k-1)).sub a.l,two k-1-a.hi,two k-1-a.lo⟩)))) fail
 | .neg,.w (.one (.int k a))=>bind (m1 k ⟨a.l.smul (-1),-a.hi,-a.lo⟩) λr=>pure (.w (.one (.int k r)))
 |_,_=>fail
def Ew (P:Program) (src dst:TypeId) (x:V):M V:=
 match P.underlying src,P.underlying dst,x with
 |some _,some .string,.w (.one (.int _ a))=>match a.l.bS with
  |some c=>cond (Nat.ble (Utf8.encode c).size 1000) (pure (.w (.one (.str (.const (dF (Utf8.encode c).data.toList)))))) fail
  |none=>fail
 |_,_,_=>match P.underlying src,kindOf P dst,x with
 |some _,some k,.w (.one (.int _ a))=>bind (m1 k a) λr=>pure (.w (.one (.int k r)))
 |_,_,_=>fail
def wC (v:V):Option Int:=match v with| .w (.one (.int _ a))=>a.l.bS|_=>none
def xW (tm:List V):Option Operand->Option (Option Int)
 |none=>some none
 |some x=>match wC (aV tm x)with|some c=>some (some c)|none=>none
def I4 (P:Program) (t:TypeId) (x:V) (lo hi:Option Int):M V:=
 match x,jH P t with
 | .w (.one (.ptr b off)),some (n,e)=>match cC P e with
  |some s=>cond (decide (0<=lo.getD 0)&&decide (lo.getD 0<=hi.getD n)&&decide (hi.getD n<=n)&&decide (lo.getD 0<n)) (pure (.w (.one (.slc b (off+(lo.getD 0).toNat*s) ((hi.getD n).toNat-(lo.getD 0).toNat) (n-(lo.getD 0).toNat))))) fail
  |none=>fail
 | .w (.one (.slc b off len cap)),none=>match dT P t with
  |some e=>match cC P e with
   |some s=>cond (decide (0<=lo.getD 0)&&decide (lo.getD 0<=hi.getD len)&&decide (hi.getD len<=cap)&&decide (lo.getD 0<cap)) (pure (.w (.one (.slc b (off+(lo.getD 0).toNat*s) ((hi.getD len).toNat-(lo.getD 0).toNat) (cap-(lo.getD 0).toNat))))) fail
   |none=>fail
  |none=>fail
 |_,_=>fail
def HO (x:V):M V:=
 match x with
 | .w (.one (.ptr b o))=>pure (.w (.one (.ptr b o)))
 | .w (.one (.gY b o i))=>pure (.w (.one (.gY b o i)))
 | .w (.one (.gptr g o))=>pure (.w (.one (.gptr g o)))
 |_=>fail
def W.cells:W->List A
 | .one a=>[a]
 | .agg l=>l
def gK (P:Program) (t:TypeId):Option (List A):=
 match P.info? t with
 |some i=>match i.zero with
  |some z=>ni z.cells.toList
  |none=>none
 |none=>none
def mw (place:Nat->Option (Nat×Nat)):List A->List (Nat×V)->Option (List A)
 |cells,[]=>some cells
 |cells,(i,.w u)::r=>match place i with
  |some (off,size)=>cond (Nat.beq u.cells.length size&&Nat.ble (off+size) cells.length) (mw place (cells.take off++u.cells++cells.drop (off+size)) r) none
  |none=>none
 |_,_::_=>none
def za (P:Program) (t:TypeId) (parts:List (Nat×V)):Option (List A):=
 match gK P t,P.underlying t with
 |some z,some (.array _ e)=>match cC P e with
  |some s=>mw (λi=>some (i*s,s)) z parts
  |none=>none
 |some z,some (.struct fields)=>match fields.toList.mapM (λf=>(P.info? f.type).map λi=>(f.offset,i.size))with
  |some places=>mw (places.toArray[·]?) z parts
  |none=>none
 |_,_=>none
noncomputable def B3 (P:Program) (aN:dx) (gl:cN) (bl:List ag) (tm:List V) (o:Oper):M V:=
 match o.op with
 | .move x| .assign x=>pure (aV tm x)
 | .load t x=>match aV tm x with
  | .w (.one (.gY b off ar))=>Cu P bl t b off ar
  | .w (.one (.rP g off ar))=>Ct P gl t g off ar
  | .w (.one p)=>Bw P bl gl t p
  |_=>fail
 | .nilCheck x=>HO (aV tm x)
 | .pick c x y=>match aV tm c with
  | .w (.one (.bool (.lit v)))=>pure (cond v (aV tm x) (aV tm y))
  |_=>fail
 | .binOp op t x y _=>D4 P op t (aV tm x) (aV tm y)
 | .unOp op _ x=>Ju op (aV tm x)
 | .convert s d x=>Ew P s d (aV tm x)
 | .indexAddr t x ar=>match aV tm ar with
  | .w (.one (.int _ i))=>Bb P t (aV tm x) i
  |_=>fail
 | .index t x ar=>match aV tm x with
  | .w (.one (.str s))=>match P.underlying t,jy (aV tm ar)with
   |some .string,some i=>Jd s i
   |_,_=>fail
  |_=>match aV tm x,wC (aV tm ar),jH P t with
   | .w (.agg l),some i,some (len,e)=>match cC P e with
    |some s=>cond (decide (0<=i)&&decide (i<len)) (vd P e l (i.toNat*s)) fail
    |none=>fail
   |_,_,_=>fail
 | .fieldAddr s x f=>match aV tm x,tI P s f with
  | .w (.one (.ptr b off)),some fd=>match cC P fd.type with
   |some (_+1)=>pure (.w (.one (.ptr b (off+fd.offset))))
   |_=>fail
  |_,_=>fail
 | .field s x f=>match aV tm x,tI P s f with
  | .w (.agg l),some fd=>vd P fd.type l fd.offset
  |_,_=>fail
 | .extract x i=>match aV tm x with
  | .dg l=>match l[i]? with|some u=>pure (.w u)|none=>fail
  |_=>fail
 | .slice t x lo hi none=>match aV tm x,P.underlying t with
  | .w (.one (.str s)),some .string=>CL tm s lo hi
  |_,_=>match xW tm lo,xW tm hi with
   |some l,some h=>I4 P t (aV tm x) l h
   |_,_=>fail
 | .call c=>match c.callee with
  | .value (.func f)=>match aN f with
   |some g=>g bl (c.args.toList.map (aV tm))
   |none=>fail
  | .builtin .len=>match c.args.toList,c.argTypes.toList with
   |[x],[t]=>match aV tm x,P.underlying t with
    | .w (.one (.str s)),some .string=>Je s
    |_,_=>match aV tm x,dT P t with
     | .w (.one (.slc _ _ len _)),some _=>pure (.w (.one (.int .i64 (.const len))))
     | .iD _ len _,some _=>pure (.w (.one (.int .i64 (.const len))))
     |_,_=>fail
   |_,_=>fail
  |_=>fail
 | .makeFunc (.func f) first ee=>match first.toList,nW (ee.toList.map (aV tm))with
  |[],some l=>pure (.jg f l)
  |_,_=>fail
 | .build t parts=>match za P t (parts.toList.map λp=>(p.1,aV tm p.2))with
  |some l=>pure (.w (.agg l))
  |none=>fail
 | .sliceToArrayPointer t x=>match aV tm x,jH P t with
  | .iD b len _,some (k,_)=>cond (Nat.ble k len) (pure (.w (.one (.ptr b 0)))) fail
  |_,_=>fail
 |_=>fail
section
variable {S:Nat->List Int->List Int->Prop} {L:V->Env->Prop} {n:Nat} {ρ:Env} {m:Nat->Nat} {bl:List ag} {gl:cN} {w0:b7} {P:Program} {tm:List V} {a:Act}
def fC (w0:b7) (m:Nat->Nat) (bl:List ag) (n:Nat) (ρ:Env) (P:Program) (o:Oper) (a:Act) (aa:Env) (n':Nat) (v:V):Prop:=
 v.ok n' bl.length aa/\∃val,v.rel aa m val/\∀w,Mem w0 ρ m bl w->ra P o a w val
theorem fC.of_run {o:Oper} {s:Sem Value} {aa:Env} {n':Nat} {v:V} (he:execOp a.eval o=(do pure (Next.value (<-s)))) (h:fU w0 m bl n ρ (λw=>s.run P w) aa n' v):fC w0 m bl n ρ P o a aa n' v:=by
 obtain⟨h1,val,h2,h3⟩:=h
 exact⟨h1,val,h2,λw hw=> .inl (by rw[he];simp[h3 w hw])⟩
theorem W.wz {n nb:Nat} {ρ:Env} {m:Nat->Nat} (u:W) (hu:u.ok n nb ρ):(u.den ρ m).cells=(u.cells.map (A.den ρ m)).toArray:=by
 cases u with
 |one a=>
  have:=A.xS (m:=m) hu
  simp only[W.den,W.cells,List.map_cons,List.map_nil]
  generalize A.den ρ m a=v at*
  cases v<;>first|rfl|simp[Value.oneCell']at this
 |agg l=>simp[W.den,W.cells,Value.cells]
theorem W.rA {n nb:Nat} {ρ:Env} {u:W} (hu:u.ok n nb ρ):∀a∈u.cells,A.ok n nb ρ a:=by
 cases u with
 |one a=>intro x hx;simp[W.cells]at hx;subst hx;exact hu
 |agg l=>exact hu
def vL (n nb:Nat) (ρ:Env) (m:Nat->Nat):List (Nat×V)->List (Nat×Value)->Prop
 |[],[]=>True
 |p::r,q::s=>(p.1=q.1/\V.ok n nb ρ p.2/\V.rel ρ m p.2 q.2)/\vL n nb ρ m r s
 |_,_=>False
theorem Fg (off:Nat):∀(src:List Value) (dst:Array Value) (k:Nat),off+k+src.length<=dst.size->
 ((src.zipIdx k).foldl (λcs (c,j)=>cs.setIfInBounds (off+j) c) dst)=(dst.toList.take (off+k)++src++dst.toList.drop (off+k+src.length)).toArray
 |[],dst,k,h=>by simp
 |c::src,dst,k,h=>by
  simp only[List.length_cons]at h
  rw[List.zipIdx_cons,List.foldl_cons,Fg off src _ (k+1) (by simp;omega)]
  congr 1
  simp only[Array.toList_setIfInBounds,List.length_cons]
  have h1:off+k<dst.toList.length:=by simp;omega
  rw[List.take_set,show off+(k+1)=off+k+1 by omega,List.drop_set_of_lt (by omega),List.take_add_one,List.getElem?_eq_getElem h1]
  rw[show off+k+1+src.length=off+k+(src.length+1) by omega]
  simp only[Option.toList_some]
  rw[List.set_append_right _ _ (by simp;omega)]
  have hm:min (off+k) dst.size=off+k:=Nat.min_eq_left (by omega)
  simp[hm]
theorem wO {n nb:Nat} {ρ:Env} {m:Nat->Nat} {place:Nat->Option (Nat×Nat)}:∀{parts:List (Nat×V)} {vals:List (Nat×Value)} {cells l:List A},mw place cells parts=some l->(∀a∈cells,A.ok n nb ρ a)->
 vL n nb ρ m parts vals->(∀a∈l,A.ok n nb ρ a)/\Instr.fill place (cells.map (A.den ρ m)).toArray vals=some (l.map (A.den ρ m)).toArray
 |[],[],cells,l,h,hc,_=>by simp[mw]at h;subst h;exact⟨hc,rfl⟩
 |(i,.w u)::r,(qo,x)::s,cells,l,h,hc,⟨⟨e1,e2,e3⟩,hr⟩=>by
  simp only at e1;subst e1
  simp only[V.rel]at e3
  have e3:x=u.den ρ m:=e3
  subst e3
  simp only[mw]at h
  cases hp:place i with
  |none=>simp[hp]at h
  |some q=>
   obtain⟨off,size⟩:=q
   simp only[hp]at h
   cases hq:(Nat.beq u.cells.length size&&Nat.ble (off+size) cells.length)with
   |false=>simp[hq]at h
   |true=>
    simp only[hq,cond_true]at h
    simp only[Bool.and_eq_true]at hq
    have q1:=Nat.eq_of_beq_eq_true hq.1
    have q2:=Nat.le_of_ble_eq_true hq.2
    have km:=W.wz (m:=m) u e2
    obtain⟨g1,g2⟩:=wO (m:=m) h (λa ha=>by
     rcases List.mem_append.1 ha with ha|ha
     ·rcases List.mem_append.1 ha with ha|ha
      ·exact hc a (List.mem_of_mem_take ha)
      ·exact W.rA e2 a ha
     ·exact hc a (List.mem_of_mem_drop ha)) hr
    refine⟨g1,?_⟩
    simp only[Instr.fill,hp,km,List.size_toArray,List.length_map,q1]
    rw[if_neg (by simp;omega)]
    rw[<-g2]
    congr 1
    have:=Fg off (u.cells.map (A.den ρ m)) (cells.map (A.den ρ m)).toArray 0 (by simp;omega)
    simp only[Nat.add_zero]at this
    rw[<-Array.foldl_toList]
    simp only[Array.toList_zipIdx]
    rw[this]
    simp[List.map_take,List.map_drop,q1]
 |(_,.dg _)::_,_,_,_,h,_,_=>by simp[mw]at h
 |(_,.any)::_,_,_,_,h,_,_=>by simp[mw]at h
 |[],_::_,_,_,_,_,hr=>hr.elim
 |(_,.w _)::_,[],_,_,_,_,hr=>hr.elim
theorem KN {n nb:Nat} {ρ:Env} {m:Nat->Nat} {t:TypeId} {parts:List (Nat×V)} {vals:List (Nat×Value)} {l:List A} (h:za P t parts=some l)
 (hr:vL n nb ρ m parts vals):(∀a∈l,A.ok n nb ρ a)/\P.built t vals=some (l.map (A.den ρ m)).toArray:=by
 unfold za at h
 unfold Program.built
 cases hz:gK P t with
 |none=>simp[hz]at h
 |some z=>
  unfold gK at hz
  cases hi:P.info? t with
  |none=>simp[hi]at hz
  |some it=>
   simp only[hi]at hz
   cases k7:it.zero with
   |none=>simp[k7]at hz
   |some z0=>
    simp only[k7]at hz
    have hzs:=nj hz n nb ρ m
    have hz1:z0.cells=(z.map (A.den ρ m)).toArray:=by rw[hzs.2]
    cases hu:P.underlying t with
    |none=>simp[gK,hi,k7,hz,hu]at h
    |some d=>
     cases d<;>try(simp[gK,hi,k7,hz,hu]at h;done)
     case array len e=>
      simp only[gK,hi,k7,hz,hu,cC]at h
      cases gw:P.info? e with
      |none=>simp[gw]at h
      |some Va=>
       simp only[gw]at h
       simp only[k7,gw,hz1]
       exact wO h hzs.1 hr
     case struct fields=>
      simp only[gK,hi,k7,hz,hu]at h
      cases hp:fields.toList.mapM (λf=>(P.info? f.type).map λi=>(f.offset,i.size))with
      |none=>simp[hp]at h
      |some places=>
       simp only[hp]at h
       simp only[k7,hp,hz1]
       exact wO h hzs.1 hr
theorem BW {t:TypeId} {l:List A} {off:Nat} (hl:∀x∈l,A.ok n bl.length ρ x):ae S L (vd P t l off) n ρ (fU w0 m bl n ρ λw=>(part t (l.map (A.den ρ m)).toArray off).run P w):=by
 unfold vd
 cases h1:eb P t with
 |none=>exact ae.fail
 |some b=>
  cases b with
  |true=>
   cases h2:cC P t with
   |none=>exact ae.fail
   |some k=>
    refine ae.pure ⟨λx hx=>hl x (List.mem_of_mem_drop (List.mem_of_mem_take hx)),_,rfl,λw _=>?_⟩
    simp[part,iG h1,dQ h2,W.den,List.map_take,List.map_drop,List.take_drop]
    try congr 1
  |false=>
   cases h3:l[off]? with
   |none=>exact ae.fail
   |some x=>
    refine ae.pure ⟨hl x (List.mem_of_getElem? h3),_,rfl,λw _=>?_⟩
    simp[part,iG h1,h3,W.den]
theorem lC {t:TypeId} {len:Nat} {e:TypeId} (h:jH P t=some (len,e)):P.underlying t=some (.array len e):=by
 unfold jH at h
 cases hu:P.underlying t with
 |none=>simp[hu]at h
 |some d=>cases d<;>simp[hu]at h<;>simp[h]
theorem dp {t e:TypeId} (h:dT P t=some e):P.underlying t=some (.slice e):=by
 unfold dT at h
 cases hu:P.underlying t with
 |none=>simp[hu]at h
 |some d=>cases d<;>simp[hu]at h<;>simp[h]
theorem Bl {t:TypeId} {k:IntKind} (h:kindOf P t=some k):P.underlying t=some (.int k):=by
 unfold kindOf at h
 cases hu:P.underlying t with
 |none=>simp[hu]at h
 |some d=>cases d<;>simp[hu]at h<;>simp[h]
theorem zC {s:TypeId} {f:Nat} {fd:Field} (h:tI P s f=some fd):∃bV,P.underlying s=some (.struct bV)/\bV[f]?=some fd:=by
 unfold tI at h
 cases hu:P.underlying s with
 |none=>simp[hu]at h
 |some d=>cases d<;>simp[hu]at h<;>exact⟨_,rfl,h⟩
theorem OS {t:TypeId} {x:V} {k:IntKind} {ar:aP} {X:Value} (hx:x.ok n bl.length ρ) (aX:x.rel ρ m X) (hi:ar.ok n ρ):
 ae S L (Bb P t x ar) n ρ (fU w0 m bl n ρ λw=>(Instr.indexAt t X (.int k (ar.l.den ρ))).run P w):=by
 unfold Bb
 split
 ·rename_i b off
  simp only[V.rel,W.den,A.den]at aX;subst aX
  cases h1:jH P t with
  |none=>exact ae.fail
  |some q=>
   obtain⟨len,e⟩:=q
   cases h2:cC P e with
   |none=>simp only[h2];exact ae.fail
   |some s=>
    simp only[h2]
    cases h3:ar.l.bS with
    |some i=>
     refine bT λhc=>ae.pure ⟨hx,_,rfl,λw _=>?_⟩
     simp only[Bool.and_eq_true,decide_eq_true_eq]at hc
     simp[Instr.indexAt,asIntOf,run_underlying (lC h1),Instr.sureAddr,I.er h3,hc,dQ h2,dX,W.den,A.den]
    |none=>
     refine bT λhc=>ae.pure ⟨?_,_,rfl,λw _=>?_⟩
     ·simp only[Bool.and_eq_true,decide_eq_true_eq]at hc
      exact⟨hx,hi,hc.1.2⟩
     ·simp only[Bool.and_eq_true,decide_eq_true_eq]at hc
      have hs:=Nat.eq_of_beq_eq_true hc.1.1
      subst hs
      have b1:=hi.2
      have c1:0<=ar.l.den ρ:=by omega
      have ax:ar.l.den ρ<len:=by omega
      simp[Instr.indexAt,asIntOf,run_underlying (lC h1),Instr.sureAddr,c1,ax,dQ h2,dX,W.den,A.den]
 ·rename_i g off
  simp only[V.rel,W.den,A.den]at aX;subst aX
  cases h1:jH P t with
  |none=>exact ae.fail
  |some q=>
   obtain⟨len,e⟩:=q
   cases h2:cC P e with
   |none=>simp only[h2];exact ae.fail
   |some s=>
    simp only[h2]
    cases h3:ar.l.bS with
    |some i=>
     refine bT λhc=>ae.pure ⟨trivial,_,rfl,λw _=>?_⟩
     simp only[Bool.and_eq_true,decide_eq_true_eq]at hc
     simp[Instr.indexAt,asIntOf,run_underlying (lC h1),Instr.sureAddr,I.er h3,hc,dQ h2,dX,W.den,A.den]
    |none=>
     refine bT λhc=>dm λhq=>ae.pure ⟨?_,_,rfl,λw _=>?_⟩
     ·simp only[List.map_cons,List.map_nil,I.aA,az,wA]at hq
      exact⟨⟨hi.1,by show(0:Int)<=_;exact hq.1,by show _<=((len:Int)-1);have:=hq.2;simp only;omega⟩,Int.le_refl _⟩
     ·simp only[List.map_cons,List.map_nil,I.aA,az,wA]at hq
      have hs:=Nat.eq_of_beq_eq_true hc
      subst hs
      simp[Instr.indexAt,asIntOf,run_underlying (lC h1),Instr.sureAddr,hq.1,hq.2,dQ h2,dX,W.den,A.den]
 ·rename_i b off len cap
  simp only[V.rel,W.den,A.den]at aX;subst aX
  cases h1:dT P t with
  |none=>exact ae.fail
  |some e=>
   cases h2:cC P e with
   |none=>simp only[h2];exact ae.fail
   |some s=>
    simp only[h2]
    cases h3:ar.l.bS with
    |some i=>
     refine bT λhc=>ae.pure ⟨hx,_,rfl,λw _=>?_⟩
     simp only[Bool.and_eq_true,decide_eq_true_eq]at hc
     simp[Instr.indexAt,asIntOf,run_underlying (dp h1),Instr.sureAddr,I.er h3,hc,dQ h2,dX,W.den,A.den]
    |none=>
     refine bT λhc=>ae.pure ⟨?_,_,rfl,λw _=>?_⟩
     ·simp only[Bool.and_eq_true,decide_eq_true_eq]at hc
      exact⟨hx,hi,hc.1.2⟩
     ·simp only[Bool.and_eq_true,decide_eq_true_eq]at hc
      have hs:=Nat.eq_of_beq_eq_true hc.1.1
      subst hs
      have b1:=hi.2
      have c1:0<=ar.l.den ρ:=by omega
      have ax:ar.l.den ρ<len:=by omega
      simp[Instr.indexAt,asIntOf,run_underlying (dp h1),Instr.sureAddr,c1,ax,dQ h2,dX,W.den,A.den]
 ·rename_i b len lo
  obtain⟨c,_,aX⟩:=aX
  subst aX
  cases h1:dT P t with
  |none=>exact ae.fail
  |some e=>
   cases h2:cC P e with
   |none=>simp only[h2];exact ae.fail
   |some s=>
    simp only[h2]
    cases h3:ar.l.bS with
    |some i=>
     refine bT λhc=>ae.pure ⟨hx,_,rfl,λw _=>?_⟩
     simp only[Bool.and_eq_true,decide_eq_true_eq]at hc
     simp[Instr.indexAt,asIntOf,run_underlying (dp h1),Instr.sureAddr,I.er h3,hc,dQ h2,dX,W.den,A.den]
    |none=>exact ae.fail
 ·exact ae.fail
theorem Q4 {vs:List V}:∀{l:List A} {xs:List Value},nW vs=some l->(∀v∈vs,V.ok n bl.length ρ v)->c2 ρ m vs xs->(∀a∈l,A.ok n bl.length ρ a)/\xs=l.map (A.den ρ m):=by
 induction vs with
 |nil=>
  intro l xs h _ hr
  simp[nW]at h;subst h
  cases xs with
  |nil=>exact⟨λ_ h=>by simp at h,rfl⟩
  |cons _ _=>exact hr.elim
 |cons v r ih=>
  intro l xs h aJ hr
  cases xs with
  |nil=>cases v<;>exact hr.elim
  |cons x s=>
   cases v with
   |w y=>
    cases y with
    |agg q=>simp[nW]at h
    |one a=>
     cases h1:nW r with
     |none=>simp[nW,h1]at h
     |some aU=>
      simp only[nW,h1,Option.some.injEq]at h
      subst h
      obtain⟨e1,e2⟩:=ih h1 (λv hv=>aJ v (List.mem_cons_of_mem _ hv)) hr.2
      have h0:x=a.den ρ m:=hr.1
      exact⟨λb hb=>by rcases List.mem_cons.1 hb with rfl|hb;exact aJ (.w (.one b)) (by simp);exact e1 b hb,by rw[h0,e2];rfl⟩
   |_=>simp[nW]at h
theorem LH {e:TypeId} {k:IntKind} (he:P.underlying e=some (.int k)) (d:Nat) (xs dv:Array Value) (w:World):∀(l aU:List A) (i:Nat) (b:aD),ou l aU=some b->(∀x∈l,A.ok n bl.length ρ x)->(∀x∈aU,A.ok n bl.length ρ x)->
 xs.toList.drop i=l.map (A.den ρ m)->dv.toList.drop i=aU.map (A.den ρ m)->b.aC n/\(Op.eqItems (d+1) e 1 xs dv (List.range' i l.length)).run P w= .ok (b.den ρ) w:=by
 intro l
 induction l with
 |nil=>
  intro aU i b h _ _ _ _
  cases aU with
  |nil=>simp[ou]at h;subst h;exact⟨trivial,by simp[Op.eqItems,aD.den]⟩
  |cons y ei=>simp[ou]at h
 |cons x r ih=>
  intro aU i b h hl nB hx hy
  cases aU with
  |nil=>cases x<;>simp[ou]at h
  |cons y ei=>
   cases x<;>cases y<;>simp only[ou]at h<;>try(cases h;done)
   rename_i k1 x k2 y
   by_cases hk:k1=k2
   ·subst hk
    simp only[decide_true,cond_true]at h
    cases hr:ou r ei with
    |none=>simp[hr]at h
    |some bq=>
     simp only[hr,Option.some.injEq]at h
     subst h
     have N3:x.ok n ρ:=hl (.int k1 x) (by simp)
     have N4:y.ok n ρ:=nB (.int k1 y) (by simp)
     have e1:=aD.kT N3 N4
     have tO:xs[i]?=some (.int k1 (x.l.den ρ)):=by
      have:=congrArg List.head? hx
      simpa [A.den]using this
     have tP:dv[i]?=some (.int k1 (y.l.den ρ)):=by
      have:=congrArg List.head? hy
      simpa [A.den]using this
     have pI:xs.toList.drop (i+1)=r.map (A.den ρ m):=by
      have:=congrArg List.tail hx
      simpa using this
     have aq:dv.toList.drop (i+1)=ei.map (A.den ρ m):=by
      have:=congrArg List.tail hy
      simpa using this
     obtain⟨s2,r2⟩:=ih ei (i+1) bq hr (λz hz=>hl z (List.mem_cons_of_mem _ hz)) (λz hz=>nB z (List.mem_cons_of_mem _ hz)) pI aq
     refine⟨aD.ym e1.2 s2,?_⟩
     simp only[List.length_cons,List.range'_succ,Op.eqItems,Sem.run_bind]
     have kB:(part e xs (i*1)).run P w= .ok (.int k1 (x.l.den ρ)) w:=by simp[part,isAgg,run_underlying he,tO]
     have qK:(part e dv (i*1)).run P w= .ok (.int k1 (y.l.den ρ)) w:=by simp[part,isAgg,run_underlying he,tP]
     simp only[kB,qK,Result.andThen_ok,run_equalIn_int w d e k1 k _ _ he,aD.wG,e1.1]
     by_cases hq:x.l.den ρ=y.l.den ρ
     ·simp[hq,r2]
     ·simp[hq]
   ·simp[hk]at h
theorem EV {t:TypeId} {x y:List A} {b:aD} (h:zB P t x y=some b) (hx:∀z∈x,A.ok n bl.length ρ z) (hy:∀z∈y,A.ok n bl.length ρ z):
 b.aC n/\P.eqGuardType P.depth t=false/\∀w,(Op.equalIn 10000 t (.agg (x.map (A.den ρ m)).toArray) (.agg (y.map (A.den ρ m)).toArray)).run P w= .ok (b.den ρ) w:=by
 unfold zB at h
 cases h1:jH P t with
 |none=>simp[h1]at h
 |some q=>
  obtain⟨len,e⟩:=q
  simp only[h1]at h
  cases h2:kindOf P e with
  |none=>simp[h2]at h
  |some k=>
   cases h3:cC P e with
   |none=>simp[h2,h3]at h
   |some s=>
    match s,h3 with
    |0,h3=>simp[h2,h3]at h
    |s+2,h3=>simp[h2,h3]at h
    |1,h3=>
     simp only[h2,h3]at h
     cases hc:(Nat.beq x.length len&&Nat.beq y.length len&& !P.eqGuardType P.depth t)with
     |false=>simp[hc]at h
     |true=>
      simp only[hc,cond_true]at h
      simp only[Bool.and_eq_true,Bool.not_eq_true']at hc
      have hl:=Nat.eq_of_beq_eq_true hc.1.1
      have Nq:∃i,P.info? e=some i/\P.cellsOf e=1:=by
       unfold cC at h3
       cases hq:P.info? e with
       |none=>simp[hq]at h3
       |some i=>simp[hq]at h3;exact⟨i,rfl,by simp[Program.cellsOf,hq,h3]⟩
      obtain⟨i,kr,bE⟩:=Nq
      have k0:=λw=>LH (P:=P) (bl:=bl) (n:=n) (ρ:=ρ) (m:=m) (Bl h2) 9998 (x.map (A.den ρ m)).toArray (y.map (A.den ρ m)).toArray w x y 0 b h hx hy (by simp) (by simp)
      refine⟨(k0 default).1,hc.2,λw=>?_⟩
      rw[show(10000:Nat)=9999+1 from rfl,run_equalIn_array w 9999 _ _ (lC h1) kr,bE,List.range_eq_range',<-hl]
      exact(k0 w).2
theorem pA (l:List UInt8):(aH l).toList=l:=ByteArray.toList_mk l
theorem kb (l:List UInt8):(aH l).size=l.length:=by simp[aH,ByteArray.size]
theorem D3 (l aU:List UInt8):(l==aU)=decide ((if l=aU then(1:Int)else 0)=1):=by
 by_cases h:l=aU
 ·subst h;simp
 ·rw[if_neg h];simp[h]
theorem tz (p:Prop) [Decidable p]:(0:Int)<=(if p then 1 else 0)/\(if p then(1:Int)else 0)<=1:=by split<;>decide
theorem Hs (b:Bool):b=decide ((if b=true then(1:Int)else 0)=1):=by cases b<;>rfl
theorem S0 {op:BinOp} {t:TypeId} {x y:Operand} {p q:I} (hp:(A.str p).ok n bl.length ρ) (hq:(A.str q).ok n bl.length ρ):
 ae S L (CK op p q) n ρ (fU w0 m bl n ρ λw=>(do eqGuard op t x y (.string (aH (J (p.den ρ)))) (.string (aH (J (q.den ρ))));binOp op t (.string (aH (J (p.den ρ)))) (.string (aH (J (q.den ρ)))):Sem Value).run P w):=by
 have b1:=tz (J (p.den ρ)=J (q.den ρ))
 have b2:=tz (Op.bytesLess (J (p.den ρ)) (J (q.den ρ))=true)
 unfold CK
 split
 ·refine dm λhc=>?_
  have hc:(J (p.den ρ)).length+(J (q.den ρ)).length<=ez:=hc
  have hl:(J (p.den ρ)++J (q.den ρ)).length<=ez:=by simpa using hc
  refine(cZ (op:=3) (args:=[p,q]) (kQ _) (j6 hl)).bind λaj n1 l _ _ ⟨h1,h2⟩=>?_
  have h2:l.den aj=dF (J (p.den ρ)++J (q.den ρ)):=h2
  refine ae.pure ⟨⟨h1,by rw[h2];exact kQ _,by rw[h2];exact j6 hl⟩,_,rfl,λw _=>?_⟩
  have hr:=run_string_add_sum (P:=P) w (aH (J (p.den ρ))) (aH (J (q.den ρ))) (by rw[kb,kb];unfold ez at hc;omega)
  simp only[eqGuard,binOp_string_add,W.den,A.den,h2,gD]
  simp[hr]
  exact ByteArray.mk_append_mk _ _
 ·refine(cZ (op:=4) (args:=[p,q]) b1.1 b1.2).bind λaj n1 l _ _ ⟨h1,h2⟩=>?_
  have h2:l.den aj=if J (p.den ρ)=J (q.den ρ)then 1 else 0:=h2
  have e:=aD.kT (n:=n1) (ρ:=aj) (a:=⟨l,0,1⟩) (b:= .const 1) ⟨h1,by simp only[h2];exact b1.1,by simp only[h2];exact b1.2⟩ (aP.iu _ _ _)
  refine ae.pure ⟨e.2,_,rfl,λw _=>?_⟩
  simp only[W.den,A.den,binOp_string_eql,pA]
  rw[e.1]
  simp only[h2,aP.const,I.aA,D3]
  simp[eqGuard]
 ·refine(cZ (op:=4) (args:=[p,q]) b1.1 b1.2).bind λaj n1 l _ _ ⟨h1,h2⟩=>?_
  have h2:l.den aj=if J (p.den ρ)=J (q.den ρ)then 1 else 0:=h2
  have e:=aD.kT (n:=n1) (ρ:=aj) (a:=⟨l,0,1⟩) (b:= .const 1) ⟨h1,by simp only[h2];exact b1.1,by simp only[h2];exact b1.2⟩ (aP.iu _ _ _)
  refine ae.pure ⟨aD.mT e.2,_,rfl,λw _=>?_⟩
  simp only[W.den,A.den,aD.mq,binOp_string_neq,pA]
  rw[e.1]
  simp only[h2,aP.const,I.aA,D3]
  simp[eqGuard]
 ·refine(cZ (op:=5) (args:=[p,q]) b2.1 b2.2).bind λaj n1 l _ _ ⟨h1,h2⟩=>?_
  have h2:l.den aj=if Op.bytesLess (J (p.den ρ)) (J (q.den ρ))=true then 1 else 0:=h2
  have e:=aD.kT (n:=n1) (ρ:=aj) (a:=⟨l,0,1⟩) (b:= .const 1) ⟨h1,by simp only[h2];exact b2.1,by simp only[h2];exact b2.2⟩ (aP.iu _ _ _)
  refine ae.pure ⟨e.2,_,rfl,λw _=>?_⟩
  simp only[W.den,A.den,binOp_string_lss,pA]
  rw[e.1]
  simp only[h2,aP.const,I.aA]
  rw[<-Hs]
  simp[eqGuard]
 ·refine(cZ (op:=5) (args:=[p,q]) b2.1 b2.2).bind λaj n1 l _ _ ⟨h1,h2⟩=>?_
  have h2:l.den aj=if Op.bytesLess (J (p.den ρ)) (J (q.den ρ))=true then 1 else 0:=h2
  have e:=aD.kT (n:=n1) (ρ:=aj) (a:=⟨l,0,1⟩) (b:= .const 1) ⟨h1,by simp only[h2];exact b2.1,by simp only[h2];exact b2.2⟩ (aP.iu _ _ _)
  refine ae.pure ⟨aD.mT e.2,_,rfl,λw _=>?_⟩
  simp only[W.den,A.den,aD.mq,binOp_string_geq,pA]
  rw[e.1]
  simp only[h2,aP.const,I.aA]
  rw[<-Hs]
  simp[eqGuard]
 ·exact ae.fail
theorem S2 {t ty:TypeId} {p:I} (hu:P.underlying t=some .string) (hp:(A.str p).ok n bl.length ρ):
 ae S L (Je p) n ρ (fU w0 m bl n ρ λw=>(Builtin.len_ #[t] ty #[.string (aH (J (p.den ρ)))]).run P w):=by
 have hl:=pg hp.2.2
 unfold ez at hl
 refine(cZ (op:=0) (args:=[p]) (Int.natCast_nonneg _) (by show((J (p.den ρ)).length:Int)<=_;omega)).bind λaj n1 l _ _ ⟨h1,h2⟩=>?_
 have h2:l.den aj=((J (p.den ρ)).length:Int):=h2
 refine ae.pure ⟨⟨h1,by simp only[h2];omega,by simp only[h2];omega⟩,_,rfl,λw _=>?_⟩
 simp[Builtin.len_,run_underlying hu,goInt,W.den,A.den,h2,kb]
theorem S1 {t:TypeId} {k:IntKind} {p i:I} (hu:P.underlying t=some .string) (hp:(A.str p).ok n bl.length ρ):
 ae S L (Jd p i) n ρ (fU w0 m bl n ρ λw=>(Instr.index t (.string (aH (J (p.den ρ)))) (.int k (i.den ρ))).run P w):=by
 refine dm λhc=>?_
 have hc:0<=i.den ρ/\i.den ρ<((J (p.den ρ)).length:Int):=hc
 have hlt:(i.den ρ).toNat<(J (p.den ρ)).length:=by omega
 have hb:=((J (p.den ρ)).getD (i.den ρ).toNat 0).toNat_lt
 refine(cZ (op:=1) (args:=[p,i]) (Int.natCast_nonneg _) (by show(((J (p.den ρ)).getD (i.den ρ).toNat 0).toNat:Int)<=_;omega)).bind λaj n1 l _ _ ⟨h1,h2⟩=>?_
 have h2:l.den aj=(((J (p.den ρ)).getD (i.den ρ).toNat 0).toNat:Int):=h2
 refine ae.pure ⟨⟨h1,by simp only[h2];omega,by simp only[h2];omega⟩,_,rfl,λw _=>?_⟩
 have e:(aH (J (p.den ρ)))[(i.den ρ).toNat]?=some ((J (p.den ρ)).getD (i.den ρ).toNat 0):=by
  rw[ByteArray.getElem?_lt' _ _ (by rw[kb];exact hlt)]
  simp[aH,List.getD,hlt]
  rfl
 simp[Instr.index,asIntOf,run_underlying hu,hc.1,e,W.den,A.den,h2]
theorem S4 {p a b:I} (hp:(A.str p).ok n bl.length ρ):ae S L (ys p a b) n ρ λaa n' v=>v.ok n' bl.length aa/\v.rel aa m (.string ((aH (J (p.den ρ))).extract (a.den ρ).toNat (b.den ρ).toNat))/\0<=a.den ρ/\a.den ρ<=b.den ρ/\b.den ρ<=((J (p.den ρ)).length:Int):=by
 refine dm λhc=>?_
 have hc:0<=a.den ρ/\a.den ρ<=b.den ρ/\b.den ρ<=((J (p.den ρ)).length:Int):=hc
 have hl:=pg hp.2.2
 have hl2:(((J (p.den ρ)).drop (a.den ρ).toNat).take ((b.den ρ).toNat-(a.den ρ).toNat)).length<=ez:=by simp;omega
 refine(cZ (op:=2) (args:=[p,a,b]) (kQ _) (j6 hl2)).bind λaj n1 l _ _ ⟨h1,h2⟩=>?_
 have h2:l.den aj=dF (((J (p.den ρ)).drop (a.den ρ).toNat).take ((b.den ρ).toNat-(a.den ρ).toNat)):=h2
 refine ae.pure ⟨⟨h1,by rw[h2];exact kQ _,by rw[h2];exact j6 hl2⟩,?_,hc⟩
 show _=_
 simp only[W.den,A.den,h2,gD]
 congr 1
 exact ByteArray.extract_mk _ _ _
theorem qt {v:V} {l:I} {x:Value} (h:jy v=some l) (hr:v.rel ρ m x) (aJ:v.ok n bl.length ρ):∃k,x= .int k (l.den ρ)/\l.aC n:=by
 unfold jy at h
 split at h
 ·rename_i k a
  simp only[Option.some.injEq]at h;subst h
  exact⟨k,hr,aJ.1⟩
 ·cases h
theorem kF {k:IntKind} {i:Int} {y:Nat} {jf:BoundsCode} (p1:0<=i) (bd:i<=y) (w:World):(Instr.sliceBound (.int k i) y jf).run P w= .ok i.toNat w:=by
 simp[Instr.sliceBound,asIntOf,p1,bd]
theorem S3 {t:TypeId} {p:I} {lo hi:Option Operand} (hu:P.underlying t=some .string) (hp:(A.str p).ok n bl.length ρ) (ht:bU n bl.length ρ m tm a.tmps):
 ae S L (CL tm p lo hi) n ρ (fU w0 m bl n ρ λw=>(Instr.sliceAt t (.string (aH (J (p.den ρ)))) (lo.map a.eval) (hi.map a.eval) none).run P w):=by
 unfold CL
 split
 ·exact ae.fail
 ·rename_i la r9
  have iR:∃f:Option Value,lo.map a.eval=f/\(f=none/\la.den ρ=0∨∃k,f=some (.int k (la.den ρ))):=by
   cases lo with
   |none=>simp only[Option.some.injEq]at r9;subst r9;exact⟨none,rfl,.inl ⟨rfl,I.aA _ _⟩⟩
   |some x=>
    obtain⟨k,hk,_⟩:=qt (m:=m) (bl:=bl) r9 (bg ht x).2 (bg ht x).1
    exact⟨_,rfl,.inr ⟨k,by rw[<-hk];rfl⟩⟩
  obtain⟨E5,e1,ev⟩:=iR
  have key:∀(lb:I) (aj:Env) (n1:Nat),n<=n1->agree n ρ aj->(hi.map a.eval=none/\lb.den aj=((J (p.den ρ)).length:Int)∨∃k,hi.map a.eval=some (.int k (lb.den aj)))->la.aC n->
   ae S L (ys p la lb) n1 aj (fU w0 m bl n ρ λw=>(Instr.sliceAt t (.string (aH (J (p.den ρ)))) (lo.map a.eval) (hi.map a.eval) none).run P w):=λlb aj n1 hn ha ad Of=>by
   have qc:(A.str p).ok n1 bl.length aj:=hp.ext ha hn (Nat.le_refl _)
   have ep:p.den aj=p.den ρ:=I.aQ ha hp.1
   have zw:la.den aj=la.den ρ:=I.aQ ha Of
   refine(S4 (m:=m) (bl:=bl) (a:=la) (b:=lb) qc).mono λaL cq v _ _ ⟨q1,q2,q3,q4,q5⟩=>⟨q1,_,q2,λw _=>?_⟩
   rw[ep,zw]at*
   have jm:(Instr.sliceBounds false (aH (J (p.den ρ))).size (aH (J (p.den ρ))).size E5 (hi.map a.eval) none).run P w= .ok ((la.den ρ).toNat,(lb.den aj).toNat,(aH (J (p.den ρ))).size) w:=by
    rw[kb]
    rcases ev with⟨rfl,hz⟩|⟨k,rfl⟩<;>rcases ad with⟨h1,h2⟩|⟨k2,h1⟩
    ·rw[h1,hz,h2];simp[Instr.sliceBounds]
    ·rw[h1,hz];simp[Instr.sliceBounds,kF (P:=P) (by omega:0<=lb.den aj) q5]
    ·rw[h1,h2];simp[Instr.sliceBounds,kF (P:=P) (y:=(J (p.den ρ)).length) q3 (by omega)]
    ·rw[h1];simp[Instr.sliceBounds,kF (P:=P) (by omega:0<=lb.den aj) q5,kF (P:=P) (y:=(lb.den aj).toNat) q3 (by omega)]
   rw[e1]
   simp[Instr.sliceAt,Instr.slice,run_underlying hu,jm]
  have sb:la.aC n:=by
   cases lo with
   |none=>simp only[Option.some.injEq]at r9;subst r9;exact I.bt _ _
   |some x=>exact(qt (m:=m) (bl:=bl) r9 (bg ht x).2 (bg ht x).1).choose_spec.2
  cases hi with
  |none=>
   have hl:=pg hp.2.2
   unfold ez at hl
   exact(cZ (op:=0) (args:=[p]) (Int.natCast_nonneg _) (by show((J (p.den ρ)).length:Int)<=_;omega)).bind λaj n1 l hn ha ⟨h1,h2⟩=>key l aj n1 hn ha (.inl ⟨rfl,h2⟩) sb
  |some y=>
   simp only
   cases hy:jy (aV tm y)with
   |none=>exact ae.fail
   |some b=>
    obtain⟨k,hk,_⟩:=qt (m:=m) (bl:=bl) hy (bg ht y).2 (bg ht y).1
    exact key b ρ n (Nat.le_refl _) (agree.refl _ _) (.inr ⟨k,by rw[<-hk];rfl⟩) sb
theorem vJ {xs:List Operand} (h:bU n bl.length ρ m tm a.tmps):c2 ρ m (xs.map (aV tm)) (xs.map a.eval):=by
 induction xs with
 |nil=>trivial
 |cons x r ih=>exact⟨(bg h x).2,ih⟩
theorem Cm {c:Call} {f:FuncId} (hc:c.callee= .value (.func f)) (o:Oper) (ho:o.op= .call c):execOp a.eval o=callFunc f (c.args.map a.eval):=by
 simp only[execOp,ho,resolve,hc,Act.eval,Deferred.ofValue]
 simp[invoke,bind_pure_comp]
theorem zA {nb:Nat} {m:Nat->Nat}:∀(bV:List Field) (x y:List A) (i n:Nat) (ρ:Env),rJ P i bV=true->(∀a∈x,A.ok n nb ρ a)->(∀a∈y,A.ok n nb ρ a)->
 ae S L (kg P bV x y) n ρ λaa n' b=>b.aC n'/\∀(w:World) (d:Nat) (xs dv:Array Value),xs.toList.drop i=x.map (A.den ρ m)->dv.toList.drop i=y.map (A.den ρ m)->(Op.eqFields (d+1) xs dv bV).run P w= .ok (b.den aa) w
 |[],[],[],i,n,ρ,_,_,_=>ae.pure ⟨trivial,λw d xs dv _ _=>by simp[Op.eqFields,aD.den]⟩
 |f::bV,x::xs,y::dv,i,n,ρ,hf,hx,hy=>by
  cases x with
  |int k a=>
   cases y with
   |int aE b=>
    unfold rJ at hf
    simp only[Bool.and_eq_true,bne_iff_ne,ne_eq]at hf
    obtain⟨⟨hn,ho⟩,hf⟩:=hf
    have ho:=Nat.eq_of_beq_eq_true ho
    unfold kg
    split
    ·rename_i k2 hk2
     have hu:=Bl hk2
     refine bT λhk=>?_
     have hk:k=aE:=by simpa using hk
     subst hk
     have u7:a.ok n ρ:=hx (.int k a) (by simp)
     have u9:b.ok n ρ:=hy (.int k b) (by simp)
     refine(zA (nb:=nb) (m:=m) bV xs dv (i+1) n ρ hf (λz hz=>hx z (List.mem_cons_of_mem _ hz)) (λz hz=>hy z (List.mem_cons_of_mem _ hz))).bind λaa n' r p9 c6 ⟨r1,r2⟩=>ae.pure ?_
     have e1:=aD.kT (u7.agree c6 p9) (u9.agree c6 p9)
     refine⟨aD.ym e1.2 r1,λw d ik il uM uN=>?_⟩
     have tO:ik[i]?=some (.int k (a.l.den ρ)):=by
      have:=congrArg List.head? uM
      simpa [A.den]using this
     have tP:il[i]?=some (.int k (b.l.den ρ)):=by
      have:=congrArg List.head? uN
      simpa [A.den]using this
     have pI:ik.toList.drop (i+1)=xs.map (A.den ρ m):=by
      have:=congrArg List.tail uM
      simpa using this
     have aq:il.toList.drop (i+1)=dv.map (A.den ρ m):=by
      have:=congrArg List.tail uN
      simpa using this
     have kB:(part f.type ik f.offset).run P w= .ok (.int k (a.l.den ρ)) w:=by simp[part,isAgg,run_underlying hu,ho,tO]
     have qK:(part f.type il f.offset).run P w= .ok (.int k (b.l.den ρ)) w:=by simp[part,isAgg,run_underlying hu,ho,tP]
     have zw:a.l.den aa=a.l.den ρ:=by
      have:=A.fV (m:=m) (m':=m) (hx (.int k a) (by simp)) c6 (λ_ _=>rfl)
      simpa [A.den]using this
     have oq:b.l.den aa=b.l.den ρ:=by
      have:=A.fV (m:=m) (m':=m) (hy (.int k b) (by simp)) c6 (λ_ _=>rfl)
      simpa [A.den]using this
     simp only[Op.eqFields,ne_eq,hn,not_false_eq_true,if_true,Sem.run_bind,kB,qK,Result.andThen_ok,run_equalIn_int w d f.type k k2 _ _ hu,aD.wG,e1.1,zw,oq]
     by_cases hq:a.l.den ρ=b.l.den ρ
     ·simp[hq,r2 w d ik il pI aq]
     ·simp[hq]
    ·exact ae.fail
   |_=>unfold kg;exact ae.fail
  |str a=>
   cases y with
   |str b=>
    unfold rJ at hf
    simp only[Bool.and_eq_true,bne_iff_ne,ne_eq]at hf
    obtain⟨⟨hn,ho⟩,hf⟩:=hf
    have ho:=Nat.eq_of_beq_eq_true ho
    unfold kg
    split
    ·rename_i hu
     have b1:=tz (J (a.den ρ)=J (b.den ρ))
     refine(cZ (op:=4) (args:=[a,b]) b1.1 b1.2).bind λaj n1 l cD pY ⟨h1,h2⟩=>?_
     have h2:l.den aj=if J (a.den ρ)=J (b.den ρ)then 1 else 0:=h2
     have nG:∀z∈xs,A.ok n1 nb aj z:=λz hz=>(hx z (List.mem_cons_of_mem _ hz)).ext pY cD (Nat.le_refl _)
     have OH:∀z∈dv,A.ok n1 nb aj z:=λz hz=>(hy z (List.mem_cons_of_mem _ hz)).ext pY cD (Nat.le_refl _)
     have ol:(⟨l,0,1⟩:aP).ok n1 aj:=⟨h1,by simp only[h2];exact b1.1,by simp only[h2];exact b1.2⟩
     refine(zA (nb:=nb) (m:=m) bV xs dv (i+1) n1 aj hf nG OH).bind λaa n' r p9 c6 ⟨r1,r2⟩=>ae.pure ?_
     have e1:=aD.kT (n:=n') (ρ:=aa) (a:=⟨l,0,1⟩) (b:= .const 1) (ol.agree c6 p9) (aP.iu _ _ _)
     refine⟨aD.ym e1.2 r1,λw d ik il uM uN=>?_⟩
     have tO:ik[i]?=some (.string (aH (J (a.den ρ)))):=by
      have:=congrArg List.head? uM
      simpa [A.den]using this
     have tP:il[i]?=some (.string (aH (J (b.den ρ)))):=by
      have:=congrArg List.head? uN
      simpa [A.den]using this
     have pI:ik.toList.drop (i+1)=xs.map (A.den aj m):=by
      have:=congrArg List.tail uM
      rw[List.map_congr_left (g:=A.den ρ m) λz hz=>A.fV (hx z (List.mem_cons_of_mem _ hz)) pY (λ_ _=>rfl)]
      simpa using this
     have aq:il.toList.drop (i+1)=dv.map (A.den aj m):=by
      have:=congrArg List.tail uN
      rw[List.map_congr_left (g:=A.den ρ m) λz hz=>A.fV (hy z (List.mem_cons_of_mem _ hz)) pY (λ_ _=>rfl)]
      simpa using this
     have kB:(part f.type ik f.offset).run P w= .ok (.string (aH (J (a.den ρ)))) w:=by simp[part,isAgg,run_underlying hu,ho,tO]
     have qK:(part f.type il f.offset).run P w= .ok (.string (aH (J (b.den ρ)))) w:=by simp[part,isAgg,run_underlying hu,ho,tP]
     have el:l.den aa=l.den aj:=I.aQ c6 h1
     have e2:(aD.mkEq ⟨l,0,1⟩ (.const 1)).den aa=decide (J (a.den ρ)=J (b.den ρ)):=by
      rw[e1.1]
      simp only[aP.const,I.aA,el,h2]
      by_cases hq:J (a.den ρ)=J (b.den ρ)<;>simp[hq]
     simp only[Op.eqFields,ne_eq,hn,not_false_eq_true,if_true,Sem.run_bind,kB,qK,Result.andThen_ok,run_equalIn_string w d f.type _ _ hu,aD.wG,e2,pA]
     by_cases hq:J (a.den ρ)=J (b.den ρ)
     ·simp[hq,r2 w d ik il pI aq]
     ·simp[hq]
    ·exact ae.fail
   |_=>unfold kg;exact ae.fail
  |_=>unfold kg;exact ae.fail
 |[],_::_,_,_,_,_,_,_,_=>by unfold kg;exact ae.fail
 |[],[],y::_,_,_,_,_,_,_=>by cases y<;>(unfold kg;exact ae.fail)
 |_::_,[],_,_,_,_,_,_,_=>by unfold kg;exact ae.fail
 |_::_,x::_,[],_,_,_,_,_,_=>by cases x<;>(unfold kg;exact ae.fail)
def tk (P:Program) (t:TypeId) (l:List Value) (v:Value):Prop:=(eb P t=some true/\v= .agg l.toArray)∨(eb P t=some false/\l=[v])
theorem Ib {t:TypeId} {xs:Array Value} {o s:Nat} (hs:cC P t=some s) {v:Value} (h:tk P t ((xs.toList.drop o).take s) v) (w:World):(part t xs o).run P w= .ok v w:=by
 obtain⟨l⟩:=xs
 rcases h with⟨h1,rfl⟩|⟨h1,h2⟩
 ·simp[part,iG h1,dQ hs,List.take_drop]
 ·have h3:(⟨l⟩:Array Value)[o]?=some v:=by
   have h4:=congrArg List.head? h2
   rw[<-Array.getElem?_toList]
   cases s with
   |zero=>simp at h2
   |succ s=>simpa [List.head?_take,List.head?_drop]using h4
  simp[part,iG h1,h3]
theorem ET {nb:Nat} {m:Nat->Nat} {g:TypeId->List A->List A->M aD} {D:Nat}
 (hg:∀(t:TypeId) (x y:List A) (n:Nat) (ρ:Env),(∀a∈x,A.ok n nb ρ a)->(∀a∈y,A.ok n nb ρ a)->ae S L (g t x y) n ρ λaa n' b=>b.aC n'/\∃ik il,tk P t (x.map (A.den ρ m)) ik/\tk P t (y.map (A.den ρ m)) il/\∀w,(Op.equalIn D t ik il).run P w= .ok (b.den aa) w):
 ∀(bV:List Field) (x y:List A) (o n:Nat) (ρ:Env),(∀a∈x,A.ok n nb ρ a)->(∀a∈y,A.ok n nb ρ a)->
 ae S L (wJ P g o bV x y) n ρ λaa n' b=>b.aC n'/\∀(w:World) (xs dv:Array Value),xs.toList.drop o=x.map (A.den ρ m)->dv.toList.drop o=y.map (A.den ρ m)->(Op.eqFields D xs dv bV).run P w= .ok (b.den aa) w
 |[],x,y,o,n,ρ,_,_=>ae.pure ⟨trivial,λw xs dv _ _=>by simp[Op.eqFields,aD.den]⟩
 |f::bV,x,y,o,n,ρ,hx,hy=>by
  unfold wJ
  cases hs:cC P f.type with
  |none=>exact ae.fail
  |some s=>
   simp only
   refine bT λhc=>?_
   simp only[Bool.and_eq_true,bne_iff_ne,ne_eq]at hc
   obtain⟨hn,ho⟩:=hc
   have ho:=Nat.eq_of_beq_eq_true ho
   refine(hg f.type (x.take s) (y.take s) n ρ (λa ha=>hx a (List.mem_of_mem_take ha)) (λa ha=>hy a (List.mem_of_mem_take ha))).bind λaj n1 b cD bG ⟨b1,ik,il,b2,b3,b4⟩=>?_
   refine(ET hg bV (x.drop s) (y.drop s) (o+s) n1 aj (λa ha=>(hx a (List.mem_of_mem_drop ha)).ext bG cD (Nat.le_refl _)) (λa ha=>(hy a (List.mem_of_mem_drop ha)).ext bG cD (Nat.le_refl _))).bind λaL cq r bZ bM ⟨r1,r2⟩=>ae.pure ⟨aD.ym (b1.mono bZ) r1,λw xs dv c0 ql=>?_⟩
   have kB:(part f.type xs f.offset).run P w= .ok ik w:=Ib hs (by rw[ho,c0,<-List.map_take];exact b2) w
   have qK:(part f.type dv f.offset).run P w= .ok il w:=Ib hs (by rw[ho,ql,<-List.map_take];exact b3) w
   have pI:xs.toList.drop (o+s)=(x.drop s).map (A.den aj m):=by
    rw[<-List.drop_drop,c0,<-List.map_drop]
    exact(jX (λa ha=>hx a (List.mem_of_mem_drop ha)) bG (λ_ _=>rfl)).symm
   have aq:dv.toList.drop (o+s)=(y.drop s).map (A.den aj m):=by
    rw[<-List.drop_drop,ql,<-List.map_drop]
    exact(jX (λa ha=>hy a (List.mem_of_mem_drop ha)) bG (λ_ _=>rfl)).symm
   have oq:b.den aL=b.den aj:=aD.aQ bM b1
   simp only[Op.eqFields,ne_eq,hn,not_false_eq_true,if_true,Sem.run_bind,kB,qK,Result.andThen_ok,b4 w,aD.wG,oq]
   cases hq:b.den aj with
   |true=>simp[r2 w xs dv pI aq]
   |false=>simp
theorem EU {nb:Nat} {m:Nat->Nat}:∀(d:Nat) (t:TypeId) (x y:List A) (n:Nat) (ρ:Env),(∀a∈x,A.ok n nb ρ a)->(∀a∈y,A.ok n nb ρ a)->∀D,d<=D->
 ae S L (rE P d t x y) n ρ λaa n' b=>b.aC n'/\∃ik il,tk P t (x.map (A.den ρ m)) ik/\tk P t (y.map (A.den ρ m)) il/\∀w,(Op.equalIn D t ik il).run P w= .ok (b.den aa) w
 |0,t,x,y,n,ρ,_,_,_,_=>ae.fail
 |d+1,t,x,y,n,ρ,hx,hy,D,hD=>by
  obtain⟨E,rfl⟩:∃E,D=E+1:=⟨D-1,by omega⟩
  unfold rE
  split
  ·rename_i k hu
   split
   ·rename_i k1 a k2 b
    refine bT λhk=>?_
    have hk:k1=k2:=by simpa using hk
    subst hk
    have u7:a.ok n ρ:=hx (.int k1 a) (by simp)
    have u9:b.ok n ρ:=hy (.int k1 b) (by simp)
    have e1:=aD.kT u7 u9
    have c6:eb P t=some false:=by simp[eb,hu]
    refine ae.pure ⟨e1.2,_,_,.inr ⟨c6,rfl⟩,.inr ⟨c6,rfl⟩,λw=>?_⟩
    simp only[A.den]
    rw[run_equalIn_int w E t k1 k _ _ hu,e1.1]
    rfl
   ·exact ae.fail
  ·rename_i hu
   split
   ·rename_i a b
    have b1:=tz (J (a.den ρ)=J (b.den ρ))
    have c6:eb P t=some false:=by simp[eb,hu]
    refine(cZ (op:=4) (args:=[a,b]) b1.1 b1.2).bind λaj n1 l cD pY ⟨h1,h2⟩=>ae.pure ?_
    have h2:l.den aj=if J (a.den ρ)=J (b.den ρ)then 1 else 0:=h2
    have ol:(⟨l,0,1⟩:aP).ok n1 aj:=⟨h1,by simp only[h2];exact b1.1,by simp only[h2];exact b1.2⟩
    have e1:=aD.kT (n:=n1) (ρ:=aj) (a:=⟨l,0,1⟩) (b:= .const 1) ol (aP.iu _ _ _)
    refine⟨e1.2,_,_,.inr ⟨c6,rfl⟩,.inr ⟨c6,rfl⟩,λw=>?_⟩
    simp only[A.den]
    rw[run_equalIn_string w E t _ _ hu,e1.1,pA,pA]
    simp only[aP.const,I.aA,h2]
    by_cases hq:J (a.den ρ)=J (b.den ρ)
    ·simp[hq]
    ·simp[hq]
   ·exact ae.fail
  ·rename_i hu
   split
   ·rename_i a b
    have c6:eb P t=some false:=by simp[eb,hu]
    have u7:a.aC n:=hx (.bool a) (by simp)
    have u9:b.aC n:=hy (.bool b) (by simp)
    refine ae.pure ⟨aD.Cq u7 u9,_,_,.inr ⟨c6,rfl⟩,.inr ⟨c6,rfl⟩,λw=>?_⟩
    simp only[A.den]
    rw[run_equalIn_bool w E t _ _ hu,aD.zv]
   ·exact ae.fail
  ·rename_i bV hu
   refine bT λhg=>?_
   have hg:P.stoodInHeld t=false:=by simpa using hg
   have c6:eb P t=some true:=by simp[eb,hu]
   refine(ET (m:=m) (D:=E) (λt x y n ρ h1 h2=>EU d t x y n ρ h1 h2 E (by omega)) bV.toList x y 0 n ρ hx hy).mono λaa n' b _ _ ⟨h1,h2⟩=>⟨h1,_,_,.inl ⟨c6,rfl⟩,.inl ⟨c6,rfl⟩,λw=>?_⟩
   have hf:P.fieldsOf t=bV:=by simp[Program.fieldsOf,hu]
   rw[run_equalIn_struct w E t _ _ (by rw[hf];exact hu) hg,hf]
   exact h2 w _ _ (by simp) (by simp)
  ·exact ae.fail
theorem EW {nb:Nat} {m:Nat->Nat} {t:TypeId} {x y:List A} (hx:∀a∈x,A.ok n nb ρ a) (hy:∀a∈y,A.ok n nb ρ a):
 ae S L (wK P t x y) n ρ λaa n' b=>b.aC n'/\P.eqGuardType P.depth t=false/\∀w,(Op.equalIn 10000 t (.agg (x.map (A.den ρ m)).toArray) (.agg (y.map (A.den ρ m)).toArray)).run P w= .ok (b.den aa) w:=by
 unfold wK
 split
 ·rename_i bV hu
  have hX:eb P t=some true:=by simp[eb,hu]
  have deep:P.eqGuardType P.depth t=false->ae S L (rE P 8 t x y) n ρ λaa n' b=>b.aC n'/\P.eqGuardType P.depth t=false/\∀w,(Op.equalIn 10000 t (.agg (x.map (A.den ρ m)).toArray) (.agg (y.map (A.den ρ m)).toArray)).run P w= .ok (b.den aa) w:=λhg=>
   (EU (m:=m) 8 t x y n ρ hx hy 10000 (by decide)).mono λaa n' b _ _ ⟨h1,ik,il,h2,h3,h4⟩=>⟨h1,hg,λw=>by
     rcases h2 with⟨_,rfl⟩|⟨h2,_⟩
     ·rcases h3 with⟨_,rfl⟩|⟨h3,_⟩
      ·exact h4 w
      ·rw[hX]at h3;cases h3
     ·rw[hX]at h2;cases h2⟩
  cases hg:(rJ P 0 bV.toList&& !P.stoodInHeld t&& !P.eqGuardType P.depth t)with
  |true=>
   simp only[cond_true]
   simp only[Bool.and_eq_true,Bool.not_eq_true']at hg
   generalize (bV.toList.all λf=>match P.underlying f.type with|some (.int _)=>true|some .string=>true|_=>false)=flat
   cases flat with
   |true=>
    simp only[cond_true]
    refine(zA (nb:=nb) (m:=m) bV.toList x y 0 n ρ hg.1.1 hx hy).mono λaa n' b _ _ ⟨h1,h2⟩=>⟨h1,hg.2,λw=>?_⟩
    have hf:P.fieldsOf t=bV:=by simp[Program.fieldsOf,hu]
    rw[run_equalIn_struct w 9999 t _ _ (by rw[hf];exact hu) hg.1.2,hf]
    exact h2 w 9998 _ _ (by simp) (by simp)
   |false=>exact deep hg.2
  |false=>
   simp only[cond_false]
   refine bT λhg2=>deep (by simpa using hg2)
 ·exact ae.fail
theorem RQ {aN:dx} (bX:fB S P gl w0 aN) (hb:bn n bl.length ρ bl) (hg:eC gl w0) (hex:∃w,Mem w0 ρ m bl w) (ht:bU n bl.length ρ m tm a.tmps) (o:Oper):
 ae S L (B3 P aN gl bl tm o) n ρ (fC w0 m bl n ρ P o a):=by
 unfold B3
 split
 case h_1 x h=>
  exact ae.pure ⟨(bg ht x).1,_,(bg ht x).2,λw _=> .inl (by simp[execOp,h])⟩
 case h_2 x h=>
  exact ae.pure ⟨(bg ht x).1,_,(bg ht x).2,λw _=> .inl (by simp[execOp,h])⟩
 case h_3 t x h=>
  have hx:=bg ht x
  have he:execOp a.eval o=(do pure (Next.value (<-Instr.loadAt t (a.eval x)))):=by simp only[execOp,h]
  split
  ·rename_i b off ar hv
   rw[hv]at hx
   have bA:a.eval x=(A.gY b off ar).den ρ m:=hx.2
   rw[bA]at he
   exact(Sy hb t b off hx.1.2.1).mono λ_ _ _ _ _ hq=>fC.of_run he hq
  ·rename_i g off ar hv
   rw[hv]at hx
   have bA:a.eval x=(A.rP g off ar).den ρ m:=hx.2
   rw[bA]at he
   exact(Sx hg t g off hx.1.1).mono λ_ _ _ _ _ hq=>fC.of_run he hq
  ·rename_i p _ _ hv
   rw[hv]at hx
   have bA:a.eval x=p.den ρ m:=hx.2
   rw[bA]at he
   exact(PQ hb hg hex t p).mono λ_ _ _ _ _ hq=>fC.of_run he hq
  ·exact ae.fail
 case h_4 x h=>
  have hx:=bg ht x
  unfold HO
  split<;>first
   |exact ae.fail
   |(rename_i hv
     rw[hv]at hx
     refine ae.pure ⟨hx.1,_,rfl,λw _=> .inl ?_⟩
     have bA:=hx.2
     simp only[V.rel,W.den,A.den]at bA
     simp[execOp,h,bA,W.den,A.den])
 case h_5 c x y h=>
  have hc:=bg ht c
  split
  ·rename_i v hv
   rw[hv]at hc
   have e1:a.eval c= .bool v:=hc.2
   cases v with
   |true=>exact ae.pure ⟨(bg ht x).1,_,(bg ht x).2,λw _=> .inl (by simp[execOp,h,e1,asBool])⟩
   |false=>exact ae.pure ⟨(bg ht y).1,_,(bg ht y).2,λw _=> .inl (by simp[execOp,h,e1,asBool])⟩
  ·exact ae.fail
 case h_6 op t x y t' h=>
  have hx:=bg ht x
  have hy:=bg ht y
  unfold D4
  split
  ·rename_i k p aE q jw hv2
   rw[jw]at hx;rw[hv2]at hy
   have e1:a.eval x= .int k (p.l.den ρ):=hx.2
   have e2:a.eval y= .int aE (q.l.den ρ):=hy.2
   refine(KI (nb:=bl.length) (m:=m) P t hx.1 hy.1).bind λaj n1 r _ _ ⟨h1,h2⟩=>ae.pure ⟨h1,_,rfl,λw _=> .inl ?_⟩
   have hgd:(eqGuard op t x y (.int k (p.l.den ρ)) (.int aE (q.l.den ρ))).run P w= .ok () w:=by cases op<;>simp[eqGuard]
   simp only[execOp,h,e1,e2]
   simp[hgd,h2,W.den]
  ·rename_i p q jw hv2
   rw[jw]at hx;rw[hv2]at hy
   have e1:a.eval x= .agg (p.map (A.den ρ m)).toArray:=hx.2
   have e2:a.eval y= .agg (q.map (A.den ρ m)).toArray:=hy.2
   split
   ·rename_i b heq
    obtain⟨s1,g1,r1⟩:=EV (m:=m) heq hx.1 hy.1
    refine ae.pure ⟨s1,_,rfl,λw _=> .inl ?_⟩
    simp only[execOp,h,e1,e2]
    simp[run_eqGuard_agg w .eql t x y _ _ g1,run_eql_struct,r1,W.den,A.den]
   ·rename_i b heq
    obtain⟨s1,g1,r1⟩:=EV (m:=m) heq hx.1 hy.1
    refine ae.pure ⟨aD.mT s1,_,rfl,λw _=> .inl ?_⟩
    simp only[execOp,h,e1,e2]
    simp[run_eqGuard_agg w .neq t x y _ _ g1,run_neq_struct,r1,W.den,A.den,aD.mq]
   ·rename_i heq
    refine(EW (m:=m) (t:=t) hx.1 hy.1).bind λaa n' r _ _ ⟨r1,g1,r2⟩=>ae.pure ⟨r1,_,rfl,λw _=> .inl ?_⟩
    simp only[execOp,h,e1,e2]
    simp[run_eqGuard_agg w .eql t x y _ _ g1,run_eql_struct,r2,W.den,A.den]
   ·rename_i heq
    refine(EW (m:=m) (t:=t) hx.1 hy.1).bind λaa n' r _ _ ⟨r1,g1,r2⟩=>ae.pure ⟨aD.mT r1,_,rfl,λw _=> .inl ?_⟩
    simp only[execOp,h,e1,e2]
    simp[run_eqGuard_agg w .neq t x y _ _ g1,run_neq_struct,r2,W.den,A.den,aD.mq]
   ·exact ae.fail
  ·rename_i p q jw hv2
   rw[jw]at hx;rw[hv2]at hy
   have e1:a.eval x= .string (aH (J (p.den ρ))):=hx.2
   have e2:a.eval y= .string (aH (J (q.den ρ))):=hy.2
   have he:execOp a.eval o=(do pure (Next.value (<-(do eqGuard op t x y (.string (aH (J (p.den ρ)))) (.string (aH (J (q.den ρ))));binOp op t (.string (aH (J (p.den ρ)))) (.string (aH (J (q.den ρ)))):Sem Value)))):=by simp only[execOp,h,e1,e2]
   exact(S0 (op:=op) (t:=t) (x:=x) (y:=y) (w0:=w0) (m:=m) hx.1 hy.1).mono λ_ _ _ _ _ hq=>fC.of_run he hq
  ·rename_i p q jw hv2
   rw[jw]at hx;rw[hv2]at hy
   have e1:a.eval x= .bool (p.den ρ):=hx.2
   have e2:a.eval y= .bool (q.den ρ):=hy.2
   have hgd:(eqGuard op t x y (.bool (p.den ρ)) (.bool (q.den ρ))).run P=λw=> .ok () w:=by funext w;cases op<;>simp[eqGuard]
   split
   ·rename_i hu
    refine ae.pure ⟨aD.Cq hx.1 hy.1,_,rfl,λw _=> .inl ?_⟩
    simp only[execOp,h,e1,e2]
    simp[hgd,run_eql_bool w t _ _ hu,W.den,A.den,aD.zv]
   ·rename_i hu
    refine ae.pure ⟨aD.mT (aD.Cq hx.1 hy.1),_,rfl,λw _=> .inl ?_⟩
    simp only[execOp,h,e1,e2]
    simp[hgd,run_neq_bool w t _ _ hu,W.den,A.den,aD.zv,aD.mq]
   ·exact ae.fail
  ·exact ae.fail
 case h_7 op t x h=>
  have hx:=bg ht x
  unfold Ju
  split
  ·rename_i b hv
   rw[hv]at hx
   have e1:a.eval x= .bool (b.den ρ):=hx.2
   refine ae.pure ⟨aD.mT hx.1,_,rfl,λw _=> .inl ?_⟩
   simp[execOp,h,e1,Op.unary,W.den,A.den,aD.mq]
  ·rename_i k p hv
   rw[hv]at hx
   have e1:a.eval x= .int k (p.l.den ρ):=hx.2
   refine bT λhc=>?_
   simp only[Bool.and_eq_true,Bool.not_eq_true',decide_eq_true_eq]at hc
   have hp:=hx.1
   have Ec:=aP.ok.agree (n':=n) hp (agree.refl n ρ) (Nat.le_refl _)
   have b2:=Ec.2
   have e2:((I.const (two k-1)).sub p.l).den ρ=two k-1-p.l.den ρ:=by rw[I.gM,I.aA]
   refine ae.pure ⟨⟨I.o4 (I.bt _ _) Ec.1,by simp only[e2];omega,by simp only[e2];omega⟩,_,rfl,λw _=> .inl ?_⟩
   have key:k.wrap (BitVec.ofInt k.bits (if k.signed=true then-1 else k.max)^^^BitVec.ofInt k.bits (p.l.den ρ)).toNat=two k-1-p.l.den ρ:=by
    have hk:=hc.1.1
    obtain⟨X,aX⟩:=Int.eq_ofNat_of_zero_le (show 0<=p.l.den ρ by omega)
    have hlt:X<2^k.bits:=by
     have:(X:Int)<2^k.bits:=by rw[<-mZ,<-aX];omega
     exact_mod_cast this
    have hall:(BitVec.ofInt k.bits (if k.signed=true then-1 else k.max))=BitVec.allOnes k.bits:=by
     cases k<;>simp[IntKind.signed]at hk<;>rfl
    rw[hall,BitVec.allOnes_xor,BitVec.toNat_not,aX,BitVec.toNat_ofInt]
    have e3:((X:Int)% ((2^k.bits:Nat):Int)).toNat=X:=by
     rw[Int.emod_eq_of_lt (by omega) (by exact_mod_cast hlt)];rfl
    rw[e3,yz]
    have ad:half k=0:=by simp[half,hk]
    have h2:two k=((2^k.bits:Nat):Int):=by rw[mZ];simp
    rw[ad,h2,Int.add_zero,Int.sub_zero,Int.emod_eq_of_lt (by omega) (by omega)]
    omega
   simp only[execOp,h,e1,Op.unary,Op.intBits,W.den,A.den,e2]
   simp at key
   simp[key]
  ·rename_i k p hv
   rw[hv]at hx
   have e1:a.eval x= .int k (p.l.den ρ):=hx.2
   have b2:=aP.ok.agree (n':=n) hx.1 (agree.refl n ρ) (Nat.le_refl _)
   have b3:=b2.2
   have e2:(p.l.smul (-1)).den ρ=-p.l.den ρ:=by rw[I.hP];omega
   refine(o9 (k:=k) (x:=⟨p.l.smul (-1),-p.hi,-p.lo⟩) ⟨I.o3 b2.1,by simp only[e2];omega,by simp only[e2];omega⟩).bind λaj n1 r _ _ ⟨h1,h2⟩=>ae.pure ⟨h1,_,rfl,λw _=> .inl ?_⟩
   simp only[e2]at h2
   simp[execOp,h,e1,Op.unary,Op.intArith,W.den,A.den,h2]
  ·exact ae.fail
 case h_8 s d x h=>
  have hx:=bg ht x
  unfold Ew
  split
  ·rename_i aE p hu hk hv
   rw[hv]at hx
   have e1:a.eval x= .int aE (p.l.den ρ):=hx.2
   split
   ·rename_i c hc
    refine bT λhsz=>?_
    have hl:(Utf8.encode c).data.toList.length<=ez:=by
     have:=Nat.le_of_ble_eq_true hsz
     have h2:(Utf8.encode c).data.toList.length=(Utf8.encode c).size:=by simp
     unfold ez;omega
    refine ae.pure ⟨⟨I.bt _ _,by rw[I.aA];exact kQ _,by rw[I.aA];exact j6 hl⟩,_,rfl,λw _=> .inl ?_⟩
    simp[execOp,h,e1,convert,run_underlying hu,run_underlying hk,Conv.intToString,W.den,A.den,I.aA,gD,aH,I.er hc]
   ·exact ae.fail
  ·split
   rotate_left
   ·exact ae.fail
   rename_i k aE p hu hk hv
   rw[hv]at hx
   have e1:a.eval x= .int aE (p.l.den ρ):=hx.2
   refine(o9 (k:=k) hx.1).bind λaj n1 r _ _ ⟨h1,h2⟩=>ae.pure ⟨h1,_,rfl,λw _=> .inl ?_⟩
   simp[execOp,h,e1,convert,run_underlying hu,run_underlying (Bl hk),Conv.intToInt,W.den,A.den,h2]
 case h_9 t x ar h=>
  have hx:=bg ht x
  have hi:=bg ht ar
  split
  ·rename_i k i hv
   rw[hv]at hi
   have e1:a.eval ar= .int k (i.l.den ρ):=hi.2
   have he:execOp a.eval o=(do pure (Next.value (<-Instr.indexAt t (a.eval x) (.int k (i.l.den ρ))))):=by simp only[execOp,h,e1]
   exact(OS hx.1 hx.2 hi.1).mono λ_ _ _ _ _ hq=>fC.of_run he hq
  ·exact ae.fail
 case h_10 t x ar h=>
  have hx:=bg ht x
  have hi:=bg ht ar
  split
  ·rename_i s hv
   rw[hv]at hx
   have e1:a.eval x= .string (aH (J (s.den ρ))):=hx.2
   split
   ·rename_i i hu r4
    obtain⟨k,hk,_⟩:=qt (m:=m) (bl:=bl) r4 hi.2 hi.1
    have he:execOp a.eval o=(do pure (Next.value (<-Instr.index t (.string (aH (J (s.den ρ)))) (.int k (i.den ρ))))):=by simp only[execOp,h,e1,hk]
    exact(S1 (w0:=w0) (m:=m) hu hx.1).mono λ_ _ _ _ _ hq=>fC.of_run he hq
   ·exact ae.fail
  split
  ·rename_i l i len e hv r4 oB
   rw[hv]at hx
   have e1:a.eval x= .agg (l.map (A.den ρ m)).toArray:=hx.2
   have e2:∃k,a.eval ar= .int k i:=by
    unfold wC at r4
    split at r4
    ·rename_i k p hv2
     rw[hv2]at hi
     have:a.eval ar= .int k (p.l.den ρ):=hi.2
     exact⟨k,by rw[this,I.er r4]⟩
    ·cases r4
   obtain⟨k,e2⟩:=e2
   split
   ·rename_i s hs
    refine bT λhc=>?_
    simp only[Bool.and_eq_true,decide_eq_true_eq]at hc
    refine(BW (w0:=w0) (m:=m) (bl:=bl) hx.1).mono λaj n1 v _ _ ⟨q1,val,q2,q3⟩=>⟨q1,val,q2,λw hw=> .inl ?_⟩
    have:=q3 w hw
    simp[execOp,h,e1,e2,Instr.index,asIntOf,run_underlying (lC oB),hc,dQ hs,this]
   ·exact ae.fail
  ·exact ae.fail
 case h_11 s x f h=>
  have hx:=bg ht x
  split
  ·rename_i b off fd hv hf
   rw[hv]at hx
   have e1:a.eval x= .pointer (some ⟨m b,off,none⟩):=hx.2
   obtain⟨bV,hu,uk⟩:=zC hf
   split
   ·rename_i k hs
    refine ae.pure ⟨hx.1,_,rfl,λw _=> .inl ?_⟩
    simp[execOp,h,e1,Instr.fieldAt,run_underlying hu,uk,Instr.sureAddr,fieldPlace,dQ hs,dX,W.den,A.den]
   ·exact ae.fail
  ·exact ae.fail
 case h_12 s x f h=>
  have hx:=bg ht x
  split
  ·rename_i l fd hv hf
   rw[hv]at hx
   have e1:a.eval x= .agg (l.map (A.den ρ m)).toArray:=hx.2
   obtain⟨bV,hu,uk⟩:=zC hf
   refine(BW (w0:=w0) (m:=m) (bl:=bl) hx.1).mono λaj n1 v _ _ ⟨q1,val,q2,q3⟩=>⟨q1,val,q2,λw hw=> .inl ?_⟩
   have:=q3 w hw
   simp[execOp,h,e1,Instr.field,asAgg,run_underlying hu,uk,this]
  ·exact ae.fail
 case h_13 x i h=>
  have hx:=bg ht x
  split
  ·rename_i l hv
   rw[hv]at hx
   have e1:a.eval x= .tuple (l.map (W.den ρ m)).toArray:=hx.2
   split
   ·rename_i u hu
    refine ae.pure ⟨hx.1 u (List.mem_of_getElem? hu),_,rfl,λw _=> .inl ?_⟩
    simp[execOp,h,e1,Instr.extract,hu]
   ·exact ae.fail
  ·exact ae.fail
 case h_14 t x lo hi h=>
  have hx:=bg ht x
  split
  ·rename_i s hv hu
   rw[hv]at hx
   have e1:a.eval x= .string (aH (J (s.den ρ))):=hx.2
   have he:execOp a.eval o=(do pure (Next.value (<-Instr.sliceAt t (.string (aH (J (s.den ρ)))) (lo.map a.eval) (hi.map a.eval) none))):=by simp only[execOp,h,e1];rfl
   exact(S3 (w0:=w0) (m:=m) hu hx.1 ht).mono λ_ _ _ _ _ hq=>fC.of_run he hq
  have key:∀(y:Option Operand) (c:Option Int),xW tm y=some c->∃f:Int->Value,(∀c,∃k,f c= .int k c)/\y.map a.eval=c.map f:=by
   intro y c hy
   unfold xW at hy
   cases y with
   |none=>simp at hy;subst hy;exact⟨λc=> .int .i64 c,λc=>⟨_,rfl⟩,rfl⟩
   |some y=>
    simp only at hy
    have hi:=bg ht y
    unfold wC at hy
    split at hy
    ·rename_i c' hq
     split at hq
     ·rename_i k p hv2
      simp only[Option.some.injEq]at hy;subst hy
      rw[hv2]at hi
      have:a.eval y= .int k (p.l.den ρ):=hi.2
      exact⟨λc=> .int k c,λc=>⟨_,rfl⟩,by simp[this,I.er hq]⟩
     ·cases hq
    ·cases hy
  split
  ·rename_i l ad h1 h2
   obtain⟨E5,E6,E7⟩:=key lo l h1
   obtain⟨UC,wN,EZ⟩:=key hi ad h2
   unfold I4
   split
   ·rename_i b off qD e hv oB
    rw[hv]at hx
    have e1:a.eval x= .pointer (some ⟨m b,off,none⟩):=hx.2
    split
    ·rename_i s hs
     refine bT λhc=>?_
     simp only[Bool.and_eq_true,decide_eq_true_eq]at hc
     refine ae.pure ⟨hx.1,_,rfl,λw _=> .inl ?_⟩
     have fY:(Instr.sliceBounds false qD qD (lo.map a.eval) (hi.map a.eval) none).run P w= .ok ((l.getD 0).toNat,(ad.getD qD).toNat,qD) w:=by
      rw[E7,EZ]
      have c1:∀(k:IntKind) (i:Int) (y:Nat) (jf:BoundsCode),0<=i->i<=y->(Instr.sliceBound (.int k i) y jf).run P w= .ok i.toNat w:=λk i y jf p1 bd=>by
       simp[Instr.sliceBound,asIntOf,p1,bd]
      cases l with
      |none=>
       cases ad with
       |none=>simp[Instr.sliceBounds]
       |some h'=>
        obtain⟨aE,eK⟩:=wN h'
        simp only[Option.getD_none,Option.getD_some]at hc
        simp[Instr.sliceBounds,eK,c1 aE h' qD _ (by omega) (by omega)]
      |some aU=>
       obtain⟨k1,da⟩:=E6 aU
       cases ad with
       |none=>
        simp only[Option.getD_none,Option.getD_some]at hc
        simp[Instr.sliceBounds,da,c1 k1 aU qD _ (by omega) (by omega)]
       |some h'=>
        obtain⟨aE,eK⟩:=wN h'
        simp only[Option.getD_some]at hc
        simp[Instr.sliceBounds,eK,da,c1 aE h' qD _ (by omega) (by omega),c1 k1 aU h'.toNat _ (by omega) (by omega)]
     simp only[execOp,h,e1,Option.map_none,Instr.sliceAt]
     simp[run_underlying (lC oB),Instr.sureAddr,fY,dQ hs,dX,W.den,A.den]
     intro hq
     have h3:=hc.2
     omega
    ·exact ae.fail
   ·rename_i b off len cap hv oB
    rw[hv]at hx
    have e1:a.eval x= .slice (some ⟨m b,off,none⟩) len cap:=hx.2
    split
    ·rename_i e qi
     split
     ·rename_i s hs
      refine bT λhc=>?_
      simp only[Bool.and_eq_true,decide_eq_true_eq]at hc
      refine ae.pure ⟨hx.1,_,rfl,λw _=> .inl ?_⟩
      have fY:(Instr.sliceBounds true len cap (lo.map a.eval) (hi.map a.eval) none).run P w= .ok ((l.getD 0).toNat,(ad.getD len).toNat,cap) w:=by
       rw[E7,EZ]
       have c1:∀(k:IntKind) (i:Int) (y:Nat) (jf:BoundsCode),0<=i->i<=y->(Instr.sliceBound (.int k i) y jf).run P w= .ok i.toNat w:=λk i y jf p1 bd=>by
        simp[Instr.sliceBound,asIntOf,p1,bd]
       cases l with
       |none=>
        cases ad with
        |none=>simp[Instr.sliceBounds]
        |some h'=>
         obtain⟨aE,eK⟩:=wN h'
         simp only[Option.getD_none,Option.getD_some]at hc
         simp[Instr.sliceBounds,eK,c1 aE h' cap _ (by omega) (by omega)]
       |some aU=>
        obtain⟨k1,da⟩:=E6 aU
        cases ad with
        |none=>
         simp only[Option.getD_none,Option.getD_some]at hc
         simp[Instr.sliceBounds,da,c1 k1 aU len _ (by omega) (by omega)]
        |some h'=>
         obtain⟨aE,eK⟩:=wN h'
         simp only[Option.getD_some]at hc
         simp[Instr.sliceBounds,eK,da,c1 aE h' cap _ (by omega) (by omega),c1 k1 aU h'.toNat _ (by omega) (by omega)]
      simp only[execOp,h,e1,Option.map_none,Instr.sliceAt]
      simp[run_underlying (dp qi),Instr.slice,fY,dQ hs,dX,W.den,A.den]
      intro hq
      have h3:=hc.2
      omega
     ·exact ae.fail
    ·exact ae.fail
   ·exact ae.fail
  ·exact ae.fail
 case h_15 c h=>
  split
  ·rename_i f hc
   split
   ·rename_i g Aq
    have kX:∀v∈c.args.toList.map (aV tm),V.ok n bl.length ρ v:=λv hv=>by
     obtain⟨x,_,rfl⟩:=List.mem_map.1 hv
     exact(bg ht x).1
    refine(bX f g Aq L n ρ m bl _ _ hb hex kX (vJ (xs:=c.args.toList) ht)).mono λaj n1 v _ _ ⟨q1,val,q2,q3⟩=>⟨q1,val,q2,λw hw=>?_⟩
    have he:=Cm (a:=a) hc o h
    have ha:(c.args.toList.map a.eval).toArray=c.args.map a.eval:=by
     rw[<-Array.toList_map]
    have q4:=q3 w hw
    rw[ha]at q4
    rcases q4 with q4|⟨q4,q5⟩
    ·exact .inl (by rw[he];exact q4)
    ·exact .inr ⟨f,_,by rw[he];exact q4,q5⟩
   ·exact ae.fail
  ·rename_i hc
   split
   ·rename_i x t c0 fe
    have hx:=bg ht x
    split
    ·rename_i s hv hu
     rw[hv]at hx
     have e1:a.eval x= .string (aH (J (s.den ρ))):=hx.2
     have a1:c.args=#[x]:=by rw[<-Array.toArray_toList (xs:=c.args),c0]
     have a2:c.argTypes=#[t]:=by rw[<-Array.toArray_toList (xs:=c.argTypes),fe]
     have he:execOp a.eval o=(do pure (Next.value (<-Builtin.len_ #[t] o.type #[.string (aH (J (s.den ρ)))]))):=by
      simp[execOp,h,resolve,hc,a1,a2,e1,invoke,builtin]
     exact(S2 (w0:=w0) (m:=m) hu hx.1).mono λ_ _ _ _ _ hq=>fC.of_run he hq
    split
    ·rename_i b off len cap e hv hs
     rw[hv]at hx
     have e1:a.eval x= .slice (some ⟨m b,off,none⟩) len cap:=hx.2
     refine ae.pure ⟨aP.iu _ _ _,_,rfl,λw _=> .inl ?_⟩
     have a1:c.args=#[x]:=by rw[<-Array.toArray_toList (xs:=c.args),c0]
     have a2:c.argTypes=#[t]:=by rw[<-Array.toArray_toList (xs:=c.argTypes),fe]
     simp[execOp,h,resolve,hc,a1,a2,e1,invoke,builtin,Builtin.len_,run_underlying (dp hs),goInt,W.den,A.den,aP.const,I.aA]
    ·rename_i b len lo e hv hs
     rw[hv]at hx
     obtain⟨dZ,_,e1⟩:=hx.2
     refine ae.pure ⟨aP.iu _ _ _,_,rfl,λw _=> .inl ?_⟩
     have a1:c.args=#[x]:=by rw[<-Array.toArray_toList (xs:=c.args),c0]
     have a2:c.argTypes=#[t]:=by rw[<-Array.toArray_toList (xs:=c.argTypes),fe]
     simp[execOp,h,resolve,hc,a1,a2,e1,invoke,builtin,Builtin.len_,run_underlying (dp hs),goInt,W.den,A.den,aP.const,I.aA]
    ·exact ae.fail
   ·exact ae.fail
  ·exact ae.fail
 case h_16 f first ee h=>
  split
  ·rename_i l hf hl
   obtain⟨g1,g2⟩:=Q4 (m:=m) hl (λv hv=>by obtain⟨x,_,rfl⟩:=List.mem_map.1 hv;exact(bg ht x).1) (vJ (xs:=ee.toList) ht)
   have hf':first=#[]:=by rw[<-Array.toArray_toList (xs:=first),hf]
   have MP:ee.map a.eval=(l.map (A.den ρ m)).toArray:=by rw[<-g2,<-Array.toList_map]
   refine ae.pure ⟨g1,_,rfl,λw _=> .inl ?_⟩
   simp only[execOp,h,MP,hf']
   simp[Instr.makeFunc]
  ·exact ae.fail
 case h_17 t parts h=>
  split
  ·rename_i l hl
   obtain⟨g1,g2⟩:=KN (n:=n) (nb:=bl.length) (ρ:=ρ) (m:=m) (vals:=(parts.map λ(i,x)=>(i,a.eval x)).toList) hl (by
    rw[Array.toList_map]
    generalize parts.toList=iF
    induction iF with
    |nil=>exact trivial
    |cons p r ih=>exact⟨⟨rfl,bg ht p.2⟩,ih⟩)
   refine ae.pure ⟨g1,_,rfl,λw _=> .inl ?_⟩
   simp only[execOp,h]
   simp[run_build w t _ _ g2,W.den]
  ·exact ae.fail
 case h_18 t x h=>
  have hx:=bg ht x
  split
  ·rename_i b len lo k e hv ha
   rw[hv]at hx
   refine bT λhc=>ae.pure ⟨hx.1,_,rfl,λw _=> .inl ?_⟩
   obtain⟨c,hc1,hc2⟩:=hx.2
   have hle:¬len<k:=by have:=Nat.le_of_ble_eq_true hc;omega
   simp only[execOp,h]
   rw[hc2]
   simp[Instr.arrayAt,run_underlying (lC ha),hle,W.den,A.den]
  ·exact ae.fail
 case h_19=>exact ae.fail
end
end Go.aZ
namespace Go.aZ
open M
noncomputable def ry (c:ah) (code i:I) (j:Nat):M A:=
 match c with
 | .int k lo hi=>bind (ck 21 [code,i,.const j] lo hi) λl=>pure (.int k ⟨l,lo,hi⟩)
 | .str=>bind (ck 21 [code,i,.const j] 0 aO) λl=>pure (.str l)
 | .bool=>bind (ck 21 [code,i,.const j] 0 1) λl=>pure (.bool (.mkEq ⟨l,0,1⟩ (.const 1)))
 | .sub _=>fail
noncomputable def wy (code i:I):Nat->List ah->M (List A)
 |_,[]=>pure []
 |j,c::r=>bind (ry c code i j) λa=>bind (wy code i (j+1) r) λl=>pure (a::l)
noncomputable def Cj (c:ah) (code:I):Nat->I->M (List A)
 |0,_=>pure []
 |q+1,i=>bind (cF 21 [code,i]) λ_=>bind (ry c code i 0) λa=>bind (Cj c code q (i.add (.const 1))) λl=>pure (a::l)
noncomputable def zz (P:Program) (bl:List ag) (t:TypeId) (b ay:Nat) (o i:I) (j:Nat):M V:=
 match bl[b]? with
 |some ([.rows sh off code cap kind],_)=>cond (Nat.blt 0 kind&&Nat.beq ay sh.length&&I.beq o off) (bind (cF 21 [code,i]) λ_=>match eb P t,cC P t with
  |some true,some k=>cond (Nat.ble (j+k) sh.length) (bind (wy code i j ((sh.drop j).take k)) λl=>pure (.w (.agg l))) (match sh,j with
   |[c],0=>bind (Cj c code k i) λl=>pure (.w (.agg l))
   |_,_=>fail)
  |some false,_=>match sh[j]? with
   |some c=>bind (ry c code i j) λa=>pure (.w (.one a))
   |none=>fail
  |_,_=>fail) fail
 |_=>fail
def Cz (P:Program) (t:TypeId) (b ay:Nat) (o ro len:I) (ar:I):M V:=
 match dT P t with
 |some e=>match cC P e with
  |some s=>cond (Nat.beq s ay) (bind (cF 30 [ar,len]) λ_=>pure (.w (.one (.ep b ay o (ro.add ar) 0)))) fail
  |none=>fail
 |none=>fail
def rj (op:Nat) (ls:List I):M Unit:=λn k=> .pw op ls (k () n)
def CB (P:Program) (t:TypeId) (b ay:Nat) (o ro len cap:I) (x y:I):M V:=
 match dT P t with
 |some e=>match cC P e with
  |some s=>cond (Nat.beq s ay) (bind (cF 32 [x,y,len]) λ_=>match x.bS with
   |some 0=>pure (.w (.one (.sl b ay o ro y cap)))
   |_=>bind (rj 68 [len,cap]) λ_=>bind (ck 33 [ro,x,cap] 0 9223372036854775809) λr=>pure (.w (.one (.sl b ay o r (y.sub x) (cap.sub x))))) fail
  |none=>fail
 |none=>fail
def oh (tm:List V) (d:I):Option Operand->Option I
 |none=>some d
 |some x=>jy (aV tm x)
def wk:List ah->Bool
 |[.int .u8 lo hi]=>decide (lo=0)&&decide (hi=255)
 |_=>false
noncomputable def CA (bl:List ag) (b ay:Nat) (o ro len:I):M V:=
 match bl[b]? with
 |some ([.rows sh off code cap kind],_)=>cond (Nat.blt 0 kind&&Nat.beq ay 1&&I.beq o off&&wk sh) (bind (cF 35 [code,ro,ro.add len]) λ_=>bind (ck 34 [code,ro,ro.add len] 0 aO) λl=>pure (.w (.one (.str l)))) fail
 |_=>fail
def tB {α:Type} (b:aD) (x y:M α):M α:=λn k=>match b with
 | .lit v=>cond v (x n k) (y n k)
 |b=> .oi b (x n k) (y n k)
def HF (k:IntKind) (x y:aP):M V:=tB (.mkLt y x) (pure (.w (.one (.int k y)))) (pure (.w (.one (.int k x))))
def HC (k:IntKind) (x y:aP):M V:=tB (.mkLt x y) (pure (.w (.one (.int k y)))) (pure (.w (.one (.int k x))))
def hO:List A->Option (List Bool)
 |[]=>some []
 | .bool (.lit b)::r=>match hO r with|some l=>some (b::l)|none=>none
 |_::_=>none
def nK:Nat->List Bool->List UInt8
 |_,[]=>[]
 |i,b::r=>cond b (UInt8.ofNat i::nK (i+1) r) (nK (i+1) r)
def Cs (bl:List ag) (b off:Nat) (ar:aP):M V:=
 match bl[b]? with
 |some (cs,_)=>match hO ((cs.drop off).take (ar.hi.toNat+1))with
  |some l=>cond (Nat.beq l.length (ar.hi.toNat+1)&&Nat.ble ar.hi.toNat 255&&decide (0<=ar.lo)&&bk cs) (bind (ck 43 [.const (dF (nK 0 l)),ar.l] 0 1) λr=>pure (.w (.one (.bool (.mkEq ⟨r,0,1⟩ (.const 1)))))) fail
  |none=>fail
 |none=>fail
noncomputable def Ck (P:Program) (bl:List ag) (tm:List V) (o:Oper):Option (M V):=
 match o.op with
 | .load t x=>match aV tm x with
  | .w (.one (.ep b ay o i j))=>some (zz P bl t b ay o i j)
  | .w (.one (.gY b off ar))=>match P.underlying t with
   |some .bool=>some (Cs bl b off ar)
   |_=>none
  |_=>none
 | .nilCheck x=>match aV tm x with
  | .w (.one (.ep b ay o i j))=>some (pure (.w (.one (.ep b ay o i j))))
  |_=>none
 | .indexAddr t x ar=>match aV tm x,aV tm ar with
  | .w (.one (.sl b ay o ro len cap)),.w (.one (.int _ i))=>some (Cz P t b ay o ro len i.l)
  |_,_=>none
 | .sliceToArrayPointer t x=>match aV tm x,jH P t with
  | .w (.one (.sl b ay o ro len cap)),some (k,_)=>some (cond (Nat.blt 0 k) (bind (cF 30 [.const ((k:Int)-1),len]) λ_=>pure (.w (.one (.ep b ay o ro 0)))) fail)
  |_,_=>none
 | .fieldAddr s x f=>match aV tm x,tI P s f with
  | .w (.one (.ep b ay o i j)),some fd=>match cC P fd.type with
   |some (_+1)=>some (pure (.w (.one (.ep b ay o i (j+fd.offset)))))
   |_=>none
  |_,_=>none
 | .slice t x lo hi none=>match aV tm x with
  | .w (.one (.sl b ay o ro len cap))=>match oh tm (.const 0) lo,oh tm len hi with
   |some p,some q=>some (CB P t b ay o ro len cap p q)
   |_,_=>none
  |_=>none
 | .convert s d x=>match aV tm x,dT P s,P.underlying d with
  | .w (.one (.sl b ay o ro len cap)),some e,some .string=>match P.underlying e with
   |some (.int .u8)=>some (CA bl b ay o ro len)
   |_=>none
  |_,_,_=>none
 | .call c=>match c.callee with
  | .builtin .len=>match c.args.toList,c.argTypes.toList with
   |[x],[t]=>match aV tm x,dT P t with
    | .w (.one (.sl b ay o ro len cap)),some _=>some (pure (.w (.one (.int .i64 ⟨len,0,9223372036854775807⟩))))
    |_,_=>none
   |_,_=>none
  | .builtin .min=>match c.args.toList with
   |[x,y]=>match aV tm x,aV tm y with
    | .w (.one (.int k p)),.w (.one (.int aE q))=>cond (decide (k=aE)) (some (HF k p q)) none
    |_,_=>none
   |_=>none
  | .builtin .max=>match c.args.toList with
   |[x,y]=>match aV tm x,aV tm y with
    | .w (.one (.int k p)),.w (.one (.int aE q))=>cond (decide (k=aE)) (some (HC k p q)) none
    |_,_=>none
   |_=>none
  |_=>none
 | .binOp op t x y _=>match dT P t,aV tm x,aV tm y with
  |some _,.w (.one (.sl b ay o ro len cap)),.w (.one (.con (.slice none 0 0)))=>match op with
   | .eql=>some (bind (rj 53 [cap,len]) λ_=>pure (.w (.one (.bool (.eq cap (.const (-1)))))))
   | .neq=>some (bind (rj 53 [cap,len]) λ_=>pure (.w (.one (.bool (.mkNot (.eq cap (.const (-1))))))))
   |_=>none
  |_,_,_=>none
 |_=>none
def v8 (bl:List ag) (b off:Nat):Option (List ah×I×Nat):=
 match bl[b]? with
 |some ([.rows sh o code cap kind],_)=>match cap.bS with
  |some c=>cond (Nat.beq off 0&&Nat.blt 0 kind&&I.beq o (.const 0)&&decide (0<=c)&&eP sh) (some (sh,code,c.toNat)) none
  |none=>none
 |_=>none
noncomputable def vX (code:I) (sh:List ah):Nat->Nat->M (List A)
 |_,0=>pure []
 |i,k+1=>bind (wy code (.const i) 0 sh) λa=>bind (vX code sh (i+1) k) λl=>pure (a++l)
def CC (P:Program) (t:TypeId) (b ay:Nat) (o ro len cap:I) (x y z:I):M V:=
 match dT P t with
 |some e=>match cC P e with
  |some s=>cond (Nat.beq s ay) (bind (cond (I.beq z len) (cF 78 [x,y,z,cap]) (cF 64 [x,y,z,len])) λ_=>bind (ck 33 [ro,x,z] 0 9223372036854775808) λr=>pure (.w (.one (.sl b ay o r (y.sub x) (z.sub x))))) fail
  |none=>fail
 |none=>fail
def Ba (P:Program) (e:TypeId) (l:List A) (s:Nat) (i:I):Nat->Nat->M V
 |_,0=>fail
 |j,r+1=>tB (.eq i (.const j)) (vd P e l (j*s)) (Ba P e l s i (j+1) r)
noncomputable def yc (P:Program) (bl:List ag) (tm:List V) (o:Oper):Option (M V):=
 match o.op with
 | .index t x ar=>match aV tm x,aV tm ar,jH P t with
  | .w (.agg l),.w (.one (.int k p)),some (len,e)=>match cC P e,p.l.bS with
   |some s,none=>cond (Nat.ble len 8) (some (Ba P e l s p.l 0 len)) none
   |_,_=>none
  |_,_,_=>none
 | .indexAddr t x ar=>match aV tm x,aV tm ar with
  | .w (.one (.ptr b off)),.w (.one (.int _ i))=>match v8 bl b off,jH P t with
   |some (sh,code,c),some (len,e)=>match cC P e with
    |some s=>cond (Nat.beq s sh.length&&Nat.beq len c) (some (bind (cF 30 [i.l,.const len]) λ_=>pure (.w (.one (.ep b s (.const 0) i.l 0))))) none
    |none=>none
   |_,_=>none
  |_,_=>none
 | .load t x=>match aV tm x with
  | .w (.one (.ptr b off))=>match v8 bl b off,eb P t,cC P t with
   |some (sh,code,c),some true,some k=>cond (Nat.beq k (c*sh.length)) (some (bind (cF 31 [code,.const c]) λ_=>bind (vX code sh 0 c) λl=>pure (.w (.agg l)))) none
   |_,_,_=>none
  |_=>none
 | .slice t x lo (some hi) (some dt)=>match aV tm x with
  | .w (.one (.sl b ay aW ro len cap))=>match oh tm (.const 0) lo,jy (aV tm hi),jy (aV tm dt)with
   |some p,some q,some r=>some (CC P t b ay aW ro len cap p q r)
   |_,_,_=>none
  |_=>none
 | .call c=>match c.callee with
  | .builtin .len=>match c.args.toList,c.argTypes.toList with
   |[x],[t]=>match aV tm x,dT P t with
    | .w (.one (.con (.slice none 0 0))),some _=>some (pure (.w (.one (.int .i64 (.const 0)))))
    |_,_=>none
   |_,_=>none
  |_=>none
 |_=>none
noncomputable def wI (aN:dx) (bl:List ag) (tm:List V) (o:Oper):Option (M V):=
 match o.op with
 | .call c=>match c.callee with
  | .value (.tmp x)=>match aV tm (.tmp x)with
   | .w (.one (.con (.func (.func f) wL wM)))=>cond (Nat.beq wL.size 0&&Nat.beq wM.size 0) ((aN f).map λg=>g bl (c.args.toList.map (aV tm))) none
   |_=>none
  |_=>none
 |_=>none
noncomputable def nZ (P:Program) (aN:dx) (gl:cN) (bl:List ag) (tm:List V) (o:Oper):M V:=
 match Ck P bl tm o with
 |some x=>x
 |none=>match yc P bl tm o with
  |some x=>x
  |none=>match wI aN bl tm o with
   |some x=>x
   |none=>B3 P aN gl bl tm o
theorem jE.get {cells:Array Value} {off:Nat} {sh:List ah} {rows:List (List Int)} (h:jE cells off sh rows) {i j:Nat} {row:List Int} {v:Value} (hi:rows[i]?=some row) (hj:(bL sh row)[j]?=some v):cells[off+i*sh.length+j]?=some v:=by
 obtain⟨h1,pre,post,h2,h3⟩:=h
 have h4:=zI h1 hi hj
 rw[<-Array.getElem?_toList,h2,List.append_assoc,List.getElem?_append_right (by omega),List.getElem?_append_left]
 ·rw[show off+i*sh.length+j-pre.length=i*sh.length+j by omega];exact h4
 ·have:=(List.getElem?_eq_some_iff.1 h4).1;omega
theorem e7.cell {F:Nat->Prop} {w:World} {cells:Array Value} {off:Nat} {sh:List ah} {rows:List (List Int)} (h:e7 F w cells off sh rows) {i j:Nat} {row:List Int} {c:ah} (hi:rows[i]?=some row) (hc:sh[j]?=some c):∃z v,row[j]?=some z/\cells[off+i*sh.length+j]?=some v/\nh F w c z v:=by
 obtain⟨h1,pre,vs,post,h2,h3,h4⟩:=h
 obtain⟨z,v,k1,k2,k3⟩:=(h4.get hi).get hc
 refine⟨z,v,k1,?_,k3⟩
 rw[List.getElem?_take]at k2
 split at k2
 ·rw[List.getElem?_drop]at k2
  have hlt:=(List.getElem?_eq_some_iff.1 k2).1
  rw[<-Array.getElem?_toList,h2,List.append_assoc,List.getElem?_append_right (by omega),List.getElem?_append_left (by omega)]
  rw[show off+i*sh.length+j-pre.length=i*sh.length+j by omega];exact k2
 ·cases k2
theorem IF:∀{sh:List ah} {row:List Int} {j:Nat} {c:ah} {z:Int},aS sh row->sh[j]?=some c->row[j]?=some z->(bL sh row)[j]?=some (c.val z)
 |c'::sh,z'::r,0,c,z,h,hc,hz=>by
  simp only[List.getElem?_cons_zero,Option.some.injEq]at hc hz
  subst hc;subst hz;rfl
 |c'::sh,z'::r,j+1,c,z,h,hc,hz=>by
  simp only[List.getElem?_cons_succ]at hc hz
  exact IF (sh:=sh) h.2 hc hz
 |[],_,_,_,_,_,hc,_=>by simp at hc
 |_::_,[],_,_,_,h,_,_=>h.elim
theorem e7.get {F:Nat->Prop} {w:World} {cells:Array Value} {off:Nat} {sh:List ah} {rows:List (List Int)} (h:e7 F w cells off sh rows) {i j:Nat} {row:List Int} {v:Value} {c:ah} (hi:rows[i]?=some row) (hc:sh[j]?=some c) (hp:c.plain=true) (hj:(bL sh row)[j]?=some v):cells[off+i*sh.length+j]?=some v:=by
 obtain⟨z,ll,k1,k2,k3⟩:=h.cell hi hc
 have e:=IF (h.1 row (List.mem_of_getElem? hi)) hc k1
 rw[hj]at e
 have e2:ll=c.val z:=by
  cases c with
  |sub _=>cases hp
  |_=>exact k3
 rw[k2,e2,<-Option.some.inj e]
section
variable {S:Nat->List Int->List Int->Prop} {L:V->Env->Prop} {n:Nat} {ρ:Env} {m:Nat->Nat} {bl:List ag} {gl:cN} {w0:b7} {P:Program} {tm:List V} {a:Act}
theorem y8 {α:Type} {b:aD} {x y:M α} {R:Env->Nat->α->Prop} (h1:b.den ρ=true->ae S L x n ρ R) (h2:b.den ρ=false->ae S L y n ρ R):ae S L (tB b x y) n ρ R:=by
 intro A k hk
 unfold tB at hk
 cases hb:b.den ρ with
 |true=>
  cases b with
  |lit v=>simp only[aD.den]at hb;subst hb;exact h1 rfl A k hk
  |_=>exact h1 hb A k (hk.1 hb)
 |false=>
  cases b with
  |lit v=>simp only[aD.den]at hb;subst hb;exact h2 rfl A k hk
  |_=>exact h2 hb A k (hk.2 hb)
theorem wv {nb:Nat} {c:ah} {code i:I} {j:Nat} {z:Int} {row:List Int} (hrow:(ab (code.den ρ))[(i.den ρ).toNat]?=some row) (hz:row[j]?=some z) (h1:c.cx.1<=z) (h2:z<=c.cx.2):
 ae S L (ry c code i j) n ρ λaa n' x=>x.ok n' nb aa/\x.den aa m=c.val z/\c.plain=true:=by
 have hf:af 21 ([code,i,I.const (j:Nat)].map (·.den ρ))=z:=by
  simp only[List.map_cons,List.map_nil,I.aA,af,Int.toNat_natCast]
  simp[List.getD,hrow,hz]
 cases c with
 |int k lo hi=>
  refine(cZ (by rw[hf];exact h1) (by rw[hf];exact h2)).bind λaj n1 l _ _ ⟨g1,g2⟩=>ae.pure ⟨⟨g1,?_,?_⟩,?_,rfl⟩
  ·rw[g2,hf];exact h1
  ·rw[g2,hf];exact h2
  ·simp only[A.den,ah.val];rw[g2,hf]
 |str=>
  refine(cZ (by rw[hf];exact h1) (by rw[hf];exact h2)).bind λaj n1 l _ _ ⟨g1,g2⟩=>ae.pure ⟨⟨g1,?_,?_⟩,?_,rfl⟩
  ·rw[g2,hf];exact h1
  ·rw[g2,hf];exact h2
  ·simp only[A.den,ah.val];rw[g2,hf]
 |bool=>
  refine(cZ (by rw[hf];exact h1) (by rw[hf];exact h2)).bind λaj n1 l _ _ ⟨g1,g2⟩=>ae.pure ?_
  have aJ:aP.ok n1 aj ⟨l,0,1⟩:=⟨g1,by simp only;rw[g2,hf];exact h1,by simp only;rw[g2,hf];exact h2⟩
  have e:=aD.kT aJ (aP.iu n1 aj 1)
  refine⟨e.2,?_,rfl⟩
  simp only[A.den,ah.val]
  rw[e.1]
  simp only[aP.const,I.aA]
  rw[g2,hf]
 |sub k=>exact ae.fail
theorem zj {nb:Nat} {sh:List ah} {row:List Int} (aJ:aS sh row):∀{r:List ah} {n:Nat} {ρ:Env} {code i:I} {j:Nat},code.aC n->i.aC n->(ab (code.den ρ))[(i.den ρ).toNat]?=some row->(∀(x:Nat) (c:ah),r[x]?=some c->sh[j+x]?=some c)->
 ae S L (wy code i j r) n ρ λaa n' l=>(∀a∈l,A.ok n' nb aa a)/\l.length=r.length/\∀(x:Nat) (a:A),l[x]?=some a->∃c,sh[j+x]?=some c/\c.plain=true/\(bL sh row)[j+x]?=some (a.den aa m)
 |[],n,ρ,code,i,j,_,_,_,_=>ae.pure ⟨λ_ h=>by simp at h,rfl,λx a h=>by simp at h⟩
 |c::r,n,ρ,code,i,j,qh,uF,hrow,hr=>by
  have h0:=hr 0 c rfl
  obtain⟨z,h1,h2,h3,h4⟩:=aJ.get h0
  refine(wv (nb:=nb) (m:=m) hrow h1 h2 h3).bind λaj n1 y hn ha ⟨g1,g2,g3⟩=>?_
  refine(zj (nb:=nb) (r:=r) (n:=n1) (ρ:=aj) (code:=code) (i:=i) (j:=j+1) aJ (qh.mono hn) (uF.mono hn) (by rw[I.aQ ha qh,I.aQ ha uF];exact hrow) (λx c hx=>by
   have:=hr (x+1) c (by simpa using hx)
   rw[show j+1+x=j+(x+1) by omega];exact this)).bind λaL cq l bZ bM ⟨k1,k2,k3⟩=>ae.pure ⟨λb hb=>?_,by simp[k2],λx b hb=>?_⟩
  ·rcases List.mem_cons.1 hb with rfl|hb
   ·exact g1.ext bM bZ (Nat.le_refl _)
   ·exact k1 b hb
  ·cases x with
   |zero=>
    simp only[List.getElem?_cons_zero,Option.some.injEq]at hb
    subst hb
    exact⟨c,h0,g3,by rw[A.fV g1 bM (λ_ _=>rfl),g2];exact h4⟩
   |succ x=>
    have:=k3 x b (by simpa using hb)
    rw[show j+(x+1)=j+1+x by omega];exact this
theorem IK {nb:Nat} {c:ah} {code:I}:∀{q n:Nat} {ρ:Env} {i:I},(∀row∈ab (code.den ρ),aS [c] row)->code.aC n->i.aC n->
 ae S L (Cj c code q i) n ρ λaa n' l=>(∀a∈l,A.ok n' nb aa a)/\l.length=q/\∀(x:Nat) (a:A),l[x]?=some a->∃row,(ab (code.den ρ))[(i.den ρ).toNat+x]?=some row/\c.plain=true/\(bL [c] row)[0]?=some (a.den aa m)
 |0,n,ρ,i,_,_,_=>ae.pure ⟨λ_ h=>by simp at h,rfl,λx a h=>by simp at h⟩
 |q+1,n,ρ,i,cX,qh,uF=>by
  refine dm λhk=>?_
  simp only[List.map_cons,List.map_nil,az]at hk
  have hlt:(i.den ρ).toNat<(ab (code.den ρ)).length:=by omega
  have hrow:(ab (code.den ρ))[(i.den ρ).toNat]?=some (ab (code.den ρ))[(i.den ρ).toNat]:=List.getElem?_eq_getElem hlt
  have aJ:=cX _ (List.getElem_mem hlt)
  generalize (ab (code.den ρ))[(i.den ρ).toNat]=row at hrow aJ
  obtain⟨z,h1,h2,h3,h4⟩:=aJ.get (show([c]:List ah)[0]?=some c from rfl)
  refine(wv (nb:=nb) (m:=m) hrow h1 h2 h3).bind λaj n1 y hn ha ⟨g1,g2,g4⟩=>?_
  have Ae:=I.aQ ha qh
  have hid:=I.aQ ha uF
  refine(IK (nb:=nb) (q:=q) (n:=n1) (ρ:=aj) (i:=i.add (.const 1)) (by rw[Ae];exact cX) (qh.mono hn) (I.n3 (uF.mono hn) (I.bt _ _))).bind λaL cq l bZ bM ⟨k1,k2,k3⟩=>ae.pure ⟨λb hb=>?_,by simp[k2],λx b hb=>?_⟩
  ·rcases List.mem_cons.1 hb with rfl|hb
   ·exact g1.ext bM bZ (Nat.le_refl _)
   ·exact k1 b hb
  ·cases x with
   |zero=>
    simp only[List.getElem?_cons_zero,Option.some.injEq]at hb
    subst hb
    exact⟨row,by simpa using hrow,g4,by rw[A.fV g1 bM (λ_ _=>rfl),g2];exact h4⟩
   |succ x=>
    obtain⟨oY,r1,dP,r2⟩:=k3 x b (by simpa using hb)
    rw[Ae,I.den_add,I.aA,hid]at r1
    exact⟨oY,by rw[<-r1];congr 1;omega,dP,r2⟩
theorem LG (hb:bn n bl.length ρ bl) (hex:∃w,Mem w0 ρ m bl w) (t:TypeId) {b ay:Nat} {o i:I} {j:Nat} (hx:(A.ep b ay o i j).ok n bl.length ρ):
 ae S L (zz P bl t b ay o i j) n ρ (fU w0 m bl n ρ λw=>(Instr.loadAt t ((A.ep b ay o i j).den ρ m)).run P w):=by
 obtain⟨m2,k6⟩:=hex
 unfold zz
 split
 ·rename_i sh off code cap kind t' hbl
  refine bT λhc=>dm λhk=>?_
  simp only[Bool.and_eq_true]at hc
  obtain⟨⟨c1,ax⟩,bh⟩:=hc
  have c1:0<kind:=Nat.le_of_ble_eq_true c1
  have ax:=Nat.eq_of_beq_eq_true ax
  have bh:=I.beq_eq bh
  subst bh
  have mE:(A.rows sh o code cap kind).ok n bl.length ρ:=hb _ (List.mem_of_getElem? hbl) _ (by simp)
  simp only[List.map_cons,List.map_nil,az]at hk
  have hlt:(i.den ρ).toNat<(ab (code.den ρ)).length:=by omega
  have hrow:(ab (code.den ρ))[(i.den ρ).toNat]?=some (ab (code.den ρ))[(i.den ρ).toNat]:=List.getElem?_eq_getElem hlt
  generalize (ab (code.den ρ))[(i.den ρ).toNat]=row at hrow
  have bp:0<=cap.den ρ:=by
   rcases Int.lt_or_le (cap.den ρ) 0 with h|h
   ·have:=(k6.rws b sh o code cap kind t' hbl (by omega)).1 h
    rw[this]at hlt;simp at hlt
   ·exact h
  have gb:∀w,Mem w0 ρ m bl w->aS sh row/\∀(x:Nat) (v:Value) (c:ah),sh[x]?=some c->c.plain=true->(bL sh row)[x]?=some v->w.cell? ⟨m b,(o.den ρ).toNat+(i.den ρ).toNat*ay+x,none⟩=some v:=λw hw=>by
   obtain⟨_,cells,ec,fz,g1,⟨g2,g3⟩,_⟩:=(hw.rws b sh o code cap kind t' hbl (by omega)).2 bp
   refine⟨g3.1 _ (List.mem_of_getElem? hrow),λx v c hc hp hv=>?_⟩
   have:=g3.get hrow hc hp hv
   simp only[World.cell?,g1,Option.isSome_none,Bool.false_eq_true,if_false]
   rw[ax];exact this
  have cX:=(gb m2 k6).1
  cases hX:eb P t with
  |none=>exact ae.fail
  |some cV=>
   cases cV with
   |true=>
    cases hs:cC P t with
    |none=>exact ae.fail
    |some k=>
     simp only
     cases hk2:Nat.ble (j+k) sh.length with
     |false=>
      simp only[cond_false]
      split
      ·rename_i c _
       have hall:∀row∈ab (code.den ρ),aS [c] row:=by
        obtain⟨_,cells,ec,fz,g1,⟨g2,g3⟩,_⟩:=(k6.rws b [c] o code cap kind t' hbl (by omega)).2 bp
        exact g3.1
       refine(IK (nb:=bl.length) (m:=m) (q:=k) (i:=i) hall mE.1.2.1 hx.2.1.2).bind λaj n1 l hn ha ⟨g1,g2,g3⟩=>ae.pure ⟨g1,_,rfl,λw hw=>?_⟩
       have hl:=run_loadCells_list (P:=P) w ⟨m b,(o.den ρ).toNat+(i.den ρ).toNat*ay+0,none⟩ (l.map (A.den aj m)) λx v hj=>by
        rw[dX]
        rw[List.getElem?_map]at hj
        cases hq:l[x]? with
        |none=>simp[hq]at hj
        |some y=>
         simp only[hq,Option.map_some,Option.some.injEq]at hj
         subst hj
         obtain⟨oY,r1,dP,r2⟩:=g3 x y hq
         obtain⟨_,cells,ec,fz,e1,⟨e2,e3⟩,_⟩:=(hw.rws b [c] o code cap kind t' hbl (by omega)).2 bp
         have:=e3.get (j:=0) (c:=c) r1 rfl dP r2
         simp only[World.cell?,e1,Option.isSome_none,Bool.false_eq_true,if_false]
         simp only[List.length_cons,List.length_nil]at ax this
         rw[ax]
         rw[<-this];congr 1;omega
       simp only[List.length_map,g2,Nat.add_zero]at hl
       simp[Instr.loadAt,Instr.sureAddr,A.den,loadVar,iG hX,dQ hs,hl,W.den]
      ·exact ae.fail
     |true=>
     simp only[cond_true]
     have hk2:=Nat.le_of_ble_eq_true hk2
     refine(zj (nb:=bl.length) (m:=m) (r:=(sh.drop j).take k) cX mE.1.2.1 hx.2.1.2 hrow (λx c uP=>by
      rw[List.getElem?_take]at uP
      split at uP
      ·rw[List.getElem?_drop]at uP;exact uP
      ·cases uP)).bind λaj n1 l hn ha ⟨g1,g2,g3⟩=>ae.pure ⟨g1,_,rfl,λw hw=>?_⟩
     have hl:=run_loadCells_list (P:=P) w ⟨m b,(o.den ρ).toNat+(i.den ρ).toNat*ay+j,none⟩ (l.map (A.den aj m)) λx v hj=>by
      rw[dX]
      rw[List.getElem?_map]at hj
      cases hq:l[x]? with
      |none=>simp[hq]at hj
      |some y=>
       simp only[hq,Option.map_some,Option.some.injEq]at hj
       subst hj
       rw[Nat.add_assoc]
       obtain⟨c,q1,q2,q3⟩:=g3 x y hq
       exact(gb w hw).2 (j+x) _ c q1 q2 q3
     simp only[List.length_map,g2,List.length_take,List.length_drop,Nat.min_eq_left (show k<=sh.length-j by omega)]at hl
     simp[Instr.loadAt,Instr.sureAddr,A.den,loadVar,iG hX,dQ hs,hl,W.den]
   |false=>
    cases hc:sh[j]? with
    |none=>simp only;exact ae.fail
    |some c=>
     simp only
     obtain⟨z,h1,h2,h3,h4⟩:=cX.get hc
     refine(wv (nb:=bl.length) (m:=m) hrow h1 h2 h3).bind λaj n1 y hn ha ⟨g1,g2,g3⟩=>ae.pure ⟨g1,_,rfl,λw hw=>?_⟩
     have:=(gb w hw).2 j _ c hc g3 h4
     have AN:(A.ep b ay o i j).den ρ m= .pointer (some ⟨m b,(o.den ρ).toNat+(i.den ρ).toNat*ay+j,none⟩):=rfl
     simp[Instr.loadAt,Instr.sureAddr,AN,loadVar,iG hX,this,W.den,g2]
 ·exact ae.fail
theorem j0 {b ay:Nat} {o ro len cap:I} (hx:(A.sl b ay o ro len cap).ok n bl.length ρ):∃p,(A.sl b ay o ro len cap).den ρ m= .slice p (len.den ρ).toNat (if cap.den ρ<0 then 0 else(cap.den ρ).toNat)/\(cap.den ρ<0->p=iI (cap.den ρ) (m b))/\(0<=cap.den ρ->p=some ⟨m b,(o.den ρ).toNat+(ro.den ρ).toNat*ay,none⟩):=by
 obtain⟨_,_,_,_,h3,_⟩:=hx
 simp only[A.den]
 by_cases hc:cap.den ρ<0
 ·rw[if_pos hc,if_pos hc,h3 hc]
  exact⟨_,rfl,λ_=>rfl,λh=>by omega⟩
 ·rw[if_neg hc,if_neg hc]
  exact⟨_,rfl,λh=>absurd h hc,λ_=>rfl⟩
theorem SJ {t:TypeId} {b ay:Nat} {o ro len cap ar:I} {k:IntKind} (hx:(A.sl b ay o ro len cap).ok n bl.length ρ) (hi:ar.aC n):
 ae S L (Cz P t b ay o ro len ar) n ρ (fU w0 m bl n ρ λw=>(Instr.indexAt t ((A.sl b ay o ro len cap).den ρ m) (.int k (ar.den ρ))).run P w):=by
 unfold Cz
 cases h1:dT P t with
 |none=>exact ae.fail
 |some e=>
  cases h2:cC P e with
  |none=>simp only[h2];exact ae.fail
  |some s=>
   simp only[h2]
   refine bT λhs=>dm λhk=>ae.pure ?_
   have hs:=Nat.eq_of_beq_eq_true hs
   subst hs
   simp only[List.map_cons,List.map_nil,az]at hk
   obtain⟨x1,⟨dV,e0,fv,fR⟩,⟨gn,lq,lr,lu⟩,mf,ej,fQ⟩:=hx
   have bp:¬(cap.den ρ<0):=λh=>by have:=ej h;omega
   refine⟨⟨x1,⟨dV,I.n3 e0 hi⟩,gn,by rw[I.den_add];omega⟩,_,rfl,λw _=>?_⟩
   have ax:ar.den ρ<((len.den ρ).toNat:Int):=by omega
   have e1:(ro.den ρ+ar.den ρ).toNat=(ro.den ρ).toNat+(ar.den ρ).toNat:=by omega
   simp only[A.den,if_neg bp,W.den,I.den_add,e1]
   simp[-Int.ofNat_toNat,Instr.indexAt,asIntOf,run_underlying (dp h1),hk.1,ax,dQ h2,dX,Nat.add_mul,Nat.add_assoc]
theorem y5 {d:I} {y:Option Operand} {l:I} (h:oh tm d y=some l) (ht:bU n bl.length ρ m tm a.tmps):(y=none/\l=d)∨∃k,y.map a.eval=some (.int k (l.den ρ))/\l.aC n:=by
 cases y with
 |none=>exact .inl ⟨rfl,by simpa [oh]using h.symm⟩
 |some x=>
  obtain⟨k,hk,h2⟩:=qt (m:=m) (bl:=bl) h (bg ht x).2 (bg ht x).1
  exact .inr ⟨k,by rw[<-hk];rfl,h2⟩
theorem wa {op:Nat} {ls:List I} (h:az op (ls.map (·.den ρ))):ae S L (rj op ls) n ρ λaa n' _=>aa=ρ/\n'=n:=λA k hk=>⟨ρ,n,(),Nat.le_refl _,agree.refl _ _,⟨rfl,rfl⟩,hk h⟩
theorem SO {t:TypeId} {b ay:Nat} {o ro len cap p q:I} {lo hi:Option Operand} (hx:(A.sl b ay o ro len cap).ok n bl.length ρ) (ht:bU n bl.length ρ m tm a.tmps) (hp:oh tm (.const 0) lo=some p) (hq:oh tm len hi=some q):
 ae S L (CB P t b ay o ro len cap p q) n ρ (fU w0 m bl n ρ λw=>(Instr.sliceAt t ((A.sl b ay o ro len cap).den ρ m) (lo.map a.eval) (hi.map a.eval) none).run P w):=by
 unfold CB
 cases h1:dT P t with
 |none=>exact ae.fail
 |some e=>
  cases h2:cC P e with
  |none=>simp only[h2];exact ae.fail
  |some s=>
   simp only[h2]
   refine bT λhs=>dm λhk=>?_
   have hs:=Nat.eq_of_beq_eq_true hs
   subst hs
   simp only[List.map_cons,List.map_nil,az]at hk
   obtain⟨k1,k2,k3⟩:=hk
   have ey:=hx
   obtain⟨x1,⟨dV,e0,fv,fR⟩,⟨gn,lq,lr,lu⟩,⟨mf,lp⟩,ej,fQ⟩:=hx
   have k0:=y5 hp ht
   have xm:=y5 hq ht
   have qT:p.aC n:=by rcases k0 with⟨_,rfl⟩|⟨_,_,h⟩;exact I.bt _ _;exact h
   have sX:q.aC n:=by rcases xm with⟨_,rfl⟩|⟨_,_,h⟩;exact fv;exact h
   obtain⟨ptr,e1,e2,e3⟩:=j0 (m:=m) ey
   have jm:∀w,(Instr.sliceBounds true (len.den ρ).toNat (if cap.den ρ<0 then 0 else(cap.den ρ).toNat) (lo.map a.eval) (hi.map a.eval) none).run P w= .ok ((p.den ρ).toNat,(q.den ρ).toNat,(if cap.den ρ<0 then 0 else(cap.den ρ).toNat)) w:=λw=>by
    have hle:(len.den ρ)<=((if cap.den ρ<0 then 0 else(cap.den ρ).toNat:Nat):Int):=by
     split
     ·rename_i h;rw[ej h];simp
     ·rename_i h;have:=fQ (by omega);omega
    generalize (if cap.den ρ<0 then 0 else(cap.den ρ).toNat)=C at hle
    rcases k0 with⟨rfl,rfl⟩|⟨Hj,oI,_⟩<;>rcases xm with⟨rfl,rfl⟩|⟨Ph,lV,_⟩
    ·simp[Instr.sliceBounds,I.aA]
    ·rw[lV];simp[Instr.sliceBounds,I.aA,kF (P:=P) (by omega:0<=q.den ρ) (by omega:q.den ρ<=(C:Int))]
    ·rw[oI];simp[Instr.sliceBounds,kF (P:=P) (y:=(q.den ρ).toNat) k1 (by omega)]
    ·rw[oI,lV];simp[Instr.sliceBounds,kF (P:=P) (by omega:0<=q.den ρ) (by omega:q.den ρ<=(C:Int)),kF (P:=P) (y:=(q.den ρ).toNat) k1 (by omega)]
   have dB:∀(w:World) (r:Int),r=(if p.den ρ=cap.den ρ then ro.den ρ else ro.den ρ+p.den ρ)->
    (Instr.sliceAt t ((A.sl b s o ro len cap).den ρ m) (lo.map a.eval) (hi.map a.eval) none).run P w= .ok (if cap.den ρ-p.den ρ<0 then .slice (iI (cap.den ρ-p.den ρ) (m b)) 0 0 else .slice (some ⟨m b,(o.den ρ).toNat+r.toNat*s,none⟩) (q.den ρ-p.den ρ).toNat (cap.den ρ-p.den ρ).toNat) w:=λw r hr=>by
    rw[e1]
    have dL:(q.den ρ).toNat-(p.den ρ).toNat=(q.den ρ-p.den ρ).toNat:=by omega
    simp only[Instr.sliceAt,Sem.run_bind,run_underlying (dp h1),Result.andThen_ok,Instr.slice,jm w,dQ h2,Sem.run_pure,dL]
    by_cases hc:cap.den ρ<0
    ·have hl:=ej hc
     have xj:p.den ρ=0:=by omega
     rw[if_pos hc,e2 hc,if_pos (by omega)]
     have:q.den ρ=0:=by omega
     simp[xj,this,hc]
    ·rw[if_neg hc,e3 (by omega)]
     have jl:=fQ (by omega)
     have nv:¬(cap.den ρ-p.den ρ<0):=by omega
     rw[if_neg nv]
     have mv:(cap.den ρ).toNat-(p.den ρ).toNat=(cap.den ρ-p.den ρ).toNat:=by omega
     rw[mv]
     by_cases uC:p.den ρ=cap.den ρ
     ·rw[if_pos uC]at hr
      have h7:(cap.den ρ).toNat=(p.den ρ).toNat:=by omega
      rw[if_pos h7,hr]
     ·rw[if_neg uC]at hr
      have h7:¬(cap.den ρ).toNat=(p.den ρ).toNat:=by omega
      rw[if_neg h7,hr]
      have nm:(ro.den ρ+p.den ρ).toNat=(ro.den ρ).toNat+(p.den ρ).toNat:=by omega
      rw[nm,Nat.add_mul,<-Nat.add_assoc]
      simp[dX]
   split
   ·rename_i h0
    have xj:=I.er h0 (ρ:=ρ)
    refine ae.pure ⟨⟨x1,⟨dV,e0,sX,fR⟩,⟨gn,lq,by omega,by omega⟩,⟨mf,lp⟩,λh=>?_,λh=>?_⟩,_,rfl,λw _=>?_⟩
    ·have:=ej h;omega
    ·have:=fQ h;omega
    ·have hr:=dB w (ro.den ρ) (by rw[xj];split<;>omega)
     rw[xj]at hr
     simp only[Int.sub_zero]at hr
     simp only[W.den,A.den]at hr⊢
     exact hr
   ·have fY:(0:Int)<=af 33 ([ro,p,cap].map (·.den ρ)):=by
     simp only[List.map_cons,List.map_nil,af];split<;>omega
    have lK:af 33 ([ro,p,cap].map (·.den ρ))<=9223372036854775809:=by
     simp only[List.map_cons,List.map_nil,af]
     by_cases hc:cap.den ρ<0
     ·have:=ej hc;split<;>omega
     ·have:=fQ (by omega);split<;>omega
    refine(wa (op:=68) (ls:=[len,cap]) (show len.den ρ<=cap.den ρ∨len.den ρ=0 from by
     by_cases hc:cap.den ρ<0
     ·exact .inr (ej hc)
     ·exact .inl (fQ (by omega)))).bind λaY n0 _ _ _ ⟨qn,jq⟩=>?_
    have qn:=qn.symm;have jq:=jq.symm
    subst qn;subst jq
    refine(cZ fY lK).bind λaj n1 r hn ha ⟨g1,g2⟩=>ae.pure ?_
    simp only[List.map_cons,List.map_nil,af]at g2
    have a1:=I.aQ ha dV;have a2:=I.aQ ha sX;have a3:=I.aQ ha qT;have a4:=I.aQ ha fR
    refine⟨⟨x1,⟨dV.mono hn,g1,I.o4 (sX.mono hn) (qT.mono hn),I.o4 (fR.mono hn) (qT.mono hn)⟩,?_⟩,_,rfl,λw _=>?_⟩
    ·rw[I.gM,I.gM,a1,a2,a3,a4,g2]
     refine⟨⟨gn,?_,by omega,by omega⟩,⟨?_,?_⟩,λh=>?_,λh=>?_⟩
     ·split<;>omega
     ·by_cases hc:cap.den ρ<0
      ·have:=ej hc;omega
      ·have:=fQ (by omega);omega
     ·split<;>omega
     ·by_cases hc:cap.den ρ<0
      ·have:=ej hc;omega
      ·have:=fQ (by omega);omega
     ·by_cases hc:cap.den ρ<0
      ·have:=ej hc;omega
      ·have:=fQ (by omega);omega
    ·refine(dB w (r.den aj) g2).trans ?_
     simp only[W.den,A.den,I.gM,a1,a2,a3,a4]
theorem Sj (w:World) (src e:TypeId) (hs:P.underlying src=some (.slice e)) (he:P.underlying e=some (.int .u8)) (p:Option Addr) (c:Nat):
 ∀dst,P.underlying dst=some .string->(convert src dst (.slice p 0 c)).run P w= .ok (.string ByteArray.empty) w:=by
 intro dst hd
 cases p with
 |none=>exact run_convert_bytes_nil w src e hs he _ _ dst hd
 |some a=>
  have hl:(loadCells a 0).run P w= .ok ([]:List Value).toArray w:=by
   have:=run_loadCells_list (P:=P) w a ([]:List Value) (λj v hj=>by simp at hj)
   simpa using this
  rw[run_convert_bytes_string w src dst e _ 0 c hs he hd,run_bytesToString w _ 0 c [] hl]
  simp
theorem SM (hb:bn n bl.length ρ bl) (hex:∃w,Mem w0 ρ m bl w) {src dst e:TypeId} (hs:P.underlying src=some (.slice e)) (he:P.underlying e=some (.int .u8)) (hd:P.underlying dst=some .string) {b ay:Nat} {o ro len cap:I} (hx:(A.sl b ay o ro len cap).ok n bl.length ρ):
 ae S L (CA bl b ay o ro len) n ρ (fU w0 m bl n ρ λw=>(convert src dst ((A.sl b ay o ro len cap).den ρ m)).run P w):=by
 obtain⟨m2,k6⟩:=hex
 unfold CA
 split
 ·rename_i sh off code cj kind t' hbl
  refine bT λhc=>dm λhk=>?_
  simp only[Bool.and_eq_true]at hc
  obtain⟨⟨⟨c1,ax⟩,bh⟩,bu⟩:=hc
  have c1:0<kind:=Nat.le_of_ble_eq_true c1
  have ax:=Nat.eq_of_beq_eq_true ax
  have bh:=I.beq_eq bh
  subst bh;subst ax
  simp only[List.map_cons,List.map_nil,az,I.den_add]at hk
  obtain⟨ptr,e1,e2,e3⟩:=j0 (m:=m) hx
  obtain⟨x1,⟨dV,e0,fv,fR⟩,⟨gn,lq,lr,lu⟩,⟨mf,lp⟩,ej,fQ⟩:=hx
  generalize hR:ab (code.den ρ)=rows at hk
  have h9:cj.den ρ<0->rows=[]:=λh=>by rw[<-hR];exact(k6.rws b sh o code cj kind t' hbl (by omega)).1 h
  have c0:(((rows.drop (ro.den ρ).toNat).take (len.den ρ).toNat).map λrow=>row.getD 0 0).length=(len.den ρ).toNat:=by
   simp;omega
  have hf:af 34 ([code,ro,ro.add len].map (·.den ρ))=dF ((((rows.drop (ro.den ρ).toNat).take (len.den ρ).toNat).map λrow=>row.getD 0 0).map λz=>UInt8.ofNat z.toNat):=by
   simp only[List.map_cons,List.map_nil,af,I.den_add,hR]
   have:(ro.den ρ+len.den ρ).toNat-(ro.den ρ).toNat=(len.den ρ).toNat:=by omega
   rw[this,List.map_map];rfl
  generalize aX:(((rows.drop (ro.den ρ).toNat).take (len.den ρ).toNat).map λrow=>row.getD 0 0)=xs at c0 hf
  have hl:(xs.map λz=>UInt8.ofNat z.toNat).length<=ez:=by
   have:(xs.map λz=>UInt8.ofNat z.toNat).length=(len.den ρ).toNat:=by simp[c0]
   unfold ez;omega
  refine(cZ (by rw[hf];exact kQ _) (by rw[hf];exact j6 hl)).bind λaj n1 l _ _ ⟨g1,g2⟩=>ae.pure ⟨⟨g1,by rw[g2,hf];exact kQ _,by rw[g2,hf];exact j6 hl⟩,_,rfl,λw hw=>?_⟩
  have hval:(W.one (A.str l)).den aj m= .string (strOfNums xs):=by
   simp only[W.den,A.den,g2,hf,gD]
   rfl
  rw[hval]
  show(convert src dst ((A.sl b 1 o ro len cap).den ρ m)).run P w=_
  rw[e1]
  by_cases bp:cap.den ρ<0
  ·have hl0:=ej bp
   rw[e2 bp,if_pos bp]
   have GQ:xs=[]:=List.eq_nil_of_length_eq_zero (by rw[c0,hl0];rfl)
   rw[GQ,show(len.den ρ).toNat=0 by omega,Sj w src e hs he _ _ dst hd]
   rfl
  ·rw[e3 (by omega),if_neg bp]
   by_cases uf:cj.den ρ<0
   ·have qd:=h9 uf
    have hl0:len.den ρ=0:=by rw[qd]at hk;simp at hk;omega
    have GQ:xs=[]:=List.eq_nil_of_length_eq_zero (by rw[c0,hl0];rfl)
    exact run_convert_bytes_arg w src e hs he (m b) _ _ _ xs c0 (λi hi=>by rw[hl0]at hi;simp at hi) dst hd
   ·obtain⟨_,cells,ec,fz,k1,⟨k2,k3⟩,_⟩:=(hw.rws b sh o code cj kind t' hbl (by omega)).2 (by omega)
    refine run_convert_bytes_arg w src e hs he (m b) _ _ _ xs c0 (λi hi=>?_) dst hd
    have hlt:(ro.den ρ).toNat+i<rows.length:=by omega
    have hrow:(ab (code.den ρ))[(ro.den ρ).toNat+i]?=some rows[(ro.den ρ).toNat+i]:=by rw[hR];exact List.getElem?_eq_getElem hlt
    have eW:∃lo hi,sh=[.int .u8 lo hi]:=by
     unfold wk at bu
     split at bu
     ·exact⟨_,_,rfl⟩
     ·cases bu
    obtain⟨lo,bE,rfl⟩:=eW
    have mE:=k3.1 _ (List.mem_of_getElem? hrow)
    obtain⟨z,q1,_,_,q4⟩:=mE.get (j:=0) (c:= .int .u8 lo bE) rfl
    have:=k3.get (j:=0) (c:= .int .u8 lo bE) hrow rfl rfl q4
    have hz:xs.getD i 0=z:=by
     rw[<-aX]
     have:i<(len.den ρ).toNat:=hi
     simp[List.getD,List.getElem?_take,this,hlt,q1]
    simp only[World.cell?,k1,Option.isSome_none,Bool.false_eq_true,if_false,hz]
    simp only[List.length_cons,List.length_nil,Nat.add_zero,Nat.zero_add,Nat.mul_one]at this
    rw[show(o.den ρ).toNat+(ro.den ρ).toNat*1+i=(o.den ρ).toNat+((ro.den ρ).toNat+i) by omega]
    exact this
 ·exact ae.fail
theorem Qj {k:IntKind} {x y:aP} {t:TypeId} {ts:Array TypeId} (hx:x.ok n ρ) (hy:y.ok n ρ):ae S L (HF k x y) n ρ (fU w0 m bl n ρ λw=>(Builtin.min_ ts t #[.int k (x.l.den ρ),.int k (y.l.den ρ)]).run P w):=by
 have e:=aD.wH hy hx
 have hr:∀w,(Builtin.min_ ts t #[.int k (x.l.den ρ),.int k (y.l.den ρ)]).run P w= .ok (.int k (if y.l.den ρ<x.l.den ρ then y.l.den ρ else x.l.den ρ)) w:=λw=>by
  simp[Builtin.min_,Builtin.min2]
 refine y8 (λhb=>ae.pure ⟨hy,_,rfl,λw _=>?_⟩) λhb=>ae.pure ⟨hx,_,rfl,λw _=>?_⟩
 ·rw[e.1]at hb
  simp only[hr,if_pos (of_decide_eq_true hb)];rfl
 ·rw[e.1]at hb
  simp only[hr,if_neg (of_decide_eq_false hb)];rfl
theorem Qi {k:IntKind} {x y:aP} {t:TypeId} {ts:Array TypeId} (hx:x.ok n ρ) (hy:y.ok n ρ):ae S L (HC k x y) n ρ (fU w0 m bl n ρ λw=>(Builtin.max_ ts t #[.int k (x.l.den ρ),.int k (y.l.den ρ)]).run P w):=by
 have e:=aD.wH hx hy
 have hr:∀w,(Builtin.max_ ts t #[.int k (x.l.den ρ),.int k (y.l.den ρ)]).run P w= .ok (.int k (if x.l.den ρ<y.l.den ρ then y.l.den ρ else x.l.den ρ)) w:=λw=>by
  simp[Builtin.max_,Builtin.max2]
 refine y8 (λhb=>ae.pure ⟨hy,_,rfl,λw _=>?_⟩) λhb=>ae.pure ⟨hx,_,rfl,λw _=>?_⟩
 ·rw[e.1]at hb
  simp only[hr,if_pos (of_decide_eq_true hb)];rfl
 ·rw[e.1]at hb
  simp only[hr,if_neg (of_decide_eq_false hb)];rfl
theorem Eb:∀{cs:List A} {l:List Bool},hO cs=some l->cs=l.map λb=>A.bool (.lit b)
 |[],l,h=>by simp[hO]at h;subst h;rfl
 | .bool (.lit b)::r,l,h=>by
  simp only[hO]at h
  cases hr:hO r with
  |none=>simp[hr]at h
  |some aU=>
   simp only[hr,Option.some.injEq]at h
   subst h
   simp[Eb hr]
 | .bool (.eq ..)::_,_,h| .bool (.lt ..)::_,_,h| .bool (.le ..)::_,_,h| .bool (.not ..)::_,_,h| .bool (.and ..)::_,_,h| .bool (.iff ..)::_,_,h=>by simp[hO]at h
 | .int .. ::_,_,h=>by simp[hO]at h
 | .ptr .. ::_,_,h=>by simp[hO]at h
 | .gY .. ::_,_,h=>by simp[hO]at h
 | .gptr .. ::_,_,h=>by simp[hO]at h
 | .slc .. ::_,_,h=>by simp[hO]at h
 | .con _::_,_,h=>by simp[hO]at h
 | .str _::_,_,h=>by simp[hO]at h
 | .rows .. ::_,_,h=>by simp[hO]at h
 | .sl .. ::_,_,h=>by simp[hO]at h
 | .ep .. ::_,_,h=>by simp[hO]at h
theorem GU:∀(l:List Bool) (s:Nat),s+l.length<=256->∀i:Nat,i<256->(UInt8.ofNat i∈nK s l↔s<=i/\l[i-s]?=some true)
 |[],s,_,i,_=>by simp[nK]
 |b::r,s,h,i,hi=>by
  simp only[List.length_cons]at h
  have ih:=GU r (s+1) (by omega) i hi
  have hne:s≠i->UInt8.ofNat i≠UInt8.ofNat s:=λhne he=>by
   have:=congrArg UInt8.toNat he
   simp at this;omega
  have key:(s+1<=i/\r[i-(s+1)]?=some true)↔(s<i/\(b::r)[i-s]?=some true):=by
   constructor
   ·rintro⟨h1,h2⟩
    refine⟨h1,?_⟩
    rw[show i-s=(i-(s+1))+1 by omega];simpa using h2
   ·rintro⟨h1,h2⟩
    refine⟨h1,?_⟩
    rw[show i-s=(i-(s+1))+1 by omega]at h2;simpa using h2
  unfold nK
  cases b with
  |true=>
   simp only[cond_true,List.mem_cons,ih,key]
   by_cases he:s=i
   ·subst he;simp
   ·constructor
    ·rintro(h1|h1)
     ·exact absurd h1 (hne he)
     ·exact⟨by omega,h1.2⟩
    ·rintro⟨h1,h2⟩;exact .inr ⟨by omega,h2⟩
  |false=>
   simp only[cond_false,ih,key]
   by_cases he:s=i
   ·subst he;simp
   ·constructor
    ·rintro⟨h1,h2⟩;exact⟨by omega,h2⟩
    ·rintro⟨h1,h2⟩;exact⟨by omega,h2⟩
theorem Sw (hb:bn n bl.length ρ bl) {ty:TypeId} (hu:P.underlying ty=some .bool) (b off:Nat) {ar:aP} (uw:ar.ok n ρ):ae S L (Cs bl b off ar) n ρ (fU w0 m bl n ρ λw=>(Instr.loadAt ty ((A.gY b off ar).den ρ m)).run P w):=by
 unfold Cs
 cases hbl:bl[b]? with
 |none=>exact ae.fail
 |some q=>
  obtain⟨cs,t⟩:=q
  simp only
  cases hi:hO ((cs.drop off).take (ar.hi.toNat+1))with
  |none=>exact ae.fail
  |some l=>
   refine bT λhc=>?_
   simp only[Bool.and_eq_true,decide_eq_true_eq]at hc
   obtain⟨⟨⟨hc1,hc2⟩,UN⟩,hq⟩:=hc
   have hlen:=Nat.eq_of_beq_eq_true hc1
   have tR:=Nat.le_of_ble_eq_true hc2
   have e:=Eb hi
   have rq:=uw.2
   have hlt:(ar.l.den ρ).toNat<l.length:=by omega
   have cR:dF (nK 0 l)=(I.const (dF (nK 0 l))).den ρ:=(I.aA _ _).symm
   have hf:af 43 ([I.const (dF (nK 0 l)),ar.l].map (·.den ρ))=if l[(ar.l.den ρ).toNat]=true then 1 else 0:=by
    simp only[List.map_cons,List.map_nil,af,I.aA,gD]
    have:=GU l 0 (by omega) (ar.l.den ρ).toNat (by omega)
    simp only[Nat.sub_zero,Nat.zero_le,true_and,List.getElem?_eq_getElem hlt,Option.some.injEq]at this
    simp only[this]
   have b1:=tz (l[(ar.l.den ρ).toNat]=true)
   refine(cZ (by rw[hf];exact b1.1) (by rw[hf];exact b1.2)).bind λaj n1 r hn ha ⟨g1,g2⟩=>?_
   rw[hf]at g2
   have e2:=aD.kT (n:=n1) (ρ:=aj) (a:=⟨r,0,1⟩) (b:= .const 1) ⟨g1,by simp only[g2];exact b1.1,by simp only[g2];exact b1.2⟩ (aP.iu _ _ _)
   refine ae.pure ⟨e2.2,_,rfl,λw hw=>?_⟩
   obtain⟨_,_,IN,_,h2⟩:=hw.dj b cs t hbl hq
   have hcs:cs[off+(ar.l.den ρ).toNat]?=some (.bool (.lit l[(ar.l.den ρ).toNat])):=by
    have h1:((cs.drop off).take (ar.hi.toNat+1))[(ar.l.den ρ).toNat]?=some (.bool (.lit l[(ar.l.den ρ).toNat])):=by rw[e];simp[hlt]
    rw[List.getElem?_take]at h1
    split at h1
    ·rw[List.getElem?_drop]at h1;exact h1
    ·cases h1
   have MW:=(List.getElem?_eq_some_iff.1 hcs).1
   have hcell:w.cell? ⟨m b,off+(ar.l.den ρ).toNat,none⟩=some (.bool l[(ar.l.den ρ).toNat]):=by
    simp only[World.cell?,h2,Option.isSome_none,Bool.false_eq_true,if_false,List.getElem?_toArray]
    rw[List.getElem?_append_left (by simpa using MW),List.getElem?_map,hcs];rfl
   have hX:eb P ty=some false:=by unfold eb;rw[hu]
   have AN:(A.gY b off ar).den ρ m= .pointer (some ⟨m b,off+(ar.l.den ρ).toNat,none⟩):=rfl
   simp only[W.den,A.den]
   rw[e2.1]
   simp only[g2,aP.const,I.aA]
   have ML:decide ((if l[(ar.l.den ρ).toNat]=true then(1:Int)else 0)=1)=l[(ar.l.den ρ).toNat]:=by
    cases l[(ar.l.den ρ).toNat]<;>rfl
   rw[ML]
   have N5:=AN
   simp only[A.den]at N5
   simp[Instr.loadAt,Instr.sureAddr,loadVar,iG hX,hcell]
theorem Cn (w:World) {t e:TypeId} (hu:P.underlying t=some (.slice e)) (p:Option Addr) (l c:Nat):(binOp .eql t (.slice p l c) (.slice none 0 0)).run P w= .ok (.bool p.isNone) w:=by
 have h:binOp .eql t (.slice p l c) (.slice none 0 0)=(do pure (.bool (<-Op.equal t (.slice p l c) (.slice none 0 0)))):=rfl
 rw[h]
 simp only[Sem.run_bind,run_equal_slice_nil w t e p l c hu,Result.andThen_ok,Sem.run_pure]
theorem Sm (w:World) {t e:TypeId} (hu:P.underlying t=some (.slice e)) (p:Option Addr) (l c:Nat):(binOp .neq t (.slice p l c) (.slice none 0 0)).run P w= .ok (.bool !p.isNone) w:=by
 have h:binOp .neq t (.slice p l c) (.slice none 0 0)=(do pure (.bool (!(<-Op.equal t (.slice p l c) (.slice none 0 0))))):=rfl
 rw[h]
 simp only[Sem.run_bind,run_equal_slice_nil w t e p l c hu,Result.andThen_ok,Sem.run_pure]
theorem D0 {b off:Nat} {sh:List ah} {code:I} {c:Nat} (h:v8 bl b off=some (sh,code,c)):off=0/\∃cap kind t,bl[b]?=some ([.rows sh (.const 0) code cap kind],t)/\0<kind/\(∀ρ,cap.den ρ=(c:Int))/\eP sh=true:=by
 unfold v8 at h
 split at h
 ·rename_i bH o code' cap kind t hbl
  split at h
  ·rename_i q hq
   cases hc:(Nat.beq off 0&&Nat.blt 0 kind&&I.beq o (.const 0)&&decide (0<=q)&&eP bH)with
   |false=>rw[hc]at h;cases h
   |true=>
    rw[hc]at h
    simp only[cond_true,Option.some.injEq,Prod.mk.injEq]at h
    obtain⟨rfl,rfl,rfl⟩:=h
    simp only[Bool.and_eq_true,decide_eq_true_eq]at hc
    obtain⟨⟨⟨⟨c1,ax⟩,bh⟩,bu⟩,cP⟩:=hc
    have bh:=I.beq_eq bh
    subst bh
    exact⟨Nat.eq_of_beq_eq_true c1,cap,kind,t,hbl,Nat.le_of_ble_eq_true ax,λρ=>by rw[I.er hq];omega,cP⟩
  ·cases h
 ·cases h
theorem DV {nb:Nat} {sh:List ah}:∀{k i:Nat} {n:Nat} {ρ:Env} {code:I},code.aC n->(∀row∈ab (code.den ρ),aS sh row)->(ab (code.den ρ)).length=i+k->
 ae S L (vX code sh i k) n ρ λaa n' l=>(∀a∈l,A.ok n' nb aa a)/\l.length=k*sh.length/\∀(x:Nat) (a:A),l[x]?=some a->(bz sh (ab (code.den ρ)))[i*sh.length+x]?=some (a.den aa m)
 |0,i,n,ρ,code,_,_,_=>ae.pure ⟨λ_ h=>by simp at h,by simp,λx a h=>by simp at h⟩
 |k+1,i,n,ρ,code,hs,cX,hl=>by
  unfold vX
  have hlt:i<(ab (code.den ρ)).length:=by omega
  have hrow:(ab (code.den ρ))[i]?=some (ab (code.den ρ))[i]:=List.getElem?_eq_getElem hlt
  generalize (ab (code.den ρ))[i]=row at hrow
  refine(zj (nb:=nb) (m:=m) (r:=sh) (j:=0) (i:= .const (i:Nat)) (code:=code) (cX row (List.mem_of_getElem? hrow)) hs (I.bt _ _) (by rw[I.aA,Int.toNat_natCast];exact hrow) (λx c hx=>by rw[Nat.zero_add];exact hx)).bind λaj n1 l1 cD bG ⟨g1,g2,g3⟩=>?_
  have e1:code.den aj=code.den ρ:=I.aQ bG hs
  refine(DV (nb:=nb) (k:=k) (i:=i+1) (code:=code) (hs.mono cD) (by rw[e1];exact cX) (by rw[e1];omega)).bind λaL cq l2 bZ bM ⟨k1,k2,k3⟩=>ae.pure ⟨λa ha=>?_,by rw[List.length_append,g2,k2,Nat.succ_mul];omega,λx a hx=>?_⟩
  ·rcases List.mem_append.1 ha with ha|ha
   ·exact(g1 a ha).ext bM bZ (Nat.le_refl _)
   ·exact k1 a ha
  ·rw[List.getElem?_append]at hx
   split at hx
   ·rename_i hlt
    obtain⟨_,_,_,this⟩:=g3 x a hx
    rw[Nat.zero_add]at this
    rw[A.fV (g1 a (List.mem_of_getElem? hx)) bM (λ_ _=>rfl)]
    exact zI cX hrow this
   ·rename_i dN
    have:=k3 (x-l1.length) a hx
    rw[e1,g2]at this
    rw[g2]at dN
    rw[show i*sh.length+x=(i+1)*sh.length+(x-sh.length) by rw[Nat.succ_mul];omega]
    exact this
theorem K0 {α:Type} {p q r len cap:I} {f:Unit->M α} {R:Env->Nat->α->Prop} (fW:cap.den ρ<0->len.den ρ=0) (jl:0<=cap.den ρ->len.den ρ<=cap.den ρ) (h:(0<=p.den ρ/\p.den ρ<=q.den ρ/\q.den ρ<=r.den ρ/\r.den ρ<=cap.den ρ)->ae S L (f ()) n ρ R):
 ae S L (bind (cond (I.beq r len) (cF 78 [p,q,r,cap]) (cF 64 [p,q,r,len])) f) n ρ R:=by
 cases I.beq r len with
 |true=>exact dm λhk=>h hk
 |false=>
  refine dm λhk=>h ?_
  have hk:0<=p.den ρ/\p.den ρ<=q.den ρ/\q.den ρ<=r.den ρ/\r.den ρ<=len.den ρ/\0<len.den ρ:=hk
  have hc:0<=cap.den ρ:=by
   rcases Int.lt_or_le (cap.den ρ) 0 with h|h
   ·have:=fW h;omega
   ·exact h
  have:=jl hc
  omega
theorem SN {t:TypeId} {b ay:Nat} {o ro len cap p q r:I} {lo:Option Operand} {hi dt:Operand} (hx:(A.sl b ay o ro len cap).ok n bl.length ρ) (ht:bU n bl.length ρ m tm a.tmps) (hp:oh tm (.const 0) lo=some p) (hq:jy (aV tm hi)=some q) (hr:jy (aV tm dt)=some r):
 ae S L (CC P t b ay o ro len cap p q r) n ρ (fU w0 m bl n ρ λw=>(Instr.sliceAt t ((A.sl b ay o ro len cap).den ρ m) (lo.map a.eval) (some (a.eval hi)) (some (a.eval dt))).run P w):=by
 unfold CC
 cases h1:dT P t with
 |none=>exact ae.fail
 |some e=>
  cases h2:cC P e with
  |none=>simp only[h2];exact ae.fail
  |some s=>
   simp only[h2]
   refine bT λhs=>K0 (λh=>hx.2.2.2.2.1 h) (λh=>hx.2.2.2.2.2 h) λhk=>?_
   have hs:=Nat.eq_of_beq_eq_true hs
   subst hs
   obtain⟨k1,k2,k3,k4⟩:=hk
   have ey:=hx
   obtain⟨x1,⟨dV,e0,fv,fR⟩,⟨gn,lq,lr,lu⟩,⟨mf,lp⟩,ej,fQ⟩:=hx
   have k0:=y5 hp ht
   have qT:p.aC n:=by rcases k0 with⟨_,rfl⟩|⟨_,_,h⟩;exact I.bt _ _;exact h
   obtain⟨Ph,lV,sX⟩:=qt (m:=m) (bl:=bl) hq (bg ht hi).2 (bg ht hi).1
   obtain⟨Vd,AQ,IW⟩:=qt (m:=m) (bl:=bl) hr (bg ht dt).2 (bg ht dt).1
   obtain⟨ptr,e1,e2,e3⟩:=j0 (m:=m) ey
   have hc:¬(cap.den ρ<0):=by omega
   have jl:=fQ (by omega)
   have EM:=e1
   rw[if_neg hc,e3 (by omega)]at EM
   have hf:af 33 ([ro,p,r].map (·.den ρ))=(if p.den ρ=r.den ρ then ro.den ρ else ro.den ρ+p.den ρ):=rfl
   refine(cZ (by rw[hf];split<;>omega) (by rw[hf];split<;>omega)).bind λaj n1 IN hn ha ⟨g1,g2⟩=>ae.pure ?_
   rw[hf]at g2
   have a1:=I.aQ ha dV;have a2:=I.aQ ha sX;have a3:=I.aQ ha qT;have a4:=I.aQ ha IW
   refine⟨⟨x1,⟨dV.mono hn,g1,I.o4 (sX.mono hn) (qT.mono hn),I.o4 (IW.mono hn) (qT.mono hn)⟩,?_⟩,_,rfl,λw _=>?_⟩
   ·rw[I.gM,I.gM,a1,a2,a3,a4,g2]
    refine⟨⟨gn,?_,by omega,by omega⟩,⟨by omega,?_⟩,λh=>by omega,λh=>by omega⟩
    ·split<;>omega
    ·split<;>omega
   ·rw[EM]
    have jm:(Instr.sliceBounds true (len.den ρ).toNat (cap.den ρ).toNat (lo.map a.eval) (some (a.eval hi)) (some (a.eval dt))).run P w= .ok ((p.den ρ).toNat,(q.den ρ).toNat,(r.den ρ).toNat) w:=by
     rw[lV,AQ]
     rcases k0 with⟨rfl,rfl⟩|⟨Hj,oI,_⟩
     ·simp[Instr.sliceBounds,I.aA,kF (P:=P) (y:=(cap.den ρ).toNat) (by omega:0<=r.den ρ) (by omega),kF (P:=P) (y:=(r.den ρ).toNat) (by omega:0<=q.den ρ) (by omega)]
     ·rw[oI]
      simp[Instr.sliceBounds,kF (P:=P) (y:=(cap.den ρ).toNat) (by omega:0<=r.den ρ) (by omega),kF (P:=P) (y:=(r.den ρ).toNat) (by omega:0<=q.den ρ) (by omega),kF (P:=P) (y:=(q.den ρ).toNat) k1 (by omega)]
    have dL:(q.den ρ).toNat-(p.den ρ).toNat=(q.den ρ-p.den ρ).toNat:=by omega
    have mv:(r.den ρ).toNat-(p.den ρ).toNat=(r.den ρ-p.den ρ).toNat:=by omega
    simp only[Instr.sliceAt,Sem.run_bind,run_underlying (dp h1),Result.andThen_ok,Instr.slice,jm,dQ h2,Sem.run_pure,dL,mv,W.den,A.den,I.gM,a1,a2,a3,a4,g2]
    rw[if_neg (show ¬(r.den ρ-p.den ρ<0) by omega)]
    by_cases uC:p.den ρ=r.den ρ
    ·rw[if_pos uC,if_pos (by omega)]
    ·rw[if_neg uC,if_neg (by omega)]
     have nm:(ro.den ρ+p.den ρ).toNat=(ro.den ρ).toNat+(p.den ρ).toNat:=by omega
     rw[nm,Nat.add_mul,<-Nat.add_assoc]
     simp[dX]
theorem Sd (hb:bn n bl.length ρ bl) (hex:∃w,Mem w0 ρ m bl w) (ht:bU n bl.length ρ m tm a.tmps) (o:Oper) {q:M V} (hq:yc P bl tm o=some q):ae S L q n ρ (fC w0 m bl n ρ P o a):=by
 obtain⟨m2,k6⟩:=hex
 unfold yc at hq
 split at hq
 ·rename_i t x ar h
  have hx:=bg ht x
  have hi:=bg ht ar
  split at hq
  ·rename_i l k p len e hv uK oB
   rw[hv]at hx;rw[uK]at hi
   split at hq
   ·rename_i s hs eV
    cases hc:Nat.ble len 8 with
    |false=>rw[hc]at hq;cases hq
    |true=>
     rw[hc]at hq
     simp only[cond_true,Option.some.injEq]at hq
     subst hq
     have e1:a.eval x= .agg (l.map (A.den ρ m)).toArray:=hx.2
     have e2:a.eval ar= .int k (p.l.den ρ):=hi.2
     have main:∀r j,j+r=len->ae S L (Ba P e l s p.l j r) n ρ (fC w0 m bl n ρ P o a):=by
      intro r
      induction r with
      |zero=>intro j _;exact ae.fail
      |succ r ih=>
       intro j hj
       refine y8 (λhb=>?_) λ_=>ih (j+1) (by omega)
       have hb:p.l.den ρ=(I.const j).den ρ:=by simpa [aD.den]using hb
       rw[I.aA]at hb
       have hlt:((j:Nat):Int)<(len:Nat):=by omega
       have dN:(0:Int)<=(j:Nat):=by omega
       refine(BW (w0:=w0) (m:=m) (bl:=bl) (off:=j*s) hx.1).mono λaj n1 v _ _ ⟨q1,val,q2,q3⟩=>⟨q1,val,q2,λw hw=> .inl ?_⟩
       have:=q3 w hw
       rw[hb]at e2
       simp[execOp,h,e1,e2,Instr.index,asIntOf,run_underlying (lC oB),dN,hlt,dQ hs,this]
       intro hle;omega
     exact main len 0 (by omega)
   ·cases hq
  ·cases hq
 ·rename_i t x ar h
  have hx:=bg ht x
  have hi:=bg ht ar
  split at hq
  ·rename_i b off k i hv uK
   rw[hv]at hx;rw[uK]at hi
   split at hq
   ·rename_i sh code c len e lJ oB
    split at hq
    ·rename_i s hs
     cases hc:(Nat.beq s sh.length&&Nat.beq len c)with
     |false=>rw[hc]at hq;cases hq
     |true=>
      rw[hc]at hq
      simp only[cond_true,Option.some.injEq]at hq
      subst hq
      simp only[Bool.and_eq_true]at hc
      have ax:=Nat.eq_of_beq_eq_true hc.2
      subst ax
      obtain⟨rfl,cap,kind,bC,hbl,hk,bp,Gx⟩:=D0 lJ
      refine dm λxc=>ae.pure ?_
      simp only[List.map_cons,List.map_nil,az,I.aA]at xc
      have bA:a.eval x= .pointer (some ⟨m b,0,none⟩):=hx.2
      have Ax:a.eval ar= .int k (i.l.den ρ):=hi.2
      have Ay:aP.ok n ρ i:=hi.1
      have ib:b<bl.length:=hx.1
      refine⟨⟨ib,⟨I.bt _ _,Ay.1⟩,by rw[I.aA];omega,xc.1⟩,_,rfl,λw _=> .inl ?_⟩
      have c1:i.l.den ρ<((len:Nat):Int):=xc.2
      simp[execOp,h,bA,Ax,Instr.indexAt,asIntOf,run_underlying (lC oB),Instr.sureAddr,xc.1,c1,dQ hs,dX,W.den,A.den,I.aA]
    ·cases hq
   ·cases hq
  ·cases hq
 ·rename_i t x h
  have hx:=bg ht x
  split at hq
  ·rename_i b off hv
   rw[hv]at hx
   split at hq
   ·rename_i sh code c k lJ hX hs
    cases hc:(Nat.beq k (c*sh.length))with
    |false=>rw[hc]at hq;cases hq
    |true=>
     rw[hc]at hq
     simp only[cond_true,Option.some.injEq]at hq
     subst hq
     have hc:=Nat.eq_of_beq_eq_true hc
     subst hc
     obtain⟨rfl,cap,kind,bC,hbl,hk,bp,Gx⟩:=D0 lJ
     refine dm λxd=>?_
     simp only[List.map_cons,List.map_nil,az,I.aA]at xd
     have cQ:(A.rows sh (.const 0) code cap kind).ok n bl.length ρ:=hb _ (List.mem_of_getElem? hbl) _ (by simp)
     have gb:∀w,Mem w0 ρ m bl w->∃cells t' fz,w.heap[m b]?=some (.cells cells t' fz)/\jE cells 0 sh (ab (code.den ρ)):=λw hw=>by
      obtain⟨_,cells,ec,fz,g1,⟨g2,g3⟩,_⟩:=(hw.rws b sh (.const 0) code cap kind bC hbl (by omega)).2 (by rw[bp];omega)
      rw[I.aA]at g3
      exact⟨cells,ec,fz,g1,(iq Gx).1 g3⟩
     obtain⟨_,_,_,_,Oc⟩:=gb m2 k6
     refine(DV (nb:=bl.length) (m:=m) (k:=c) (i:=0) cQ.1.2.1 Oc.1 (by omega)).bind λaj n1 l hn ha ⟨g1,g2,g3⟩=>ae.pure ⟨g1,_,rfl,λw hw=> .inl ?_⟩
     obtain⟨cells,ec,fz,q1,q2⟩:=gb w hw
     have hl:=run_loadCells_list (P:=P) w ⟨m b,0,none⟩ (l.map (A.den aj m)) λx v hj=>by
      rw[dX]
      rw[List.getElem?_map]at hj
      cases hq:l[x]? with
      |none=>simp[hq]at hj
      |some y=>
       simp only[hq,Option.map_some,Option.some.injEq]at hj
       subst hj
       have h3:=g3 x y hq
       rw[Nat.zero_mul,Nat.zero_add]at h3
       simp only[World.cell?,q1,Option.isSome_none,Bool.false_eq_true,if_false]
       obtain⟨_,pre,post,p1,bd⟩:=q2
       have ix:pre=[]:=List.eq_nil_of_length_eq_zero bd
       subst ix
       have hlt:=(List.getElem?_eq_some_iff.1 h3).1
       rw[<-Array.getElem?_toList,p1,List.nil_append,List.getElem?_append_left (by omega),Nat.zero_add]
       exact h3
     simp only[List.length_map,g2]at hl
     have bA:a.eval x= .pointer (some ⟨m b,0,none⟩):=hx.2
     simp[execOp,h,bA,Instr.loadAt,Instr.sureAddr,loadVar,iG hX,dQ hs,hl,W.den]
   ·cases hq
  ·cases hq
 ·rename_i t x lo hi dt h
  have hx:=bg ht x
  split at hq
  ·rename_i b ay off ro len cap hv
   rw[hv]at hx
   have bA:a.eval x=(A.sl b ay off ro len cap).den ρ m:=hx.2
   have he:execOp a.eval o=(do pure (Next.value (<-Instr.sliceAt t ((A.sl b ay off ro len cap).den ρ m) (lo.map a.eval) (some (a.eval hi)) (some (a.eval dt))))):=by simp only[execOp,h,bA];rfl
   split at hq
   ·rename_i p fj r hp lV hr
    cases hq
    exact(SN hx.1 ht hp lV hr).mono λ_ _ _ _ _ hq=>fC.of_run he hq
   ·cases hq
  ·cases hq
 ·rename_i c h
  split at hq
  ·rename_i hc
   split at hq
   ·rename_i x t c0 fe
    have hx:=bg ht x
    split at hq
    ·rename_i e hv hs
     cases hq
     rw[hv]at hx
     have bA:a.eval x= .slice none 0 0:=hx.2
     have a1:c.args=#[x]:=by rw[<-Array.toArray_toList (xs:=c.args),c0]
     have a2:c.argTypes=#[t]:=by rw[<-Array.toArray_toList (xs:=c.argTypes),fe]
     refine ae.pure ⟨aP.iu _ _ _,_,rfl,λw _=> .inl ?_⟩
     simp[execOp,h,resolve,hc,a1,a2,bA,invoke,builtin,Builtin.len_,run_underlying (dp hs),goInt,W.den,A.den,aP.const,I.aA]
    ·cases hq
   ·cases hq
  ·cases hq
 ·cases hq
theorem B4 {aN:dx} (bX:fB S P gl w0 aN) (hb:bn n bl.length ρ bl) (hg:eC gl w0) (hex:∃w,Mem w0 ρ m bl w) (ht:bU n bl.length ρ m tm a.tmps) (o:Oper):
 ae S L (nZ P aN gl bl tm o) n ρ (fC w0 m bl n ρ P o a):=by
 unfold nZ
 cases hq:Ck P bl tm o with
 |none=>
  simp only
  cases mD:yc P bl tm o with
  |some q=>exact Sd hb hex ht o mD
  |none=>
  simp only
  cases hd:wI aN bl tm o with
  |none=>exact RQ bX hb hg hex ht o
  |some q=>
   simp only
   unfold wI at hd
   split at hd
   ·rename_i c ho
    split at hd
    ·rename_i x hc
     split at hd
     ·rename_i f wL wM hv
      cases hz:(Nat.beq wL.size 0&&Nat.beq wM.size 0)with
      |false=>rw[hz]at hd;cases hd
      |true=>
       rw[hz]at hd
       simp only[cond_true,Option.map_eq_some_iff]at hd
       obtain⟨g,Aq,rfl⟩:=hd
       simp only[Bool.and_eq_true,Nat.beq_eq]at hz
       have cg:wL=#[]:=Array.eq_empty_of_size_eq_zero hz.1
       have e1:wM=#[]:=Array.eq_empty_of_size_eq_zero hz.2
       subst cg e1
       have hx:=bg ht (.tmp x)
       rw[hv]at hx
       have bA:a.eval (.tmp x)= .func (.func f) #[] #[]:=hx.2
       have kX:∀v∈c.args.toList.map (aV tm),V.ok n bl.length ρ v:=λv hv=>by
        obtain⟨x,_,rfl⟩:=List.mem_map.1 hv
        exact(bg ht x).1
       have he:execOp a.eval o=callFunc f (c.args.map a.eval):=by
        simp only[execOp,ho,resolve,hc,bA,Deferred.ofValue]
        simp[invoke,bind_pure_comp]
       refine(bX f g Aq L n ρ m bl _ _ hb hex kX (vJ (xs:=c.args.toList) ht)).mono λaj n1 v _ _ ⟨q1,val,q2,q3⟩=>⟨q1,val,q2,λw hw=>?_⟩
       have ha:(c.args.toList.map a.eval).toArray=c.args.map a.eval:=by
        rw[<-Array.toList_map]
       have q4:=q3 w hw
       rw[ha]at q4
       rcases q4 with q4|⟨q4,q5⟩
       ·exact .inl (by rw[he];exact q4)
       ·exact .inr ⟨f,_,by rw[he];exact q4,q5⟩
     ·cases hd
    ·cases hd
   ·cases hd
 |some q=>
  simp only
  unfold Ck at hq
  split at hq
  case h_1 t x h=>
   have hx:=bg ht x
   split at hq
   ·rename_i b ay off i j hv
    cases hq
    rw[hv]at hx
    have bA:a.eval x=(A.ep b ay off i j).den ρ m:=hx.2
    have he:execOp a.eval o=(do pure (Next.value (<-Instr.loadAt t ((A.ep b ay off i j).den ρ m)))):=by simp only[execOp,h,bA]
    exact(LG hb hex t hx.1).mono λ_ _ _ _ _ hq=>fC.of_run he hq
   ·rename_i b off ar hv
    split at hq
    ·rename_i hu
     cases hq
     rw[hv]at hx
     have bA:a.eval x=(A.gY b off ar).den ρ m:=hx.2
     have he:execOp a.eval o=(do pure (Next.value (<-Instr.loadAt t ((A.gY b off ar).den ρ m)))):=by simp only[execOp,h,bA]
     exact(Sw hb hu b off hx.1.2.1).mono λ_ _ _ _ _ hq=>fC.of_run he hq
    ·cases hq
   ·cases hq
  case h_2 x h=>
   have hx:=bg ht x
   split at hq
   ·rename_i b ay off i j hv
    cases hq
    rw[hv]at hx
    refine ae.pure ⟨hx.1,_,rfl,λw _=> .inl ?_⟩
    have bA:=hx.2
    simp only[V.rel,W.den,A.den]at bA
    simp[execOp,h,bA,W.den,A.den]
   ·cases hq
  case h_3 t x ar h=>
   have hx:=bg ht x
   have hi:=bg ht ar
   split at hq
   ·rename_i b ay off ro len cap k i hv uK
    cases hq
    rw[hv]at hx
    rw[uK]at hi
    have bA:a.eval x=(A.sl b ay off ro len cap).den ρ m:=hx.2
    have Ax:a.eval ar= .int k (i.l.den ρ):=hi.2
    have he:execOp a.eval o=(do pure (Next.value (<-Instr.indexAt t ((A.sl b ay off ro len cap).den ρ m) (.int k (i.l.den ρ))))):=by simp only[execOp,h,bA,Ax]
    have Ay:aP.ok n ρ i:=hi.1
    exact(SJ hx.1 Ay.1).mono λ_ _ _ _ _ hq=>fC.of_run he hq
   ·cases hq
  case h_4 t x h=>
   have hx:=bg ht x
   split at hq
   ·rename_i b ay off ro len cap k e hv ha
    cases hq
    rw[hv]at hx
    refine bT λhc=>dm λhk=>?_
    have hc:0<k:=Nat.le_of_ble_eq_true hc
    simp only[List.map_cons,List.map_nil,I.aA,az]at hk
    have aJ:A.ok n bl.length ρ (.sl b ay off ro len cap):=hx.1
    obtain⟨h1,⟨h2,h3,h4,h5⟩,h6⟩:=aJ
    have bp:¬cap.den ρ<0:=λNV=>by have:=h6.2.2.1 NV;omega
    refine ae.pure ⟨⟨h1,⟨h2,h3⟩,h6.1.1,h6.1.2.1⟩,_,rfl,λw _=> .inl ?_⟩
    have bA:a.eval x=(A.sl b ay off ro len cap).den ρ m:=hx.2
    have hle:¬(len.den ρ).toNat<k:=by omega
    simp only[execOp,h]
    rw[bA]
    simp only[A.den,if_neg bp]
    simp[Instr.arrayAt,run_underlying (lC ha),hle,W.den,A.den]
   ·cases hq
  case h_5 s x f h=>
   have hx:=bg ht x
   split at hq
   ·rename_i b ay off i j fd hv hf
    rw[hv]at hx
    obtain⟨bV,hu,uk⟩:=zC hf
    split at hq
    ·rename_i k hs
     cases hq
     refine ae.pure ⟨hx.1,_,rfl,λw _=> .inl ?_⟩
     have bA:=hx.2
     simp only[V.rel,W.den,A.den]at bA
     simp[execOp,h,bA,Instr.fieldAt,run_underlying hu,uk,Instr.sureAddr,fieldPlace,dQ hs,dX,W.den,A.den,Nat.add_assoc]
    ·cases hq
   ·cases hq
  case h_6 t x lo hi h=>
   have hx:=bg ht x
   split at hq
   ·rename_i b ay off ro len cap hv
    rw[hv]at hx
    have bA:a.eval x=(A.sl b ay off ro len cap).den ρ m:=hx.2
    have he:execOp a.eval o=(do pure (Next.value (<-Instr.sliceAt t ((A.sl b ay off ro len cap).den ρ m) (lo.map a.eval) (hi.map a.eval) none))):=by simp only[execOp,h,bA];rfl
    split at hq
    ·rename_i p fj hp lV
     cases hq
     exact(SO hx.1 ht hp lV).mono λ_ _ _ _ _ hq=>fC.of_run he hq
    ·cases hq
   ·cases hq
  case h_7 s d x h=>
   have hx:=bg ht x
   split at hq
   ·rename_i b ay off ro len cap e hv hs hd
    split at hq
    ·rename_i M5
     cases hq
     rw[hv]at hx
     have bA:a.eval x=(A.sl b ay off ro len cap).den ρ m:=hx.2
     have he:execOp a.eval o=(do pure (Next.value (<-convert s d ((A.sl b ay off ro len cap).den ρ m)))):=by simp only[execOp,h,bA]
     exact(SM hb hex (dp hs) M5 hd hx.1).mono λ_ _ _ _ _ hq=>fC.of_run he hq
    ·cases hq
   ·cases hq
  case h_8 c h=>
   split at hq
   ·rename_i hc
    split at hq
    ·rename_i x t c0 fe
     have hx:=bg ht x
     split at hq
     ·rename_i b ay off ro len cap e hv hs
      cases hq
      rw[hv]at hx
      have bA:a.eval x=(A.sl b ay off ro len cap).den ρ m:=hx.2
      have ib:(A.sl b ay off ro len cap).ok n bl.length ρ:=hx.1
      obtain⟨ptr,e1,_,_⟩:=j0 (m:=m) ib
      rw[e1]at bA
      obtain⟨x1,⟨dV,e0,fv,fR⟩,⟨gn,lq,lr,lu⟩,_⟩:=ib
      have a1:c.args=#[x]:=by rw[<-Array.toArray_toList (xs:=c.args),c0]
      have a2:c.argTypes=#[t]:=by rw[<-Array.toArray_toList (xs:=c.argTypes),fe]
      refine ae.pure ⟨⟨fv,lr,lu⟩,_,rfl,λw _=> .inl ?_⟩
      have dL:((len.den ρ).toNat:Int)=len.den ρ:=by omega
      simp[-Int.ofNat_toNat,execOp,h,resolve,hc,a1,a2,bA,invoke,builtin,Builtin.len_,run_underlying (dp hs),goInt,W.den,A.den,dL]
     ·cases hq
    ·cases hq
   ·rename_i hc
    split at hq
    ·rename_i x y c0
     have hx:=bg ht x
     have hy:=bg ht y
     split at hq
     ·rename_i k p aE fj jw hv2
      by_cases gP:k=aE
      ·subst gP
       simp only[decide_true,cond_true]at hq
       cases hq
       rw[jw]at hx;rw[hv2]at hy
       have e1:a.eval x= .int k (p.l.den ρ):=hx.2
       have e2:a.eval y= .int k (fj.l.den ρ):=hy.2
       have a1:c.args=#[x,y]:=by rw[<-Array.toArray_toList (xs:=c.args),c0]
       have he:execOp a.eval o=(do pure (Next.value (<-Builtin.min_ c.argTypes o.type #[.int k (p.l.den ρ),.int k (fj.l.den ρ)]))):=by
        simp[execOp,h,resolve,hc,a1,e1,e2,invoke,builtin]
       exact(Qj hx.1 hy.1).mono λ_ _ _ _ _ hq=>fC.of_run he hq
      ·simp[gP]at hq
     ·cases hq
    ·cases hq
   ·rename_i hc
    split at hq
    ·rename_i x y c0
     have hx:=bg ht x
     have hy:=bg ht y
     split at hq
     ·rename_i k p aE fj jw hv2
      by_cases gP:k=aE
      ·subst gP
       simp only[decide_true,cond_true]at hq
       cases hq
       rw[jw]at hx;rw[hv2]at hy
       have e1:a.eval x= .int k (p.l.den ρ):=hx.2
       have e2:a.eval y= .int k (fj.l.den ρ):=hy.2
       have a1:c.args=#[x,y]:=by rw[<-Array.toArray_toList (xs:=c.args),c0]
       have he:execOp a.eval o=(do pure (Next.value (<-Builtin.max_ c.argTypes o.type #[.int k (p.l.den ρ),.int k (fj.l.den ρ)]))):=by
        simp[execOp,h,resolve,hc,a1,e1,e2,invoke,builtin]
       exact(Qi hx.1 hy.1).mono λ_ _ _ _ _ hq=>fC.of_run he hq
      ·simp[gP]at hq
     ·cases hq
    ·cases hq
   ·cases hq
  case h_9 op t x y q0 h=>
   have hx:=bg ht x
   have hy:=bg ht y
   split at hq
   ·rename_i e b ay aW ro len cap hs jw hv2
    rw[jw]at hx;rw[hv2]at hy
    have bA:a.eval x=(A.sl b ay aW ro len cap).den ρ m:=hx.2
    have lY:a.eval y= .slice none 0 0:=hy.2
    have ib:(A.sl b ay aW ro len cap).ok n bl.length ρ:=hx.1
    obtain⟨ptr,e1,e2,e3⟩:=j0 (m:=m) ib
    rw[e1]at bA
    obtain⟨x1,⟨dV,e0,fv,fR⟩,_,_,ej,_⟩:=ib
    have has:az 53 ([cap,len].map (·.den ρ)):=ej
    have hp:ptr.isNone=decide (cap.den ρ=-1):=by
     rcases Int.lt_or_le (cap.den ρ) 0 with h0|h0
     ·rw[e2 h0,Uh]
     ·rw[e3 h0,decide_eq_false (by omega)];rfl
    split at hq
    ·cases hq
     refine(wa has).bind λaj n1 _ _ _ ⟨gz,hn⟩=>?_
     have gz:=gz.symm
     have hn:=hn.symm
     subst gz hn
     refine ae.pure ⟨⟨fR,I.bt _ _⟩,_,rfl,λw _=> .inl ?_⟩
     have hg0:eqGuard .eql t x y (.slice ptr (len.den ρ).toNat (if cap.den ρ<0 then 0 else(cap.den ρ).toNat)) (.slice none 0 0)=Pure.pure ():=rfl
     have he:execOp a.eval o=(do pure (Next.value (<-binOp .eql t (.slice ptr (len.den ρ).toNat (if cap.den ρ<0 then 0 else(cap.den ρ).toNat)) (.slice none 0 0)))):=by
      simp only[execOp,h,bA,lY,hg0,pure_bind]
     simp only[he,Sem.run_bind,Cn w (dp hs),Result.andThen_ok,Sem.run_pure,hp]
     simp[W.den,A.den,aD.den,I.aA]
    ·cases hq
     refine(wa has).bind λaj n1 _ _ _ ⟨gz,hn⟩=>?_
     have gz:=gz.symm
     have hn:=hn.symm
     subst gz hn
     refine ae.pure ⟨aD.mT ⟨fR,I.bt _ _⟩,_,rfl,λw _=> .inl ?_⟩
     have hg0:eqGuard .neq t x y (.slice ptr (len.den ρ).toNat (if cap.den ρ<0 then 0 else(cap.den ρ).toNat)) (.slice none 0 0)=Pure.pure ():=rfl
     have he:execOp a.eval o=(do pure (Next.value (<-binOp .neq t (.slice ptr (len.den ρ).toNat (if cap.den ρ<0 then 0 else(cap.den ρ).toNat)) (.slice none 0 0)))):=by
      simp only[execOp,h,bA,lY,hg0,pure_bind]
     simp only[he,Sem.run_bind,Sm w (dp hs),Result.andThen_ok,Sem.run_pure,hp]
     simp[W.den,A.den,aD.den,aD.mq,I.aA]
    ·cases hq
   ·cases hq
  case h_10=>cases hq
end
end Go.aZ
namespace Go.aZ
def EI (ops:Array Oper) (n:Nat):Bool:=
 (List.range n).all λi=>match ops[i]? with
   |none=>false
   |some eX=>(eX.after.all λe=> !Region.binds .any e||Nat.blt e.on i)&&(match eX.op with| .select .. =>false|_=>true)&&
    (List.range n).all λj=>Nat.beq i j||match ops[j]? with
      |none=>false
      |some bO=>match bO.dst with
       |none=>true
       |some d=>(!(eX.looksAt ops).contains d||Region.waitsFor .any ops i j||Region.waitsFor .any ops j i)&& !(match eX.dst with|some zr=>Nat.beq zr d|none=>false)
def Al (size n:Nat):Array Bool:=((List.range size).map λi=>Nat.blt i n).toArray
def rK (o:Oper):Bool:=match o.op with| .move _| .assign _| .extract _ _=>true|_=>false
def lG (ops:Array Oper) (i:Nat):Bool:=match ops[i]? with|some o=>rK o|none=>false
def c5 (o:Oper):Bool:=match o.op,o.guard,o.dst with| .alloc _,none,some _=>true|_,_,_=>false
def ka (ops:Array Oper) (i:Nat):Bool:=match ops[i]? with|some o=>c5 o|none=>false
def HN (ops:Array Oper) (n:Nat):Bool:=
 (List.range n).all λi=> !ka ops i||match ops[i]? with
   |some eX=>match eX.dst with
    |some d=>(List.range n).all λj=>match ops[j]? with|some bO=> !(bO.looksAt ops).contains d|none=>true
    |none=>false
   |none=>false
def I2 (ops:Array Oper) (n:Nat):Bool:=
 (List.range n).all λi=>lG ops i||(List.range (n+1)).any λj=>Nat.blt i j&&Region.waitsFor .any ops j i&&(Nat.beq j n|| !lG ops j)
def LY (ops:Array Oper) (n:Nat):Bool:=
 (List.range n).all λi=> !lG ops i||(List.range ops.size).all λj=>Nat.blt j n||Region.waitsFor .any ops j i||(match ops[i]?,ops[j]? with|some eX,some bO=>eX.apart ops bO|_,_=>false)
def s4 (ops:Array Oper) (n:Nat):Bool:=
 Region.noSelect ops&&LY ops n&&HN ops n&&EI ops n&&Nat.ble n ops.size&&(Nat.beq n ops.size||(I2 ops n&&Region.chainB .any ops n))&&Region.seqB .any ops (ops.size-n) n (Al ops.size n)
def calm (Q:Exit->Act->World->Prop):Exit->Act->World->Prop
 | .panic _,_,_=>False
 |e,a,w=>Q e a w
theorem ke {a b:Nat} (h:Nat.blt a b=true):a<b:=Nat.le_of_ble_eq_true h
theorem Qa {a b:Nat} (h:a<b):Nat.blt a b=true:=Nat.ble_eq_true_of_le h
section
variable {P:Program} {ops:Array Oper} {C:World->Prop}
def mi (P:Program) (ops:Array Oper) (C:World->Prop) (o:Oper) (v:Value) (a:Act):Prop:=
 (Region.wanted o (yielded ops a.tmps)=true/\∀w,C w->ra P o a w v)∨(Region.wanted o (yielded ops a.tmps)=false/\v=undef)
def pe (P:Program) (ops:Array Oper) (C:World->Prop) (F:Act->Prop):List Oper->Act->Prop
 |[],a=>F a
 |o::r,a=>cond (c5 o) (pe P ops C F r a) (∃v,mi P ops C o v a/\pe P ops C F r (a.put o.dst v))
theorem B5 {Q:Act->Prop}:∀(l:List Oper) (a:Act),pe P ops C Q l a->∃(as:Nat->Act) (vs:Nat->Value),as 0=a/\(∀i o,l[i]?=some o->(c5 o=false->mi P ops C o (vs i) (as i)/\as (i+1)=(as i).put o.dst (vs i))/\(c5 o=true->as (i+1)=as i))/\Q (as l.length)
 |[],a,h=>⟨λ_=>a,λ_=>undef,rfl,λi o hi=>by simp at hi,h⟩
 |o::r,a,h=>by
  unfold pe at h
  cases cp:c5 o with
  |true=>
   simp only[cp,cond_true]at h
   obtain⟨as,vs,cg,hs,hQ⟩:=B5 r _ h
   refine⟨λi=>match i with|0=>a|i+1=>as i,λi=>match i with|0=>undef|i+1=>vs i,rfl,λi aW hi=>?_,hQ⟩
   cases i with
   |zero=>
    simp at hi;subst hi
    exact⟨λh1=>by(rw[cp]at h1;cases h1),λ_=>cg⟩
   |succ i=>
    simp at hi
    exact hs i aW hi
  |false=>
   simp only[cp,cond_false]at h
   obtain⟨v,hy,h2⟩:=h
   obtain⟨as,vs,cg,hs,hQ⟩:=B5 r _ h2
   refine⟨λi=>match i with|0=>a|i+1=>as i,λi=>match i with|0=>v|i+1=>vs i,rfl,λi aW hi=>?_,hQ⟩
   cases i with
   |zero=>
    simp at hi;subst hi
    exact⟨λ_=>⟨hy,cg⟩,λh1=>by(rw[cp]at h1;cases h1)⟩
   |succ i=>
    simp at hi
    exact hs i aW hi
theorem JE {Q:Exit->Act->World->Prop} {md:Region.Mode}:∀(f:Nat) (listed:Array Bool) (a:Act) (w:World),wpAny P md ops Q f listed a w->wpAny P md ops Q (f+1) listed a w
 |0,_,_,_,h=>⟨λ_=>h.2,λi hi=>by rw[h.1]at hi;cases hi⟩
 |f+1,_,_,_,h=>⟨h.1,λi hi=>wpOp_mono (λcf w' h'=>JE f _ cf w' h') (h.2 i hi)⟩
theorem JD {Q:Exit->Act->World->Prop} {md:Region.Mode} {listed:Array Bool} {a:Act} {w:World} {f kU:Nat} (h:wpAny P md ops Q f listed a w) (hle:f<=kU):wpAny P md ops Q kU listed a w:=by
 induction hle with
 |refl=>exact h
 |step _ ih=>exact JE _ _ _ _ ih
theorem Ex {α:Type} {p q:α->Bool}:∀{l:List α},(∀x∈l,q x=true->p x=true)->(∃x∈l,p x=true/\q x=false)->l.countP q<l.countP p
 |[],_,⟨x,hx,_⟩=>by simp at hx
 |y::r,h1,⟨x,hx,h2,h3⟩=>by
  have hle:r.countP q<=r.countP p:=List.countP_mono_left λz hz=>h1 z (List.mem_cons_of_mem _ hz)
  rw[List.countP_cons,List.countP_cons]
  rcases List.mem_cons.1 hx with rfl|hx
  ·simp[h2,h3];omega
  ·have ih:=Ex (l:=r) (λz hz=>h1 z (List.mem_cons_of_mem _ hz)) ⟨x,hx,h2,h3⟩
   have:=h1 y (by simp)
   cases hq:q y<;>cases hp:p y<;>simp[hq,hp]at this⊢<;>omega
theorem mr {n i:Nat} {eX:Oper} (h:EI ops n=true) (hi:i<n) (ho:ops[i]?=some eX):
 (∀e∈eX.after,Region.binds .any e=true->e.on<i)/\(∀cs b,eX.op≠ .select cs b)/\
 ∀j bO d,j<n->j≠i->ops[j]?=some bO->bO.dst=some d->eX.dst≠some d/\(d∈eX.looksAt ops->Region.waitsFor .any ops i j=true∨Region.waitsFor .any ops j i=true):=by
 have h1:=List.all_eq_true.1 h i (List.mem_range.2 hi)
 simp only[ho,Bool.and_eq_true]at h1
 obtain⟨⟨h1,h2⟩,h3⟩:=h1
 refine⟨λe he hb=>?_,λcs b hc=>by simp[hc]at h2,λj bO d hj hne kZ hd=>?_⟩
 ·have:=Array.all_eq_true_iff_forall_mem.1 h1 e he
  simp only[hb,Bool.not_true,Bool.false_or]at this
  exact ke this
 ·have h4:=List.all_eq_true.1 h3 j (List.mem_range.2 hj)
  have h5:Nat.beq i j=false:=by cases hb:Nat.beq i j with|false=>rfl|true=>exact absurd (Nat.eq_of_beq_eq_true hb).symm hne
  simp only[h5,Bool.false_or,kZ,hd,Bool.and_eq_true]at h4
  refine⟨λM3=>?_,λgb=>?_⟩
  ·have:=h4.2
   simp[M3]at this
  ·have:=h4.1
   have hc:(eX.looksAt ops).contains d=true:=by simpa using gb
   simp only[hc,Bool.not_true,Bool.false_or,Bool.or_eq_true]at this
   exact this
theorem Kj {a b:Act} (h1:a.defers=b.defers) (h2:∀t:Nat,a.tmps[t]?=b.tmps[t]?):a=b:=by
 cases a;cases b
 simp only at h1 h2
 rw[h1,Array.ext_getElem? h2]
theorem mQ {a:Act} {o:Option Tmp} {v:Value} {t:Nat} (h:o≠some t):(a.put o v).tmps[t]?=a.tmps[t]?:=by
 cases o with
 |none=>rfl
 |some d=>simp only[Act.put];rw[Array.getElem?_setIfInBounds_ne (λe=>h (by rw[e]))]
theorem put_defers (a:Act) (o:Option Tmp) (v:Value):(a.put o v).defers=a.defers:=by cases o<;>rfl
theorem qJ (a:Act) (o:Option Tmp) (v:Value):(a.put o v).tmps.size=a.tmps.size:=by cases o<;>simp[Act.put]
theorem LW {o:Oper} {a:Act} {v:Value} {w:World} (hf:rK o=true) (hC:C w) (h:mi P ops C o v a):Yields P ops o v a:=by
 rcases h with⟨h1,h2⟩|h
 ·refine .inl ⟨h1,λw'=>?_⟩
  have h3:=h2 w hC
  unfold ra at h3
  unfold rK at hf
  split at hf
  ·rename_i x ho
   simp only[execOp,ho,Sem.run_pure]at h3⊢
   rcases h3 with h3|⟨f,args,h3,_⟩
   ·simp only[Result.ok.injEq,Next.value.injEq,and_true]at h3;rw[h3]
   ·simp at h3
  ·rename_i x ho
   simp only[execOp,ho,Sem.run_pure]at h3⊢
   rcases h3 with h3|⟨f,args,h3,_⟩
   ·simp only[Result.ok.injEq,Next.value.injEq,and_true]at h3;rw[h3]
   ·simp at h3
  ·rename_i x i ho
   simp only[execOp,ho,Sem.run_bind]at h3⊢
   unfold Instr.extract at h3⊢
   cases hx:a.eval x<;>simp only[hx]at h3⊢<;>try(simp[Result.andThen]at h3;done)
   rename_i vs
   cases hv:vs[i]? with
   |none=>simp[hv,Result.andThen]at h3
   |some u=>simp[hv]at h3;simp[h3]
  ·cases hf
 ·exact .inr h
theorem SI {n:Nat} {listed:Array Bool} (hs:I2 ops n=true) (hc:Region.chainB .any ops n=true) (hn:n<ops.size) (inv:HeadInv .any ops n listed):
 ∀(d i:Nat),n-i=d->i<n->lG ops i=false->listed.getD i false=false->∀t,n<=t->t∉Region.ready .any ops listed:=by
 intro d
 induction d using Nat.strongRecOn with
 |_ d ih=>
  intro i hd hi ev ku t ht hr
  obtain⟨_,H3,AM,hall⟩:=mem_ready.1 hr
  have Ow:t<ops.size:=(Array.getElem?_eq_some_iff.1 AM).1
  by_cases Ox:t=n
  ·subst Ox
   have h1:=List.all_eq_true.1 hs i (List.mem_range.2 hi)
   simp only[ev,Bool.false_or]at h1
   obtain⟨j,hj,jU⟩:=List.any_eq_true.1 h1
   simp only[Bool.and_eq_true,Bool.or_eq_true]at jU
   obtain⟨⟨Gh,ux⟩,Az⟩:=jU
   have Gh:=ke Gh
   obtain⟨bO,kZ,e,he,hb,xi⟩:=Region.waitsFor_spec ux
   have UY:j<=t:=by have:=List.mem_range.1 hj;omega
   by_cases Gi:j=t
   ·subst Gi
    have:bO=H3:=Option.some.inj (kZ.symm.trans AM)
    subst this
    have h2:=hall e he hb
    rw[xi,ku]at h2
    cases h2
   ·cases hl:listed.getD j false with
    |true=>
     have h2:=inv.closed j bO kZ hl e he hb
     rw[xi,ku]at h2
     cases h2
    |false=>
     have Nf:lG ops j=false:=by
      rcases Az with h3|h3
      ·exact absurd (Nat.eq_of_beq_eq_true h3) Gi
      ·simpa using h3
     exact ih (t-j) (by omega) j rfl (by omega) Nf hl t (Nat.le_refl _) hr
  ·have h1:=List.all_eq_true.1 hc t (List.mem_range.2 Ow)
   simp only[Bool.or_eq_true,decide_eq_true_eq]at h1
   rcases h1 with h1|h1
   ·omega
   ·obtain⟨aW,ia,e,he,hb,xi⟩:=Region.waitsFor_spec h1
    have:aW=H3:=Option.some.inj (ia.symm.trans AM)
    subst this
    have h2:=hall e he hb
    rw[xi,getD_both (inv.tail (t-1) (by omega) (by omega))]at h2
    cases h2
theorem LV {o:Oper} (h:rK o=true):c5 o=false:=by
 unfold rK at h
 unfold c5
 cases ho:o.op<;>simp only[ho]at h⊢<;>cases h
theorem Qr {n i j:Nat} {eX bO:Oper} {d:Tmp} (h:HN ops n=true) (hi:i<n) (ho:ops[i]?=some eX) (cp:c5 eX=true) (hd:eX.dst=some d) (hj:j<n) (kZ:ops[j]?=some bO):d∉bO.looksAt ops:=by
 have h1:=List.all_eq_true.1 h i (List.mem_range.2 hi)
 have ha:ka ops i=true:=by simp[ka,ho,cp]
 simp only[ha,Bool.not_true,Bool.false_or,ho,hd]at h1
 have h2:=List.all_eq_true.1 h1 j (List.mem_range.2 hj)
 simp only[kZ,Bool.not_eq_true']at h2
 intro hm
 have:(bO.looksAt ops).contains d=true:=by simpa using hm
 rw[this]at h2;cases h2
theorem T8 {Q:Exit->Act->World->Prop} {o:Oper} {i:Nat} {v:Value} {a:Act} {w:World} {K:Act->World->Prop} (hi:ops[i]?=some o) (hC:C w) (hy:mi P ops C o v a) (h:∀w',w.Extends w'->K (a.put o.dst v) w'):wpOp P ops Q i K a w:=by
 unfold wpOp
 simp only[hi]
 rcases hy with⟨h1,h2⟩|⟨h1,h2⟩
 ·rw[if_pos h1]
  refine .inl ?_
  unfold Oper.wp
  rcases h2 w hC with h3|⟨f,args,h3,h4⟩
  ·rw[h3];exact h w (World.Extends.refl w)
  ·rw[h3]
   refine h4.mono λe gF ⟨he,hx⟩=>?_
   subst he
   exact h gF hx
 ·rw[if_neg (by simp[h1]),<-h2]
  exact h w (World.Extends.refl w)
theorem mi.of_same {o:Oper} {v:Value} {a cf:Act} (hy:mi P ops C o v a) (he:execOp cf.eval o=execOp a.eval o) (hw:Region.wanted o (yielded ops cf.tmps)=Region.wanted o (yielded ops a.tmps)):mi P ops C o v cf:=by
 unfold mi ra at*
 rw[he,hw]
 exact hy
structure DN (ops:Array Oper) (n:Nat) (S:Nat->Prop) (a an b:Act) (cY:Nat->Nat):Prop where
 d:b.defers=a.defers
 ay:b.tmps.size=a.tmps.size
 q:∀t:Nat,(∃j o,j<n/\S j/\ops[j]?=some o/\c5 o=false/\o.dst=some t)->b.tmps[t]?=an.tmps[t]?
 tn:∀(t:Nat) j o,j<n->S j->ops[j]?=some o->c5 o=true->o.dst=some t->t<b.tmps.size->b.tmps[t]?=some (.pointer (some ⟨cY j,0,none⟩))
 no:∀t:Nat,(∀j o,j<n->S j->ops[j]?=some o->o.dst≠some t)->b.tmps[t]?=a.tmps[t]?
structure Fin (ops:Array Oper) (n:Nat) (an b:Act) (cY:Nat->Nat):Prop where
 d:b.defers=an.defers
 ay:b.tmps.size=an.tmps.size
 tn:∀(t:Nat) j o,j<n->ops[j]?=some o->c5 o=true->o.dst=some t->t<b.tmps.size->b.tmps[t]?=some (.pointer (some ⟨cY j,0,none⟩))
 no:∀t:Nat,(∀j o,j<n->ops[j]?=some o->c5 o=true->o.dst≠some t)->b.tmps[t]?=an.tmps[t]?
def oa (ops:Array Oper) (n:Nat) (S:Nat->Prop) (Z:Nat->Obj) (cY:Nat->Nat) (ay:Nat) (w:World):Prop:=
 (∀j,j<n->S j->ka ops j=true->ay<=cY j/\w.heap[cY j]?=some (Z j))/\∀i j,i<n->j<n->S i->S j->ka ops i=true->ka ops j=true->cY i=cY j->i=j
theorem oa.grow {n:Nat} {S:Nat->Prop} {Z:Nat->Obj} {cY:Nat->Nat} {ay:Nat} {w w':World} (h:oa ops n S Z cY ay w) (he:w.Extends w'):oa ops n S Z cY ay w':=
 ⟨λj h1 h2 h3=>by
  obtain⟨h4,h5⟩:=h.1 j h1 h2 h3
  exact⟨h4,by rw[he.block _ (Array.getElem?_eq_some_iff.1 h5).1];exact h5⟩,h.2⟩
theorem T9 {Q:Exit->Act->World->Prop} {a:Act} {w:World} {l:List Oper} (n:Nat) (Z:Nat->Obj) (hm:P.follows .mixedOrders=true) (hB:s4 l.toArray n=true) (hC:∀w',w.drew.Extends w'->C w')
 (pX:∀j o,j<n->l.toArray[j]?=some o->c5 o=true->∀(b:Act) w',(execOp b.eval o).run P w'= .ok (.value (.pointer (some ⟨w'.heap.size,0,none⟩))) (w'.alloc (Z j)))
 (h:pe P l.toArray C (λan=>∀cY b w',Fin l.toArray n an b cY->w.drew.Extends w'->oa l.toArray n (λ_=>True) Z cY w.drew.heap.size w'->wpList P l.toArray (calm Q) (l.drop n) b w') (l.take n) a):wpAny P .any l.toArray (calm Q) l.toArray.size (Array.replicate l.toArray.size false) a {w with drawn:=w.drawn+1}:=by
 simp only[s4,Bool.and_eq_true]at hB
 obtain⟨⟨⟨⟨⟨⟨NW,Nh⟩,fM⟩,mA⟩,hle⟩,GF⟩,Oi⟩:=hB
 have hle:n<=l.length:=by simpa using Nat.le_of_ble_eq_true hle
 obtain⟨as,vs,cg,hs,aM⟩:=B5 _ _ h
 have hlen:(l.take n).length=n:=by simp;omega
 rw[hlen]at aM
 have hop:∀i,i<n->∃o,l.toArray[i]?=some o/\(c5 o=false->mi P l.toArray C o (vs i) (as i)/\as (i+1)=(as i).put o.dst (vs i))/\(c5 o=true->as (i+1)=as i):=λi hi=>by
  have hlt:i<l.length:=by omega
  have h1:(l.take n)[i]?=some l[i]:=by rw[List.getElem?_take,if_pos hi,List.getElem?_eq_getElem hlt]
  have h2:=hs i _ h1
  exact⟨l[i],by simp[hlt],h2⟩
 have ug:∀i,i<=n->(as i).defers=a.defers/\(as i).tmps.size=a.tmps.size:=by
  intro i
  induction i with
  |zero=>intro _;rw[cg];exact⟨rfl,rfl⟩
  |succ i ih=>
   intro hi
   obtain⟨o,ho,h1,h2⟩:=hop i (by omega)
   cases cp:c5 o with
   |true=>rw[h2 cp];exact ih (by omega)
   |false=>rw[(h1 cp).2,put_defers,qJ];exact ih (by omega)
 have FD:∀i,i<=n->∀t:Nat,(∀j o,j<i->l.toArray[j]?=some o->c5 o=false->o.dst≠some t)->(as i).tmps[t]?=a.tmps[t]?:=by
  intro i
  induction i with
  |zero=>intro _ t _;rw[cg]
  |succ i ih=>
   intro hi t eV
   obtain⟨o,ho,h1,h2⟩:=hop i (by omega)
   have GY:=ih (by omega) t λj o hj=>eV j o (by omega)
   cases cp:c5 o with
   |true=>rw[h2 cp];exact GY
   |false=>rw[(h1 cp).2,mQ (eV i o (by omega) ho cp)];exact GY
 have FC:∀(d i:Nat),i+d=n->∀t:Nat,(∃j o,j<i/\l.toArray[j]?=some o/\o.dst=some t)->(as n).tmps[t]?=(as i).tmps[t]?:=by
  intro d
  induction d with
  |zero=>intro i hi t _;rw[show i=n by omega]
  |succ d ih=>
   intro i hi t hj
   obtain⟨o,ho,h1,h2⟩:=hop i (by omega)
   rw[ih (i+1) (by omega) t (by obtain⟨j,o,h1,h2⟩:=hj;exact⟨j,o,by omega,h2⟩)]
   cases cp:c5 o with
   |true=>rw[h2 cp]
   |false=>
    rw[(h1 cp).2]
    obtain⟨j,bO,ux,jU,Az⟩:=hj
    exact mQ ((mr mA (show i<n by omega) ho).2.2 j bO t (by omega) (by omega) jU Az).1
 have hsz:l.toArray.size=l.length:=by simp
 have main:∀(f:Nat) (listed:Array Bool) (b:Act) (w1:World) (cY:Nat->Nat),HeadInv .any l.toArray n listed->w.drew.Extends w1->
  DN l.toArray n (λj=>listed.getD j false=true) a (as n) b cY->oa l.toArray n (λj=>listed.getD j false=true) Z cY w.drew.heap.size w1->
  (List.range n).countP (λi=> !listed.getD i false)+(l.length-n)<=f->wpAny P .any l.toArray (calm Q) f listed b w1:=by
  intro f
  have done:∀(listed:Array Bool) (b:Act) (w1:World) (cY:Nat->Nat),HeadInv .any l.toArray n listed->w.drew.Extends w1->
   DN l.toArray n (λj=>listed.getD j false=true) a (as n) b cY->oa l.toArray n (λj=>listed.getD j false=true) Z cY w.drew.heap.size w1->(∀i,i<n->listed.getD i false=true)->
   wpAny P .any l.toArray (calm Q) (l.drop n).length listed b w1:=by
   intro listed b w1 cY inv kj fI lI hall
   have hl:listed=Al l.toArray.size n:=by
    apply Array.ext_getElem?
    intro i
    unfold Al
    simp only[List.getElem?_toArray,List.getElem?_map]
    rcases Nat.lt_or_ge i l.length with hi|hi
    ·rw[List.getElem?_range (by simpa using hi)]
     have bE:i<listed.size:=by rw[inv.size];simpa using hi
     rcases Nat.lt_or_ge i n with bW|bW
     ·have:=hall i bW
      simp[bE]at this
      simp[bE,this,Qa bW]
     ·have:=inv.tail i bW (by simpa using hi)
      simp[bE]at this
      have hb:Nat.blt i n=false:=by cases hq:Nat.blt i n with|false=>rfl|true=>have:=ke hq;omega
      simp[bE,this,hb]
    ·have h1:listed.size<=i:=by rw[inv.size];simpa using hi
     have h2:(List.range l.toArray.size)[i]?=none:=by simp;omega
     rw[h2,Array.getElem?_eq_none h1];rfl
   have xm:Region.seqB .any l.toArray (l.drop n).length n listed=true:=by rw[hl];simpa using Oi
   refine wpAny_of_seq (P:=P) (md:= .any) (Q':=calm Q) (l.drop n) n listed b w1 (λj=>by simp[List.getElem?_drop]) xm (aM cY b w1 ?_ kj ?_)
   ·refine⟨fI.d.trans (ug n (Nat.le_refl _)).1.symm,fI.ay.trans (ug n (Nat.le_refl _)).2.symm,λt j o h1 h3 h4 h5=>fI.tn t j o h1 (hall j h1) h3 h4 h5,λt eV=>?_⟩
    by_cases hq:∃j o,j<n/\l.toArray[j]?=some o/\c5 o=false/\o.dst=some t
    ·obtain⟨j,o,h1,h2,h3,h4⟩:=hq
     exact fI.q t ⟨j,o,h1,hall j h1,h2,h3,h4⟩
    ·have lV:∀j o,j<n->l.toArray[j]?=some o->c5 o=false->o.dst≠some t:=λj o h1 h2 h3 h4=>hq ⟨j,o,h1,h2,h3,h4⟩
     rw[fI.no t λj o h1 _ h3=>(by
      cases cp:c5 o with
      |true=>exact eV j o h1 h3 cp
      |false=>exact lV j o h1 h3 cp),FD n (Nat.le_refl _) t lV]
   ·exact⟨λj h1 _ h3=>lI.1 j h1 (hall j h1) h3,λi j h1 h2 _ _ h5 h6=>lI.2 i j h1 h2 (hall i h1) (hall j h2) h5 h6⟩
  have DU:∀(listed:Array Bool),(List.range n).countP (λi=> !listed.getD i false)=0->∀i,i<n->listed.getD i false=true:=λlisted hc i hi=>by
   cases hq:listed.getD i false with
   |true=>rfl
   |false=>
    have:0<(List.range n).countP (λi=> !listed.getD i false):=List.countP_pos_iff.2 ⟨i,List.mem_range.2 hi,by simp[hq]⟩
    omega
  induction f with
  |zero=>
   intro listed b w1 cY inv kj fI lI hf
   have:=done listed b w1 cY inv kj fI lI (DU listed (by omega))
   exact JD this (by simp;omega)
  |succ f ih=>
   intro listed b w1 cY inv kj fI lI hf
   by_cases MX:(List.range n).countP (λi=> !listed.getD i false)=0
   ·exact JD (done listed b w1 cY inv kj fI lI (DU listed MX)) (by simp;omega)
   ·
    have jt:∃i,i<n/\listed.getD i false=false:=by
     have h1:0<(List.range n).countP (λi=> !listed.getD i false):=by omega
     obtain⟨i,hi,hq⟩:=List.countP_pos_iff.1 h1
     exact⟨i,List.mem_range.1 hi,by simpa using hq⟩
    have hne:Region.ready .any l.toArray listed≠[]:=by
     have key:∀k,∀i,i<=k->i<n->listed.getD i false=false->Region.ready .any l.toArray listed≠[]:=by
      intro k
      induction k with
      |zero=>
       intro i Av bW hq h9
       obtain⟨o,ho,_,_⟩:=hop i bW
       have hlt:i<listed.size:=by rw[inv.size];exact(Array.getElem?_eq_some_iff.1 ho).1
       have:i∈Region.ready .any l.toArray listed:=mem_ready.2 ⟨getD_in hlt hq,o,ho,λe he hb=>by have:=(mr mA bW ho).1 e he hb;omega⟩
       rw[h9]at this;cases this
      |succ k Bc=>
       intro i Av bW hq h9
       obtain⟨o,ho,_,_⟩:=hop i bW
       have hlt:i<listed.size:=by rw[inv.size];exact(Array.getElem?_eq_some_iff.1 ho).1
       have:i∈Region.ready .any l.toArray listed:=mem_ready.2 ⟨getD_in hlt hq,o,ho,λe he hb=>by
        have h1:=(mr mA bW ho).1 e he hb
        cases mD:listed.getD e.on false with
        |true=>rfl
        |false=>exact absurd h9 (Bc e.on (by omega) (by omega) mD)⟩
       rw[h9]at this;cases this
     obtain⟨i,hi,hq⟩:=jt
     exact key i i (Nat.le_refl _) hi hq
    have cy:∀i,i∈Region.ready .any l.toArray listed->∀j,(listed.setIfInBounds i true).getD j false=true↔(j=i∨listed.getD j false=true):=λi hi j=>by
     obtain⟨ku,eX,qa,hall⟩:=mem_ready.1 hi
     have hlt:i<listed.size:=by rw[inv.size];exact(Array.getElem?_eq_some_iff.1 qa).1
     by_cases hj:i=j
     ·subst hj;simp[hlt]
     ·rw[getD_set_ne false hj]
      exact⟨.inr,λh=>h.resolve_left (λe=>hj e.symm)⟩
    have Gl:∀i,i∈Region.ready .any l.toArray listed->i<n->(List.range n).countP (λj=> !(listed.setIfInBounds i true).getD j false)+(l.length-n)<=f:=λi hi bW=>by
     obtain⟨ku,_⟩:=mem_ready.1 hi
     have:(List.range n).countP (λj=> !(listed.setIfInBounds i true).getD j false)<(List.range n).countP (λj=> !listed.getD j false):=by
      refine Ex (λj _ hj=>?_) ⟨i,List.mem_range.2 bW,?_,?_⟩
      ·cases hq:listed.getD j false with
       |false=>rfl
       |true=>rw[(cy i hi j).2 (.inr hq)]at hj;cases hj
      ·simp only[getD_both ku];rfl
      ·simp only[(cy i hi i).2 (.inl rfl)];rfl
     omega
    have step:∀i,i∈Region.ready .any l.toArray listed->i<n->∀o,l.toArray[i]?=some o->c5 o=false->mi P l.toArray C o (vs i) b/\∀w',w1.Extends w'->wpAny P .any l.toArray (calm Q) f (listed.setIfInBounds i true) (b.put o.dst (vs i)) w':=by
     intro i hi bW o ho cp
     obtain⟨ku,eX,qa,hall⟩:=mem_ready.1 hi
     have:o=eX:=Option.some.inj (ho.symm.trans qa)
     subst this
     obtain⟨aW,ia,A4,_⟩:=hop i bW
     have:aW=o:=Option.some.inj (ia.symm.trans ho)
     subst this
     obtain⟨hy,he⟩:=A4 cp
     have oD:=mr mA bW ho
     have GG:∀t:Nat,t∈aW.looksAt l.toArray->b.tmps[t]?=(as i).tmps[t]?:=λt ht=>by
      by_cases hw:∃j bO,j<i/\l.toArray[j]?=some bO/\c5 bO=false/\bO.dst=some t
      ·obtain⟨j,bO,h1,h2,pR,h3⟩:=hw
       rw[<-FC (n-i) i (by omega) t ⟨j,bO,h1,h2,h3⟩]
       refine fI.q t ⟨j,bO,by omega,?_,h2,pR,h3⟩
       rcases(oD.2.2 j bO t (by omega) (by omega) h2 h3).2 ht with h4|h4
       ·obtain⟨BM,AL,e,lM,lN,nx⟩:=Region.waitsFor_spec h4
        have:BM=aW:=Option.some.inj (AL.symm.trans ho)
        subst this
        have:=hall e lM lN
        rwa [nx]at this
       ·obtain⟨sJ,uB,e,lM,lN,nx⟩:=Region.waitsFor_spec h4
        have:sJ=bO:=Option.some.inj (uB.symm.trans h2)
        subst this
        have:=(mr mA (show j<n by omega) h2).1 e lM lN
        omega
      ·rw[FD i (by omega) t λj bO h1 h2 pR h3=>hw ⟨j,bO,h1,h2,pR,h3⟩]
       refine fI.no t λj bO h1 hl h2 h3=>?_
       cases FH:c5 bO with
       |true=>exact Qr fM h1 h2 FH h3 bW ho ht
       |false=>
        by_cases fZ:j=i
        ·subst fZ
         rw[getD_both ku]at hl;cases hl
        ·rcases(oD.2.2 j bO t h1 fZ h2 h3).2 ht with h4|h4
         ·obtain⟨BM,AL,e,lM,lN,nx⟩:=Region.waitsFor_spec h4
          have:BM=aW:=Option.some.inj (AL.symm.trans ho)
          subst this
          have:=oD.1 e lM lN
          exact hw ⟨j,bO,by omega,h2,FH,h3⟩
         ·obtain⟨sJ,uB,e,lM,lN,nx⟩:=Region.waitsFor_spec h4
          have:sJ=bO:=Option.some.inj (uB.symm.trans h2)
          subst this
          have:=inv.closed j sJ h2 hl e lM lN
          rw[nx,getD_both ku]at this;cases this
     have Na:∀x∈aW.op.operands,b.eval x=(as i).eval x:=λx hx=>by
      cases x with
      |tmp t=>
       have:=GG t (List.mem_append_left _ (List.mem_filterMap.2 ⟨.tmp t,by simpa using hx,rfl⟩))
       simp only[Act.eval]
       simp[this]
      |_=>rfl
     have hex:execOp b.eval aW=execOp (as i).eval aW:=execOp_congr aW oD.2.1 Na
     have A2:Region.wanted aW (yielded l.toArray b.tmps)=Region.wanted aW (yielded l.toArray (as i).tmps):=by
      unfold Region.wanted
      cases hg:aW.guard with
      |none=>rfl
      |some zL=>
       obtain⟨g,want⟩:=zL
       have:yielded l.toArray b.tmps g=yielded l.toArray (as i).tmps g:=by
        unfold yielded
        cases ht:(l.toArray[g]?).bind (·.dst)with
        |none=>rfl
        |some t=>
         have:=GG t (List.mem_append_right _ (by simp only[hg,ht];simp))
         simp[this]
       simp only[this]
     refine⟨hy.of_same hex A2,λw' lX=>?_⟩
     refine ih _ _ _ cY (inv.set hi bW) (kj.trans lX) ⟨(put_defers _ _ _).trans fI.d,(qJ _ _ _).trans fI.ay,?_,?_,?_⟩ (oa.grow (w:=w1) ⟨λj h1 h2 h3=>?_,λi1 iV h1 h2 h3 h4 h5 h6=>?_⟩ lX) (Gl i hi bW)
     ·rintro t ⟨j,bO,h1,h2,h3,nr,h4⟩
      by_cases ht:aW.dst=some t
      ·have e1:(as n).tmps[t]?=(as (i+1)).tmps[t]?:=FC (n-(i+1)) (i+1) (by omega) t ⟨i,aW,by omega,ho,ht⟩
       rw[e1,he,ht]
       simp only[Act.put]
       have GC:b.tmps.size=(as i).tmps.size:=fI.ay.trans (ug i (by omega)).2.symm
       rcases Nat.lt_or_ge t b.tmps.size with h5|h5
       ·simp[h5,GC▸h5]
       ·rw[Array.getElem?_eq_none (by simpa using h5),Array.getElem?_eq_none (by rw[Array.size_setIfInBounds,<-GC];exact h5)]
      ·rw[mQ ht]
       rcases(cy i hi j).1 h2 with rfl|h5
       ·have:bO=aW:=Option.some.inj (h3.symm.trans ho)
        subst this
        exact absurd h4 ht
       ·exact fI.q t ⟨j,bO,h1,h5,h3,nr,h4⟩
     ·intro t j bO h1 h2 h3 h4 h5 h6
      rcases(cy i hi j).1 h2 with rfl|h7
      ·have:bO=aW:=Option.some.inj (h3.symm.trans ho)
       subst this
       rw[cp]at h4;cases h4
      ·have fZ:j≠i:=λe=>by subst e;rw[getD_both ku]at h7;cases h7
       have ht:aW.dst≠some t:=(oD.2.2 j bO t h1 fZ h3 h5).1
       rw[mQ ht]
       rw[qJ]at h6
       exact fI.tn t j bO h1 h7 h3 h4 h5 h6
     ·intro t eV
      have ht:aW.dst≠some t:=eV i aW bW ((cy i hi i).2 (.inl rfl)) ho
      rw[mQ ht]
      exact fI.no t λj bO h1 h2 h3=>eV j bO h1 ((cy i hi j).2 (.inr h2)) h3
     ·rcases(cy i hi j).1 h2 with rfl|h7
      ·simp[ka,ho,cp]at h3
      ·exact lI.1 j h1 h7 h3
     ·have k1:listed.getD i1 false=true:=by
       rcases(cy i hi i1).1 h3 with rfl|h7
       ·simp[ka,ho,cp]at h5
       ·exact h7
      have k2:listed.getD iV false=true:=by
       rcases(cy i hi iV).1 h4 with rfl|h7
       ·simp[ka,ho,cp]at h6
       ·exact h7
      exact lI.2 i1 iV h1 h2 k1 k2 h5 h6
    by_cases ev:∃i,i∈Region.ready .any l.toArray listed/\i<n/\lG l.toArray i=true
    ·obtain⟨i,hi,bW,gu⟩:=ev
     obtain⟨o,ho,_,_⟩:=hop i bW
     obtain⟨ku,eX,qa,hall⟩:=mem_ready.1 hi
     have Ga:rK o=true:=by unfold lG at gu;simpa [ho]using gu
     have cp:c5 o=false:=LV Ga
     obtain⟨oJ,AI⟩:=step i hi bW o ho cp
     refine wpAny_first ho (Region.noSelect_spec NW) (λc cf w' hq=>hq.elim) f listed b w1 (λj bO kZ fZ Nu Nt=>?_) hi (LW Ga (hC w1 kj) oJ) (AI w1 (World.Extends.refl w1))
     have uA:Region.waitsFor .any l.toArray j i=false:=by
      cases hq:Region.waitsFor .any l.toArray j i with
      |false=>rfl
      |true=>
       obtain⟨sJ,uB,e,lM,lN,nx⟩:=Region.waitsFor_spec hq
       have:sJ=bO:=Option.some.inj (uB.symm.trans kZ)
       subst this
       exact absurd nx (Nt e lM lN)
     have Gu:j<n->Region.waitsFor .any l.toArray i j=false:=λr8=>by
      cases hq:Region.waitsFor .any l.toArray i j with
      |false=>rfl
      |true=>
       obtain⟨aW,ia,e,lM,lN,nx⟩:=Region.waitsFor_spec hq
       have:aW=eX:=Option.some.inj (ia.symm.trans qa)
       subst this
       have:=hall e lM lN
       rw[nx,getD_both Nu]at this;cases this
     by_cases r8:j<n
     ·have d1:=(mr mA bW ho).2.2 j bO
      have d2:=(mr mA r8 kZ).2.2 i o
      simp only[Oper.apart,Bool.and_eq_true]
      constructor
      ·cases hd:o.dst with
       |none=>rfl
       |some d=>
        have:=d2 d bW (λe=>fZ e.symm) ho hd
        simp only[Bool.and_eq_true,Bool.not_eq_true',bne_iff_ne,ne_eq]
        refine⟨?_,this.1⟩
        cases hc:(bO.looksAt l.toArray).contains d with
        |false=>rfl
        |true=>
         rcases this.2 (by simpa using hc)with h1|h1
         ·rw[uA]at h1;cases h1
         ·rw[Gu r8]at h1;cases h1
      ·cases hd:bO.dst with
       |none=>rfl
       |some d=>
        have:=d1 d r8 fZ kZ hd
        simp only[Bool.not_eq_true']
        cases hc:(o.looksAt l.toArray).contains d with
        |false=>rfl
        |true=>
         rcases this.2 (by simpa using hc)with h1|h1
         ·rw[Gu r8]at h1;cases h1
         ·rw[uA]at h1;cases h1
     ·have h1:=List.all_eq_true.1 Nh i (List.mem_range.2 bW)
      simp only[gu,Bool.not_true,Bool.false_or]at h1
      have h2:=List.all_eq_true.1 h1 j (List.mem_range.2 (Array.getElem?_eq_some_iff.1 kZ).1)
      have hb:Nat.blt j n=false:=by cases hq:Nat.blt j n with|false=>rfl|true=>exact absurd (ke hq) r8
      simp only[hb,uA,Bool.false_or,ho,kZ]at h2
      exact h2
    ·
     have nD:∃i,i<n/\lG l.toArray i=false/\listed.getD i false=false:=by
      have key:∀k,∀i,i<=k->i<n->listed.getD i false=false->∃i,i<n/\lG l.toArray i=false/\listed.getD i false=false:=by
       intro k
       induction k with
       |zero=>
        intro i Av bW hq
        cases ef:lG l.toArray i with
        |false=>exact⟨i,bW,ef,hq⟩
        |true=>
         obtain⟨o,ho,_,_⟩:=hop i bW
         have hlt:i<listed.size:=by rw[inv.size];exact(Array.getElem?_eq_some_iff.1 ho).1
         exact absurd ⟨i,mem_ready.2 ⟨getD_in hlt hq,o,ho,λe he hb=>by have:=(mr mA bW ho).1 e he hb;omega⟩,bW,ef⟩ ev
       |succ k Bc=>
        intro i Av bW hq
        cases ef:lG l.toArray i with
        |false=>exact⟨i,bW,ef,hq⟩
        |true=>
         obtain⟨o,ho,_,_⟩:=hop i bW
         have hlt:i<listed.size:=by rw[inv.size];exact(Array.getElem?_eq_some_iff.1 ho).1
         by_cases F3:∀e∈o.after,Region.binds .any e=true->listed.getD e.on false=true
         ·exact absurd ⟨i,mem_ready.2 ⟨getD_in hlt hq,o,ho,F3⟩,bW,ef⟩ ev
         ·have hex:∃e,e∈o.after/\Region.binds .any e=true/\¬listed.getD e.on false=true:=by
           apply Classical.byContradiction
           intro eV
           exact F3 λe he hb=>Classical.byContradiction λmD=>eV ⟨e,he,hb,mD⟩
          obtain⟨e,he,hb,mD⟩:=hex
          have h1:=(mr mA bW ho).1 e he hb
          exact Bc e.on (by omega) (by omega) (by simpa using mD)
      obtain⟨i,hi,hq⟩:=jt
      exact key i i (Nat.le_refl _) hi hq
     refine⟨λh0=>absurd h0 hne,λi hi=>?_⟩
     have bW:i<n:=by
      rcases Nat.lt_or_ge i n with h1|h1
      ·exact h1
      ·exfalso
       obtain⟨_,eX,qa,_⟩:=mem_ready.1 hi
       have UW:i<l.toArray.size:=(Array.getElem?_eq_some_iff.1 qa).1
       simp only[Bool.or_eq_true,Bool.and_eq_true]at GF
       rcases GF with h2|⟨h2,h3⟩
       ·have:=Nat.eq_of_beq_eq_true h2;omega
       ·obtain⟨i0,eJ,p3,uE⟩:=nD
        exact SI h2 h3 (by omega) inv (n-i0) i0 rfl eJ p3 uE i h1 hi
     obtain⟨o,ho,_,_⟩:=hop i bW
     cases cp:c5 o with
     |false=>
      obtain⟨oJ,AI⟩:=step i hi bW o ho cp
      exact T8 ho (hC w1 kj) oJ AI
     |true=>
      obtain⟨ku,_⟩:=mem_ready.1 hi
      have hgd:o.guard=none/\∃d,o.dst=some d:=by
       unfold c5 at cp
       split at cp
       ·rename_i h1 h2 h3;exact⟨h2,_,h3⟩
       ·cases cp
      obtain⟨hgd,d,hd⟩:=hgd
      have oD:=mr mA bW ho
      unfold wpOp
      simp only[ho]
      rw[if_pos (by simp[Region.wanted,hgd])]
      refine .inl ?_
      unfold Oper.wp
      rw[pX i o bW ho cp b w1]
      show wpAny P .any l.toArray (calm Q) f (listed.setIfInBounds i true) (b.put o.dst _) _
      have A8:∀j,j<n->listed.getD j false=true->ka l.toArray j=true->cY j<w1.heap.size:=λj h1 h2 h3=>(Array.getElem?_eq_some_iff.1 (lI.1 j h1 h2 h3).2).1
      refine ih _ _ _ (λj=>if j=i then w1.heap.size else cY j) (inv.set hi bW) (kj.alloc _) ⟨(put_defers _ _ _).trans fI.d,(qJ _ _ _).trans fI.ay,?_,?_,?_⟩ ⟨λj h1 h2 h3=>?_,λi1 iV h1 h2 h3 h4 h5 h6 h7=>?_⟩ (Gl i hi bW)
      ·rintro t ⟨j,bO,h1,h2,h3,nr,h4⟩
       rcases(cy i hi j).1 h2 with rfl|h5
       ·have:bO=o:=Option.some.inj (h3.symm.trans ho)
        subst this
        rw[cp]at nr;cases nr
       ·have fZ:j≠i:=λe=>by subst e;rw[getD_both ku]at h5;cases h5
        rw[mQ (oD.2.2 j bO t h1 fZ h3 h4).1]
        exact fI.q t ⟨j,bO,h1,h5,h3,nr,h4⟩
      ·intro t j bO h1 h2 h3 h4 h5 h6
       rcases(cy i hi j).1 h2 with rfl|h7
       ·have:bO=o:=Option.some.inj (h3.symm.trans ho)
        subst this
        rw[h5]
        simp only[if_true]
        rw[qJ]at h6
        simp[Act.put,h6]
       ·have fZ:j≠i:=λe=>by subst e;rw[getD_both ku]at h7;cases h7
        rw[mQ (oD.2.2 j bO t h1 fZ h3 h5).1]
        rw[qJ]at h6
        rw[if_neg fZ]
        exact fI.tn t j bO h1 h7 h3 h4 h5 h6
      ·intro t eV
       rw[mQ (eV i o bW ((cy i hi i).2 (.inl rfl)) ho)]
       exact fI.no t λj bO h1 h2 h3=>eV j bO h1 ((cy i hi j).2 (.inr h2)) h3
      ·show w.drew.heap.size<=(if j=i then w1.heap.size else cY j)/\(w1.alloc (Z i)).heap[(if j=i then w1.heap.size else cY j)]?=some (Z j)
       by_cases fZ:j=i
       ·subst fZ
        rw[if_pos rfl]
        exact⟨kj.size,heap_alloc_new w1 (Z j)⟩
       ·rw[if_neg fZ]
        have h7:=((cy i hi j).1 h2).resolve_left fZ
        obtain⟨cJ,br⟩:=lI.1 j h1 h7 h3
        exact⟨cJ,by rw[heap_alloc_old w1 _ (A8 j h1 h7 h3)];exact br⟩
      ·change (if i1=i then w1.heap.size else cY i1)=(if iV=i then w1.heap.size else cY iV)at h7
       by_cases cJ:i1=i<;>by_cases br:iV=i
       ·rw[cJ,br]
       ·rw[if_pos cJ,if_neg br]at h7
        have:=A8 iV h2 (((cy i hi iV).1 h4).resolve_left br) h6
        omega
       ·rw[if_neg cJ,if_pos br]at h7
        have:=A8 i1 h1 (((cy i hi i1).1 h3).resolve_left cJ) h5
        omega
       ·rw[if_neg cJ,if_neg br]at h7
        exact lI.2 i1 iV h1 h2 (((cy i hi i1).1 h3).resolve_left cJ) (((cy i hi iV).1 h4).resolve_left br) h5 h6 h7
 have O2:HeadInv .any l.toArray n (Array.replicate l.toArray.size false):=
  ⟨by simp,λj bO _ hl=>(by rw[getD_replicate_false]at hl;cases hl),λt _ ht=>getD_in (by simpa using ht) (getD_replicate_false _ _)⟩
 have xO:∀j,¬(Array.replicate l.toArray.size false).getD j false=true:=λj h=>by rw[getD_replicate_false]at h;cases h
 refine main l.toArray.size _ a _ (λ_=>0) O2 (World.Extends.refl w.drew) ⟨rfl,rfl,λt ⟨j,o,_,h2,_⟩=>absurd h2 (xO j),λt j o _ h2=>absurd h2 (xO j),λ_ _=>rfl⟩ ⟨λj _ h2=>absurd h2 (xO j),λi j _ _ h3=>absurd h3 (xO i)⟩ ?_
 have:(List.range n).countP (λi=> !(Array.replicate l.toArray.size false).getD i false)<=n:=by
  have:=List.countP_le_length (p:=λi=> !(Array.replicate l.toArray.size false).getD i false) (l:=List.range n)
  simpa using this
 omega
end
end Go.aZ
