/- Texts as numbers. -/
import GoSem.ClaimData
import GoSem.Op.String
import Derived.WalkKit
import Derived.Laws.StructEq
import Derived.ChangeKeysEq
import Derived.Laws.Tables
import Derived.Laws.Strings2
import Derived.Laws.Concat
import Derived.Laws.Cover1
import Derived.Laws.Cover3
import Derived.Laws.BytesArg
import Derived.StillTail
import Derived.OrdersHeld

set_option linter.unusedVariables false
set_option linter.unusedSimpArgs false
namespace Go.bj
def kQ:List UInt8->Nat
 |[]=>0
 |b::r=>(b.toNat+1)+257*kQ r
def vO:Nat->Nat->List UInt8
 |0,_=>[]
 |f+1,n=>match n with
  |0=>[]
  |k+1=>UInt8.ofNat (k% 257)::vO f ((k+1)/257)
theorem IH (b:UInt8) (r:List UInt8):kQ (b::r)=(b.toNat+1)+257*kQ r:=rfl
theorem abE (b:UInt8) (r:List UInt8):kQ (b::r)=(b.toNat+257*kQ r)+1:=by rw[IH];omega
theorem Wh:∀(l:List UInt8) (f:Nat),l.length<=f->vO f (kQ l)=l
 |[],0,_=>rfl
 |[],f+1,_=>rfl
 |b::r,0,h=>by simp at h
 |b::r,f+1,h=>by
  have hb:=b.toNat_lt
  rw[abE]
  show UInt8.ofNat ((b.toNat+257*kQ r)% 257)::vO f ((b.toNat+257*kQ r+1)/257)=b::r
  have e1:(b.toNat+257*kQ r)% 257=b.toNat:=by omega
  have e2:(b.toNat+257*kQ r+1)/257=kQ r:=by omega
  rw[e1,e2,Wh r f (by simpa using h)]
  simp
theorem Wi:∀(f n k:Nat),n<257^k->(vO f n).length<=k
 |0,_,_,_=>by simp[vO]
 |f+1,0,k,_=>by simp[vO]
 |f+1,n+1,0,h=>by simp at h
 |f+1,n+1,k+1,h=>by
  have:(n+1)/257<257^k:=by rw[Nat.div_lt_iff_lt_mul (by decide)];rw[Nat.pow_succ]at h;exact h
  have ih:=Wi f ((n+1)/257) k this
  simp only[vO,List.length_cons]
  omega
theorem Q0:∀(l:List UInt8),kQ l<257^l.length
 |[]=>by simp[kQ]
 |b::r=>by
  have ih:=Q0 r
  have hb:=b.toNat_lt
  unfold kQ
  rw[List.length_cons,Nat.pow_succ]
  omega
theorem QZ:∀(l:List UInt8),l.length<=kQ l
 |[]=>by simp
 |b::r=>by
  have ih:=QZ r
  unfold kQ
  rw[List.length_cons]
  omega
theorem Q1:∀(l:List UInt8),0<l.length->2^(l.length-1)<=kQ l
 |[b],_=>by rw[IH];show 1<=_;omega
 |b::c::r,_=>by
  have ih:=Q1 (c::r) (by simp)
  rw[IH b]
  simp only[List.length_cons,Nat.add_sub_cancel]at ih⊢
  rw[Nat.pow_succ]
  omega
def U (z:Int):List UInt8:=vO (Nat.log2 z.toNat+1) z.toNat
def dI (l:List UInt8):Int:=kQ l
theorem gb (l:List UInt8):U (dI l)=l:=by
 unfold U dI
 rw[Int.toNat_natCast]
 apply Wh
 by_cases h:l.length=0
 ·omega
 ·have h1:=Q1 l (by omega)
  have h2:kQ l≠0:=by have:=QZ l;omega
  have h3:=(Nat.le_log2 h2).2 h1
  omega
theorem pz (l:List UInt8):0<=dI l:=Int.natCast_nonneg _
theorem XA (k:Nat):∃H:Int,(∀l:List UInt8,l.length<=k->dI l<=H)/\∀z:Int,z<=H->(U z).length<=k:=by
 refine⟨(257^k:Nat)-1,fun l h=>?_,fun z h=>?_⟩
 ·have h1:=Q0 l
  have h2:257^l.length<=257^k:=Nat.pow_le_pow_right (by decide) h
  unfold dI
  omega
 ·unfold U
  apply Wi
  have:=Nat.pow_pos (n:=k) (show 0<257 by decide)
  omega
def ga:Nat:=140737488351232
theorem HB:∃H:Int,(∀l:List UInt8,l.length<=ga->dI l<=H)/\∀z:Int,z<=H->(U z).length<=ga:=XA ga
noncomputable def cy:Int:=Classical.choose HB
theorem nG {l:List UInt8} (h:l.length<=ga):dI l<=cy:=(Classical.choose_spec HB).1 l h
theorem s5 {z:Int} (h:z<=cy):(U z).length<=ga:=(Classical.choose_spec HB).2 z h
theorem mx:0<=cy:=by have:=nG (l:=[]) (by simp);exact this
def pR (l:List UInt8):List UInt8:=cond (Nat.ble l.length 1000000) l []
theorem ah8 (l:List UInt8):0<=dI (pR l)/\dI (pR l)<=cy:=by
 refine⟨pz _,nG ?_⟩
 unfold pR
 cases h:Nat.ble l.length 1000000 with
 |true=>have:=Nat.le_of_ble_eq_true h;simp only[cond_true];unfold ga;omega
 |false=>simp
def bb (l:List UInt8):ByteArray:=⟨l.toArray⟩
def s3 (z:Int):Nat:=if 0<=z then 2*z.toNat else 2*(-z).toNat-1
def vT (n:Nat):Int:=if n% 2=0 then((n/2:Nat):Int)else-(((n+1)/2:Nat):Int)
theorem aq4 (z:Int):vT (s3 z)=z:=by
 unfold s3 vT
 split
 ·rw[if_pos (by omega)];omega
 ·rw[if_neg (by omega)];omega
def lc:List Nat->Nat
 |[]=>0
 |x::r=>2^x*(2*lc r+1)
def mT:Nat->Nat->Nat
 |0,_=>0
 |f+1,n=>if n% 2=0 then mT f (n/2)+1 else 0
theorem WT (k:Nat):∀(x f:Nat),x<f->mT f (2^x*(2*k+1))=x
 |0,f+1,_=>by
  unfold mT
  rw[if_neg (by rw[Nat.pow_zero,Nat.one_mul];omega)]
 |x+1,f+1,h=>by
  unfold mT
  have e:2^(x+1)*(2*k+1)=2*(2^x*(2*k+1)):=by rw[Nat.pow_succ,Nat.mul_comm (2^x) 2,Nat.mul_assoc]
  rw[e,if_pos (by omega),Nat.mul_div_cancel_left _ (by decide),WT k x f (by omega)]
def aF:Nat->Nat->List Nat
 |0,_=>[]
 |f+1,n=>if n=0 then []else mT n n::aF f (n/2^mT n n/2)
theorem ai8 (x:Nat):x<2^x:=Nat.lt_two_pow_self
theorem LF:∀l:List Nat,l.length<=lc l
 |[]=>Nat.le_refl _
 |x::r=>by
  have ih:=LF r
  unfold lc
  have h1:1<=2^x:=Nat.one_le_two_pow
  have h2:2*lc r+1<=2^x*(2*lc r+1):=Nat.le_mul_of_pos_left _ h1
  rw[List.length_cons]
  omega
theorem LH:∀(l:List Nat) (f:Nat),l.length<=f->aF f (lc l)=l
 |[],0,_=>rfl
 |[],f+1,_=>by simp[aF,lc]
 |x::r,0,h=>by simp at h
 |x::r,f+1,h=>by
  have h1:1<=2^x:=Nat.one_le_two_pow
  have h2:2^x<=2^x*(2*lc r+1):=Nat.le_mul_of_pos_right _ (by omega)
  have h3:=ai8 x
  have hz:lc (x::r)≠0:=by
   have hl:lc (x::r)=2^x*(2*lc r+1):=rfl
   omega
  have ht:mT (lc (x::r)) (lc (x::r))=x:=by
   show mT (2^x*(2*lc r+1)) (2^x*(2*lc r+1))=x
   exact WT _ _ _ (by omega)
  unfold aF
  rw[if_neg hz,ht]
  have e:lc (x::r)/2^x/2=lc r:=by
   have hl:lc (x::r)=2^x*(2*lc r+1):=rfl
   rw[hl,Nat.mul_div_cancel_left _ (by omega)]
   omega
  rw[e,LH r f (by simpa using h)]
theorem LD (X:Nat):∀k:Nat,∃B,∀l:List Nat,l.length<=k->(∀x∈l,x<=X)->lc l<=B
 |0=>⟨0,fun l h _=>by
  have:l=[]:=List.length_eq_zero_iff.1 (by omega)
  subst this;exact Nat.le_refl _⟩
 |k+1=>by
  obtain⟨B,hB⟩:=LD X k
  refine⟨2^X*(2*B+1),fun l h hx=>?_⟩
  cases l with
  |nil=>exact Nat.zero_le _
  |cons x r=>
   unfold lc
   have h1:=hB r (by simpa using h) fun y hy=>hx y (List.mem_cons_of_mem _ hy)
   exact Nat.mul_le_mul (Nat.pow_le_pow_right (by decide) (hx x (by simp))) (by omega)
def rc (l:List (List Int)):Int:=(lc (l.map fun row=>lc (row.map s3)):Nat)
def aa (z:Int):List (List Int):=(aF z.toNat z.toNat).map fun n=>(aF n n).map vT
theorem ajg (l:List Int):(l.map s3).map vT=l:=by
 rw[List.map_map]
 conv=>rhs;rw[<-List.map_id l]
 exact List.map_congr_left fun z _=>aq4 z
theorem dN (l:List (List Int)):aa (rc l)=l:=by
 unfold aa rc
 rw[Int.toNat_natCast,LH _ _ (LF _),List.map_map]
 conv=>rhs;rw[<-List.map_id l]
 refine List.map_congr_left fun row _=>?_
 simp only[Function.comp,id]
 rw[LH _ _ (LF _),ajg]
theorem fp (l:List (List Int)):0<=rc l:=Int.natCast_nonneg _
def MC (row:List Int):Prop:=row.length<=100/\∀z∈row,-18446744073709551616-cy<=z/\z<=18446744073709551616+cy
theorem PQ:∃H:Int,∀l:List (List Int),l.length<=maxLen->(∀row∈l,MC row)->rc l<=H:=by
 obtain⟨B,hB⟩:=LD (2*(18446744073709551616+cy).toNat) 100
 obtain⟨C,hC⟩:=LD B maxLen
 refine⟨(C:Nat),fun l h hr=>?_⟩
 unfold rc
 have:=hC (l.map fun row=>lc (row.map s3)) (by simpa using h) fun x hx=>by
  obtain⟨row,hrow,rfl⟩:=List.mem_map.1 hx
  refine hB _ (by simpa using(hr row hrow).1) fun y hy=>?_
  obtain⟨z,hz,rfl⟩:=List.mem_map.1 hy
  have h1:=(hr row hrow).2 z hz
  have h2:=mx
  unfold s3
  split<;>omega
 omega
noncomputable def b8:Int:=Classical.choose PQ
theorem mX {l:List (List Int)} (h:l.length<=maxLen) (hr:∀row∈l,MC row):rc l<=b8:=Classical.choose_spec PQ l h hr
inductive aw where
 |int (k:IntKind) (lo hi:Int)
 |str
 |bool
def aw.beq:aw->aw->Bool
 |int k lo hi,int aQ Uv l9=>decide (k=aQ)&&decide (lo=Uv)&&decide (hi=l9)
 |str,str=>true
 |bool,bool=>true
 |_,_=>false
theorem aw.beq_eq:∀{a b:aw},aw.beq a b=true->a=b
 |int k lo hi,int aQ Uv l9,h=>by
  simp only[aw.beq,Bool.and_eq_true,decide_eq_true_eq]at h
  rw[h.1.1,h.1.2,h.2]
 |str,str,_=>rfl
 |bool,bool,_=>rfl
 |int ..,str,h=>by cases h
 |int ..,bool,h=>by cases h
 |str,int ..,h=>by cases h
 |str,bool,h=>by cases h
 |bool,int ..,h=>by cases h
 |bool,str,h=>by cases h
def lV:List aw->List aw->Bool
 |[],[]=>true
 |a::r,b::s=>aw.beq a b&&lV r s
 |_,_=>false
theorem uk:∀{a b:List aw},lV a b=true->a=b
 |[],[],_=>rfl
 |a::r,b::s,h=>by
  simp only[lV,Bool.and_eq_true]at h
  rw[aw.beq_eq h.1,uk h.2]
 |[],_::_,h=>by cases h
 |_::_,[],h=>by cases h
noncomputable def aw.ef:aw->Int×Int
 |int _ lo hi=>(lo,hi)
 |str=>(0,cy)
 |bool=>(0,1)
def aw.val:aw->Int->Value
 |int k _ _,z=> .int k z
 |str,z=> .string (bb (U z))
 |bool,z=> .bool (decide (z=1))
def aA:Nat->List Int->Int
 |0,[s]=>(U s).length
 |1,[s,i]=>((U s).getD i.toNat 0).toNat
 |2,[s,a,b]=>dI (((U s).drop a.toNat).take (b.toNat-a.toNat))
 |3,[s,t]=>dI (U s++U t)
 |4,[s,t]=>if U s=U t then 1 else 0
 |5,[s,t]=>if Op.bytesLess (U s) (U t)=true then 1 else 0
 |20,[c]=>(aa c).length
 |21,[c,i,j]=>((aa c).getD i.toNat []).getD j.toNat 0
 |22,[c,a,b]=>rc (((aa c).drop a.toNat).take (b.toNat-a.toNat))
 |23,c::row=>rc (aa c++[row])
 |24,[c,e]=>rc (aa c++aa e)
 |25,c::i::row=>rc ((aa c).set i.toNat row)
 |26,n::row=>rc (List.replicate n.toNat row)
 |27,[s]=>rc ((U s).map fun b=>[(b.toNat:Int)])
 |34,[c,a,b]=>dI ((((aa c).drop a.toNat).take (b.toNat-a.toNat)).map fun row=>UInt8.ofNat (row.getD 0 0).toNat)
 |37,[x,y]=>x*2^y.toNat
 |38,[x,y]=>x% y
 |76,[x,y]=>x/y
 |33,[r,a,c]=>if a=c then r else r+a
 |29,[c,i,j,v]=>rc ((aa c).set i.toNat (((aa c).getD i.toNat []).set j.toNat v))
 |42,c::i::j::vs=>rc ((aa c).set i.toNat (((aa c).getD i.toNat []).take j.toNat++vs++((aa c).getD i.toNat []).drop (j.toNat+vs.length)))
 |43,[s,i]=>if UInt8.ofNat i.toNat∈U s then 1 else 0
 |61,c::a::k::row=>rc ((aa c).take a.toNat++List.replicate k.toNat row++(aa c).drop (a.toNat+k.toNat))
 |62,[a,b]=>min a b
 |63,[c,a,s]=>rc ((aa c).take a.toNat++aa s++(aa c).drop (a.toNat+(aa s).length))
 |28,[c]=>dI ((aa c).map fun row=>UInt8.ofNat (row.getD 0 0).toNat)
 |_,_=>0
noncomputable def Bn:Nat->List Int->Prop
 |70,[l,c]=>c∣l
 |71,z::_=>(aa z).length<=1000000000
 |72,z::_=>64∣(aa z).length/\(aa z).length<=1000001000
 |73,z::_=>128∣(aa z).length/\(aa z).length<=1000001000
 |74,[i,l]=>0<=i/\i<l
 |78,[x,y,z,c]=>0<=x/\x<=y/\y<=z/\z<=c
 |79,[l,c]=>l<=c
 |75,l=>∀z∈l,(aa z).length<=100000000
 |77,[x]=>0<=x
 |80,[c,a,k]=>0<=a/\0<=k/\a+k<=(aa c).length
 |81,l=>(U (l.getD 5 0)).length<=1000000000
 |_,_=>False
def ab:Nat->List Int->Prop
 |1,[s,i]=>0<=i/\i<(U s).length
 |2,[s,a,b]=>0<=a/\a<=b/\b<=(U s).length
 |3,[s,t]=>(U s).length+(U t).length<=ga
 |21,[c,i]=>0<=i/\i<(aa c).length
 |30,[i,n]=>0<=i/\i<n
 |31,[c,n]=>n=(aa c).length
 |32,[a,b,n]=>0<=a/\a<=b/\b<=n
 |22,[c,a,b]=>0<=a/\a<=b/\b<=(aa c).length
 |35,[c,a,b]=>(0<=a/\a<=b/\b<=(aa c).length)/\b-a<=140737488351232
 |36,[y]=>0<y
 |39,[x,l,h]=>l<=x/\x<=h
 |40,[a,b]=>0<=a->0<=b
 |41,[s]=>(U s).length<=4294967280
 |44,[w,s]=>U w=[]∨(U s).length<=4294967280
 |23,[c,k]=>(aa c).length+k<=1073741824
 |26,[n]=>0<=n/\n<=1073741824
 |48,r::_=>(aa r).length<=1099511627776
 |50,s::_=>(U s).length<=1073741824
 |49,[l,c]=>0<=l/\l<=c/\c<=1073741824
 |64,[p,q,r,l]=>0<=p/\p<=q/\q<=r/\r<=l/\0<l
 |65,[c,a,k]=>0<=a/\0<k/\a+k<=(aa c).length
 |66,r::_=>(aa r).length<=1000000
 |68,[l,c]=>l<=c∨l=0
 |67,[c,i,k]=>((aa c).getD i.toNat []).length=k.toNat
 |53,[c,l]=>c<0->l=0
 |52,[c,a,b]=>0<=a/\a<b/\b<=(aa c).length/\(aa c).length<=1073741824
 |51,[c,i,r]=>(0<=i/\i<=(aa c).length)/\(aa r).length=1/\(aa c).length+1<=1073741824
 |op,l=>Bn op l
end Go.bj

/- The base of a symbolic evaluator of the model's code: linear forms over unknown integers,with bounds; trees of conditions. -/
namespace Go.bj
abbrev Env:=Nat->Int
def cJ (ρ:Env) (n:Nat) (z:Int):Env:=fun i=>cond (Nat.beq i n) z (ρ i)
def bq (ρ:Env):Nat->List Int->Env
 |_,[]=>ρ
 |n,z::zs=>bq (cJ ρ n z) (n+1) zs
def agree (n:Nat) (ρ ad:Env):Prop:=∀i,i<n->ad i=ρ i
theorem agree.refl (n:Nat) (ρ:Env):agree n ρ ρ:=fun _ _=>rfl
theorem agree.trans {n n':Nat} {ρ ad qi:Env} (h:agree n ρ ad) (h':agree n' ad qi) (hn:n<=n'):agree n ρ qi:=
 fun i hi=>(h' i (by omega)).trans (h i hi)
theorem agree.mono {n n':Nat} {ρ ad:Env} (h:agree n' ρ ad) (hn:n<=n'):agree n ρ ad:=fun i hi=>h i (by omega)
theorem iy (ρ:Env) (n:Nat) (z:Int):cJ ρ n z n=z:=by simp[cJ]
theorem Nv (ρ:Env) {n i:Nat} (z:Int) (h:i≠n):cJ ρ n z i=ρ i:=by
 unfold cJ
 cases hb:Nat.beq i n with
 |false=>rfl
 |true=>exact absurd (Nat.eq_of_beq_eq_true hb) h
theorem agree.cJ (n:Nat) (ρ:Env) (z:Int):agree n ρ (cJ ρ n z):=fun i hi=>Nv ρ z (by omega)
theorem agree.bq:∀(zs:List Int) (n:Nat) (ρ:Env),agree n ρ (bq ρ n zs)
 |[],n,ρ=>agree.refl n ρ
 |z::zs,n,ρ=>(agree.cJ n ρ z).trans (agree.bq zs (n+1) _) (by omega)
structure I where
 c:Int
 ts:List (Int×Nat)
def fV (ρ:Env):List (Int×Nat)->Int
 |[]=>0
 |(k,i)::r=>k*ρ i+fV ρ r
def I.den (ρ:Env) (l:I):Int:=fV ρ l.ts+l.c
def xw (k:Int) (i:Nat):List (Int×Nat)->List (Int×Nat)
 |[]=>[(k,i)]
 |(aQ,j)::r=>cond (Nat.blt i j) ((k,i)::(aQ,j)::r) (cond (Nat.beq i j) (cond (k+aQ==0) r ((k+aQ,i)::r)) ((aQ,j)::xw k i r))
def yA:List (Int×Nat)->List (Int×Nat)->List (Int×Nat)
 |[],l=>l
 |(k,i)::r,l=>xw k i (yA r l)
def vQ (m:Int):List (Int×Nat)->List (Int×Nat)
 |[]=>[]
 |(k,i)::r=>(m*k,i)::vQ m r
theorem Ri (ρ:Env) (k:Int) (i:Nat):∀l,fV ρ (xw k i l)=k*ρ i+fV ρ l
 |[]=>rfl
 |(aQ,j)::r=>by
  unfold xw
  cases h1:Nat.blt i j with
  |true=>rfl
  |false=>
   cases h2:Nat.beq i j with
   |true=>
    have e:i=j:=Nat.eq_of_beq_eq_true h2
    subst e
    cases h3:(k+aQ==0)with
    |true=>
     have h3:k+aQ=0:=by simpa using h3
     simp only[cond_true,cond_false,fV]
     rw[<-Int.add_assoc,<-Int.add_mul,h3];simp
    |false=>simp only[cond_true,cond_false,fV];rw[Int.add_mul];omega
   |false=>simp only[cond_false,fV,Ri ρ k i r];omega
theorem Rg (ρ:Env):∀l bx,fV ρ (yA l bx)=fV ρ l+fV ρ bx
 |[],bx=>by simp[yA,fV]
 |(k,i)::r,bx=>by simp only[yA,Ri,fV,Rg ρ r bx];omega
theorem Rj (ρ:Env) (m:Int):∀l,fV ρ (vQ m l)=m*fV ρ l
 |[]=>by simp[vQ,fV]
 |(k,i)::r=>by simp only[vQ,fV,Rj ρ m r];rw[Int.mul_add,Int.mul_assoc]
def og (n:Nat) (l:List (Int×Nat)):Prop:=∀t∈l,t.2<n
theorem og.mono {n n':Nat} {l} (h:og n l) (hn:n<=n'):og n' l:=fun t ht=>Nat.lt_of_lt_of_le (h t ht) hn
theorem Wk {n:Nat} {k:Int} {i:Nat} (hi:i<n):∀{l},og n l->og n (xw k i l)
 |[],_=>by intro t ht;simp[xw]at ht;subst ht;exact hi
 |(aQ,j)::r,h=>by
  have hr:og n r:=fun t ht=>h t (List.mem_cons_of_mem _ ht)
  have hj:j<n:=h (aQ,j) (by simp)
  have ih:=Wk (k:=k) hi hr
  unfold xw
  intro t ht
  cases h1:Nat.blt i j<;>cases h2:Nat.beq i j<;>cases h3:(k+aQ==0)<;>simp only[h1,h2,h3,cond_true,cond_false,List.mem_cons]at ht<;>
   first
   |(rcases ht with rfl|ht<;>first|exact hi|exact hj|(exact hr t ht)|(exact ih t ht)|(rcases ht with rfl|ht<;>first|exact hj|exact hr t ht))
   |exact hr t ht
theorem Wj {n:Nat}:∀{l bx},og n l->og n bx->og n (yA l bx)
 |[],_,_,h'=>h'
 |(k,i)::r,_,h,h'=>Wk (k:=k) (i:=i) (h (k,i) (by simp)) (Wj (l:=r) (fun t ht=>h t (List.mem_cons_of_mem _ ht)) h')
theorem Wl {n:Nat} {m:Int}:∀{l},og n l->og n (vQ m l)
 |[],_=>fun t ht=>by simp[vQ]at ht
 |(k,i)::r,h=>by
  intro t ht
  simp only[vQ,List.mem_cons]at ht
  rcases ht with rfl|ht
  ·exact h (k,i) (by simp)
  ·exact Wl (fun t ht=>h t (List.mem_cons_of_mem _ ht)) t ht
theorem Rh {n:Nat} {ρ ad:Env} (h:agree n ρ ad):∀{l},og n l->fV ad l=fV ρ l
 |[],_=>rfl
 |(k,i)::r,hs=>by
  simp only[fV,h i (hs (k,i) (by simp)),Rh h (l:=r) (fun t ht=>hs t (List.mem_cons_of_mem _ ht))]
namespace I
def const (c:Int):I:=⟨c,[]⟩
def var (n:Nat):I:=⟨0,[(1,n)]⟩
def add (a b:I):I:=⟨a.c+b.c,yA a.ts b.ts⟩
def smul (m:Int) (a:I):I:=cond (m==0) ⟨0,[]⟩ ⟨m*a.c,vQ m a.ts⟩
def sub (a b:I):I:=a.add (b.smul (-1))
def dg (a:I):Option Int:=match a.ts with|[]=>some a.c|_=>none
def aX (n:Nat) (a:I):Prop:=og n a.ts
def yJ:List (Int×Nat)->List (Int×Nat)->Bool
 |[],[]=>true
 |(k,i)::r,(aQ,xt)::r'=>k==aQ&&Nat.beq i xt&&yJ r r'
 |_,_=>false
def beq (a b:I):Bool:=a.c==b.c&&yJ a.ts b.ts
theorem Qq:∀{a b},yJ a b=true->a=b
 |[],[],_=>rfl
 |(k,i)::r,(aQ,xt)::r',h=>by
  simp only[yJ,Bool.and_eq_true,beq_iff_eq]at h
  obtain⟨⟨h1,h2⟩,h3⟩:=h
  rw[h1,Nat.eq_of_beq_eq_true h2,Qq h3]
 |[],_::_,h=>by simp[yJ]at h
 |_::_,[],h=>by simp[yJ]at h
theorem beq_eq {a b:I} (h:beq a b=true):a=b:=by
 simp only[beq,Bool.and_eq_true,beq_iff_eq]at h
 cases a;cases b
 simp only at h
 rw[h.1,Qq h.2]
theorem aK (ρ:Env) (c:Int):(const c).den ρ=c:=by simp[const,den,fV]
theorem cg (ρ:Env) (n:Nat):(var n).den ρ=ρ n:=by simp[var,den,fV]
theorem den_add (ρ:Env) (a b:I):(a.add b).den ρ=a.den ρ+b.den ρ:=by simp only[add,den,Rg];omega
theorem j5 (ρ:Env) (m:Int) (a:I):(a.smul m).den ρ=m*a.den ρ:=by
 unfold smul
 cases h:(m==0)with
 |true=>have h:m=0:=by simpa using h
        subst h;simp[den,fV]
 |false=>simp only[cond_false,den,Rj,Int.mul_add]
theorem kS (ρ:Env) (a b:I):(a.sub b).den ρ=a.den ρ-b.den ρ:=by simp only[sub,den_add,j5];omega
theorem gq {ρ:Env} {a:I} {c:Int} (h:a.dg=some c):a.den ρ=c:=by
 unfold dg at h
 cases ha:a.ts with
 |nil=>simp[ha]at h;simp[den,ha,fV,h]
 |cons x r=>simp[ha]at h
theorem cA (n:Nat) (c:Int):(const c).aX n:=fun t ht=>by simp[const]at ht
theorem ec {n i:Nat} (h:i<n):(var i).aX n:=fun t ht=>by simp[var]at ht;subst ht;exact h
theorem sK {n:Nat} {a b:I} (ha:a.aX n) (hb:b.aX n):(a.add b).aX n:=Wj ha hb
theorem ui {n:Nat} {m:Int} {a:I} (ha:a.aX n):(a.smul m).aX n:=by
 unfold smul
 cases(m==0)with
 |true=>exact fun t ht=>by simp at ht
 |false=>exact Wl ha
theorem vP {n:Nat} {a b:I} (ha:a.aX n) (hb:b.aX n):(a.sub b).aX n:=sK ha (ui hb)
theorem aX.mono {n n':Nat} {a:I} (h:a.aX n) (hn:n<=n'):a.aX n':=og.mono h hn
theorem bA {n:Nat} {ρ ad:Env} (h:agree n ρ ad) {a:I} (ha:a.aX n):a.den ad=a.den ρ:=by simp only[den,Rh h ha]
end I
structure bh where
 l:I
 lo:Int
 hi:Int
def bh.ok (n:Nat) (ρ:Env) (x:bh):Prop:=x.l.aX n/\x.lo<=x.l.den ρ/\x.l.den ρ<=x.hi
theorem bh.ok.agree {n n':Nat} {ρ ad:Env} {x:bh} (h:x.ok n ρ) (ha:agree n ρ ad) (hn:n<=n'):x.ok n' ad:=
 ⟨h.1.mono hn,by rw[I.bA ha h.1];exact h.2.1,by rw[I.bA ha h.1];exact h.2.2⟩
def bh.const (c:Int):bh:=⟨.const c,c,c⟩
theorem bh.lI (n:Nat) (ρ:Env) (c:Int):(bh.const c).ok n ρ:=⟨I.cA n c,by simp[bh.const,I.aK],by simp[bh.const,I.aK]⟩
inductive aT where
 |lit (b:Bool)
 |eq (a b:I)
 |lt (a b:I)
 |le (a b:I)
 |not (a:aT)
 |and (a b:aT)
 |iff (a b:aT)
namespace aT
def den (ρ:Env):aT->Bool
 |lit b=>b
 |eq a b=>decide (a.den ρ=b.den ρ)
 |lt a b=>decide (a.den ρ<b.den ρ)
 |le a b=>decide (a.den ρ<=b.den ρ)
 |not a=> !a.den ρ
 |and a b=>a.den ρ&&b.den ρ
 |iff a b=>a.den ρ==b.den ρ
def aX (n:Nat):aT->Prop
 |lit _=>True
 |eq a b|lt a b|le a b=>a.aX n/\b.aX n
 |not a=>a.aX n
 |and a b=>a.aX n/\b.aX n
 |iff a b=>a.aX n/\b.aX n
theorem aX.mono {n n':Nat} (hn:n<=n'):∀{b:aT},b.aX n->b.aX n'
 |lit _,_=>trivial
 |eq _ _,h|lt _ _,h|le _ _,h=>⟨h.1.mono hn,h.2.mono hn⟩
 |not a,h=>aX.mono (b:=a) hn h
 |and a b,h=>⟨aX.mono (b:=a) hn h.1,aX.mono (b:=b) hn h.2⟩
 |iff a b,h=>⟨aX.mono (b:=a) hn h.1,aX.mono (b:=b) hn h.2⟩
theorem bA {n:Nat} {ρ ad:Env} (ha:agree n ρ ad):∀{b:aT},b.aX n->b.den ad=b.den ρ
 |lit _,_=>rfl
 |eq _ _,h|lt _ _,h|le _ _,h=>by simp only[den,I.bA ha h.1,I.bA ha h.2]
 |not a,h=>by simp only[den,bA (b:=a) ha h]
 |and a b,h=>by simp only[den,bA (b:=a) ha h.1,bA (b:=b) ha h.2]
 |iff a b,h=>by simp only[den,bA (b:=a) ha h.1,bA (b:=b) ha h.2]
def beq:aT->aT->Bool
 |lit a,lit b=>a==b
 |eq a b,eq c d|lt a b,lt c d|le a b,le c d=>I.beq a c&&I.beq b d
 |not a,not b=>beq a b
 |and a b,and c d|iff a b,iff c d=>beq a c&&beq b d
 |_,_=>false
theorem beq_eq:∀{a b:aT},beq a b=true->a=b
 |lit a,b,h=>by cases b<;>simp[beq]at h;rw[h]
 |eq a b,c,h=>by cases c<;>simp[beq]at h;rw[I.beq_eq h.1,I.beq_eq h.2]
 |lt a b,c,h=>by cases c<;>simp[beq]at h;rw[I.beq_eq h.1,I.beq_eq h.2]
 |le a b,c,h=>by cases c<;>simp[beq]at h;rw[I.beq_eq h.1,I.beq_eq h.2]
 |not a,c,h=>by cases c<;>simp[beq]at h;rw[beq_eq h]
 |and a b,c,h=>by cases c<;>simp[beq]at h;rw[beq_eq h.1,beq_eq h.2]
 |iff a b,c,h=>by cases c<;>simp[beq]at h;rw[beq_eq h.1,beq_eq h.2]
def mkNot:aT->aT
 |lit b=>lit (!b)
 |not a=>a
 |a=>not a
def mkAnd:aT->aT->aT
 |lit true,b=>b
 |lit false,_=>lit false
 |a,lit true=>a
 |a,lit false=>cond true (lit false) a
 |a,b=>and a b
def mkIff (a b:aT):aT:=
 match a with
 |lit true=>b
 |lit false=>mkNot b
 |_=>match b with
  |lit true=>a
  |lit false=>mkNot a
  |_=>cond (beq a b) (lit true) (iff a b)
theorem rR (ρ:Env) (a:aT):(mkNot a).den ρ= !a.den ρ:=by cases a<;>simp[mkNot,den]
theorem sL {n:Nat} {a:aT} (h:a.aX n):(mkNot a).aX n:=by cases a<;>exact h
theorem ET (ρ:Env) (a b:aT):(mkAnd a b).den ρ=(a.den ρ&&b.den ρ):=by
 unfold mkAnd;split<;>simp[den]
theorem GZ {n:Nat} {a b:aT} (ha:a.aX n) (hb:b.aX n):(mkAnd a b).aX n:=by
 unfold mkAnd;split<;>first|exact hb|exact ha|trivial|exact⟨ha,hb⟩
theorem I6 (ρ:Env) (a b:aT):(mkIff a b).den ρ=(a.den ρ==b.den ρ):=by
 unfold mkIff
 split
 ·simp[den]
 ·rw[rR];simp[den]
 ·split
  ·simp[den]
  ·rw[rR];simp[den]
  ·cases h:beq a b with
   |true=>have:=beq_eq h;subst this;simp[den]
   |false=>rfl
theorem MO {n:Nat} {a b:aT} (ha:a.aX n) (hb:b.aX n):(mkIff a b).aX n:=by
 unfold mkIff
 split
 ·exact hb
 ·exact sL hb
 ·split
  ·exact ha
  ·exact sL ha
  ·cases beq a b with
   |true=>trivial
   |false=>exact⟨ha,hb⟩
def y6 (d:I) (f:Int->Bool) (e:aT):aT:=match d.dg with|some c=>lit (f c)|none=>e
def mkLt (a b:bh):aT:=cond (decide (a.hi<b.lo)) (lit true) (cond (decide (b.hi<=a.lo)) (lit false) (y6 (a.l.sub b.l) (fun c=>decide (c<0)) (lt a.l b.l)))
def mkLe (a b:bh):aT:=cond (decide (a.hi<=b.lo)) (lit true) (cond (decide (b.hi<a.lo)) (lit false) (y6 (a.l.sub b.l) (fun c=>decide (c<=0)) (le a.l b.l)))
def mkEq (a b:bh):aT:=cond (decide (a.hi<b.lo)) (lit false) (cond (decide (b.hi<a.lo)) (lit false) (cond (a.lo==a.hi&&b.lo==b.hi&&a.lo==b.lo) (lit true) (cond (I.beq a.l b.l) (lit true) (y6 (a.l.sub b.l) (fun c=>decide (c=0)) (eq a.l b.l)))))
theorem I5 {n:Nat} {ρ:Env} {d:I} {f:Int->Bool} {e:aT} (h:e.den ρ=f (d.den ρ)) (hs:e.aX n):(y6 d f e).den ρ=e.den ρ/\(y6 d f e).aX n:=by
 unfold y6
 split
 ·rename_i c hc
  exact⟨by rw[h,I.gq hc];rfl,trivial⟩
 ·exact⟨rfl,hs⟩
theorem EU {n:Nat} {ρ:Env} {a b:bh} (ha:a.ok n ρ) (hb:b.ok n ρ):(mkLt a b).den ρ=decide (a.l.den ρ<b.l.den ρ)/\(mkLt a b).aX n:=by
 have h1:=ha.2;have h2:=hb.2
 unfold mkLt
 by_cases c1:a.hi<b.lo
 ·simp only[decide_eq_true c1,cond_true,den,aX,and_true];symm;simp;omega
 ·by_cases c2:b.hi<=a.lo
  ·simp only[decide_eq_false c1,decide_eq_true c2,cond_true,cond_false,den,aX,and_true];symm;simp;omega
  ·simp only[decide_eq_false c1,decide_eq_false c2,cond_false]
   have:=I5 (n:=n) (ρ:=ρ) (d:=a.l.sub b.l) (f:=fun c=>decide (c<0)) (e:=lt a.l b.l) (by simp only[den,I.kS];congr 1;simp;omega) ⟨ha.1,hb.1⟩
   exact⟨this.1,this.2⟩
theorem Rk {n:Nat} {ρ:Env} {a b:bh} (ha:a.ok n ρ) (hb:b.ok n ρ):(mkLe a b).den ρ=decide (a.l.den ρ<=b.l.den ρ)/\(mkLe a b).aX n:=by
 have h1:=ha.2;have h2:=hb.2
 unfold mkLe
 by_cases c1:a.hi<=b.lo
 ·simp only[decide_eq_true c1,cond_true,den,aX,and_true];symm;simp;omega
 ·by_cases c2:b.hi<a.lo
  ·simp only[decide_eq_false c1,decide_eq_true c2,cond_true,cond_false,den,aX,and_true];symm;simp;omega
  ·simp only[decide_eq_false c1,decide_eq_false c2,cond_false]
   have:=I5 (n:=n) (ρ:=ρ) (d:=a.l.sub b.l) (f:=fun c=>decide (c<=0)) (e:=le a.l b.l) (by simp only[den,I.kS];congr 1;simp;omega) ⟨ha.1,hb.1⟩
   exact⟨this.1,this.2⟩
theorem pD {n:Nat} {ρ:Env} {a b:bh} (ha:a.ok n ρ) (hb:b.ok n ρ):(mkEq a b).den ρ=decide (a.l.den ρ=b.l.den ρ)/\(mkEq a b).aX n:=by
 have h1:=ha.2;have h2:=hb.2
 unfold mkEq
 by_cases c1:a.hi<b.lo
 ·simp only[decide_eq_true c1,cond_true,den,aX,and_true];symm;simp;omega
 ·by_cases c2:b.hi<a.lo
  ·simp only[decide_eq_false c1,decide_eq_true c2,cond_true,cond_false,den,aX,and_true];symm;simp;omega
  ·cases c3:(a.lo==a.hi&&b.lo==b.hi&&a.lo==b.lo)with
   |true=>
    simp only[Bool.and_eq_true,beq_iff_eq]at c3
    simp only[decide_eq_false c1,decide_eq_false c2,cond_false,cond_true,den,aX,and_true];symm;simp;omega
   |false=>
    cases c4:I.beq a.l b.l with
    |true=>simp only[decide_eq_false c1,decide_eq_false c2,cond_false,cond_true,den,aX,and_true,I.beq_eq c4];simp
    |false=>
     simp only[decide_eq_false c1,decide_eq_false c2,cond_false]
     have:=I5 (n:=n) (ρ:=ρ) (d:=a.l.sub b.l) (f:=fun c=>decide (c=0)) (e:=eq a.l b.l) (by simp only[den,I.kS];congr 1;simp;omega) ⟨ha.1,hb.1⟩
     exact⟨this.1,this.2⟩
end aT
end Go.bj

/- Trees of conditions,and integer operations as such trees. -/
set_option linter.unusedVariables false
set_option linter.unusedSimpArgs false
namespace Go.bj
inductive A where
 |int (k:IntKind) (x:bh)
 |bool (b:aT)
 |ptr (b off:Nat)
 |lq (b off:Nat) (aJ:bh)
 |gptr (g off:Nat)
 |y9 (g off:Nat) (aJ:bh)
 |slc (b off len cap:Nat)
 |con (v:Value)
 |str (l:I)
 |rows (sh:List aw) (off code cap:I) (kind:Nat)
 |sl (b aL:Nat) (o ro len cap:I)
 |ep (b aL:Nat) (o i:I) (j:Nat)
inductive W where
 |one (a:A)
 |agg (l:List A)
inductive V where
 |w (x:W)
 |e4 (l:List W)
 |any
 |mi (b len lo:Nat)
 |mB (f:Nat) (gG:List A)
def cc (op:BinOp) (k:IntKind) (x y:Int):Int:=
 match op with
 | .and=>k.wrap (BitVec.ofInt k.bits x&&&BitVec.ofInt k.bits y).toNat
 | .or=>k.wrap (BitVec.ofInt k.bits x|||BitVec.ofInt k.bits y).toNat
 | .xor=>k.wrap (BitVec.ofInt k.bits x^^^BitVec.ofInt k.bits y).toNat
 | .andNot=>k.wrap (BitVec.ofInt k.bits x&&&~~~(BitVec.ofInt k.bits y)).toNat
 |_=>0
inductive T where
 |stuck
 |leaf (v:V)
 |div (n:Nat) (x:I) (d lo hi:Int) (r:T)
 |mul (n:Nat) (x y:I) (lo hi:Int) (r:T)
 |bit (n:Nat) (op:BinOp) (k:IntKind) (x y:I) (r:T)
 |shr (n:Nat) (x y:I) (lo hi:Int) (r:T)
 |sO (n:Nat) (cs:List I) (aJ:I) (lo hi:Int) (r:T)
 |nK (b:aT) (t e:T)
 |call (id:Nat) (args:List I) (n:Nat) (bds:List (Int×Int)) (r:T)
 |loop (gX:Nat) (init:List I) (n:Nat) (bds:List (Int×Int)) (r:T)
 |again (gX:Nat) (vals:List I)
 |both (a b:T)
 |fn (n:Nat) (op:Nat) (args:List I) (lo hi:Int) (r:T)
 |l7 (op:Nat) (args:List I) (r:T)
 |om (n:Nat) (lo hi:Int) (r:T)
 |nat (n:Nat) (r:T)
 |oB (op:Nat) (args:List I) (r:T)
 |ind (n:Nat) (b:aT) (r:T)
def l4:List (Int×Int)->(List Int->Prop)->Prop
 |[],P=>P []
 |(l,h)::b,P=>∀r:Int,l<=r->r<=h->l4 b (fun rs=>P (r::rs))
def av:List (Int×Int)->List Int->Prop
 |[],[]=>True
 |(l,h)::b,r::rs=>l<=r/\r<=h/\av b rs
 |_,_=>False
theorem jB:∀{b:List (Int×Int)} {P:List Int->Prop} {rs:List Int},l4 b P->av b rs->P rs
 |[],_,[],h,_=>h
 |(l,u)::b,P,r::rs,h,hi=>jB (b:=b) (P:=fun rs=>P (r::rs)) (h r hi.1 hi.2.1) hi.2.2
 |[],_,_::_,_,hi=>hi.elim
 |(_,_)::_,_,[],_,hi=>hi.elim
abbrev dt:=Nat->List Int->Prop
def dt.set (A:dt) (gX:Nat) (p:List Int->Prop):dt:=fun i=>cond (Nat.beq i gX) p (A i)
def T.holds (S:Nat->List Int->List Int->Prop) (L:V->Env->Prop):T->dt->Env->Prop
 |stuck,_,_=>False
 |leaf v,_,ρ=>L v ρ
 |div n x d lo hi r,A,ρ=>∀q:Int,lo<=q->q<=hi->0<=x.den ρ-d*q->x.den ρ-d*q<d->r.holds S L A (cJ ρ n q)
 |mul n x y lo hi r,A,ρ=>∀p:Int,lo<=p->p<=hi->p=x.den ρ*y.den ρ->r.holds S L A (cJ ρ n p)
 |bit n op k x y r,A,ρ=>∀z:Int,0<=z->z<=k.max->z=cc op k (x.den ρ) (y.den ρ)->r.holds S L A (cJ ρ n z)
 |shr n x y lo hi r,A,ρ=>∀z:Int,lo<=z->z<=hi->z=x.den ρ/2^(y.den ρ).toNat->r.holds S L A (cJ ρ n z)
 |sO n cs aJ lo hi r,A,ρ=>∀z:Int,lo<=z->z<=hi->z=(cs.map (·.den ρ)).getD (aJ.den ρ).toNat 0->r.holds S L A (cJ ρ n z)
 |nK b t e,A,ρ=>(b.den ρ=true->t.holds S L A ρ)/\(b.den ρ=false->e.holds S L A ρ)
 |call id args n bds r,A,ρ=>l4 bds fun rs=>S id (args.map (·.den ρ)) rs->r.holds S L A (bq ρ n rs)
 |loop gX init n bds r,A,ρ=>∃(gn:List Int->Prop) (iR:List Int->Nat),gn (init.map (·.den ρ))/\
  l4 bds fun zs=>gn zs->r.holds S L (A.set gX fun vs=>gn vs/\iR vs<iR zs) (bq ρ n zs)
 |again gX vals,A,ρ=>A gX (vals.map (·.den ρ))
 |both a b,A,ρ=>a.holds S L A ρ/\b.holds S L A ρ
 |fn n op args lo hi r,A,ρ=>∀z:Int,lo<=z->z<=hi->z=aA op (args.map (·.den ρ))->r.holds S L A (cJ ρ n z)
 |l7 op args r,A,ρ=>ab op (args.map (·.den ρ))/\r.holds S L A ρ
 |om n lo hi r,A,ρ=>∀z:Int,lo<=z->z<=hi->r.holds S L A (cJ ρ n z)
 |nat n r,A,ρ=>∀z:Int,0<=z->r.holds S L A (cJ ρ n z)
 |oB op args r,A,ρ=>ab op (args.map (·.den ρ))->r.holds S L A ρ
 |ind n b r,A,ρ=>∀z:Int,0<=z->z<=1->b.den ρ=decide (z=1)->r.holds S L A (cJ ρ n z)
abbrev M (α:Type):=Nat->(α->Nat->T)->T
namespace M
variable {α β:Type}
def pure (a:α):M α:=fun n k=>k a n
def bind (x:M α) (f:α->M β):M β:=fun n k=>x n fun a n'=>f a n' k
def fail:M α:=fun _ _=> .stuck
def ai (S:Nat->List Int->List Int->Prop) (L:V->Env->Prop) (x:M α) (n:Nat) (ρ:Env) (R:Env->Nat->α->Prop):Prop:=
 ∀A k,(x n k).holds S L A ρ->∃ad n' a,n<=n'/\agree n ρ ad/\R ad n' a/\(k a n').holds S L A ad
variable {S:Nat->List Int->List Int->Prop} {L:V->Env->Prop} {n:Nat} {ρ:Env}
theorem ai.pure {a:α} {R:Env->Nat->α->Prop} (h:R ρ n a):ai S L (M.pure a) n ρ R:=
 fun _ _ hk=>⟨ρ,n,a,Nat.le_refl _,agree.refl _ _,h,hk⟩
theorem ai.fail {R:Env->Nat->α->Prop}:ai S L (M.fail:M α) n ρ R:=fun _ _ hk=>hk.elim
theorem ai.bind {x:M α} {f:α->M β} {R:Env->Nat->α->Prop} {R':Env->Nat->β->Prop} (hx:ai S L x n ρ R)
 (hf:∀ad n' a,n<=n'->agree n ρ ad->R ad n' a->ai S L (f a) n' ad R'):ai S L (M.bind x f) n ρ R':=by
 intro A k hk
 obtain⟨ad,n',a,hn,ha,hR,iY⟩:=hx A _ hk
 obtain⟨qi,zT,b,sc,iV,oL,agk⟩:=hf ad n' a hn ha hR A k iY
 exact⟨qi,zT,b,Nat.le_trans hn sc,ha.trans iV hn,oL,agk⟩
theorem ai.mono {x:M α} {R R':Env->Nat->α->Prop} (hx:ai S L x n ρ R) (h:∀ad n' a,n<=n'->agree n ρ ad->R ad n' a->R' ad n' a):ai S L x n ρ R':=by
 intro A k hk
 obtain⟨ad,n',a,hn,ha,hR,iY⟩:=hx A k hk
 exact⟨ad,n',a,hn,ha,h _ _ _ hn ha hR,iY⟩
end M
open M
section
variable {S:Nat->List Int->List Int->Prop} {L:V->Env->Prop} {n:Nat} {ρ:Env}
def wx:List I->Option (List Int)
 |[]=>some []
 |l::r=>match l.dg,wx r with|some c,some s=>some (c::s)|_,_=>none
theorem H4 {ρ:Env}:∀{l:List I} {cs:List Int},wx l=some cs->l.map (·.den ρ)=cs
 |[],cs,h=>by simp[wx]at h;subst h;rfl
 |l::r,cs,h=>by
  simp only[wx]at h
  cases h1:l.dg with
  |none=>simp[h1]at h
  |some c=>
   cases h2:wx r with
   |none=>simp[h1,h2]at h
   |some s=>
    simp only[h1,h2,Option.some.injEq]at h
    subst h
    simp only[List.map_cons,I.gq h1,H4 h2]
def dZ (op:Nat) (args:List I) (lo hi:Int):M I:=fun n k=>match Nat.ble op 5,wx args with
 |true,some cs=>k (.const (aA op cs)) n
 |_,_=> .fn n op args lo hi (k (.var n) (n+1))
def EM:Nat->List Int->Bool
 |1,[s,i]=>decide (0<=i)&&decide (i<(U s).length)
 |2,[s,a,b]=>decide (0<=a)&&decide (a<=b)&&decide (b<=(U s).length)
 |3,[s,t]=>Nat.ble ((U s).length+(U t).length) 1000000
 |30,[i,n]=>decide (0<=i)&&decide (i<n)
 |32,[a,b,n]=>decide (0<=a)&&decide (a<=b)&&decide (b<=n)
 |39,[x,l,h]=>decide (l<=x)&&decide (x<=h)
 |_,_=>false
theorem ab1 {op:Nat} {cs:List Int} (h:EM op cs=true):ab op cs:=by
 unfold EM at h
 split at h
 ·simp only[Bool.and_eq_true,decide_eq_true_eq]at h;exact h
 ·simp only[Bool.and_eq_true,decide_eq_true_eq]at h;exact⟨h.1.1,h.1.2,h.2⟩
 ·have h:=Nat.le_of_ble_eq_true h
  show _<=ga
  unfold ga;omega
 ·simp only[Bool.and_eq_true,decide_eq_true_eq]at h;exact h
 ·simp only[Bool.and_eq_true,decide_eq_true_eq]at h;exact⟨h.1.1,h.1.2,h.2⟩
 ·simp only[Bool.and_eq_true,decide_eq_true_eq]at h;exact h
 ·cases h
def eE (op:Nat) (args:List I):M Unit:=fun n k=>match wx args with
 |some cs=>cond (EM op cs) (k () n) (.l7 op args (k () n))
 |none=> .l7 op args (k () n)
theorem eZ {op:Nat} {args:List I} {lo hi:Int} (h1:lo<=aA op (args.map (·.den ρ))) (h2:aA op (args.map (·.den ρ))<=hi):
 ai S L (dZ op args lo hi) n ρ fun ad n' l=>l.aX n'/\l.den ad=aA op (args.map (·.den ρ)):=by
 intro A k hk
 unfold dZ at hk
 split at hk
 ·rename_i cs _ hcs
  exact⟨_,n,_,Nat.le_refl _,agree.refl _ _,⟨I.cA _ _,by rw[I.aK,H4 hcs]⟩,hk⟩
 ·exact⟨_,n+1,_,Nat.le_succ _,agree.cJ _ _ _,⟨I.ec (Nat.lt_succ_self n),by simp[I.cg,iy]⟩,hk _ h1 h2 rfl⟩
theorem fF {op:Nat} {args:List I} {α:Type} {x:M α} {R:Env->Nat->α->Prop} (h:ab op (args.map (·.den ρ))->ai S L x n ρ R):ai S L (bind (eE op args) fun _=>x) n ρ R:=by
 intro A k hk
 unfold M.bind eE at hk
 split at hk
 ·rename_i cs hcs
  cases hb:EM op cs with
  |true=>
   rw[hb]at hk
   exact h (by rw[H4 hcs];exact ab1 hb) A k hk
  |false=>
   rw[hb]at hk
   exact h hk.1 A k hk.2
 ·exact h hk.1 A k hk.2
def rT (x:bh) (d:Int):M bh:=fun n k=>
 cond (d==1) (k x n) <| cond (x.lo/d==x.hi/d) (k (.const (x.lo/d)) n) (.div n x.l d (x.lo/d) (x.hi/d) (k ⟨.var n,x.lo/d,x.hi/d⟩ (n+1)))
theorem Bs {x:bh} {d:Int} (hd:0<d) (hx:x.ok n ρ):ai S L (rT x d) n ρ fun ad n' q=>q.ok n' ad/\q.l.den ad=x.l.den ρ/d/\(q.lo=x.lo/d/\q.hi=x.hi/d):=by
 intro A k hk
 have h1:=Int.ediv_le_ediv hd hx.2.1
 have h2:=Int.ediv_le_ediv hd hx.2.2
 unfold rT at hk
 cases JF:(d==1)with
 |true=>
  have e:d=1:=by simpa using JF
  subst e
  simp only[JF,cond_true]at hk
  exact⟨ρ,n,x,Nat.le_refl _,agree.refl _ _,⟨hx,by simp,by simp,by simp⟩,hk⟩
 |false=>
 simp only[JF,cond_false]at hk
 cases hc:(x.lo/d==x.hi/d)with
 |true=>
  simp only[hc,cond_true]at hk
  have hc:x.lo/d=x.hi/d:=by simpa using hc
  exact⟨ρ,n,_,Nat.le_refl _,agree.refl _ _,⟨bh.lI _ _ _,by simp only[bh.const,I.aK];omega,rfl,hc⟩,hk⟩
 |false=>
  simp only[hc,cond_false,T.holds]at hk
  have hm:=Int.emod_nonneg (x.l.den ρ) (show d≠0 by omega)
  have hm':=Int.emod_lt_of_pos (x.l.den ρ) hd
  have he:=Int.mul_ediv_add_emod (x.l.den ρ) d
  refine⟨_,n+1,_,Nat.le_succ _,agree.cJ _ _ _,⟨⟨I.ec (Nat.lt_succ_self n),?_,?_⟩,?_,rfl,rfl⟩,hk (x.l.den ρ/d) h1 h2 (by omega) (by omega)⟩<;>
   simp only[I.cg,iy]<;>omega
def LY (x:bh) (d:Int):M bh:=
 bind (rT x d) fun q=>pure ⟨x.l.sub (q.l.smul d),cond (q.lo==q.hi) (x.lo-d*q.lo) 0,cond (q.lo==q.hi) (x.hi-d*q.lo) (d-1)⟩
theorem U5 {x:bh} {d:Int} (hd:0<d) (hx:x.ok n ρ):ai S L (LY x d) n ρ fun ad n' q=>q.ok n' ad/\q.l.den ad=x.l.den ρ% d:=by
 refine(Bs hd hx).bind fun ad n' q hn ha ⟨hq,he,qQ,ayQ⟩=>ai.pure ?_
 have jH:=hx.agree ha hn
 have hm:=Int.emod_nonneg (x.l.den ρ) (show d≠0 by omega)
 have hm':=Int.emod_lt_of_pos (x.l.den ρ) hd
 have afT:=Int.mul_ediv_add_emod (x.l.den ρ) d
 have qH:(x.l.sub (q.l.smul d)).den ad=x.l.den ρ% d:=by
  rw[I.kS,I.j5,I.bA ha hx.1,he];omega
 refine⟨⟨I.vP jH.1 (I.ui hq.1),?_,?_⟩,qH⟩
 ·cases hc:(q.lo==q.hi)with
  |true=>
   have hc:q.lo=q.hi:=by simpa using hc
   have:q.l.den ad=q.lo:=by have:=hq.2;omega
   simp only[cond_true,I.kS,I.j5,this];have:=jH.2.1;omega
  |false=>simp only[cond_false,qH];omega
 ·cases hc:(q.lo==q.hi)with
  |true=>
   have hc:q.lo=q.hi:=by simpa using hc
   have:q.l.den ad=q.lo:=by have:=hq.2;omega
   simp only[cond_true,I.kS,I.j5,this];have:=jH.2.2;omega
  |false=>simp only[cond_false,qH];omega
def two (k:IntKind):Int:=match k with| .i8| .u8=>256| .i16| .u16=>65536| .i32| .u32=>4294967296| .i64| .u64=>18446744073709551616
theorem sS (k:IntKind):two k=(2:Int)^k.bits:=by cases k<;>rfl
def half (k:IntKind):Int:=cond k.signed (two k/2) 0
theorem Hl (k:IntKind) (x:Int):k.wrap x=(x+half k)% two k-half k:=by
 cases k<;>simp only[IntKind.wrap,IntKind.signed,IntKind.bits,half,two,cond_true,cond_false,Bool.true_and,Bool.false_and]<;>
  simp<;>(try split)<;>omega
def sU (k:IntKind) (x:bh):M bh:=
 cond (decide (-half k<=x.lo)&&decide (x.hi<two k-half k)) (pure x)
  (bind (LY ⟨x.l.add (.const (half k)),x.lo+half k,x.hi+half k⟩ (two k)) fun r=>pure ⟨r.l.add (.const (-half k)),r.lo-half k,r.hi-half k⟩)
theorem vU {k:IntKind} {x:bh} (hx:x.ok n ρ):ai S L (sU k x) n ρ fun ad n' q=>q.ok n' ad/\q.l.den ad=k.wrap (x.l.den ρ):=by
 have ht:0<two k:=by cases k<;>decide
 unfold sU
 cases hc:(decide (-half k<=x.lo)&&decide (x.hi<two k-half k))with
 |true=>
  simp only[Bool.and_eq_true,decide_eq_true_eq]at hc
  refine ai.pure ⟨hx,?_⟩
  have h1:=hx.2
  rw[Hl,Int.emod_eq_of_lt (by omega) (by omega)];omega
 |false=>
  refine(U5 (x:=⟨x.l.add (.const (half k)),x.lo+half k,x.hi+half k⟩) ht ⟨I.sK hx.1 (I.cA _ _),?_,?_⟩).bind fun ad n' r hn ha ⟨hr,he⟩=>ai.pure ?_
  ·rw[I.den_add,I.aK];have:=hx.2.1;simp only;omega
  ·rw[I.den_add,I.aK];have:=hx.2.2;simp only;omega
  ·have e:(r.l.add (.const (-half k))).den ad=k.wrap (x.l.den ρ):=by
    rw[I.den_add,I.aK,he,I.den_add,I.aK,Hl];omega
   refine⟨⟨I.sK hr.1 (I.cA _ _),?_,?_⟩,e⟩<;>simp only[I.den_add,I.aK]<;>have:=hr.2<;>omega
def mulM (x y:bh):M bh:=fun n k=>
 match x.l.dg,y.l.dg with
 |some c,_=>cond (decide (0<=c)) (k ⟨y.l.smul c,c*y.lo,c*y.hi⟩ n) .stuck
 |none,some c=>cond (decide (0<=c)) (k ⟨x.l.smul c,c*x.lo,c*x.hi⟩ n) .stuck
 |none,none=>cond (decide (0<=x.lo)&&decide (0<=y.lo)) (.mul n x.l y.l (x.lo*y.lo) (x.hi*y.hi) (k ⟨.var n,x.lo*y.lo,x.hi*y.hi⟩ (n+1))) .stuck
theorem U6 {x y:bh} (hx:x.ok n ρ) (hy:y.ok n ρ):ai S L (mulM x y) n ρ fun ad n' q=>q.ok n' ad/\q.l.den ad=x.l.den ρ*y.l.den ρ:=by
 intro A k hk
 unfold mulM at hk
 cases h1:x.l.dg with
 |some c=>
  simp only[h1]at hk
  by_cases hc:0<=c
  ·simp only[decide_eq_true hc,cond_true]at hk
   refine⟨ρ,n,_,Nat.le_refl _,agree.refl _ _,⟨⟨I.ui hy.1,?_,?_⟩,?_⟩,hk⟩
   ·simp only[I.j5];exact Int.mul_le_mul_of_nonneg_left hy.2.1 hc
   ·simp only[I.j5];exact Int.mul_le_mul_of_nonneg_left hy.2.2 hc
   ·simp only[I.j5,I.gq h1]
  ·simp only[decide_eq_false hc,cond_false,T.holds]at hk
 |none=>
  cases h2:y.l.dg with
  |some c=>
   simp only[h1,h2]at hk
   by_cases hc:0<=c
   ·simp only[decide_eq_true hc,cond_true]at hk
    refine⟨ρ,n,_,Nat.le_refl _,agree.refl _ _,⟨⟨I.ui hx.1,?_,?_⟩,?_⟩,hk⟩
    ·simp only[I.j5];exact Int.mul_le_mul_of_nonneg_left hx.2.1 hc
    ·simp only[I.j5];exact Int.mul_le_mul_of_nonneg_left hx.2.2 hc
    ·simp only[I.j5,I.gq h2];exact Int.mul_comm _ _
   ·simp only[decide_eq_false hc,cond_false,T.holds]at hk
  |none=>
   simp only[h1,h2]at hk
   cases hc:(decide (0<=x.lo)&&decide (0<=y.lo))with
   |false=>simp only[hc,cond_false,T.holds]at hk
   |true=>
    simp only[hc,cond_true,T.holds]at hk
    simp only[Bool.and_eq_true,decide_eq_true_eq]at hc
    have a1:x.lo*y.lo<=x.l.den ρ*y.l.den ρ:=Int.mul_le_mul hx.2.1 hy.2.1 hc.2 (by have:=hx.2.1;omega)
    have a2:x.l.den ρ*y.l.den ρ<=x.hi*y.hi:=Int.mul_le_mul hx.2.2 hy.2.2 (by have:=hy.2.1;omega) (by have:=hx.2;omega)
    refine⟨_,n+1,_,Nat.le_succ _,agree.cJ _ _ _,⟨⟨I.ec (Nat.lt_succ_self n),?_,?_⟩,?_⟩,hk _ a1 a2 rfl⟩<;>simp only[I.cg,iy]<;>assumption
def yK (op:BinOp) (k:IntKind) (x y:bh):M bh:=fun n c=>
 cond k.signed .stuck (.bit n op k x.l y.l (c ⟨.var n,0,k.max⟩ (n+1)))
theorem arl {k:IntKind} (hk:k.signed=false) (x:Int):0<=k.wrap x/\k.wrap x<=k.max:=by
 cases k<;>simp[IntKind.signed]at hk<;>simp[IntKind.wrap,IntKind.signed,IntKind.bits,IntKind.max]<;>omega
theorem aaM {k:IntKind} (hk:k.signed=false) (op:BinOp) (x y:Int):0<=cc op k x y/\cc op k x y<=k.max:=by
 unfold cc
 split
 iterate 4 exact arl hk _
 cases k<;>simp[IntKind.signed]at hk<;>simp[IntKind.max,IntKind.signed,IntKind.bits]
theorem Ey {op:BinOp} {k:IntKind} {x y:bh}:ai S L (yK op k x y) n ρ fun ad n' q=>q.ok n' ad/\q.l.den ad=cc op k (x.l.den ρ) (y.l.den ρ):=by
 intro A c hk
 unfold yK at hk
 cases hs:k.signed with
 |true=>simp only[hs,cond_true,T.holds]at hk
 |false=>
  simp only[hs,cond_false,T.holds]at hk
  have hb:=aaM hs op (x.l.den ρ) (y.l.den ρ)
  refine⟨_,n+1,_,Nat.le_succ _,agree.cJ _ _ _,⟨⟨I.ec (Nat.lt_succ_self n),?_,?_⟩,?_⟩,hk _ hb.1 hb.2 rfl⟩<;>simp only[I.cg,iy]<;>first|exact hb.1|exact hb.2
def Ga (c:Int):Option (Int×Int):=
 match c with
 | .ofNat 0=>none
 | .ofNat c=>
  let b:=2^(Nat.log2 c+1)
  let a:=b-c
  cond (Nat.beq (2^Nat.log2 a) a) (some (a,b)) none
 |_=>none
theorem bv_and {w:Nat} (x y:Int):((BitVec.ofInt w x&&&BitVec.ofInt w y).toNat:Int)=(((x% 2^w).toNat&&&(y% 2^w).toNat:Nat):Int):=by
 rw[BitVec.toNat_and,BitVec.toNat_ofInt,BitVec.toNat_ofInt]
 congr
theorem aaV {w:Nat} (x y:Int):((BitVec.ofInt w x|||BitVec.ofInt w y).toNat:Int)=(((x% 2^w).toNat|||(y% 2^w).toNat:Nat):Int):=by
 rw[BitVec.toNat_or,BitVec.toNat_ofInt,BitVec.toNat_ofInt]
 congr
theorem Zx (x a b:Nat) (ayL:a<=b):x&&&(2^b-2^a)=2^a*(x/2^a)-2^b*(x/2^b):=by
 have e1:2^b-2^a=2^a*(2^(b-a)-1):=by
  rw[Nat.mul_sub,<-Nat.pow_add,Nat.mul_one];congr 2;omega
 have e2:x&&&(2^b-2^a)=2^a*(x/2^a% 2^(b-a)):=by
  rw[e1]
  apply Nat.eq_of_testBit_eq
  intro i
  rw[Nat.testBit_and,Nat.mul_comm (2^a) (2^(b-a)-1),Nat.mul_comm (2^a),Nat.testBit_mul_two_pow,Nat.testBit_mul_two_pow,Nat.testBit_two_pow_sub_one,Nat.testBit_mod_two_pow,Nat.testBit_div_two_pow]
  by_cases h:a<=i
  ·simp only[h,decide_true,Bool.true_and]
   rw[show i-a+a=i by omega,Bool.and_comm]
  ·simp[h]
 rw[e2]
 have bu:x/2^b=x/2^a/2^(b-a):=by
  rw[Nat.div_div_eq_div_mul,<-Nat.pow_add];congr 2;omega
 have eK:2^b=2^a*2^(b-a):=by rw[<-Nat.pow_add];congr 1;omega
 have pE:=Nat.div_add_mod (x/2^a) (2^(b-a))
 rw[bu,eK,Nat.mul_assoc,<-Nat.mul_sub]
 congr 1
 omega
theorem ajh {c a b:Int} (h:Ga c=some (a,b)):∃i j:Nat,i<=j/\a=2^i/\b=2^j/\c=b-a/\0<a/\0<b:=by
 unfold Ga at h
 split at h
 ·cases h
 ·rename_i c hc
  have hc0:c≠0:=fun e=>hc (by rw[e])
  cases hb:Nat.beq (2^Nat.log2 (2^(Nat.log2 c+1)-c)) (2^(Nat.log2 c+1)-c)with
  |false=>simp[hb]at h
  |true=>
   simp only[hb,cond_true,Option.some.injEq,Prod.mk.injEq]at h
   obtain⟨rfl,rfl⟩:=h
   have e:=Nat.eq_of_beq_eq_true hb
   have hlt:c<2^(Nat.log2 c+1):=Nat.lt_log2_self
   have hp:0<2^Nat.log2 (2^(Nat.log2 c+1)-c):=Nat.two_pow_pos _
   refine⟨Nat.log2 (2^(Nat.log2 c+1)-c),Nat.log2 c+1,?_,?_,?_,?_,?_,?_⟩
   ·rcases Nat.lt_or_ge (Nat.log2 c+1) (Nat.log2 (2^(Nat.log2 c+1)-c))with hh|hh
    ·have:=Nat.pow_lt_pow_right (a:=2) (by omega) hh
     omega
    ·exact hh
   ·rw[<-e];simp
   ·simp
   ·have:((2^(Nat.log2 c+1)-c:Nat):Int)=((2^(Nat.log2 c+1):Nat):Int)-(c:Int):=by omega
    simp only[Int.ofNat_eq_natCast]
    omega
   ·omega
   ·have:0<2^(Nat.log2 c+1):=Nat.two_pow_pos _
    omega
 ·cases h
def andM (x:bh) (a b:Int):M bh:=
 bind (rT x a) fun p=>bind (rT x b) fun q=>
  pure ⟨(p.l.smul a).sub (q.l.smul b),cond (q.lo==q.hi) (a*p.lo-b*q.lo) 0,cond (q.lo==q.hi) (a*p.hi-b*q.lo) (b-a)⟩
theorem Zw {x:bh} {i j:Nat} (Cm:i<=j) (hx:x.ok n ρ) (h0:0<=x.lo):ai S L (andM x (2^i) (2^j)) n ρ fun ad n' q=>q.ok n' ad/\q.l.den ad=((x.l.den ρ).toNat&&&(2^j-2^i):Nat):=by
 have hi:(0:Int)<2^i:=by have:=Nat.two_pow_pos i;exact_mod_cast this
 have hj:(0:Int)<2^j:=by have:=Nat.two_pow_pos j;exact_mod_cast this
 refine(Bs hi hx).bind fun ax n1 p eL dw ⟨hp,ep,_,_⟩=>?_
 refine(Bs hj (hx.agree dw eL)).bind fun bC dM q dU dd ⟨hq,eq,_,_⟩=>ai.pure ?_
 rw[I.bA dw hx.1]at eq
 have vj:=hp.agree dd dU
 have acR:p.l.den bC=x.l.den ρ/2^i:=by rw[I.bA dd hp.1,ep]
 obtain⟨X,bw⟩:=Int.eq_ofNat_of_zero_le (show 0<=x.l.den ρ by have:=hx.2.1;omega)
 have e:((p.l.smul (2^i)).sub (q.l.smul (2^j))).den bC=((x.l.den ρ).toNat&&&(2^j-2^i):Nat):=by
  rw[I.kS,I.j5,I.j5,acR,eq,bw,Int.toNat_natCast,Zx X i j Cm]
  have h1:2^j*(X/2^j)<=2^i*(X/2^i):=by
   have bu:X/2^j=X/2^i/2^(j-i):=by rw[Nat.div_div_eq_div_mul,<-Nat.pow_add];congr 2;omega
   have eK:2^j=2^i*2^(j-i):=by rw[<-Nat.pow_add];congr 1;omega
   rw[bu]
   conv=>lhs;rw[eK,Nat.mul_assoc]
   exact Nat.mul_le_mul_left _ (Nat.mul_div_le _ _)
  rw[Int.ofNat_sub h1]
  simp
 refine⟨⟨I.vP (I.ui vj.1) (I.ui hq.1),?_,?_⟩,e⟩
 ·cases hc:(q.lo==q.hi)with
  |true=>
   have hc:q.lo=q.hi:=by simpa using hc
   have h1:q.l.den bC=q.lo:=by have:=hq.2;omega
   simp only[cond_true,I.kS,I.j5,h1]
   have:=Int.mul_le_mul_of_nonneg_left vj.2.1 (Int.le_of_lt hi);omega
  |false=>simp only[cond_false,e];omega
 ·cases hc:(q.lo==q.hi)with
  |true=>
   have hc:q.lo=q.hi:=by simpa using hc
   have h1:q.l.den bC=q.lo:=by have:=hq.2;omega
   simp only[cond_true,I.kS,I.j5,h1]
   have:=Int.mul_le_mul_of_nonneg_left vj.2.2 (Int.le_of_lt hi);omega
  |false=>
   simp only[cond_false,e]
   have h2:(x.l.den ρ).toNat&&&(2^j-2^i)<=2^j-2^i:=Nat.and_le_right
   have h3:2^i<=2^j:=Nat.pow_le_pow_right (by omega) Cm
   have h4:((2^j-2^i:Nat):Int)=2^j-2^i:=by rw[Int.ofNat_sub h3];simp
   omega
end
end Go.bj

/- Integer operators of the model,as trees. -/
set_option linter.unusedVariables false
set_option linter.unusedSimpArgs false
namespace Go.bj
open M
def A.den (ρ:Env) (m:Nat->Nat):A->Value
 | .int k x=> .int k (x.l.den ρ)
 | .bool b=> .bool (b.den ρ)
 | .ptr b off=> .pointer (some ⟨m b,off,none⟩)
 | .lq b off aJ=> .pointer (some ⟨m b,off+(aJ.l.den ρ).toNat,none⟩)
 | .gptr g off=> .pointer (some ⟨g,off,none⟩)
 | .y9 g off aJ=> .pointer (some ⟨g,off+(aJ.l.den ρ).toNat,none⟩)
 | .slc b off len cap=> .slice (some ⟨m b,off,none⟩) len cap
 | .con v=>v
 | .str l=> .string (bb (U (l.den ρ)))
 | .rows _ _ code _ _=> .int .u8 (code.den ρ)
 | .sl b aL o ro len cap=>if cap.den ρ<0 then .slice none 0 0 else .slice (some ⟨m b,(o.den ρ).toNat+(ro.den ρ).toNat*aL,none⟩) (len.den ρ).toNat (cap.den ρ).toNat
 | .ep b aL o i j=> .pointer (some ⟨m b,(o.den ρ).toNat+(i.den ρ).toNat*aL+j,none⟩)
def yb (o ro len cap:Int):Prop:=(0<=o/\0<=ro/\0<=len/\len<=9223372036854775807)/\(-1<=cap/\ro+cap<=9223372036854775807)/\(cap<0->len=0)/\(0<=cap->len<=cap)
def A.ok (n nb:Nat) (ρ:Env):A->Prop
 | .int _ x=>x.ok n ρ
 | .bool b=>b.aX n
 | .ptr b _=>b<nb
 | .lq b _ aJ=>b<nb/\aJ.ok n ρ/\0<=aJ.lo
 | .gptr .. =>True
 | .y9 _ _ aJ=>aJ.ok n ρ/\0<=aJ.lo
 | .slc b .. =>b<nb
 | .con v=>v.oneCell'=true
 | .str l=>l.aX n/\0<=l.den ρ/\l.den ρ<=cy
 | .rows _ off code cap _=>(off.aX n/\code.aX n/\cap.aX n)/\(0<=code.den ρ/\code.den ρ<=b8)/\-1<=cap.den ρ/\cap.den ρ<=9223372036854775807
 | .sl b _ o ro len cap=>b<nb/\(o.aX n/\ro.aX n/\len.aX n/\cap.aX n)/\yb (o.den ρ) (ro.den ρ) (len.den ρ) (cap.den ρ)
 | .ep b _ o i _=>b<nb/\(o.aX n/\i.aX n)/\0<=o.den ρ/\0<=i.den ρ
theorem A.ok.ext {n n' nb ja:Nat} {ρ ad:Env} {a:A} (h:a.ok n nb ρ) (ha:agree n ρ ad) (hn:n<=n') (hb:nb<=ja):a.ok n' ja ad:=by
 cases a<;>simp only[A.ok]at h⊢
 ·exact h.agree ha hn
 ·exact aT.aX.mono hn h
 ·omega
 ·exact⟨by omega,h.2.1.agree ha hn,h.2.2⟩
 ·exact⟨h.1.agree ha hn,h.2⟩
 ·omega
 ·exact h
 ·exact⟨h.1.mono hn,by rw[I.bA ha h.1];exact h.2⟩
 ·obtain⟨⟨h1,h2,h3⟩,h4⟩:=h
  exact⟨⟨h1.mono hn,h2.mono hn,h3.mono hn⟩,by rw[I.bA ha h2,I.bA ha h3];exact h4⟩
 ·obtain⟨h1,⟨h2,h3,h4,h5⟩,h6⟩:=h
  exact⟨by omega,⟨h2.mono hn,h3.mono hn,h4.mono hn,h5.mono hn⟩,by rw[I.bA ha h2,I.bA ha h3,I.bA ha h4,I.bA ha h5];exact h6⟩
 ·obtain⟨h1,⟨h2,h3⟩,h4⟩:=h
  exact⟨by omega,⟨h2.mono hn,h3.mono hn⟩,by rw[I.bA ha h2,I.bA ha h3];exact h4⟩
theorem A.jl {n nb:Nat} {ρ ad:Env} {m m':Nat->Nat} {a:A} (h:a.ok n nb ρ) (ha:agree n ρ ad) (hm:∀b,b<nb->m' b=m b):a.den ad m'=a.den ρ m:=by
 cases a<;>simp only[A.ok]at h<;>simp only[A.den]
 ·rw[I.bA ha h.1]
 ·rw[aT.bA ha h]
 ·rw[hm _ h]
 ·rw[hm _ h.1,I.bA ha h.2.1.1]
 ·rw[I.bA ha h.1.1]
 ·rw[hm _ h]
 ·rw[I.bA ha h.1]
 ·rw[I.bA ha h.1.2.1]
 ·obtain⟨h1,⟨h2,h3,h4,h5⟩,h6⟩:=h
  rw[hm _ h1,I.bA ha h2,I.bA ha h3,I.bA ha h4,I.bA ha h5]
 ·rw[hm _ h.1,I.bA ha h.2.1.1,I.bA ha h.2.1.2]
theorem A.Gi {n nb:Nat} {ρ:Env} {m:Nat->Nat} {a:A} (h:a.ok n nb ρ):(a.den ρ m).oneCell'=true:=by
 cases a<;>first|rfl|exact h|(simp only[A.den];split<;>rfl)
def W.den (ρ:Env) (m:Nat->Nat):W->Value
 | .one a=>a.den ρ m
 | .agg l=> .agg (l.map (A.den ρ m)).toArray
def W.ok (n nb:Nat) (ρ:Env):W->Prop
 | .one a=>a.ok n nb ρ
 | .agg l=>∀a∈l,a.ok n nb ρ
theorem W.ok.ext {n n' nb ja:Nat} {ρ ad:Env} {x:W} (h:x.ok n nb ρ) (ha:agree n ρ ad) (hn:n<=n') (hb:nb<=ja):x.ok n' ja ad:=by
 cases x with
 |one a=>exact A.ok.ext h ha hn hb
 |agg l=>exact fun a h'=>(h a h').ext ha hn hb
theorem rp {n nb:Nat} {ρ ad:Env} {m m':Nat->Nat} {l:List A} (h:∀a∈l,a.ok n nb ρ) (ha:agree n ρ ad) (hm:∀b,b<nb->m' b=m b):l.map (A.den ad m')=l.map (A.den ρ m):=
 List.map_congr_left fun a h'=>A.jl (h a h') ha hm
theorem W.jl {n nb:Nat} {ρ ad:Env} {m m':Nat->Nat} {x:W} (h:x.ok n nb ρ) (ha:agree n ρ ad) (hm:∀b,b<nb->m' b=m b):x.den ad m'=x.den ρ m:=by
 cases x with
 |one a=>exact A.jl h ha hm
 |agg l=>simp only[W.den,rp h ha hm]
def V.rel (ρ:Env) (m:Nat->Nat):V->Value->Prop
 | .w x,v=>v=x.den ρ m
 | .e4 l,v=>v= .tuple (l.map (W.den ρ m)).toArray
 | .any,_=>True
 | .mi b len lo,v=>∃c:Nat,lo<=c/\v= .slice (some ⟨m b,0,none⟩) len c
 | .mB f gG,v=>v= .func (.func f) #[] (gG.map (A.den ρ m)).toArray
def V.ok (n nb:Nat) (ρ:Env):V->Prop
 | .w x=>x.ok n nb ρ
 | .e4 l=>∀x∈l,x.ok n nb ρ
 | .any=>True
 | .mi b _ _=>b<nb
 | .mB _ gG=>∀a∈gG,A.ok n nb ρ a
theorem V.ok.ext {n n' nb ja:Nat} {ρ ad:Env} {x:V} (h:x.ok n nb ρ) (ha:agree n ρ ad) (hn:n<=n') (hb:nb<=ja):x.ok n' ja ad:=by
 cases x with
 |w x=>exact W.ok.ext h ha hn hb
 |e4 l=>exact fun a h'=>(h a h').ext ha hn hb
 |any=>trivial
 |mi b len lo=>exact Nat.lt_of_lt_of_le h hb
 |mB f gG=>exact fun a h'=>(h a h').ext ha hn hb
theorem V.rel.ext {n nb:Nat} {ρ ad:Env} {m m':Nat->Nat} {x:V} {v:Value} (hr:x.rel ρ m v) (h:x.ok n nb ρ) (ha:agree n ρ ad) (hm:∀b,b<nb->m' b=m b):x.rel ad m' v:=by
 cases x with
 |w x=>simp only[V.rel]at hr⊢;rw[W.jl h ha hm];exact hr
 |e4 l=>simp only[V.rel]at hr⊢;rw[hr];congr 2;exact(List.map_congr_left fun a h'=>W.jl (h a h') ha hm).symm
 |any=>trivial
 |mi b len lo=>obtain⟨c,h1,h2⟩:=hr;exact⟨c,h1,by rw[hm b h];exact h2⟩
 |mB f gG=>simp only[V.rel]at hr⊢;rw[hr];congr 2;exact(List.map_congr_left fun a h'=>A.jl (h a h') ha hm).symm
section
variable {S:Nat->List Int->List Int->Prop} {L:V->Env->Prop} {n:Nat} {ρ:Env}
def Eh (s:Int):List (Int×Nat)->Bool
 |[]=>true
 |(k,_)::r=>k% s==0&&Eh s r
theorem P3 {s:Int} (ρ:Env):∀{l},Eh s l=true->fV ρ l% s=0
 |[],_=>by simp[fV]
 |(k,i)::r,h=>by
  simp only[Eh,Bool.and_eq_true,beq_iff_eq]at h
  have h1:=P3 ρ h.2
  obtain⟨c,hc⟩:=Int.dvd_of_emod_eq_zero h.1
  obtain⟨d,hd⟩:=Int.dvd_of_emod_eq_zero h1
  simp only[fV,hc,hd,Int.mul_assoc]
  rw[<-Int.mul_add];exact Int.mul_emod_right _ _
def I.s8 (s:Int) (l:I):Bool:=l.c% s==0&&Eh s l.ts
theorem I.H3 {s:Int} (ρ:Env) {l:I} (h:l.s8 s=true):l.den ρ% s=0:=by
 simp only[s8,Bool.and_eq_true,beq_iff_eq]at h
 have h1:=P3 ρ h.2
 obtain⟨c,hc⟩:=Int.dvd_of_emod_eq_zero h.1
 obtain⟨d,hd⟩:=Int.dvd_of_emod_eq_zero h1
 simp only[den,hc,hd]
 rw[<-Int.mul_add];exact Int.mul_emod_right _ _
def uI (h:Int):Nat:=2^(Nat.log2 h.toNat+1)
theorem P1 {x h:Int} (hx:x<=h) (h0:0<=x):x<(uI h:Int):=by
 have:h.toNat<2^(Nat.log2 h.toNat+1):=Nat.lt_log2_self
 unfold uI;omega
theorem dr {c:Bool} {α:Type} {x:M α} {R:Env->Nat->α->Prop} (h:c=true->ai S L x n ρ R):ai S L (cond c x fail) n ρ R:=by
 cases c with
 |true=>exact h rfl
 |false=>exact ai.fail
def ke (k:IntKind):Int:=two k-half k
theorem F5 (k:IntKind):ke k<=two k:=by cases k<;>decide
theorem aiW (k:IntKind):∃i:Nat,ke k=2^i/\i<=k.bits:=by cases k<;>first|exact⟨7,by decide,by decide⟩|exact⟨8,by decide,by decide⟩|exact⟨15,by decide,by decide⟩|exact⟨16,by decide,by decide⟩|exact⟨31,by decide,by decide⟩|exact⟨32,by decide,by decide⟩|exact⟨63,by decide,by decide⟩|exact⟨64,by decide,by decide⟩
def Eg (x:I):List Nat->Nat
 |[]=>1
 |i::r=>cond (x.s8 (2^i)) (2^i) (Eg x r)
def orM (k:IntKind) (x y:bh):M bh:=
 cond (!(decide (0<=x.lo)&&decide (0<=y.lo)&&decide (x.hi<ke k)&&decide (y.hi<ke k))) (cond (decide (0<=x.lo)&&decide (x.hi<ke k)) (
  let s:=Eg x.l [24,18,16,12,8,6,4]
  cond (x.l.s8 s&&decide (y.hi<ke k)&&decide (x.hi+s<ke k)) (bind (eE 30 [y.l,.const s]) fun _=>pure ⟨x.l.add y.l,x.lo,x.hi+s⟩) fail) fail) <|
 cond (x.l.s8 (uI y.hi)) (pure ⟨x.l.add y.l,x.lo+y.lo,cond (decide (x.hi+y.hi<two k)) (x.hi+y.hi) (two k-1)⟩) <|
 cond (y.l.s8 (uI x.hi)) (pure ⟨x.l.add y.l,x.lo+y.lo,cond (decide (x.hi+y.hi<two k)) (x.hi+y.hi) (two k-1)⟩) (yK .or k x y)
theorem Dd {X Y s:Nat} (hs:∃i,s=2^i) (hx:X% s=0) (hy:Y<s):X|||Y=X+Y:=by
 obtain⟨i,rfl⟩:=hs
 have e:=Nat.div_add_mod X (2^i)
 rw[hx,Nat.add_zero]at e
 rw[<-e,<-Nat.two_pow_add_eq_or_of_lt hy]
theorem NG {k:IntKind} {z:Int} (h0:0<=z) (h1:z<ke k):k.wrap z=z:=by
 rw[Hl]
 have hh:0<=half k:=by cases k<;>decide
 unfold ke at h1
 rw[Int.emod_eq_of_lt (by omega) (by omega)]
 omega
theorem Ex {k:IntKind} {x y:Int} (hx:0<=x) (hy:0<=y) (hx2:x<ke k) (Le:y<ke k):cc .or k x y=((x.toNat|||y.toNat:Nat):Int):=by
 have hl:=F5 k
 have Lb:x<2^k.bits:=by rw[<-sS];omega
 have Lf:y<2^k.bits:=by rw[<-sS];omega
 obtain⟨i,hi,_⟩:=aiW k
 obtain⟨X,rfl⟩:=Int.eq_ofNat_of_zero_le hx
 obtain⟨Y,rfl⟩:=Int.eq_ofNat_of_zero_le hy
 have bw:X<2^i:=by rw[hi]at hx2;exact_mod_cast hx2
 have hY:Y<2^i:=by rw[hi]at Le;exact_mod_cast Le
 have h1:X|||Y<2^i:=Nat.or_lt_two_pow bw hY
 unfold cc
 simp only
 rw[aaV,Int.emod_eq_of_lt hx Lb,Int.emod_eq_of_lt hy Lf]
 simp only[Int.toNat_natCast]
 exact NG (by omega) (by rw[hi];exact_mod_cast h1)
theorem It {k:IntKind} {x y:Int} (hx:0<=x) (hy:0<=y) (hx2:x<ke k) (Le:y<two k):cc .and k x y=((x.toNat&&&y.toNat:Nat):Int):=by
 have hl:=F5 k
 have Lb:x<2^k.bits:=by rw[<-sS];omega
 have Lf:y<2^k.bits:=by rw[<-sS];omega
 obtain⟨X,rfl⟩:=Int.eq_ofNat_of_zero_le hx
 obtain⟨Y,rfl⟩:=Int.eq_ofNat_of_zero_le hy
 have h1:X&&&Y<=X:=Nat.and_le_left
 unfold cc
 simp only
 rw[bv_and,Int.emod_eq_of_lt hx Lb,Int.emod_eq_of_lt hy Lf]
 simp only[Int.toNat_natCast]
 exact NG (by omega) (by omega)
theorem toNat_mod {x:Int} {s:Nat} (hx:0<=x) (h:x% (s:Int)=0):x.toNat% s=0:=by
 obtain⟨X,rfl⟩:=Int.eq_ofNat_of_zero_le hx
 simp only[Int.toNat_natCast]
 exact_mod_cast h
theorem ak1 {k:IntKind} {x y:bh} (hx:x.ok n ρ) (hy:y.ok n ρ):ai S L (orM k x y) n ρ fun ad n' q=>q.ok n' ad/\q.l.den ad=cc .or k (x.l.den ρ) (y.l.den ρ):=by
 unfold orM
 cases hc:(!(decide (0<=x.lo)&&decide (0<=y.lo)&&decide (x.hi<ke k)&&decide (y.hi<ke k)))with
 |true=>
  simp only[cond_true]
  refine dr fun h1=>dr fun h2=>fF fun h3=>ai.pure ?_
  simp only[Bool.and_eq_true,decide_eq_true_eq]at h1 h2
  simp only[List.map_cons,List.map_nil,ab,I.aK]at h3
  obtain⟨⟨h4,h6⟩,h5⟩:=h2
  have yN:=hx.2;have QD:=hy.2
  generalize hs:Eg x.l [24,18,16,12,8,6,4]=s at*
  have hm:=I.H3 ρ h4
  have agW:∃i,s=2^i:=by
   rw[<-hs]
   generalize [24,18,16,12,8,6,4]=l
   induction l with
   |nil=>exact⟨0,rfl⟩
   |cons i r ih=>
    unfold Eg
    cases x.l.s8 (2^i)with
    |true=>exact⟨i,rfl⟩
    |false=>exact ih
  have e:x.l.den ρ+y.l.den ρ=cc .or k (x.l.den ρ) (y.l.den ρ):=by
   rw[Ex (by omega) h3.1 (by omega) (by omega),Dd agW (toNat_mod (by omega) hm) (by omega)];omega
  exact⟨⟨I.sK hx.1 hy.1,by simp only[I.den_add];omega,by simp only[I.den_add];omega⟩,by rw[I.den_add];exact e⟩
 |false=>
  simp only[Bool.not_eq_false',Bool.and_eq_true,decide_eq_true_eq]at hc
  obtain⟨⟨⟨h1,h2⟩,uZ⟩,ayK⟩:=hc
  have KC:=F5 k
  have h3:x.hi<two k:=by omega
  have h4:y.hi<two k:=by omega
  have yN:=hx.2;have QD:=hy.2
  have hb:=Ex (k:=k) (x:=x.l.den ρ) (y:=y.l.den ρ) (by omega) (by omega) (by omega) (by omega)
  have hlt:cc .or k (x.l.den ρ) (y.l.den ρ)<two k:=by
   have e1:x.l.den ρ<2^k.bits:=by rw[<-sS];omega
   have e2:y.l.den ρ<2^k.bits:=by rw[<-sS];omega
   have h1:(x.l.den ρ).toNat|||(y.l.den ρ).toNat<2^k.bits:=Nat.or_lt_two_pow (by
    have:(x.l.den ρ).toNat=x.l.den ρ:=by omega
    exact_mod_cast (show((x.l.den ρ).toNat:Int)<2^k.bits by omega)) (by exact_mod_cast (show((y.l.den ρ).toNat:Int)<2^k.bits by omega))
   rw[hb,sS]
   exact_mod_cast h1
  have ok:∀q:Int,q=cc .or k (x.l.den ρ) (y.l.den ρ)->x.l.den ρ+y.l.den ρ=q->(bh.mk (x.l.add y.l) (x.lo+y.lo) (cond (decide (x.hi+y.hi<two k)) (x.hi+y.hi) (two k-1))).ok n ρ:=fun q sd nT=>⟨I.sK hx.1 hy.1,by simp only[I.den_add];omega,by
   simp only[I.den_add]
   cases hd:decide (x.hi+y.hi<two k)with
   |true=>simp only[cond_true];omega
   |false=>simp only[cond_false];omega⟩
  simp only[cond_false]
  cases h5:x.l.s8 (uI y.hi)with
  |true=>
   have hm:=I.H3 ρ h5
   have hl:=P1 QD.2 (by omega)
   have hs:x.l.den ρ+y.l.den ρ=cc .or k (x.l.den ρ) (y.l.den ρ):=by
    rw[hb,Dd (s:=uI y.hi) ⟨_,rfl⟩ (toNat_mod (by omega) hm) (by omega)];omega
   exact ai.pure ⟨ok _ rfl hs,by rw[I.den_add];exact hs⟩
  |false=>
   simp only[cond_false]
   cases h6:y.l.s8 (uI x.hi)with
   |true=>
    have hm:=I.H3 ρ h6
    have hl:=P1 yN.2 (by omega)
    have hs:x.l.den ρ+y.l.den ρ=cc .or k (x.l.den ρ) (y.l.den ρ):=by
     rw[hb,Nat.or_comm,Dd (s:=uI x.hi) ⟨_,rfl⟩ (toNat_mod (by omega) hm) (by omega)];omega
    exact ai.pure ⟨ok _ rfl hs,by rw[I.den_add];exact hs⟩
   |false=>exact Ey
def Ek (k:IntKind) (x:bh) (c:Int):M bh:=
 match Ga c with
 |some (a,b)=>cond (!(decide (0<=x.lo)&&decide (x.hi<ke k)&&decide (c<two k)&&decide (0<=c))) fail (andM x a b)
 |none=>cond (c==0&&decide (0<=x.lo)&&decide (x.hi<ke k)) (pure (.const 0)) fail
theorem P8 {k:IntKind} {x:bh} {c:Int} (hx:x.ok n ρ):ai S L (Ek k x c) n ρ fun ad n' q=>q.ok n' ad/\q.l.den ad=cc .and k (x.l.den ρ) c:=by
 unfold Ek
 have yN:=hx.2
 cases hm:Ga c with
 |some p=>
  obtain⟨a,b⟩:=p
  simp only
  cases hc:(!(decide (0<=x.lo)&&decide (x.hi<ke k)&&decide (c<two k)&&decide (0<=c)))with
  |true=>exact ai.fail
  |false=>
   simp only[Bool.not_eq_false',Bool.and_eq_true,decide_eq_true_eq]at hc
   obtain⟨⟨⟨h1,h2⟩,h3⟩,h4⟩:=hc
   obtain⟨i,j,Cm,rfl,rfl,Fk,_,_⟩:=ajh hm
   refine(Zw Cm hx h1).mono fun ad n' q _ _ ⟨ho,he⟩=>⟨ho,?_⟩
   rw[he,It (by omega) h4 (by omega) h3]
   congr 2
   have h3:2^i<=2^j:=Nat.pow_le_pow_right (by omega) Cm
   have h5:((2^j-2^i:Nat):Int)=2^j-2^i:=by rw[Int.ofNat_sub h3];simp
   omega
 |none=>
  simp only
  cases hc:(c==0&&decide (0<=x.lo)&&decide (x.hi<ke k))with
  |false=>exact ai.fail
  |true=>
   simp only[Bool.and_eq_true,beq_iff_eq,decide_eq_true_eq]at hc
   obtain⟨⟨rfl,h1⟩,h2⟩:=hc
   refine ai.pure ⟨bh.lI _ _ _,?_⟩
   rw[It (by omega) (Int.le_refl _) (by omega) (by cases k<;>decide)]
   simp[bh.const,I.aK]
theorem aaL (k:IntKind) (x y:Int):cc .and k x y=cc .and k y x:=by simp only[cc,BitVec.and_comm]
def H7 (k:IntKind) (x y:bh):M bh:=
 match y.l.dg,x.l.dg with
 |some c,_=>Ek k x c
 |none,some c=>Ek k y c
 |none,none=>yK .and k x y
theorem Zv {k:IntKind} {x y:bh} (hx:x.ok n ρ) (hy:y.ok n ρ):ai S L (H7 k x y) n ρ fun ad n' q=>q.ok n' ad/\q.l.den ad=cc .and k (x.l.den ρ) (y.l.den ρ):=by
 unfold H7
 cases h1:y.l.dg with
 |some c=>simp only[I.gq h1];exact P8 hx
 |none=>
  cases h2:x.l.dg with
  |some c=>simp only[I.gq h2];rw[aaL];exact P8 hy
  |none=>exact Ey
def MX (x y:bh):M bh:=fun n k=> .shr n x.l y.l 0 x.hi (k ⟨.var n,0,x.hi⟩ (n+1))
theorem anT {x y:bh} (hx:x.ok n ρ) (h0:0<=x.lo):ai S L (MX x y) n ρ fun ad n' q=>q.ok n' ad/\q.l.den ad=x.l.den ρ/2^(y.l.den ρ).toNat:=by
 intro A k hk
 simp only[MX,T.holds]at hk
 have hp:(0:Int)<2^(y.l.den ρ).toNat:=by have:=Nat.two_pow_pos (y.l.den ρ).toNat;exact_mod_cast this
 have b0:0<=x.l.den ρ:=by have:=hx.2;omega
 have a1:0<=x.l.den ρ/2^(y.l.den ρ).toNat:=Int.ediv_nonneg b0 (Int.le_of_lt hp)
 have a2:x.l.den ρ/2^(y.l.den ρ).toNat<=x.hi:=Int.le_trans (Int.ediv_le_self _ b0) hx.2.2
 exact⟨_,n+1,_,Nat.le_succ _,agree.cJ _ _ _,⟨⟨I.ec (Nat.lt_succ_self n),by simp only[I.cg,iy];exact a1,by simp only[I.cg,iy];exact a2⟩,by simp only[I.cg,iy]⟩,hk _ a1 a2 rfl⟩
def isInt (k:IntKind) (x:M bh):M A:=bind x fun r=>pure (.int k r)
def vF (x:bh):M bh:=cond (decide (0<=x.lo)) (pure x) (bind (eE 77 [x.l]) fun _=>pure ⟨x.l,0,x.hi⟩)
def LZ (x y:bh):M bh:=match x.l.dg,y.l.dg with
 |none,none=>bind (vF x) fun x=>bind (vF y) fun y=>mulM x y
 |_,_=>mulM x y
def Is (op:BinOp) (k:IntKind) (x:bh) (aQ:IntKind) (y:bh):M A:=
 match op with
 | .shl=>match y.l.dg with
  |some c=>cond (decide (0<=c)) (let s:Int:=2^min c.toNat k.bits;isInt k (sU k ⟨x.l.smul s,x.lo*s,x.hi*s⟩)) fail
  |none=>cond (decide (0<=x.lo)&&decide (0<=y.lo)&&decide (y.hi<=62)&&decide (x.hi*2^y.hi.toNat<ke k)) (isInt k (bind (dZ 37 [x.l,y.l] 0 (x.hi*2^y.hi.toNat)) fun l=>pure ⟨l,0,x.hi*2^y.hi.toNat⟩)) fail
 | .shr=>match y.l.dg with
  |some c=>cond (decide (0<=c)) (isInt k (rT x (2^min c.toNat k.bits))) fail
  |none=>cond (decide (0<=x.lo)&&decide (0<=y.lo)&&decide (y.hi<=(k.bits:Int))) (isInt k (MX x y)) fail
 | .add=>cond (decide (k=aQ)) (isInt k (sU k ⟨x.l.add y.l,x.lo+y.lo,x.hi+y.hi⟩)) fail
 | .sub=>cond (decide (k=aQ)) (isInt k (sU k ⟨x.l.sub y.l,x.lo-y.hi,x.hi-y.lo⟩)) fail
 | .mul=>cond (decide (k=aQ)) (isInt k (bind (LZ x y) (sU k))) fail
 | .quo=>match y.l.dg with
  |some c=>cond (decide (k=aQ)&&decide (0<c)) (bind (vF x) fun x=>isInt k (bind (rT x c) (sU k))) fail
  |none=>cond (decide (k=aQ)) (bind (vF x) fun x=>bind (eE 36 [y.l]) fun _=>isInt k (bind (bind (dZ 76 [x.l,y.l] 0 x.hi) fun l=>pure ⟨l,0,x.hi⟩) (sU k))) fail
 | .rem=>match y.l.dg with
  |some c=>cond (decide (k=aQ)&&decide (0<c)) (bind (vF x) fun x=>isInt k (LY x c)) fail
  |none=>cond (decide (k=aQ)) (bind (vF x) fun x=>bind (eE 36 [y.l]) fun _=>isInt k (bind (dZ 38 [x.l,y.l] 0 (cond (decide (y.hi-1<=x.hi)) (y.hi-1) x.hi)) fun l=>pure ⟨l,0,cond (decide (y.hi-1<=x.hi)) (y.hi-1) x.hi⟩)) fail
 | .and=>cond (decide (k=aQ)) (isInt k (H7 k x y)) fail
 | .or=>cond (decide (k=aQ)) (isInt k (orM k x y)) fail
 | .xor=>cond (decide (k=aQ)) (isInt k (yK .xor k x y)) fail
 | .andNot=>cond (decide (k=aQ)) (isInt k (yK .andNot k x y)) fail
 | .eql=>cond (decide (k=aQ)) (pure (.bool (.mkEq x y))) fail
 | .neq=>cond (decide (k=aQ)) (pure (.bool (.mkNot (.mkEq x y)))) fail
 | .lss=>cond (decide (k=aQ)) (pure (.bool (.mkLt x y))) fail
 | .leq=>cond (decide (k=aQ)) (pure (.bool (.mkLe x y))) fail
 | .gtr=>cond (decide (k=aQ)) (pure (.bool (.mkLt y x))) fail
 | .geq=>cond (decide (k=aQ)) (pure (.bool (.mkLe y x))) fail
theorem nm {k:IntKind} {x:M bh} {R:Env->Nat->A->Prop} {v:Int} (h:ai S L x n ρ fun ad n' q=>q.ok n' ad/\q.l.den ad=v)
 (hR:∀ad n' (q:bh),n<=n'->agree n ρ ad->q.ok n' ad->q.l.den ad=v->R ad n' (.int k q)):ai S L (isInt k x) n ρ R:=
 h.bind fun ad n' q hn ha ⟨ho,he⟩=>ai.pure (hR ad n' q hn ha ho he)
theorem z8 {x:bh} (hx:x.ok n ρ):ai S L (vF x) n ρ fun ad n' q=>q.ok n' ad/\q.l=x.l/\q.hi=x.hi/\0<=q.lo/\x.l.den ad=x.l.den ρ:=by
 unfold vF
 cases h:decide (0<=x.lo)with
 |true=>exact ai.pure ⟨hx,rfl,rfl,of_decide_eq_true h,rfl⟩
 |false=>
  refine fF fun hk=>ai.pure ⟨⟨hx.1,?_,hx.2.2⟩,rfl,rfl,Int.le_refl _,rfl⟩
  simpa [ab,Bn]using hk
theorem ajw {x y:bh} (hx:x.ok n ρ) (hy:y.ok n ρ):ai S L (LZ x y) n ρ fun ad n' q=>q.ok n' ad/\q.l.den ad=x.l.den ρ*y.l.den ρ:=by
 unfold LZ
 split
 ·refine(z8 hx).bind fun ax n1 fq eL dw ⟨jH,ex,_,_,oG⟩=>(z8 (hy.agree dw eL)).bind fun bC dM jf dU dd ⟨Ld,acV,_,_,acW⟩=>(U6 (jH.agree dd dU) Ld).mono fun fr mg q _ _ ⟨h1,h2⟩=>⟨h1,?_⟩
  rw[h2,acV,acW,I.bA dw hy.1,I.bA dd jH.1,ex,oG]
 ·exact U6 hx hy
theorem aaK {nb:Nat} {m:Nat->Nat} (P:Program) {op:BinOp} {k aQ:IntKind} {x y:bh} (t:TypeId) (hx:x.ok n ρ) (hy:y.ok n ρ):
 ai S L (Is op k x aQ y) n ρ fun ad n' a=>a.ok n' nb ad/\∀w,(binOp op t (.int k (x.l.den ρ)) (.int aQ (y.l.den ρ))).run P w= .ok (a.den ad m) w:=by
 have p2:∀s:Nat,(0:Int)<2^s:=fun s=>by have:=Nat.two_pow_pos s;exact_mod_cast this
 cases op<;>simp only[Is]
 case shl=>
  cases hc:y.l.dg with
  |none=>
   refine dr fun h0=>?_
   simp only[Bool.and_eq_true,decide_eq_true_eq]at h0
   obtain⟨⟨⟨h1,h2⟩,h3⟩,h4⟩:=h0
   have xp:=hx.2;have vl:=hy.2
   have hp:=p2 (y.l.den ρ).toNat
   have e1:(0:Int)<=x.l.den ρ*2^(y.l.den ρ).toNat:=Int.mul_nonneg (by omega) (Int.le_of_lt hp)
   have e2:x.l.den ρ*2^(y.l.den ρ).toNat<=x.hi*2^y.hi.toNat:=Int.mul_le_mul xp.2 (by
    have:=Nat.pow_le_pow_right (n:=2) (by decide) (show(y.l.den ρ).toNat<=y.hi.toNat by omega)
    exact_mod_cast this) (Int.le_of_lt hp) (by omega)
   have hf:aA 37 ([x.l,y.l].map (·.den ρ))=x.l.den ρ*2^(y.l.den ρ).toNat:=rfl
   refine nm (v:=x.l.den ρ*2^(y.l.den ρ).toNat) ((eZ (by rw[hf];exact e1) (by rw[hf];exact e2)).bind fun ax n1 l _ _ ⟨g1,g2⟩=>ai.pure ⟨⟨g1,by simp only;rw[g2,hf];exact e1,by simp only;rw[g2,hf];exact e2⟩,by simp only;rw[g2,hf]⟩) fun ad n' q _ _ ho he=>⟨ho,fun w=>?_⟩
   simp only[A.den,he,binOp,Op.shift]
   have afC:(y.l.den ρ).toNat<=k.bits∨x.l.den ρ=0:=by
    rcases Nat.le_total (y.l.den ρ).toNat k.bits with h|h
    ·exact .inl h
    ·refine .inr ?_
     have h5:x.l.den ρ*2^(y.l.den ρ).toNat<ke k:=by omega
     have h6:=F5 k
     rw[sS]at h6
     have h7:(2:Int)^k.bits<=2^(y.l.den ρ).toNat:=by
      have:=Nat.pow_le_pow_right (n:=2) (by decide) h
      exact_mod_cast this
     rcases Int.lt_or_le 0 (x.l.den ρ)with cv|cv
     ·have:(1:Int)*2^(y.l.den ρ).toNat<=x.l.den ρ*2^(y.l.den ρ).toNat:=Int.mul_le_mul_of_nonneg_right (by omega) (Int.le_of_lt hp)
      omega
     ·omega
   rw[if_neg (by omega)]
   rcases afC with h|h
   ·rw[show min (y.l.den ρ).toNat k.bits=(y.l.den ρ).toNat by omega]
    simp[NG e1 (show x.l.den ρ*2^(y.l.den ρ).toNat<ke k by omega)]
   ·have hw:k.wrap 0=0:=by cases k<;>decide
    simp[h,hw]
  |some c=>
   refine dr fun h0=>?_
   simp only[decide_eq_true_eq]at h0
   have hp:=p2 (min c.toNat k.bits)
   refine nm (vU (x:=⟨x.l.smul (2^min c.toNat k.bits),x.lo*2^min c.toNat k.bits,x.hi*2^min c.toNat k.bits⟩) ⟨I.ui hx.1,?_,?_⟩) fun ad n' q _ _ ho he=>⟨ho,fun w=>?_⟩
   ·simp only[I.j5];rw[Int.mul_comm];exact Int.mul_le_mul_of_nonneg_left hx.2.1 (Int.le_of_lt hp)
   ·simp only[I.j5];rw[Int.mul_comm x.hi];exact Int.mul_le_mul_of_nonneg_left hx.2.2 (Int.le_of_lt hp)
   ·simp only[A.den,he,I.j5,I.gq hc,binOp,Op.shift]
    rw[if_neg (by omega)]
    simp[Int.mul_comm]
 case shr=>
  cases hc:y.l.dg with
  |some c=>
   refine dr fun h0=>?_
   simp only[decide_eq_true_eq]at h0
   have hp:=p2 (min c.toNat k.bits)
   refine nm ((Bs hp hx).mono fun _ _ q _ _ h=>⟨h.1,h.2.1⟩) fun ad n' q _ _ ho he=>⟨ho,fun w=>?_⟩
   simp only[A.den,he,I.gq hc,binOp,Op.shift]
   rw[if_neg (by omega)]
   simp[Int.fdiv_eq_ediv_of_nonneg _ (Int.le_of_lt hp)]
  |none=>
   refine dr fun h0=>?_
   simp only[Bool.and_eq_true,decide_eq_true_eq]at h0
   refine nm (anT hx h0.1.1) fun ad n' q _ _ ho he=>⟨ho,fun w=>?_⟩
   have vl:=hy.2
   simp only[A.den,he,binOp,Op.shift]
   rw[if_neg (by omega),show min (y.l.den ρ).toNat k.bits=(y.l.den ρ).toNat by omega]
   simp[Int.fdiv_eq_ediv_of_nonneg _ (Int.le_of_lt (p2 _))]
 case add=>
  refine dr fun h0=>?_
  simp only[decide_eq_true_eq]at h0;subst h0
  have xp:=hx.2;have vl:=hy.2
  refine nm (vU (x:=⟨x.l.add y.l,x.lo+y.lo,x.hi+y.hi⟩) ⟨I.sK hx.1 hy.1,by simp only[I.den_add];omega,by simp only[I.den_add];omega⟩) fun ad n' q _ _ ho he=>⟨ho,fun w=>?_⟩
  simp[A.den,he,I.den_add,binOp,Op.intArith]
 case sub=>
  refine dr fun h0=>?_
  simp only[decide_eq_true_eq]at h0;subst h0
  have xp:=hx.2;have vl:=hy.2
  refine nm (vU (x:=⟨x.l.sub y.l,x.lo-y.hi,x.hi-y.lo⟩) ⟨I.vP hx.1 hy.1,by simp only[I.kS];omega,by simp only[I.kS];omega⟩) fun ad n' q _ _ ho he=>⟨ho,fun w=>?_⟩
  simp[A.den,he,I.kS,binOp,Op.intArith]
 case mul=>
  refine dr fun h0=>?_
  simp only[decide_eq_true_eq]at h0;subst h0
  refine nm (v:=k.wrap (x.l.den ρ*y.l.den ρ)) ((ajw hx hy).bind fun ax n1 p _ _ ⟨hp,ep⟩=>by rw[<-ep];exact vU hp) fun ad n' q _ _ ho he=>⟨ho,fun w=>?_⟩
  simp[A.den,he,binOp,Op.intArith]
 case quo=>
  cases hc:y.l.dg with
  |none=>
   refine dr fun h0=>(z8 hx).bind fun bK n0 fq ma qC ⟨jH,ex,Jh,qQ,oG⟩=>fF fun hk=>?_
   have h0:=of_decide_eq_true h0
   subst h0
   simp only[List.map_cons,List.map_nil,ab]at hk
   have CO:=I.bA qC hy.1
   have xp:=jH.2
   have e1:=Int.ediv_nonneg (show 0<=fq.l.den bK by omega) (Int.le_of_lt hk)
   have bu:fq.l.den bK/y.l.den bK<=fq.l.den bK:=by
    have h5:=Int.ediv_le_self (y.l.den bK) (show 0<=fq.l.den bK by omega)
    exact h5
   have eK:fq.l.den bK/y.l.den bK<=fq.hi:=by omega
   have hf:aA 76 ([fq.l,y.l].map (·.den bK))=fq.l.den bK/y.l.den bK:=rfl
   refine nm (v:=k.wrap (fq.l.den bK/y.l.den bK)) (((eZ (by rw[hf];exact e1) (by rw[hf];exact eK)).bind fun ax n1 l _ _ ⟨g1,g2⟩=>ai.pure (R:=fun ad n' (q:bh)=>q.ok n' ad/\q.l.den ad=fq.l.den bK/y.l.den bK) ⟨⟨g1,by simp only;rw[g2,hf];exact e1,by simp only;rw[g2,hf];exact eK⟩,by simp only;rw[g2,hf]⟩).bind fun ax n1 p _ _ ⟨hp,ep⟩=>by rw[<-ep];exact vU hp) fun ad n' q _ _ ho he=>⟨ho,fun w=>?_⟩
   simp only[A.den,he,binOp,Op.intDiv]
   have ahx:0<y.l.den ρ:=CO▸hk
   have oS:0<=x.l.den ρ:=by rw[<-oG,<-ex];omega
   rw[CO,ex,oG,if_neg (by simp),if_neg (by omega),Int.tdiv_eq_ediv_of_nonneg oS]
   simp
  |some c=>
   refine dr fun h0=>(z8 hx).bind fun bK n0 fq ma qC ⟨jH,ex,Jh,qQ,oG⟩=>?_
   simp only[Bool.and_eq_true,decide_eq_true_eq]at h0
   obtain⟨h0,h1⟩:=h0
   subst h0
   have xp:=jH.2
   refine nm (v:=k.wrap (fq.l.den bK/c)) ((Bs h1 jH).bind fun ax n1 p _ _ ⟨hp,ep,_⟩=>by rw[<-ep];exact vU hp) fun ad n' q _ _ ho he=>⟨ho,fun w=>?_⟩
   have oS:0<=x.l.den ρ:=by rw[<-oG,<-ex];omega
   simp only[A.den,he,I.gq hc,binOp,Op.intDiv]
   rw[ex,oG,if_neg (by simp),if_neg (by omega),Int.tdiv_eq_ediv_of_nonneg oS]
   simp
 case rem=>
  cases hc:y.l.dg with
  |none=>
   refine dr fun h0=>(z8 hx).bind fun bK n0 fq ma qC ⟨jH,ex,Jh,qQ,oG⟩=>fF fun hk=>?_
   have h0:=of_decide_eq_true h0
   subst h0
   simp only[List.map_cons,List.map_nil,ab]at hk
   have CO:=I.bA qC hy.1
   have xp:=jH.2;have vl:=(hy.agree qC ma).2
   have e1:=Int.emod_nonneg (fq.l.den bK) (show y.l.den bK≠0 by omega)
   have e2:=Int.emod_lt_of_pos (fq.l.den bK) hk
   have bu:fq.l.den bK% y.l.den bK<=fq.l.den bK:=by
    have h5:=Int.mul_ediv_add_emod (fq.l.den bK) (y.l.den bK)
    have h6:=Int.mul_nonneg (Int.le_of_lt hk) (Int.ediv_nonneg (show 0<=fq.l.den bK by omega) (Int.le_of_lt hk))
    omega
   have hf:aA 38 ([fq.l,y.l].map (·.den bK))=fq.l.den bK% y.l.den bK:=rfl
   have eK:fq.l.den bK% y.l.den bK<=cond (decide (y.hi-1<=fq.hi)) (y.hi-1) fq.hi:=by
    cases decide (y.hi-1<=fq.hi)with
    |true=>simp only[cond_true];omega
    |false=>simp only[cond_false];omega
   refine nm (v:=fq.l.den bK% y.l.den bK) ((eZ (by rw[hf];exact e1) (by rw[hf];exact eK)).bind fun ax n1 l _ _ ⟨g1,g2⟩=>ai.pure ⟨⟨g1,by simp only;rw[g2,hf];exact e1,by simp only;rw[g2,hf];exact eK⟩,by simp only;rw[g2,hf]⟩) fun ad n' q _ _ ho he=>⟨ho,fun w=>?_⟩
   simp only[A.den,he,binOp,Op.intDiv]
   have ahx:0<y.l.den ρ:=CO▸hk
   have oS:0<=x.l.den ρ:=by rw[<-oG,<-ex];omega
   rw[CO,ex,oG,if_neg (by simp),if_neg (by omega),Int.tmod_eq_emod_of_nonneg oS]
   simp
  |some c=>
   refine dr fun h0=>(z8 hx).bind fun bK n0 fq ma qC ⟨jH,ex,Jh,qQ,oG⟩=>?_
   simp only[Bool.and_eq_true,decide_eq_true_eq]at h0
   obtain⟨h0,h1⟩:=h0
   subst h0
   have xp:=jH.2
   refine nm (U5 h1 jH) fun ad n' q _ _ ho he=>⟨ho,fun w=>?_⟩
   have oS:0<=x.l.den ρ:=by rw[<-oG,<-ex];omega
   simp only[A.den,he,I.gq hc,binOp,Op.intDiv]
   rw[ex,oG,if_neg (by simp),if_neg (by omega),Int.tmod_eq_emod_of_nonneg oS]
   simp
 case and=>
  refine dr fun h0=>?_
  simp only[decide_eq_true_eq]at h0;subst h0
  refine nm (Zv hx hy) fun ad n' q _ _ ho he=>⟨ho,fun w=>?_⟩
  simp[A.den,he,binOp,Op.intBits,cc]
 case or=>
  refine dr fun h0=>?_
  simp only[decide_eq_true_eq]at h0;subst h0
  refine nm (ak1 hx hy) fun ad n' q _ _ ho he=>⟨ho,fun w=>?_⟩
  simp[A.den,he,binOp,Op.intBits,cc]
 case xor=>
  refine dr fun h0=>?_
  simp only[decide_eq_true_eq]at h0;subst h0
  refine nm Ey fun ad n' q _ _ ho he=>⟨ho,fun w=>?_⟩
  simp[A.den,he,binOp,Op.intBits,cc]
 case andNot=>
  refine dr fun h0=>?_
  simp only[decide_eq_true_eq]at h0;subst h0
  refine nm Ey fun ad n' q _ _ ho he=>⟨ho,fun w=>?_⟩
  simp[A.den,he,binOp,Op.intBits,cc]
 all_goals
  refine dr fun h0=>?_
  simp only[decide_eq_true_eq]at h0;subst h0
  have e1:=aT.pD hx hy
  have e2:=aT.EU hx hy
  have bu:=aT.Rk hx hy
  have eK:=aT.EU hy hx
  have pE:=aT.Rk hy hx
  refine ai.pure ⟨?_,fun w=>?_⟩
  ·first|exact e1.2|exact aT.sL e1.2|exact e2.2|exact bu.2|exact eK.2|exact pE.2
  ·simp[A.den,aT.rR,e1.1,e2.1,bu.1,eK.1,pE.1,binOp,Op.intCmp]
   try rfl
end
end Go.bj

/- The state,and the operations that leave memory alone. -/
set_option linter.unusedVariables false
set_option linter.unusedSimpArgs false
namespace Go.bj
open M
abbrev aq:=List A×(TypeId×Bool)
abbrev dz:=List (Nat×List (IntKind×Int))
structure de where
 b:World
 r:World
 ex:Nat->Prop
 ro:Nat->Prop
 ds:List Deferred
def bI:List A->Bool
 |[.rows _ _ _ _ _]=>false
 |_=>true
noncomputable def aY (ρ:Env):List A->Nat
 |[.rows _ _ _ cap k]=>if cap.den ρ<0 then 0 else k
 |_=>2
def bT:List aw->List Int->Prop
 |[],[]=>True
 |c::sh,z::r=>(c.ef.1<=z/\z<=c.ef.2)/\bT sh r
 |_,_=>False
def cO:List aw->List Int->List Value
 |c::sh,z::r=>c.val z::cO sh r
 |_,_=>[]
def aV (sh:List aw) (rows:List (List Int)):List Value:=rows.flatMap (cO sh)
def j1 (cells:Array Value) (off:Nat) (sh:List aw) (rows:List (List Int)):Prop:=
 (∀row∈rows,bT sh row)/\∃pre post,cells.toList=pre++aV sh rows++post/\pre.length=off
theorem bT.len:∀{sh:List aw} {row:List Int},bT sh row->row.length=sh.length
 |[],[],_=>rfl
 |_::_,_::_,h=>by simp[bT.len h.2]
 |[],_::_,h=>h.elim
 |_::_,[],h=>h.elim
theorem bT.get:∀{sh:List aw} {row:List Int} {j:Nat} {c:aw},bT sh row->sh[j]?=some c->∃z,row[j]?=some z/\c.ef.1<=z/\z<=c.ef.2/\(cO sh row)[j]?=some (c.val z)
 |c'::sh,z::r,0,c,h,hc=>by
  simp only[List.getElem?_cons_zero,Option.some.injEq]at hc
  subst hc
  exact⟨z,rfl,h.1.1,h.1.2,rfl⟩
 |c'::sh,z::r,j+1,c,h,hc=>bT.get (sh:=sh) (row:=r) (j:=j) h.2 (by simpa using hc)
 |[],_,_,_,_,hc=>by simp at hc
 |_::_,[],_,_,h,_=>h.elim
theorem x5:∀{sh:List aw} {row:List Int},bT sh row->(cO sh row).length=sh.length
 |[],[],_=>rfl
 |_::_,_::_,h=>by simp[cO,x5 h.2]
 |[],_::_,h=>h.elim
 |_::_,[],h=>h.elim
theorem jm {sh:List aw}:∀{rows:List (List Int)},(∀row∈rows,bT sh row)->(aV sh rows).length=rows.length*sh.length
 |[],_=>by simp[aV]
 |r::rs,h=>by
  have ih:=jm (rows:=rs) fun row hr=>h row (List.mem_cons_of_mem _ hr)
  have h1:=x5 (h r (by simp))
  simp only[aV,List.flatMap_cons,List.length_append,List.length_cons]at ih⊢
  rw[ih,h1,Nat.succ_mul];omega
theorem Jx {sh:List aw}:∀{rows:List (List Int)} {i j:Nat} {row:List Int} {v:Value},(∀row∈rows,bT sh row)->rows[i]?=some row->(cO sh row)[j]?=some v->(aV sh rows)[i*sh.length+j]?=some v
 |r::rs,0,j,row,v,h,hi,hj=>by
  simp only[List.getElem?_cons_zero,Option.some.injEq]at hi
  subst hi
  have hlt:=(List.getElem?_eq_some_iff.1 hj).1
  simp only[aV,List.flatMap_cons,Nat.zero_mul,Nat.zero_add]
  rw[List.getElem?_append_left hlt];exact hj
 |r::rs,i+1,j,row,v,h,hi,hj=>by
  have ih:=Jx (rows:=rs) (i:=i) (fun row hr=>h row (List.mem_cons_of_mem _ hr)) (by simpa using hi) hj
  have h1:=x5 (h r (by simp))
  simp only[aV,List.flatMap_cons]at ih⊢
  rw[List.getElem?_append_right (by rw[h1,Nat.succ_mul];omega),h1,Nat.succ_mul]
  rw[show i*sh.length+sh.length+j-sh.length=i*sh.length+j by omega];exact ih
 |[],i,_,_,_,_,hi,_=>by simp at hi
theorem nN (sh:List aw) (a b:List (List Int)):aV sh (a++b)=aV sh a++aV sh b:=by simp[aV]
def s4 (kind:Nat) (fz:Nat×Nat) (n:Nat):Prop:=(kind=2/\fz=(0,0))∨(kind≠2/\fz=(n,n+1))
theorem s4.two {fz:Nat×Nat} {n:Nat} (h:s4 2 fz n):fz=(0,0):=by
 rcases h with h|h
 ·exact h.2
 ·exact absurd rfl h.1
theorem s4.C6 {n:Nat}:s4 2 (0,0) n:= .inl ⟨rfl,rfl⟩
def pr (w0:de) (ρ:Env) (g:Nat) (sh:List aw) (off code cap:I) (kind:Nat) (t:TypeId) (w:World):Prop:=
 kind≠0->(cap.den ρ<0->aa (code.den ρ)=[])/\(0<=cap.den ρ->(w0.ex g∨w0.ro g∨w0.r.heap.size<=g)/\∃cells t' fz,w.heap[g]?=some (.cells cells t' fz)/\(0<=off.den ρ/\j1 cells (off.den ρ).toNat sh (aa (code.den ρ)))/\
  (2<=kind->t'=t/\off.den ρ=0/\s4 kind fz cells.size/\cells.size=(cap.den ρ).toNat*sh.length/\w0.b.heap.size<=g/\(w0.ex g∨w0.r.heap.size<=g)))
structure Mem (w0:de) (ρ:Env) (m:Nat->Nat) (bl:List aq) (w:World):Prop where
 ext:w0.b.Extends w
 fI:w.os=w0.r.os
 iu:w.tape=w0.r.tape
 gr:w.output=w0.r.output
 ek:w0.r.heap.size<=w.heap.size
 fv:∀i:Nat,i<w0.r.heap.size->¬w0.ex i->w.heap[i]?=w0.r.heap[i]?
 dX:∀(i:Nat) (cs:List A) (t:TypeId×Bool),bl[i]?=some (cs,t)->bI cs=true->w0.b.heap.size<=m i/\(w0.ex (m i)∨w0.r.heap.size<=m i)/\∃r:List Value,(t.2=false->r=[])/\w.heap[m i]?=some (.cells (cs.map (A.den ρ m)++r).toArray t.1 (0,0))
 rws:∀(i:Nat) (sh:List aw) (off code cap:I) (kind:Nat) (t:TypeId×Bool),bl[i]?=some ([.rows sh off code cap kind],t)->pr w0 ρ (m i) sh off code cap kind t.1 w
 inj:∀(i j:Nat) (p q:aq),bl[i]?=some p->bl[j]?=some q->m i=m j->i=j∨(aY ρ p.1<=1/\aY ρ q.1<=1)∨aY ρ p.1=0∨aY ρ q.1=0
theorem Mem.lt {w0:de} {ρ:Env} {m:Nat->Nat} {bl:List aq} {w:World} (h:Mem w0 ρ m bl w) {i:Nat} {p:aq} (hi:bl[i]?=some p) (hk:aY ρ p.1≠0):m i<w.heap.size:=by
 obtain⟨cs,t⟩:=p
 by_cases ho:bI cs=true
 ·obtain⟨_,_,r,_,h2⟩:=h.dX i cs t hi ho
  exact(Array.getElem?_eq_some_iff.1 h2).1
 ·unfold bI at ho
  split at ho
  ·rename_i sh off code cap k
   simp only[aY]at hk
   split at hk
   ·exact absurd rfl hk
   ·rename_i hcap
    obtain⟨_,cells,t',fz,h2,_⟩:=(h.rws i _ _ _ _ _ t hi hk).2 (by omega)
    exact(Array.getElem?_eq_some_iff.1 h2).1
  ·exact absurd rfl ho
theorem iv {ρ:Env} {cs:List A} (h:bI cs=true):aY ρ cs=2:=by
 unfold bI at h
 unfold aY
 split<;>simp_all
def cn (n nb:Nat) (ρ:Env) (bl:List aq):Prop:=∀p∈bl,∀a∈p.1,A.ok n nb ρ a
def bL (gl:dz) (w0:de):Prop:=∀g cs,(g,cs)∈gl->g<w0.b.heap.size/\∃t uW,w0.b.heap[g]?=some (.cells (cs.map fun p=>Value.int p.1 p.2).toArray t uW)
theorem cn.ext {n n' nb ja:Nat} {ρ ad:Env} {bl:List aq} (h:cn n nb ρ bl) (ha:agree n ρ ad) (hn:n<=n') (hb:nb<=ja):cn n' ja ad bl:=
 fun p hp a h'=>(h p hp a h').ext ha hn hb
theorem pr.lv {w0:de} {n nb:Nat} {ρ ad:Env} {g:Nat} {sh:List aw} {off code cap:I} {kind:Nat} {t:TypeId} {w:World} (h:pr w0 ρ g sh off code cap kind t w) (hok:(A.rows sh off code cap kind).ok n nb ρ) (ha:agree n ρ ad):pr w0 ad g sh off code cap kind t w:=by
 unfold pr at*
 rw[I.bA ha hok.1.1,I.bA ha hok.1.2.1,I.bA ha hok.1.2.2]
 exact h
theorem o7 {n nb:Nat} {ρ ad:Env} {cs:List A} (hok:∀a∈cs,A.ok n nb ρ a) (ha:agree n ρ ad):aY ad cs=aY ρ cs:=by
 unfold aY
 split
 ·rename_i sh off code cap k
  have h1:A.ok n nb ρ (.rows sh off code cap k):=hok _ (by simp)
  rw[I.bA ha h1.1.2.2]
 ·rfl
theorem agree.sym {n:Nat} {ρ ad:Env} (h:agree n ρ ad):agree n ad ρ:=fun i hi=>(h i hi).symm
theorem Mem.lv {w0:de} {n:Nat} {ρ ad:Env} {m:Nat->Nat} {bl:List aq} {w:World} (h:Mem w0 ρ m bl w) (hb:cn n bl.length ρ bl) (ha:agree n ρ ad):Mem w0 ad m bl w:=
 ⟨h.ext,h.fI,h.iu,h.gr,h.ek,h.fv,fun i cs t hi ho=>by
  obtain⟨h1,h2,r,hr,h3⟩:=h.dX i cs t hi ho
  exact⟨h1,h2,r,hr,by rw[rp (hb _ (List.mem_of_getElem? hi)) ha (fun _ _=>rfl)];exact h3⟩,
  fun i sh off code cap kind t hi=>(h.rws i sh off code cap kind t hi).lv (hb _ (List.mem_of_getElem? hi) _ (by simp)) ha,fun i j p q hi hj he=>by
   rw[o7 (hb _ (List.mem_of_getElem? hi)) ha,o7 (hb _ (List.mem_of_getElem? hj)) ha]
   exact h.inj i j p q hi hj he⟩
theorem pr.grow {w0:de} {ρ:Env} {g:Nat} {sh:List aw} {off code cap:I} {kind:Nat} {t:TypeId} {w w':World} (h:pr w0 ρ g sh off code cap kind t w) (he:kind≠0->0<=cap.den ρ->w'.heap[g]?=w.heap[g]?):pr w0 ρ g sh off code cap kind t w':=by
 intro hk
 obtain⟨h1,h2⟩:=h hk
 refine⟨h1,fun hc=>?_⟩
 rw[he hk hc]
 exact h2 hc
theorem mM {ρ:Env} {sh:List aw} {off code cap:I} {k:Nat} (hk:k≠0) (hc:0<=cap.den ρ):aY ρ [.rows sh off code cap k]=k:=by
 simp only[aY]
 rw[if_neg (by omega)]
theorem Mem.grow {w0:de} {ρ:Env} {m:Nat->Nat} {bl:List aq} {w w':World} (h:Mem w0 ρ m bl w) (he:w.Extends w'):Mem w0 ρ m bl w':=
 ⟨h.ext.trans he,he.os.trans h.fI,he.tape.trans h.iu,he.output.trans h.gr,Nat.le_trans h.ek he.size,fun i hi hx=>(he.block i (Nat.lt_of_lt_of_le hi h.ek)).trans (h.fv i hi hx),fun i cs t hi ho=>by
  obtain⟨h1,h2,r,hr,h3⟩:=h.dX i cs t hi ho
  exact⟨h1,h2,r,hr,by rw[he.block _ (h.lt hi (by rw[iv ho];decide))];exact h3⟩,fun i sh off code cap kind t hi=>(h.rws i sh off code cap kind t hi).grow fun hk hc=>he.block _ (h.lt hi (by simp only[mM hk hc];exact hk)),h.inj⟩
theorem Mem.ne {w0:de} {ρ:Env} {m:Nat->Nat} {bl:List aq} {w:World} (h:Mem w0 ρ m bl w) {i j:Nat} {p q:aq} (hi:bl[i]?=some p) (hj:bl[j]?=some q) (hp:2<=aY ρ p.1) (hq:aY ρ q.1≠0) (hne:i≠j):m i≠m j:=fun e=>by
 rcases h.inj i j p q hi hj e with h|h|h|h
 ·exact hne h
 ·omega
 ·omega
 ·exact hq h
def du (n nb:Nat) (ρ:Env) (m:Nat->Nat) (tm:List V) (tmps:Array Value):Prop:=
 tm.length=tmps.size/\∀(i:Nat) (v:V),tm[i]?=some v->v.ok n nb ρ/\∃x,tmps[i]?=some x/\v.rel ρ m x
theorem du.ext {n n' nb ja:Nat} {ρ ad:Env} {m m':Nat->Nat} {tm:List V} {tmps:Array Value} (h:du n nb ρ m tm tmps) (ha:agree n ρ ad) (hn:n<=n') (hb:nb<=ja) (hm:∀b,b<nb->m' b=m b):du n' ja ad m' tm tmps:=
 ⟨h.1,fun i v hv=>by obtain⟨h1,x,h2,h3⟩:=h.2 i v hv;exact⟨h1.ext ha hn hb,x,h2,h3.ext h1 ha hm⟩⟩
def pe:List V->Nat->V->List V
 |[],_,_=>[]
 |_::r,0,v=>v::r
 |x::r,i+1,v=>x::pe r i v
theorem MU:∀(l:List V) (i:Nat) (v:V),pe l i v=l.set i v
 |[],_,_=>rfl
 |_::_,0,_=>rfl
 |_::r,i+1,v=>by simp[pe,MU r i v]
def eA (tm:List V) (d:Option Tmp) (v:V):List V:=match d with|some d=>pe tm d v|none=>tm
theorem du.put {n nb:Nat} {ρ:Env} {m:Nat->Nat} {tm:List V} {a:Act} {v:V} {x:Value} (h:du n nb ρ m tm a.tmps) (d:Option Tmp) (hv:v.ok n nb ρ) (hx:v.rel ρ m x):du n nb ρ m (eA tm d v) (a.put d x).tmps:=by
 cases d with
 |none=>exact h
 |some d=>
  simp only[eA,Act.put,MU]
  refine⟨by simp[h.1],fun i u hu=>?_⟩
  rw[List.getElem?_set]at hu
  by_cases hd:d=i
  ·subst hd
   simp only[if_true]at hu
   split at hu
   ·rename_i hlt
    simp only[Option.some.injEq]at hu
    subst hu
    exact⟨hv,x,by simp[<-h.1,hlt],hx⟩
   ·cases hu
  ·rw[if_neg hd]at hu
   obtain⟨h1,y,h2,h3⟩:=h.2 i u hu
   exact⟨h1,y,by rw[Array.getElem?_setIfInBounds_ne (by omega)];exact h2,h3⟩
def yS:Value->Option A
 | .int k n=>some (.int k (.const n))
 | .bool b=>some (.bool (.lit b))
 | .string s=>cond (Nat.ble s.size 1000000) (some (.str (.const (dI s.data.toList)))) none
 |v=>cond v.oneCell' (some (.con v)) none
theorem Q9 {v:Value} {a:A} (h:yS v=some a) (n nb:Nat) (ρ:Env) (m:Nat->Nat):a.ok n nb ρ/\a.den ρ m=v:=by
 unfold yS at h
 split at h
 ·simp only[Option.some.injEq]at h;subst h;exact⟨bh.lI _ _ _,by simp[A.den,bh.const,I.aK]⟩
 ·simp only[Option.some.injEq]at h;subst h;exact⟨trivial,rfl⟩
 ·rename_i s
  cases hc:Nat.ble s.size 1000000 with
  |false=>simp[hc]at h
  |true=>
   simp only[hc,cond_true,Option.some.injEq]at h
   subst h
   have hl:s.data.toList.length<=ga:=by
    have:=Nat.le_of_ble_eq_true hc
    have h2:s.data.toList.length=s.size:=by simp
    unfold ga;omega
   refine⟨⟨I.cA _ _,by rw[I.aK];exact pz _,by rw[I.aK];exact nG hl⟩,?_⟩
   simp[A.den,I.aK,gb,bb]
 ·cases hc:v.oneCell' with
  |false=>simp[hc]at h
  |true=>simp only[hc,cond_true,Option.some.injEq]at h;subst h;exact⟨hc,rfl⟩
def tg:List Value->Option (List A)
 |[]=>some []
 |v::r=>match yS v,tg r with|some a,some l=>some (a::l)|_,_=>none
theorem th:∀{vs:List Value} {l:List A},tg vs=some l->∀(n nb:Nat) (ρ:Env) (m:Nat->Nat),(∀a∈l,A.ok n nb ρ a)/\l.map (A.den ρ m)=vs
 |[],l,h,n,nb,ρ,m=>by simp[tg]at h;subst h;simp
 |v::r,l,h,n,nb,ρ,m=>by
  simp only[tg]at h
  cases h1:yS v with
  |none=>simp[h1]at h
  |some a=>
   cases h2:tg r with
   |none=>simp[h1,h2]at h
   |some bx=>
    simp only[h1,h2,Option.some.injEq]at h
    subst h
    have e1:=Q9 h1 n nb ρ m
    have e2:=th h2 n nb ρ m
    exact⟨fun a ha=>by rcases List.mem_cons.1 ha with rfl|ha;exact e1.1;exact e2.1 a ha,by simp[e1.2,e2.2]⟩
def EP:Value->V
 | .agg cs=>match tg cs.toList with|some l=> .w (.agg l)|none=> .any
 | .tuple _=> .any
 |v=>match yS v with|some a=> .w (.one a)|none=> .any
theorem ace (v:Value) (n nb:Nat) (ρ:Env) (m:Nat->Nat):(EP v).ok n nb ρ/\(EP v).rel ρ m v:=by
 unfold EP
 split
 ·rename_i cs
  cases h:tg cs.toList with
  |none=>exact⟨trivial,trivial⟩
  |some l=>have e:=th h n nb ρ m;exact⟨e.1,by simp[V.rel,W.den,e.2]⟩
 ·exact⟨trivial,trivial⟩
 ·cases h:yS v with
  |none=>exact⟨trivial,trivial⟩
  |some a=>have e:=Q9 h n nb ρ m;exact⟨e.1,by simp[V.rel,W.den,e.2]⟩
def bP (tm:List V):Operand->V
 | .tmp t=>(tm[t]?).getD .any
 | .const v=>EP v
 | .global g=> .w (.one (.gptr g 0))
 | .func f=> .w (.one (.con (.func (.func f) #[] #[])))
theorem b9 {n nb:Nat} {ρ:Env} {m:Nat->Nat} {tm:List V} {a:Act} (h:du n nb ρ m tm a.tmps) (x:Operand):(bP tm x).ok n nb ρ/\(bP tm x).rel ρ m (a.eval x):=by
 cases x with
 |tmp t=>
  simp only[bP,Act.eval]
  cases ht:tm[t]? with
  |none=>exact⟨trivial,trivial⟩
  |some v=>
   obtain⟨h1,y,h2,h3⟩:=h.2 t v ht
   exact⟨h1,by simp only[Option.getD_some];rw[show a.tmps.getD t undef=y by simp[h2]];exact h3⟩
 |const v=>exact ace v n nb ρ m
 |global g=>exact⟨trivial,rfl⟩
 |func f=>exact⟨rfl,rfl⟩
def gK (P:Program) (t:TypeId):Option Bool:=
 match P.underlying t with|some (.struct _)=>some true|some (.array _ _)=>some true|some _=>some false|none=>none
def ed (P:Program) (t:TypeId):Option Nat:=match P.info? t with|some i=>some i.size|none=>none
theorem nw {P:Program} {t:TypeId} {b:Bool} (h:gK P t=some b) (w:World):(isAgg t).run P w= .ok b w:=by
 unfold gK at h
 cases hu:P.underlying t with
 |none=>simp[hu]at h
 |some d=>cases d<;>simp[hu]at h<;>subst h<;>simp[isAgg,run_underlying hu]
theorem gy {P:Program} {t:TypeId} {k:Nat} (h:ed P t=some k) (w:World):(sizeOf t).run P w= .ok k w:=by
 unfold ed at h
 cases hi:P.info? t with
 |none=>simp[hi]at h
 |some i=>simp[hi]at h;subst h;simp[sizeOf,typeInfo,hi]
def yP (bl:List aq) (gl:dz):A->Option (List A)
 | .ptr b off=>match bl[b]? with|some (cs,_)=>cond (bI cs) (some (cs.drop off)) none|none=>none
 | .gptr g off=>match gl.find? (fun p=>Nat.beq p.1 g)with|some (_,cs)=>some ((cs.drop off).map fun p=> .int p.1 (.const p.2))|none=>none
 |_=>none
theorem gE (g o j:Nat):(⟨g,o,none⟩:Addr).add j=⟨g,o+j,none⟩:=by unfold Addr.add;split<;>simp_all
theorem IS {w0:de} {w:World} {n:Nat} {ρ:Env} {m:Nat->Nat} {bl:List aq} {gl:dz} {p:A} {cs:List A} (hm:Mem w0 ρ m bl w) (hb:cn n bl.length ρ bl) (hg:bL gl w0) (h:yP bl gl p=some cs):
 ∃g o,p.den ρ m= .pointer (some ⟨g,o,none⟩)/\(∀a∈cs,A.ok n bl.length ρ a)/\∀j a,cs[j]?=some a->w.cell? ⟨g,o+j,none⟩=some (a.den ρ m):=by
 unfold yP at h
 split at h
 ·rename_i b off
  cases aB:bl[b]? with
  |none=>simp[aB]at h
  |some q=>
   obtain⟨C,t⟩:=q
   simp only[aB]at h
   cases jF:bI C with
   |false=>simp[jF]at h
   |true=>
   simp only[jF,cond_true,Option.some.injEq]at h
   subst h
   obtain⟨h1,_,r,_,h2⟩:=hm.dX b C t aB jF
   refine⟨m b,off,rfl,fun a ha=>hb _ (List.mem_of_getElem? aB) a (List.mem_of_mem_drop ha),fun j a hj=>?_⟩
   rw[List.getElem?_drop]at hj
   have hlt:off+j<C.length:=(List.getElem?_eq_some_iff.1 hj).1
   simp only[World.cell?,h2,Option.isSome_none,Bool.false_eq_true,if_false,List.getElem?_toArray]
   rw[List.getElem?_append_left (by simpa using hlt),List.getElem?_map,hj];rfl
 ·rename_i g off
  cases hf:gl.find? (fun p=>Nat.beq p.1 g)with
  |none=>simp[hf]at h
  |some q=>
   obtain⟨hV,C⟩:=q
   simp only[hf,Option.some.injEq]at h
   subst h
   have sa:hV=g:=by have:=List.find?_some hf;exact Nat.eq_of_beq_eq_true this
   subst sa
   obtain⟨h1,t,uW,h2⟩:=hg hV C (List.mem_of_find?_eq_some hf)
   refine⟨hV,off,rfl,fun a ha=>?_,fun j a hj=>?_⟩
   ·obtain⟨p,_,rfl⟩:=List.mem_map.1 ha;exact bh.lI _ _ _
   ·rw[List.getElem?_map,List.getElem?_drop]at hj
    cases hq:C[off+j]? with
    |none=>simp[hq]at hj
    |some q=>
     simp only[hq,Option.map_some,Option.some.injEq]at hj
     subst hj
     have:=hm.ext.cell ⟨hV,off+j,none⟩ h1
     rw[this]
     simp[World.cell?,h2,hq,A.den,bh.const,I.aK]
 ·cases h
def LO (P:Program) (bl:List aq) (gl:dz) (ty:TypeId) (p:A):M V:=
 match yP bl gl p,gK P ty,ed P ty with
 |some cs,some true,some k=>cond (Nat.ble k cs.length) (pure (.w (.agg (cs.take k)))) fail
 |some (a::_),some false,_=>pure (.w (.one a))
 |_,_,_=>fail
section
variable {S:Nat->List Int->List Int->Prop} {L:V->Env->Prop} {n:Nat} {ρ:Env} {m:Nat->Nat} {bl:List aq} {gl:dz} {w0:de} {P:Program}
def j0 (w0:de) (m:Nat->Nat) (bl:List aq) (n:Nat) (ρ:Env) (run:World->Result Value) (ad:Env) (n':Nat) (v:V):Prop:=
 v.ok n' bl.length ad/\∃val,v.rel ad m val/\∀w,Mem w0 ρ m bl w->run w= .ok val w
theorem ai2 (hb:cn n bl.length ρ bl) (hg:bL gl w0) (hex:∃w,Mem w0 ρ m bl w) (ty:TypeId) (p:A):ai S L (LO P bl gl ty p) n ρ (j0 w0 m bl n ρ fun w=>(Instr.loadAt ty (p.den ρ m)).run P w):=by
 obtain⟨sV,hx⟩:=hex
 unfold LO
 cases hc:yP bl gl p with
 |none=>exact ai.fail
 |some cs=>
  obtain⟨g,o,hp,hok,_⟩:=IS hx hb hg hc
  have hcell:∀w,Mem w0 ρ m bl w->∀j a,cs[j]?=some a->w.cell? ⟨g,o+j,none⟩=some (a.den ρ m):=fun w hw=>by
   obtain⟨hV,bU,vh,_,h'⟩:=IS hw hb hg hc
   rw[hp]at vh
   simp only[Value.pointer.injEq,Option.some.injEq,Addr.mk.injEq,and_true]at vh
   obtain⟨rfl,rfl⟩:=vh
   exact h'
  cases ha:gK P ty with
  |none=>exact ai.fail
  |some b=>
   cases b with
   |true=>
    cases hs:ed P ty with
    |none=>exact ai.fail
    |some k=>
     refine dr fun hk=>ai.pure ⟨fun a h=>hok a (List.mem_of_mem_take h),_,rfl,fun w hw=>?_⟩
     have hk:k<=cs.length:=Nat.le_of_ble_eq_true hk
     have hl:=run_loadCells_list (P:=P) w ⟨g,o,none⟩ ((cs.take k).map (A.den ρ m)) fun j v hj=>by
      rw[gE]
      rw[List.getElem?_map]at hj
      cases hq:(cs.take k)[j]? with
      |none=>simp[hq]at hj
      |some a=>
       simp only[hq,Option.map_some,Option.some.injEq]at hj
       subst hj
       refine hcell w hw j a ?_
       rw[List.getElem?_take]at hq
       split at hq
       ·exact hq
       ·cases hq
     simp only[List.length_map,List.length_take,Nat.min_eq_left hk]at hl
     simp[Instr.loadAt,Instr.sureAddr,hp,loadVar,nw ha,gy hs,hl,W.den]
   |false=>
    cases cs with
    |nil=>exact ai.fail
    |cons a r=>
     refine ai.pure ⟨hok a (by simp),_,rfl,fun w hw=>?_⟩
     have:=hcell w hw 0 a rfl
     simp only[Nat.add_zero]at this
     simp[Instr.loadAt,Instr.sureAddr,hp,loadVar,nw ha,this,W.den]
def mc (k:IntKind):List A->Option (List bh)
 |[]=>some []
 | .int aQ x::r=>cond (decide (k=aQ)) (match mc k r with|some l=>some (x::l)|none=>none) none
 |_::_=>none
theorem TP {k:IntKind}:∀{cs:List A} {l:List bh},mc k cs=some l->cs=l.map (.int k)
 |[],l,h=>by simp[mc]at h;subst h;rfl
 | .int aQ x::r,l,h=>by
  simp only[mc]at h
  by_cases hk:k=aQ
  ·subst hk
   simp only[decide_true,cond_true]at h
   cases h1:mc k r with
   |none=>simp[h1]at h
   |some bx=>simp only[h1,Option.some.injEq]at h;subst h;simp[TP h1]
  ·simp[hk]at h
 | .bool _::_,_,h=>by simp[mc]at h
 | .ptr .. ::_,_,h=>by simp[mc]at h
 | .lq .. ::_,_,h=>by simp[mc]at h
 | .gptr .. ::_,_,h=>by simp[mc]at h
 | .slc .. ::_,_,h=>by simp[mc]at h
 | .con _::_,_,h=>by simp[mc]at h
 | .str _::_,_,h=>by simp[mc]at h
 | .rows .. ::_,_,h=>by simp[mc]at h
 | .sl .. ::_,_,h=>by simp[mc]at h
 | .ep .. ::_,_,h=>by simp[mc]at h
def zR:List bh->Int
 |[]=>0
 |[x]=>x.lo
 |x::r=>min x.lo (zR r)
def zO:List bh->Int
 |[]=>0
 |[x]=>x.hi
 |x::r=>max x.hi (zO r)
theorem U2 {n:Nat} {ρ:Env}:∀{l:List bh},(∀x∈l,x.ok n ρ)->∀x∈l,zR l<=x.l.den ρ/\x.l.den ρ<=zO l
 |[],_,x,hx=>by simp at hx
 |[y],h,x,hx=>by
  simp at hx;subst hx
  have:=(h x (by simp)).2
  exact this
 |y::z::r,h,x,hx=>by
  have ih:=U2 (l:=z::r) (fun x hx=>h x (List.mem_cons_of_mem _ hx))
  simp only[zR,zO]
  rcases List.mem_cons.1 hx with rfl|hx
  ·have:=(h x (by simp)).2;omega
  ·have:=ih x hx;omega
def kindOf (P:Program) (ty:TypeId):Option IntKind:=match P.underlying ty with|some (.int k)=>some k|_=>none
def sr:List Int->Int
 |[]=>0
 |[x]=>x
 |x::r=>cond (decide (x<=sr r)) x (sr r)
def sq:List Int->Int
 |[]=>0
 |[x]=>x
 |x::r=>cond (decide (sq r<=x)) x (sq r)
theorem U3:∀(l:List Int),∀z∈l,sr l<=z/\z<=sq l
 |[],_,h=>by cases h
 |[x],z,h=>by simp at h;subst h;simp[sr,sq]
 |x::y::r,z,h=>by
  unfold sr sq
  have ih:=U3 (y::r)
  rcases List.mem_cons.1 h with rfl|h
  ·refine⟨?_,?_⟩
   ·cases hc:decide (z<=sr (y::r))with
    |true=>simp
    |false=>simp at hc⊢;omega
   ·cases hc:decide (sq (y::r)<=z)with
    |true=>simp
    |false=>simp at hc⊢;omega
  ·have:=ih z h
   refine⟨?_,?_⟩
   ·cases hc:decide (x<=sr (y::r))with
    |true=>simp at hc⊢;omega
    |false=>simp;exact this.1
   ·cases hc:decide (sq (y::r)<=x)with
    |true=>simp at hc⊢;omega
    |false=>simp;exact this.2
def MS (P:Program) (bl:List aq) (ty:TypeId) (b off:Nat) (aJ:bh):M V:=fun n c=>
 match bl[b]?,kindOf P ty with
 |some (cs,_),some k=>match mc k ((cs.drop off).take (aJ.hi.toNat+1))with
  |some l=>cond (Nat.beq l.length (aJ.hi.toNat+1)&&decide (0<=aJ.lo)&&bI cs) (.sO n (l.map (·.l)) aJ.l (zR l) (zO l) (c (.w (.one (.int k ⟨.var n,zR l,zO l⟩))) (n+1))) .stuck
  |none=> .stuck
 |_,_=> .stuck
theorem anM (hb:cn n bl.length ρ bl) (ty:TypeId) (b off:Nat) {aJ:bh} (Co:aJ.ok n ρ):ai S L (MS P bl ty b off aJ) n ρ (j0 w0 m bl n ρ fun w=>(Instr.loadAt ty ((A.lq b off aJ).den ρ m)).run P w):=by
 intro Xj c hk
 unfold MS at hk
 cases aB:bl[b]? with
 |none=>simp[aB,T.holds]at hk
 |some q=>
  obtain⟨cs,t⟩:=q
  cases fb:kindOf P ty with
  |none=>simp[aB,fb,T.holds]at hk
  |some k=>
   cases hi:mc k ((cs.drop off).take (aJ.hi.toNat+1))with
   |none=>simp[aB,fb,hi,T.holds]at hk
   |some l=>
    cases hc:(Nat.beq l.length (aJ.hi.toNat+1)&&decide (0<=aJ.lo)&&bI cs)with
    |false=>simp[aB,fb,hi,hc,T.holds]at hk
    |true=>
     simp only[aB,fb,hi,hc,cond_true,T.holds]at hk
     simp only[Bool.and_eq_true,decide_eq_true_eq]at hc
     obtain⟨hc,hq⟩:=hc
     have hlen:=Nat.eq_of_beq_eq_true hc.1
     have e:=TP hi
     have yN:=Co.2
     have hlt:(aJ.l.den ρ).toNat<l.length:=by omega
     have agM:∀x∈l,x.ok n ρ:=fun x hx=>by
      have:A.int k x∈(cs.drop off).take (aJ.hi.toNat+1):=by rw[e];exact List.mem_map_of_mem hx
      exact hb _ (List.mem_of_getElem? aB) _ (List.mem_of_mem_drop (List.mem_of_mem_take this))
     have hz:((l.map (·.l)).map (·.den ρ)).getD (aJ.l.den ρ).toNat 0=(l[(aJ.l.den ρ).toNat]).l.den ρ:=by
      simp[List.getD,hlt]
     have iI:=U2 agM _ (List.getElem_mem hlt)
     refine⟨_,n+1,_,Nat.le_succ _,agree.cJ _ _ _,(show j0 w0 m bl n ρ _ (cJ ρ n (((l.map (·.l)).map (·.den ρ)).getD (aJ.l.den ρ).toNat 0)) (n+1) (.w (.one (.int k ⟨.var n,zR l,zO l⟩))) from⟨⟨I.ec (Nat.lt_succ_self n),?_,?_⟩,_,rfl,?_⟩),hk _ (by rw[hz];exact iI.1) (by rw[hz];exact iI.2) rfl⟩
     ·simp only[I.cg,iy,hz];exact iI.1
     ·simp only[I.cg,iy,hz];exact iI.2
     ·intro w hw
      obtain⟨_,_,r,_,h2⟩:=hw.dX b cs t aB hq
      have hu:gK P ty=some false:=by
       unfold kindOf at fb
       unfold gK
       cases hq:P.underlying ty with
       |none=>simp[hq]at fb
       |some d=>cases d<;>simp[hq]at fb<;>rfl
      have hcs:cs[off+(aJ.l.den ρ).toNat]?=some (.int k (l[(aJ.l.den ρ).toNat])):=by
       have h3:((cs.drop off).take (aJ.hi.toNat+1))[(aJ.l.den ρ).toNat]?=some (.int k (l[(aJ.l.den ρ).toNat])):=by rw[e];simp[hlt]
       rw[List.getElem?_take,if_pos (by omega),List.getElem?_drop]at h3
       exact h3
      have hcell:w.cell? ⟨m b,off+(aJ.l.den ρ).toNat,none⟩=some (.int k ((l[(aJ.l.den ρ).toNat]).l.den ρ)):=by
       have agw:off+(aJ.l.den ρ).toNat<cs.length:=(List.getElem?_eq_some_iff.1 hcs).1
       simp only[World.cell?,h2,Option.isSome_none,Bool.false_eq_true,if_false,List.getElem?_toArray]
       rw[List.getElem?_append_left (by simpa using agw),List.getElem?_map,hcs];rfl
      simp only[W.den,A.den,I.cg,iy,hz];simp[Instr.loadAt,Instr.sureAddr,loadVar,nw hu,hcell]
def MR (P:Program) (gl:dz) (ty:TypeId) (g off:Nat) (aJ:bh):M V:=fun n c=>
 match gl.find? (fun p=>Nat.beq p.1 g),kindOf P ty with
 |some (_,cs),some k=>cond (((cs.drop off).take (aJ.hi.toNat+1)).all (fun p=>decide (p.1=k))&&Nat.beq ((cs.drop off).take (aJ.hi.toNat+1)).length (aJ.hi.toNat+1)&&decide (0<=aJ.lo))
  (.sO n (((cs.drop off).take (aJ.hi.toNat+1)).map fun p=> .const p.2) aJ.l (sr (((cs.drop off).take (aJ.hi.toNat+1)).map (·.2))) (sq (((cs.drop off).take (aJ.hi.toNat+1)).map (·.2)))
    (c (.w (.one (.int k ⟨.var n,sr (((cs.drop off).take (aJ.hi.toNat+1)).map (·.2)),sq (((cs.drop off).take (aJ.hi.toNat+1)).map (·.2))⟩))) (n+1))) .stuck
 |_,_=> .stuck
theorem anL (hg:bL gl w0) (ty:TypeId) (g off:Nat) {aJ:bh} (Co:aJ.ok n ρ):ai S L (MR P gl ty g off aJ) n ρ (j0 w0 m bl n ρ fun w=>(Instr.loadAt ty ((A.y9 g off aJ).den ρ m)).run P w):=by
 intro Xj c hk
 unfold MR at hk
 cases hf:gl.find? (fun p=>Nat.beq p.1 g)with
 |none=>simp[hf,T.holds]at hk
 |some q=>
  obtain⟨hV,cs⟩:=q
  have sa:hV=g:=by have:=List.find?_some hf;exact Nat.eq_of_beq_eq_true this
  subst sa
  cases fb:kindOf P ty with
  |none=>simp[hf,fb,T.holds]at hk
  |some k=>
   simp only[hf,fb]at hk
   generalize hC:(cs.drop off).take (aJ.hi.toNat+1)=C at hk
   cases hc:(C.all (fun p=>decide (p.1=k))&&Nat.beq C.length (aJ.hi.toNat+1)&&decide (0<=aJ.lo))with
   |false=>simp[hc,T.holds]at hk
   |true=>
    simp only[hc,cond_true,T.holds]at hk
    simp only[Bool.and_eq_true,decide_eq_true_eq]at hc
    obtain⟨⟨c1,c2⟩,c3⟩:=hc
    have c2:=Nat.eq_of_beq_eq_true c2
    have yN:=Co.2
    have hlt:(aJ.l.den ρ).toNat<C.length:=by omega
    have hz:((C.map fun p=>I.const p.2).map (·.den ρ)).getD (aJ.l.den ρ).toNat 0=(C[(aJ.l.den ρ).toNat]).2:=by
     simp[List.getD,hlt,I.aK]
    have iI:=U3 (C.map (·.2)) _ (List.mem_map_of_mem (List.getElem_mem hlt))
    refine⟨_,n+1,_,Nat.le_succ _,agree.cJ _ _ _,(show j0 w0 m bl n ρ _ (cJ ρ n (((C.map fun p=>I.const p.2).map (·.den ρ)).getD (aJ.l.den ρ).toNat 0)) (n+1) (.w (.one (.int k ⟨.var n,sr (C.map (·.2)),sq (C.map (·.2))⟩))) from⟨⟨I.ec (Nat.lt_succ_self n),?_,?_⟩,_,rfl,?_⟩),hk _ (by rw[hz];exact iI.1) (by rw[hz];exact iI.2) rfl⟩
    ·simp only[I.cg,iy,hz];exact iI.1
    ·simp only[I.cg,iy,hz];exact iI.2
    ·intro w hw
     have hu:gK P ty=some false:=by
      unfold kindOf at fb
      unfold gK
      cases hq:P.underlying ty with
      |none=>simp[hq]at fb
      |some d=>cases d<;>simp[hq]at fb<;>rfl
     have hk1:(C[(aJ.l.den ρ).toNat]).1=k:=by simpa using List.all_eq_true.1 c1 _ (List.getElem_mem hlt)
     have hcs:cs[off+(aJ.l.den ρ).toNat]?=some (C[(aJ.l.den ρ).toNat]):=by
      have h3:C[(aJ.l.den ρ).toNat]?=some (C[(aJ.l.den ρ).toNat]):=List.getElem?_eq_getElem hlt
      have h4:C[(aJ.l.den ρ).toNat]?=cs[off+(aJ.l.den ρ).toNat]?:=by rw[<-hC,List.getElem?_take,if_pos (by omega),List.getElem?_drop]
      rw[<-h4,h3]
     obtain⟨Fq,t,uW,afH⟩:=hg hV cs (List.mem_of_find?_eq_some hf)
     have hcell:w.cell? ⟨hV,off+(aJ.l.den ρ).toNat,none⟩=some (.int k (C[(aJ.l.den ρ).toNat]).2):=by
      rw[hw.ext.cell _ Fq]
      simp only[World.cell?,afH,Option.isSome_none,Bool.false_eq_true,if_false,List.getElem?_toArray]
      rw[List.getElem?_map,hcs,Option.map_some,hk1]
     simp only[W.den,A.den,I.cg,iy,hz];simp[Instr.loadAt,Instr.sureAddr,loadVar,nw hu,hcell]
end
end Go.bj

/- Quiet operations,one by one. -/
set_option linter.unusedVariables false
set_option linter.unusedSimpArgs false
namespace Go.bj
open M
abbrev dQ:=FuncId->Option (List aq->List V->M V)
def AX (P:Program) (o:Oper) (a:Act) (w:World) (val:Value):Prop:=
 (execOp a.eval o).run P w= .ok (.value val) w∨
 ∃f args,(execOp a.eval o).run P w= .ok (.enter f args) w/\Calls P f args w fun e mq=>e= .returned val/\w.Extends mq
def wa (P:Program) (f:FuncId) (args:Array Value) (w:World) (val:Value):Prop:=
 (callFunc f args).run P w= .ok (.value val) w∨
 ((callFunc f args).run P w= .ok (.enter f args) w/\Calls P f args w fun e mq=>e= .returned val/\w.Extends mq)
def dK (ρ:Env) (m:Nat->Nat):List V->List Value->Prop
 |[],[]=>True
 |v::r,x::s=>v.rel ρ m x/\dK ρ m r s
 |_,_=>False
def e7 (S:Nat->List Int->List Int->Prop) (P:Program) (gl:dz) (w0:de) (cal:dQ):Prop:=
 ∀f g,cal f=some g->∀(L:V->Env->Prop) (n:Nat) (ρ:Env) (m:Nat->Nat) (bl:List aq) (vs:List V) (xs:List Value),cn n bl.length ρ bl->(∃w,Mem w0 ρ m bl w)->(∀v∈vs,v.ok n bl.length ρ)->dK ρ m vs xs->
  ai S L (g bl vs) n ρ fun ad n' v=>v.ok n' bl.length ad/\∃val,v.rel ad m val/\∀w,Mem w0 ρ m bl w->wa P f xs.toArray w val
def BD (P:Program) (s:TypeId) (f:Nat):Option Field:=match P.underlying s with|some (.struct dv)=>dv[f]?|_=>none
def oz (P:Program) (t:TypeId):Option (Nat×TypeId):=match P.underlying t with|some (.array n e)=>some (n,e)|_=>none
def gg (P:Program) (t:TypeId):Option TypeId:=match P.underlying t with|some (.slice e)=>some e|_=>none
def Gt (P:Program) (t:TypeId) (l:List A) (off:Nat):M V:=
 match gK P t,ed P t with
 |some true,some k=>pure (.w (.agg ((l.drop off).take k)))
 |some false,_=>match l[off]? with|some a=>pure (.w (.one a))|none=>fail
 |_,_=>fail
def Ll (P:Program) (t:TypeId) (x:V) (aJ:bh):M V:=
 match x with
 | .w (.one (.ptr b off))=>match oz P t with
  |some (len,e)=>match ed P e with
   |some s=>match aJ.l.dg with
    |some i=>cond (decide (0<=i)&&decide (i<len)) (pure (.w (.one (.ptr b (off+i.toNat*s))))) fail
    |none=>cond (Nat.beq s 1&&decide (0<=aJ.lo)&&decide (aJ.hi<len)) (pure (.w (.one (.lq b off aJ)))) fail
   |none=>fail
  |none=>fail
 | .w (.one (.gptr g off))=>match oz P t with
  |some (len,e)=>match ed P e with
   |some s=>match aJ.l.dg with
    |some i=>cond (decide (0<=i)&&decide (i<len)) (pure (.w (.one (.gptr g (off+i.toNat*s))))) fail
    |none=>cond (Nat.beq s 1) (bind (eE 74 [aJ.l,.const len]) fun _=>pure (.w (.one (.y9 g off ⟨aJ.l,0,(len:Int)-1⟩)))) fail
   |none=>fail
  |none=>fail
 | .w (.one (.slc b off len _))=>match gg P t with
  |some e=>match ed P e with
   |some s=>match aJ.l.dg with
    |some i=>cond (decide (0<=i)&&decide (i<len)) (pure (.w (.one (.ptr b (off+i.toNat*s))))) fail
    |none=>cond (Nat.beq s 1&&decide (0<=aJ.lo)&&decide (aJ.hi<len)) (pure (.w (.one (.lq b off aJ)))) fail
   |none=>fail
  |none=>fail
 | .mi b len _=>match gg P t with
  |some e=>match ed P e with
   |some s=>match aJ.l.dg with
    |some i=>cond (decide (0<=i)&&decide (i<len)) (pure (.w (.one (.ptr b (i.toNat*s))))) fail
    |none=>fail
   |none=>fail
  |none=>fail
 |_=>fail
def tV:List V->Option (List A)
 |[]=>some []
 | .w (.one a)::r=>match tV r with|some l=>some (a::l)|none=>none
 |_::_=>none
def uS:List A->List A->Option aT
 |[],[]=>some (.lit true)
 | .int k x::r,.int aQ y::r'=>cond (decide (k=aQ)) (match uS r r' with|some b=>some (.mkAnd (.mkEq x y) b)|none=>none) none
 |_,_=>none
def Jk (P:Program) (t:TypeId) (x y:List A):Option aT:=
 match oz P t with
 |some (len,e)=>match kindOf P e,ed P e with
  |some _,some 1=>cond (Nat.beq x.length len&&Nat.beq y.length len&& !P.eqGuardType P.depth t) (uS x y) none
  |_,_=>none
 |none=>none
def y4 (P:Program):Nat->List Field->Bool
 |_,[]=>true
 |i,f::r=>(f.name != "_")&&Nat.beq f.offset i&&y4 P (i+1) r
noncomputable def oF (P:Program):List Field->List A->List A->M aT
 |[],[],[]=>pure (.lit true)
 |f::dv,.int k a::xs,.int aQ b::eO=>match kindOf P f.type with
  |some k2=>cond (decide (k=aQ)) (bind (oF P dv xs eO) fun r=>pure (.mkAnd (.mkEq a b) r)) fail
  |none=>fail
 |f::dv,.str a::xs,.str b::eO=>match P.underlying f.type with
  |some .string=>bind (dZ 4 [a,b] 0 1) fun l=>bind (oF P dv xs eO) fun r=>pure (.mkAnd (.mkEq ⟨l,0,1⟩ (.const 1)) r)
  |_=>fail
 |_,_,_=>fail
noncomputable def EW (P:Program) (g:TypeId->List A->List A->M aT):Nat->List Field->List A->List A->M aT
 |_,[],_,_=>pure (.lit true)
 |o,f::dv,x,y=>match ed P f.type with
  |some s=>cond ((f.name != "_")&&Nat.beq f.offset o) (bind (g f.type (x.take s) (y.take s)) fun b=>bind (EW P g (o+s) dv (x.drop s) (y.drop s)) fun r=>pure (.mkAnd b r)) fail
  |none=>fail
noncomputable def yY (P:Program):Nat->TypeId->List A->List A->M aT
 |0,_,_,_=>fail
 |d+1,t,x,y=>match P.underlying t with
  |some (.int k)=>match x,y with
   |[.int k1 a],[.int k2 b]=>cond (decide (k1=k2)) (pure (.mkEq a b)) fail
   |_,_=>fail
  |some .string=>match x,y with
   |[.str a],[.str b]=>bind (dZ 4 [a,b] 0 1) fun l=>pure (.mkEq ⟨l,0,1⟩ (.const 1))
   |_,_=>fail
  |some .bool=>match x,y with
   |[.bool a],[.bool b]=>pure (.mkIff a b)
   |_,_=>fail
  |some (.struct dv)=>cond (!P.stoodInHeld t) (EW P (yY P d) 0 dv.toList x y) fail
  |_=>fail
noncomputable def EX (P:Program) (t:TypeId) (x y:List A):M aT:=
 match P.underlying t with
 |some (.struct dv)=>cond (y4 P 0 dv.toList&& !P.stoodInHeld t&& !P.eqGuardType P.depth t) (cond (dv.toList.all fun f=>match P.underlying f.type with|some (.int _)=>true|some .string=>true|_=>false) (oF P dv.toList x y) (yY P 8 t x y))
  (cond (!P.eqGuardType P.depth t) (yY P 8 t x y) fail)
 |_=>fail
noncomputable def M9 (op:BinOp) (a b:I):M V:=
 match op with
 | .add=>bind (eE 3 [a,b]) fun _=>bind (dZ 3 [a,b] 0 cy) fun l=>pure (.w (.one (.str l)))
 | .eql=>bind (dZ 4 [a,b] 0 1) fun l=>pure (.w (.one (.bool (.mkEq ⟨l,0,1⟩ (.const 1)))))
 | .neq=>bind (dZ 4 [a,b] 0 1) fun l=>pure (.w (.one (.bool (.mkNot (.mkEq ⟨l,0,1⟩ (.const 1))))))
 | .lss=>bind (dZ 5 [a,b] 0 1) fun l=>pure (.w (.one (.bool (.mkEq ⟨l,0,1⟩ (.const 1)))))
 | .geq=>bind (dZ 5 [a,b] 0 1) fun l=>pure (.w (.one (.bool (.mkNot (.mkEq ⟨l,0,1⟩ (.const 1))))))
 |_=>fail
def WE (s:I):M V:=bind (dZ 0 [s] 0 9223372036854775807) fun l=>pure (.w (.one (.int .i64 ⟨l,0,9223372036854775807⟩)))
def WD (s i:I):M V:=bind (eE 1 [s,i]) fun _=>bind (dZ 1 [s,i] 0 255) fun l=>pure (.w (.one (.int .u8 ⟨l,0,255⟩)))
noncomputable def Ha (s a b:I):M V:=bind (eE 2 [s,a,b]) fun _=>bind (dZ 2 [s,a,b] 0 cy) fun l=>pure (.w (.one (.str l)))
def nk (v:V):Option I:=match v with| .w (.one (.int _ a))=>some a.l|_=>none
noncomputable def Na (tm:List V) (s:I) (lo hi:Option Operand):M V:=
 match(match lo with|none=>some (I.const 0)|some x=>nk (bP tm x))with
 |none=>fail
 |some a=>match hi with
  |none=>bind (dZ 0 [s] 0 9223372036854775807) fun b=>Ha s a b
  |some y=>match nk (bP tm y)with
   |some b=>Ha s a b
   |none=>fail
noncomputable def Qs (P:Program) (op:BinOp) (t:TypeId) (x y:V):M V:=
 match x,y with
 | .w (.one (.int k a)),.w (.one (.int aQ b))=>bind (Is op k a aQ b) fun r=>pure (.w (.one r))
 | .w (.agg a),.w (.agg b)=>match op,Jk P t a b with
  | .eql,some e=>pure (.w (.one (.bool e)))
  | .neq,some e=>pure (.w (.one (.bool (.mkNot e))))
  | .eql,none=>bind (EX P t a b) fun e=>pure (.w (.one (.bool e)))
  | .neq,none=>bind (EX P t a b) fun e=>pure (.w (.one (.bool (.mkNot e))))
  |_,_=>fail
 | .w (.one (.str a)),.w (.one (.str b))=>M9 op a b
 | .w (.one (.bool a)),.w (.one (.bool b))=>match op,P.underlying t with
  | .eql,some .bool=>pure (.w (.one (.bool (.mkIff a b))))
  | .neq,some .bool=>pure (.w (.one (.bool (.mkNot (.mkIff a b)))))
  |_,_=>fail
 |_,_=>fail
def WW (op:UnOp) (x:V):M V:=
 match op,x with
 | .not,.w (.one (.bool b))=>pure (.w (.one (.bool (.mkNot b))))
 | .xor,.w (.one (.int k a))=>cond (!k.signed&&decide (0<=a.lo)&&decide (a.hi<two k)) (pure (.w (.one (.int k ⟨(I.const (two k-1)).sub a.l,two k-1-a.hi,two k-1-a.lo⟩)))) fail
 | .neg,.w (.one (.int k a))=>bind (sU k ⟨a.l.smul (-1),-a.hi,-a.lo⟩) fun r=>pure (.w (.one (.int k r)))
 |_,_=>fail
def Ra (P:Program) (src dst:TypeId) (x:V):M V:=
 match P.underlying src,P.underlying dst,x with
 |some _,some .string,.w (.one (.int _ a))=>match a.l.dg with
  |some c=>cond (Nat.ble (Utf8.encode c).size 1000) (pure (.w (.one (.str (.const (dI (Utf8.encode c).data.toList)))))) fail
  |none=>fail
 |_,_,_=>match P.underlying src,kindOf P dst,x with
 |some _,some k,.w (.one (.int _ a))=>bind (sU k a) fun r=>pure (.w (.one (.int k r)))
 |_,_,_=>fail
def EO (v:V):Option Int:=match v with| .w (.one (.int _ a))=>a.l.dg|_=>none
def Gm (tm:List V):Option Operand->Option (Option Int)
 |none=>some none
 |some x=>match EO (bP tm x)with|some c=>some (some c)|none=>none
def Wt (P:Program) (t:TypeId) (x:V) (lo hi:Option Int):M V:=
 match x,oz P t with
 | .w (.one (.ptr b off)),some (n,e)=>match ed P e with
  |some s=>cond (decide (0<=lo.getD 0)&&decide (lo.getD 0<=hi.getD n)&&decide (hi.getD n<=n)&&decide (lo.getD 0<n)) (pure (.w (.one (.slc b (off+(lo.getD 0).toNat*s) ((hi.getD n).toNat-(lo.getD 0).toNat) (n-(lo.getD 0).toNat))))) fail
  |none=>fail
 | .w (.one (.slc b off len cap)),none=>match gg P t with
  |some e=>match ed P e with
   |some s=>cond (decide (0<=lo.getD 0)&&decide (lo.getD 0<=hi.getD len)&&decide (hi.getD len<=cap)&&decide (lo.getD 0<cap)) (pure (.w (.one (.slc b (off+(lo.getD 0).toNat*s) ((hi.getD len).toNat-(lo.getD 0).toNat) (cap-(lo.getD 0).toNat))))) fail
   |none=>fail
  |none=>fail
 |_,_=>fail
def Va (x:V):M V:=
 match x with
 | .w (.one (.ptr b o))=>pure (.w (.one (.ptr b o)))
 | .w (.one (.lq b o i))=>pure (.w (.one (.lq b o i)))
 | .w (.one (.gptr g o))=>pure (.w (.one (.gptr g o)))
 |_=>fail
def W.cells:W->List A
 | .one a=>[a]
 | .agg l=>l
def kP (P:Program) (t:TypeId):Option (List A):=
 match P.info? t with
 |some i=>match i.zero with
  |some z=>tg z.cells.toList
  |none=>none
 |none=>none
def rX (place:Nat->Option (Nat×Nat)):List A->List (Nat×V)->Option (List A)
 |cells,[]=>some cells
 |cells,(i,.w u)::r=>match place i with
  |some (off,size)=>cond (Nat.beq u.cells.length size&&Nat.ble (off+size) cells.length) (rX place (cells.take off++u.cells++cells.drop (off+size)) r) none
  |none=>none
 |_,_::_=>none
def IA (P:Program) (t:TypeId) (parts:List (Nat×V)):Option (List A):=
 match kP P t,P.underlying t with
 |some z,some (.array _ e)=>match ed P e with
  |some s=>rX (fun i=>some (i*s,s)) z parts
  |none=>none
 |some z,some (.struct fields)=>match fields.toList.mapM (fun f=>(P.info? f.type).map fun i=>(f.offset,i.size))with
  |some places=>rX (places.toArray[·]?) z parts
  |none=>none
 |_,_=>none
noncomputable def Mq (P:Program) (cal:dQ) (gl:dz) (bl:List aq) (tm:List V) (o:Oper):M V:=
 match o.op with
 | .move x| .assign x=>pure (bP tm x)
 | .load t x=>match bP tm x with
  | .w (.one (.lq b off aJ))=>MS P bl t b off aJ
  | .w (.one (.y9 g off aJ))=>MR P gl t g off aJ
  | .w (.one p)=>LO P bl gl t p
  |_=>fail
 | .nilCheck x=>Va (bP tm x)
 | .pick c x y=>match bP tm c with
  | .w (.one (.bool (.lit v)))=>pure (cond v (bP tm x) (bP tm y))
  |_=>fail
 | .binOp op t x y _=>Qs P op t (bP tm x) (bP tm y)
 | .unOp op _ x=>WW op (bP tm x)
 | .convert s d x=>Ra P s d (bP tm x)
 | .indexAddr t x aJ=>match bP tm aJ with
  | .w (.one (.int _ i))=>Ll P t (bP tm x) i
  |_=>fail
 | .index t x aJ=>match bP tm x with
  | .w (.one (.str s))=>match P.underlying t,nk (bP tm aJ)with
   |some .string,some i=>WD s i
   |_,_=>fail
  |_=>match bP tm x,EO (bP tm aJ),oz P t with
   | .w (.agg l),some i,some (len,e)=>match ed P e with
    |some s=>cond (decide (0<=i)&&decide (i<len)) (Gt P e l (i.toNat*s)) fail
    |none=>fail
   |_,_,_=>fail
 | .fieldAddr s x f=>match bP tm x,BD P s f with
  | .w (.one (.ptr b off)),some fd=>match ed P fd.type with
   |some (_+1)=>pure (.w (.one (.ptr b (off+fd.offset))))
   |_=>fail
  |_,_=>fail
 | .field s x f=>match bP tm x,BD P s f with
  | .w (.agg l),some fd=>Gt P fd.type l fd.offset
  |_,_=>fail
 | .extract x i=>match bP tm x with
  | .e4 l=>match l[i]? with|some u=>pure (.w u)|none=>fail
  |_=>fail
 | .slice t x lo hi none=>match bP tm x,P.underlying t with
  | .w (.one (.str s)),some .string=>Na tm s lo hi
  |_,_=>match Gm tm lo,Gm tm hi with
   |some l,some h=>Wt P t (bP tm x) l h
   |_,_=>fail
 | .call c=>match c.callee with
  | .value (.func f)=>match cal f with
   |some g=>g bl (c.args.toList.map (bP tm))
   |none=>fail
  | .builtin .len=>match c.args.toList,c.argTypes.toList with
   |[x],[t]=>match bP tm x,P.underlying t with
    | .w (.one (.str s)),some .string=>WE s
    |_,_=>match bP tm x,gg P t with
     | .w (.one (.slc _ _ len _)),some _=>pure (.w (.one (.int .i64 (.const len))))
     | .mi _ len _,some _=>pure (.w (.one (.int .i64 (.const len))))
     |_,_=>fail
   |_,_=>fail
  |_=>fail
 | .makeFunc (.func f) first gG=>match first.toList,tV (gG.toList.map (bP tm))with
  |[],some l=>pure (.mB f l)
  |_,_=>fail
 | .build t parts=>match IA P t (parts.toList.map fun p=>(p.1,bP tm p.2))with
  |some l=>pure (.w (.agg l))
  |none=>fail
 | .sliceToArrayPointer t x=>match bP tm x,oz P t with
  | .mi b len _,some (k,_)=>cond (Nat.ble k len) (pure (.w (.one (.ptr b 0)))) fail
  | .w (.one (.slc b off len _)),some (k,_)=>cond (Nat.ble k len) (pure (.w (.one (.ptr b off)))) fail
  |_,_=>fail
 |_=>fail
section
variable {S:Nat->List Int->List Int->Prop} {L:V->Env->Prop} {n:Nat} {ρ:Env} {m:Nat->Nat} {bl:List aq} {gl:dz} {w0:de} {P:Program} {tm:List V} {a:Act}
def jZ (w0:de) (m:Nat->Nat) (bl:List aq) (n:Nat) (ρ:Env) (P:Program) (o:Oper) (a:Act) (ad:Env) (n':Nat) (v:V):Prop:=
 v.ok n' bl.length ad/\∃val,v.rel ad m val/\∀w,Mem w0 ρ m bl w->AX P o a w val
theorem jZ.of_run {o:Oper} {s:Sem Value} {ad:Env} {n':Nat} {v:V} (he:execOp a.eval o=(do pure (Next.value (<-s)))) (h:j0 w0 m bl n ρ (fun w=>s.run P w) ad n' v):jZ w0 m bl n ρ P o a ad n' v:=by
 obtain⟨h1,val,h2,h3⟩:=h
 exact⟨h1,val,h2,fun w hw=> .inl (by rw[he];simp[h3 w hw])⟩
theorem W.EL {n nb:Nat} {ρ:Env} {m:Nat->Nat} (u:W) (hu:u.ok n nb ρ):(u.den ρ m).cells=(u.cells.map (A.den ρ m)).toArray:=by
 cases u with
 |one a=>
  have:=A.Gi (m:=m) hu
  simp only[W.den,W.cells,List.map_cons,List.map_nil]
  generalize A.den ρ m a=v at*
  cases v<;>first|rfl|simp[Value.oneCell']at this
 |agg l=>simp[W.den,W.cells,Value.cells]
theorem W.yQ {n nb:Nat} {ρ:Env} {u:W} (hu:u.ok n nb ρ):∀a∈u.cells,A.ok n nb ρ a:=by
 cases u with
 |one a=>intro x hx;simp[W.cells]at hx;subst hx;exact hu
 |agg l=>exact hu
def D6 (n nb:Nat) (ρ:Env) (m:Nat->Nat):List (Nat×V)->List (Nat×Value)->Prop
 |[],[]=>True
 |p::r,q::s=>(p.1=q.1/\V.ok n nb ρ p.2/\V.rel ρ m p.2 q.2)/\D6 n nb ρ m r s
 |_,_=>False
theorem RV (off:Nat):∀(src:List Value) (dst:Array Value) (k:Nat),off+k+src.length<=dst.size->
 ((src.zipIdx k).foldl (fun cs (c,j)=>cs.setIfInBounds (off+j) c) dst)=(dst.toList.take (off+k)++src++dst.toList.drop (off+k+src.length)).toArray
 |[],dst,k,h=>by simp
 |c::src,dst,k,h=>by
  simp only[List.length_cons]at h
  rw[List.zipIdx_cons,List.foldl_cons,RV off src _ (k+1) (by simp;omega)]
  congr 1
  simp only[Array.toList_setIfInBounds,List.length_cons]
  have h1:off+k<dst.toList.length:=by simp;omega
  rw[List.take_set,show off+(k+1)=off+k+1 by omega,List.drop_set_of_lt (by omega),List.take_add_one,List.getElem?_eq_getElem h1]
  rw[show off+k+1+src.length=off+k+(src.length+1) by omega]
  simp only[Option.toList_some]
  rw[List.set_append_right _ _ (by simp;omega)]
  have hm:min (off+k) dst.size=off+k:=Nat.min_eq_left (by omega)
  simp[hm]
theorem E1 {n nb:Nat} {ρ:Env} {m:Nat->Nat} {place:Nat->Option (Nat×Nat)}:∀{parts:List (Nat×V)} {vals:List (Nat×Value)} {cells l:List A},rX place cells parts=some l->(∀a∈cells,A.ok n nb ρ a)->
 D6 n nb ρ m parts vals->(∀a∈l,A.ok n nb ρ a)/\Instr.fill place (cells.map (A.den ρ m)).toArray vals=some (l.map (A.den ρ m)).toArray
 |[],[],cells,l,h,hc,_=>by simp[rX]at h;subst h;exact⟨hc,rfl⟩
 |(i,.w u)::r,(xt,x)::s,cells,l,h,hc,⟨⟨e1,e2,bu⟩,hr⟩=>by
  simp only at e1;subst e1
  simp only[V.rel]at bu
  have bu:x=u.den ρ m:=bu
  subst bu
  simp only[rX]at h
  cases hp:place i with
  |none=>simp[hp]at h
  |some q=>
   obtain⟨off,size⟩:=q
   simp only[hp]at h
   cases hq:(Nat.beq u.cells.length size&&Nat.ble (off+size) cells.length)with
   |false=>simp[hq]at h
   |true=>
    simp only[hq,cond_true]at h
    simp only[Bool.and_eq_true]at hq
    have bo:=Nat.eq_of_beq_eq_true hq.1
    have bQ:=Nat.le_of_ble_eq_true hq.2
    have hcells:=W.EL (m:=m) u e2
    obtain⟨g1,g2⟩:=E1 (m:=m) h (fun a ha=>by
     rcases List.mem_append.1 ha with ha|ha
     ·rcases List.mem_append.1 ha with ha|ha
      ·exact hc a (List.mem_of_mem_take ha)
      ·exact W.yQ e2 a ha
     ·exact hc a (List.mem_of_mem_drop ha)) hr
    refine⟨g1,?_⟩
    simp only[Instr.fill,hp,hcells,List.size_toArray,List.length_map,bo]
    rw[if_neg (by simp;omega)]
    rw[<-g2]
    congr 1
    have:=RV off (u.cells.map (A.den ρ m)) (cells.map (A.den ρ m)).toArray 0 (by simp;omega)
    simp only[Nat.add_zero]at this
    rw[<-Array.foldl_toList]
    simp only[Array.toList_zipIdx]
    rw[this]
    simp[List.map_take,List.map_drop,bo]
 |(_,.e4 _)::_,_,_,_,h,_,_=>by simp[rX]at h
 |(_,.any)::_,_,_,_,h,_,_=>by simp[rX]at h
 |[],_::_,_,_,_,_,hr=>hr.elim
 |(_,.w _)::_,[],_,_,_,_,hr=>hr.elim
theorem aaU {n nb:Nat} {ρ:Env} {m:Nat->Nat} {t:TypeId} {parts:List (Nat×V)} {vals:List (Nat×Value)} {l:List A} (h:IA P t parts=some l)
 (hr:D6 n nb ρ m parts vals):(∀a∈l,A.ok n nb ρ a)/\P.built t vals=some (l.map (A.den ρ m)).toArray:=by
 unfold IA at h
 unfold Program.built
 cases hz:kP P t with
 |none=>simp[hz]at h
 |some z=>
  unfold kP at hz
  cases hi:P.info? t with
  |none=>simp[hi]at hz
  |some it=>
   simp only[hi]at hz
   cases hz0:it.zero with
   |none=>simp[hz0]at hz
   |some z0=>
    simp only[hz0]at hz
    have hzs:=th hz n nb ρ m
    have hz1:z0.cells=(z.map (A.den ρ m)).toArray:=by rw[hzs.2]
    cases hu:P.underlying t with
    |none=>simp[kP,hi,hz0,hz,hu]at h
    |some d=>
     cases d<;>try(simp[kP,hi,hz0,hz,hu]at h;done)
     case array len e=>
      simp only[kP,hi,hz0,hz,hu,ed]at h
      cases Ko:P.info? e with
      |none=>simp[Ko]at h
      |some ay8=>
       simp only[Ko]at h
       simp only[hz0,Ko,hz1]
       exact E1 h hzs.1 hr
     case struct fields=>
      simp only[kP,hi,hz0,hz,hu]at h
      cases hp:fields.toList.mapM (fun f=>(P.info? f.type).map fun i=>(f.offset,i.size))with
      |none=>simp[hp]at h
      |some places=>
       simp only[hp]at h
       simp only[hz0,hp,hz1]
       exact E1 h hzs.1 hr
theorem VC {t:TypeId} {l:List A} {off:Nat} (hl:∀x∈l,A.ok n bl.length ρ x):ai S L (Gt P t l off) n ρ (j0 w0 m bl n ρ fun w=>(part t (l.map (A.den ρ m)).toArray off).run P w):=by
 unfold Gt
 cases h1:gK P t with
 |none=>exact ai.fail
 |some b=>
  cases b with
  |true=>
   cases h2:ed P t with
   |none=>exact ai.fail
   |some k=>
    refine ai.pure ⟨fun x hx=>hl x (List.mem_of_mem_drop (List.mem_of_mem_take hx)),_,rfl,fun w _=>?_⟩
    simp[part,nw h1,gy h2,W.den,List.map_take,List.map_drop,List.take_drop]
    try congr 1
  |false=>
   cases h3:l[off]? with
   |none=>exact ai.fail
   |some x=>
    refine ai.pure ⟨hl x (List.mem_of_getElem? h3),_,rfl,fun w _=>?_⟩
    simp[part,nw h1,h3,W.den]
theorem qn {t:TypeId} {len:Nat} {e:TypeId} (h:oz P t=some (len,e)):P.underlying t=some (.array len e):=by
 unfold oz at h
 cases hu:P.underlying t with
 |none=>simp[hu]at h
 |some d=>cases d<;>simp[hu]at h<;>simp[h]
theorem ff {t e:TypeId} (h:gg P t=some e):P.underlying t=some (.slice e):=by
 unfold gg at h
 cases hu:P.underlying t with
 |none=>simp[hu]at h
 |some d=>cases d<;>simp[hu]at h<;>simp[h]
theorem Ly {t:TypeId} {k:IntKind} (h:kindOf P t=some k):P.underlying t=some (.int k):=by
 unfold kindOf at h
 cases hu:P.underlying t with
 |none=>simp[hu]at h
 |some d=>cases d<;>simp[hu]at h<;>simp[h]
theorem Jp {s:TypeId} {f:Nat} {fd:Field} (h:BD P s f=some fd):∃dv,P.underlying s=some (.struct dv)/\dv[f]?=some fd:=by
 unfold BD at h
 cases hu:P.underlying s with
 |none=>simp[hu]at h
 |some d=>cases d<;>simp[hu]at h<;>exact⟨_,rfl,h⟩
theorem ahG {t:TypeId} {x:V} {k:IntKind} {aJ:bh} {X:Value} (hx:x.ok n bl.length ρ) (bw:x.rel ρ m X) (hi:aJ.ok n ρ):
 ai S L (Ll P t x aJ) n ρ (j0 w0 m bl n ρ fun w=>(Instr.indexAt t X (.int k (aJ.l.den ρ))).run P w):=by
 unfold Ll
 split
 ·rename_i b off
  simp only[V.rel,W.den,A.den]at bw;subst bw
  cases h1:oz P t with
  |none=>exact ai.fail
  |some q=>
   obtain⟨len,e⟩:=q
   cases h2:ed P e with
   |none=>simp only[h2];exact ai.fail
   |some s=>
    simp only[h2]
    cases h3:aJ.l.dg with
    |some i=>
     refine dr fun hc=>ai.pure ⟨hx,_,rfl,fun w _=>?_⟩
     simp only[Bool.and_eq_true,decide_eq_true_eq]at hc
     simp[Instr.indexAt,asIntOf,run_underlying (qn h1),Instr.sureAddr,I.gq h3,hc,gy h2,gE,W.den,A.den]
    |none=>
     refine dr fun hc=>ai.pure ⟨?_,_,rfl,fun w _=>?_⟩
     ·simp only[Bool.and_eq_true,decide_eq_true_eq]at hc
      exact⟨hx,hi,hc.1.2⟩
     ·simp only[Bool.and_eq_true,decide_eq_true_eq]at hc
      have hs:=Nat.eq_of_beq_eq_true hc.1.1
      subst hs
      have b1:=hi.2
      have c1:0<=aJ.l.den ρ:=by omega
      have c2:aJ.l.den ρ<len:=by omega
      simp[Instr.indexAt,asIntOf,run_underlying (qn h1),Instr.sureAddr,c1,c2,gy h2,gE,W.den,A.den]
 ·rename_i g off
  simp only[V.rel,W.den,A.den]at bw;subst bw
  cases h1:oz P t with
  |none=>exact ai.fail
  |some q=>
   obtain⟨len,e⟩:=q
   cases h2:ed P e with
   |none=>simp only[h2];exact ai.fail
   |some s=>
    simp only[h2]
    cases h3:aJ.l.dg with
    |some i=>
     refine dr fun hc=>ai.pure ⟨trivial,_,rfl,fun w _=>?_⟩
     simp only[Bool.and_eq_true,decide_eq_true_eq]at hc
     simp[Instr.indexAt,asIntOf,run_underlying (qn h1),Instr.sureAddr,I.gq h3,hc,gy h2,gE,W.den,A.den]
    |none=>
     refine dr fun hc=>fF fun hq=>ai.pure ⟨?_,_,rfl,fun w _=>?_⟩
     ·simp only[List.map_cons,List.map_nil,I.aK,ab,Bn]at hq
      exact⟨⟨hi.1,by show(0:Int)<=_;exact hq.1,by show _<=((len:Int)-1);have:=hq.2;simp only;omega⟩,Int.le_refl _⟩
     ·simp only[List.map_cons,List.map_nil,I.aK,ab,Bn]at hq
      have hs:=Nat.eq_of_beq_eq_true hc
      subst hs
      simp[Instr.indexAt,asIntOf,run_underlying (qn h1),Instr.sureAddr,hq.1,hq.2,gy h2,gE,W.den,A.den]
 ·rename_i b off len cap
  simp only[V.rel,W.den,A.den]at bw;subst bw
  cases h1:gg P t with
  |none=>exact ai.fail
  |some e=>
   cases h2:ed P e with
   |none=>simp only[h2];exact ai.fail
   |some s=>
    simp only[h2]
    cases h3:aJ.l.dg with
    |some i=>
     refine dr fun hc=>ai.pure ⟨hx,_,rfl,fun w _=>?_⟩
     simp only[Bool.and_eq_true,decide_eq_true_eq]at hc
     simp[Instr.indexAt,asIntOf,run_underlying (ff h1),Instr.sureAddr,I.gq h3,hc,gy h2,gE,W.den,A.den]
    |none=>
     refine dr fun hc=>ai.pure ⟨?_,_,rfl,fun w _=>?_⟩
     ·simp only[Bool.and_eq_true,decide_eq_true_eq]at hc
      exact⟨hx,hi,hc.1.2⟩
     ·simp only[Bool.and_eq_true,decide_eq_true_eq]at hc
      have hs:=Nat.eq_of_beq_eq_true hc.1.1
      subst hs
      have b1:=hi.2
      have c1:0<=aJ.l.den ρ:=by omega
      have c2:aJ.l.den ρ<len:=by omega
      simp[Instr.indexAt,asIntOf,run_underlying (ff h1),Instr.sureAddr,c1,c2,gy h2,gE,W.den,A.den]
 ·rename_i b len lo
  obtain⟨c,_,bw⟩:=bw
  subst bw
  cases h1:gg P t with
  |none=>exact ai.fail
  |some e=>
   cases h2:ed P e with
   |none=>simp only[h2];exact ai.fail
   |some s=>
    simp only[h2]
    cases h3:aJ.l.dg with
    |some i=>
     refine dr fun hc=>ai.pure ⟨hx,_,rfl,fun w _=>?_⟩
     simp only[Bool.and_eq_true,decide_eq_true_eq]at hc
     simp[Instr.indexAt,asIntOf,run_underlying (ff h1),Instr.sureAddr,I.gq h3,hc,gy h2,gE,W.den,A.den]
    |none=>exact ai.fail
 ·exact ai.fail
theorem akR {vs:List V}:∀{l:List A} {xs:List Value},tV vs=some l->(∀v∈vs,V.ok n bl.length ρ v)->dK ρ m vs xs->(∀a∈l,A.ok n bl.length ρ a)/\xs=l.map (A.den ρ m):=by
 induction vs with
 |nil=>
  intro l xs h _ hr
  simp[tV]at h;subst h
  cases xs with
  |nil=>exact⟨fun _ h=>by simp at h,rfl⟩
  |cons _ _=>exact hr.elim
 |cons v r ih=>
  intro l xs h hok hr
  cases xs with
  |nil=>cases v<;>exact hr.elim
  |cons x s=>
   cases v with
   |w y=>
    cases y with
    |agg q=>simp[tV]at h
    |one a=>
     cases h1:tV r with
     |none=>simp[tV,h1]at h
     |some bx=>
      simp only[tV,h1,Option.some.injEq]at h
      subst h
      obtain⟨e1,e2⟩:=ih h1 (fun v hv=>hok v (List.mem_cons_of_mem _ hv)) hr.2
      have h0:x=a.den ρ m:=hr.1
      exact⟨fun b hb=>by rcases List.mem_cons.1 hb with rfl|hb;exact hok (.w (.one b)) (by simp);exact e1 b hb,by rw[h0,e2];rfl⟩
   |_=>simp[tV]at h
theorem acT {e:TypeId} {k:IntKind} (he:P.underlying e=some (.int k)) (d:Nat) (xs eO:Array Value) (w:World):∀(l bx:List A) (i:Nat) (b:aT),uS l bx=some b->(∀x∈l,A.ok n bl.length ρ x)->(∀x∈bx,A.ok n bl.length ρ x)->
 xs.toList.drop i=l.map (A.den ρ m)->eO.toList.drop i=bx.map (A.den ρ m)->b.aX n/\(Op.eqItems (d+1) e 1 xs eO (List.range' i l.length)).run P w= .ok (b.den ρ) w:=by
 intro l
 induction l with
 |nil=>
  intro bx i b h _ _ _ _
  cases bx with
  |nil=>simp[uS]at h;subst h;exact⟨trivial,by simp[Op.eqItems,aT.den]⟩
  |cons y r'=>simp[uS]at h
 |cons x r ih=>
  intro bx i b h hl sb hx hy
  cases bx with
  |nil=>cases x<;>simp[uS]at h
  |cons y r'=>
   cases x<;>cases y<;>simp only[uS]at h<;>try(cases h;done)
   rename_i k1 x k2 y
   by_cases hk:k1=k2
   ·subst hk
    simp only[decide_true,cond_true]at h
    cases hr:uS r r' with
    |none=>simp[hr]at h
    |some b6=>
     simp only[hr,Option.some.injEq]at h
     subst h
     have agS:x.ok n ρ:=hl (.int k1 x) (by simp)
     have agT:y.ok n ρ:=sb (.int k1 y) (by simp)
     have e1:=aT.pD agS agT
     have BN:xs[i]?=some (.int k1 (x.l.den ρ)):=by
      have:=congrArg List.head? hx
      simpa [A.den]using this
     have BO:eO[i]?=some (.int k1 (y.l.den ρ)):=by
      have:=congrArg List.head? hy
      simpa [A.den]using this
     have wH:xs.toList.drop (i+1)=r.map (A.den ρ m):=by
      have:=congrArg List.tail hx
      simpa using this
     have aE:eO.toList.drop (i+1)=r'.map (A.den ρ m):=by
      have:=congrArg List.tail hy
      simpa using this
     obtain⟨s2,r2⟩:=ih r' (i+1) b6 hr (fun z hz=>hl z (List.mem_cons_of_mem _ hz)) (fun z hz=>sb z (List.mem_cons_of_mem _ hz)) wH aE
     refine⟨aT.GZ e1.2 s2,?_⟩
     simp only[List.length_cons,List.range'_succ,Op.eqItems,Sem.run_bind]
     have xI:(part e xs (i*1)).run P w= .ok (.int k1 (x.l.den ρ)) w:=by simp[part,isAgg,run_underlying he,BN]
     have xJ:(part e eO (i*1)).run P w= .ok (.int k1 (y.l.den ρ)) w:=by simp[part,isAgg,run_underlying he,BO]
     simp only[xI,xJ,Result.andThen_ok,run_equalIn_int w d e k1 k _ _ he,aT.ET,e1.1]
     by_cases hq:x.l.den ρ=y.l.den ρ
     ·simp[hq,r2]
     ·simp[hq]
   ·simp[hk]at h
theorem Ru {t:TypeId} {x y:List A} {b:aT} (h:Jk P t x y=some b) (hx:∀z∈x,A.ok n bl.length ρ z) (hy:∀z∈y,A.ok n bl.length ρ z):
 b.aX n/\P.eqGuardType P.depth t=false/\∀w,(Op.equalIn 10000 t (.agg (x.map (A.den ρ m)).toArray) (.agg (y.map (A.den ρ m)).toArray)).run P w= .ok (b.den ρ) w:=by
 unfold Jk at h
 cases h1:oz P t with
 |none=>simp[h1]at h
 |some q=>
  obtain⟨len,e⟩:=q
  simp only[h1]at h
  cases h2:kindOf P e with
  |none=>simp[h2]at h
  |some k=>
   cases h3:ed P e with
   |none=>simp[h2,h3]at h
   |some s=>
    match s,h3 with
    |0,h3=>simp[h2,h3]at h
    |s+2,h3=>simp[h2,h3]at h
    |1,h3=>
     simp only[h2,h3]at h
     cases hc:(Nat.beq x.length len&&Nat.beq y.length len&& !P.eqGuardType P.depth t)with
     |false=>simp[hc]at h
     |true=>
      simp only[hc,cond_true]at h
      simp only[Bool.and_eq_true,Bool.not_eq_true']at hc
      have hl:=Nat.eq_of_beq_eq_true hc.1.1
      have agd:∃i,P.info? e=some i/\P.cellsOf e=1:=by
       unfold ed at h3
       cases hq:P.info? e with
       |none=>simp[hq]at h3
       |some i=>simp[hq]at h3;exact⟨i,rfl,by simp[Program.cellsOf,hq,h3]⟩
      obtain⟨i,qO,cE⟩:=agd
      have hsp:=fun w=>acT (P:=P) (bl:=bl) (n:=n) (ρ:=ρ) (m:=m) (Ly h2) 9998 (x.map (A.den ρ m)).toArray (y.map (A.den ρ m)).toArray w x y 0 b h hx hy (by simp) (by simp)
      refine⟨(hsp default).1,hc.2,fun w=>?_⟩
      rw[show(10000:Nat)=9999+1 from rfl,run_equalIn_array w 9999 _ _ (qn h1) qO,cE,List.range_eq_range',<-hl]
      exact(hsp w).2
theorem wz (l:List UInt8):(bb l).toList=l:=ByteArray.toList_mk l
theorem oC (l:List UInt8):(bb l).size=l.length:=by simp[bb,ByteArray.size]
theorem Qr (l bx:List UInt8):(l==bx)=decide ((if l=bx then(1:Int)else 0)=1):=by
 by_cases h:l=bx
 ·subst h;simp
 ·rw[if_neg h];simp[h]
theorem Bb (p:Prop) [Decidable p]:(0:Int)<=(if p then 1 else 0)/\(if p then(1:Int)else 0)<=1:=by split<;>decide
theorem T4 (b:Bool):b=decide ((if b=true then(1:Int)else 0)=1):=by cases b<;>rfl
theorem aof {op:BinOp} {t:TypeId} {x y:Operand} {p q:I} (hp:(A.str p).ok n bl.length ρ) (hq:(A.str q).ok n bl.length ρ):
 ai S L (M9 op p q) n ρ (j0 w0 m bl n ρ fun w=>(do eqGuard op t x y (.string (bb (U (p.den ρ)))) (.string (bb (U (q.den ρ))));binOp op t (.string (bb (U (p.den ρ)))) (.string (bb (U (q.den ρ)))):Sem Value).run P w):=by
 have b1:=Bb (U (p.den ρ)=U (q.den ρ))
 have b2:=Bb (Op.bytesLess (U (p.den ρ)) (U (q.den ρ))=true)
 unfold M9
 split
 ·refine fF fun hc=>?_
  have hc:(U (p.den ρ)).length+(U (q.den ρ)).length<=ga:=hc
  have hl:(U (p.den ρ)++U (q.den ρ)).length<=ga:=by simpa using hc
  refine(eZ (op:=3) (args:=[p,q]) (pz _) (nG hl)).bind fun ax n1 l _ _ ⟨h1,h2⟩=>?_
  have h2:l.den ax=dI (U (p.den ρ)++U (q.den ρ)):=h2
  refine ai.pure ⟨⟨h1,by rw[h2];exact pz _,by rw[h2];exact nG hl⟩,_,rfl,fun w _=>?_⟩
  have hr:=run_string_add_sum (P:=P) w (bb (U (p.den ρ))) (bb (U (q.den ρ))) (by rw[oC,oC];unfold ga at hc;omega)
  simp only[eqGuard,binOp_string_add,W.den,A.den,h2,gb]
  simp[hr]
  exact ByteArray.mk_append_mk _ _
 ·refine(eZ (op:=4) (args:=[p,q]) b1.1 b1.2).bind fun ax n1 l _ _ ⟨h1,h2⟩=>?_
  have h2:l.den ax=if U (p.den ρ)=U (q.den ρ)then 1 else 0:=h2
  have e:=aT.pD (n:=n1) (ρ:=ax) (a:=⟨l,0,1⟩) (b:= .const 1) ⟨h1,by simp only[h2];exact b1.1,by simp only[h2];exact b1.2⟩ (bh.lI _ _ _)
  refine ai.pure ⟨e.2,_,rfl,fun w _=>?_⟩
  simp only[W.den,A.den,binOp_string_eql,wz]
  rw[e.1]
  simp only[h2,bh.const,I.aK,Qr]
  simp[eqGuard]
 ·refine(eZ (op:=4) (args:=[p,q]) b1.1 b1.2).bind fun ax n1 l _ _ ⟨h1,h2⟩=>?_
  have h2:l.den ax=if U (p.den ρ)=U (q.den ρ)then 1 else 0:=h2
  have e:=aT.pD (n:=n1) (ρ:=ax) (a:=⟨l,0,1⟩) (b:= .const 1) ⟨h1,by simp only[h2];exact b1.1,by simp only[h2];exact b1.2⟩ (bh.lI _ _ _)
  refine ai.pure ⟨aT.sL e.2,_,rfl,fun w _=>?_⟩
  simp only[W.den,A.den,aT.rR,binOp_string_neq,wz]
  rw[e.1]
  simp only[h2,bh.const,I.aK,Qr]
  simp[eqGuard]
 ·refine(eZ (op:=5) (args:=[p,q]) b2.1 b2.2).bind fun ax n1 l _ _ ⟨h1,h2⟩=>?_
  have h2:l.den ax=if Op.bytesLess (U (p.den ρ)) (U (q.den ρ))=true then 1 else 0:=h2
  have e:=aT.pD (n:=n1) (ρ:=ax) (a:=⟨l,0,1⟩) (b:= .const 1) ⟨h1,by simp only[h2];exact b2.1,by simp only[h2];exact b2.2⟩ (bh.lI _ _ _)
  refine ai.pure ⟨e.2,_,rfl,fun w _=>?_⟩
  simp only[W.den,A.den,binOp_string_lss,wz]
  rw[e.1]
  simp only[h2,bh.const,I.aK]
  rw[<-T4]
  simp[eqGuard]
 ·refine(eZ (op:=5) (args:=[p,q]) b2.1 b2.2).bind fun ax n1 l _ _ ⟨h1,h2⟩=>?_
  have h2:l.den ax=if Op.bytesLess (U (p.den ρ)) (U (q.den ρ))=true then 1 else 0:=h2
  have e:=aT.pD (n:=n1) (ρ:=ax) (a:=⟨l,0,1⟩) (b:= .const 1) ⟨h1,by simp only[h2];exact b2.1,by simp only[h2];exact b2.2⟩ (bh.lI _ _ _)
  refine ai.pure ⟨aT.sL e.2,_,rfl,fun w _=>?_⟩
  simp only[W.den,A.den,aT.rR,binOp_string_geq,wz]
  rw[e.1]
  simp only[h2,bh.const,I.aK]
  rw[<-T4]
  simp[eqGuard]
 ·exact ai.fail
theorem aoh {t ty:TypeId} {p:I} (hu:P.underlying t=some .string) (hp:(A.str p).ok n bl.length ρ):
 ai S L (WE p) n ρ (j0 w0 m bl n ρ fun w=>(Builtin.len_ #[t] ty #[.string (bb (U (p.den ρ)))]).run P w):=by
 have hl:=s5 hp.2.2
 unfold ga at hl
 refine(eZ (op:=0) (args:=[p]) (Int.natCast_nonneg _) (by show((U (p.den ρ)).length:Int)<=_;omega)).bind fun ax n1 l _ _ ⟨h1,h2⟩=>?_
 have h2:l.den ax=((U (p.den ρ)).length:Int):=h2
 refine ai.pure ⟨⟨h1,by simp only[h2];omega,by simp only[h2];omega⟩,_,rfl,fun w _=>?_⟩
 simp[Builtin.len_,run_underlying hu,goInt,W.den,A.den,h2,oC]
theorem aog {t:TypeId} {k:IntKind} {p i:I} (hu:P.underlying t=some .string) (hp:(A.str p).ok n bl.length ρ):
 ai S L (WD p i) n ρ (j0 w0 m bl n ρ fun w=>(Instr.index t (.string (bb (U (p.den ρ)))) (.int k (i.den ρ))).run P w):=by
 refine fF fun hc=>?_
 have hc:0<=i.den ρ/\i.den ρ<((U (p.den ρ)).length:Int):=hc
 have hlt:(i.den ρ).toNat<(U (p.den ρ)).length:=by omega
 have hb:=((U (p.den ρ)).getD (i.den ρ).toNat 0).toNat_lt
 refine(eZ (op:=1) (args:=[p,i]) (Int.natCast_nonneg _) (by show(((U (p.den ρ)).getD (i.den ρ).toNat 0).toNat:Int)<=_;omega)).bind fun ax n1 l _ _ ⟨h1,h2⟩=>?_
 have h2:l.den ax=(((U (p.den ρ)).getD (i.den ρ).toNat 0).toNat:Int):=h2
 refine ai.pure ⟨⟨h1,by simp only[h2];omega,by simp only[h2];omega⟩,_,rfl,fun w _=>?_⟩
 have e:(bb (U (p.den ρ)))[(i.den ρ).toNat]?=some ((U (p.den ρ)).getD (i.den ρ).toNat 0):=by
  rw[ByteArray.getElem?_lt' _ _ (by rw[oC];exact hlt)]
  simp[bb,List.getD,hlt]
  rfl
 simp[Instr.index,asIntOf,run_underlying hu,hc.1,e,W.den,A.den,h2]
theorem aoj {p a b:I} (hp:(A.str p).ok n bl.length ρ):ai S L (Ha p a b) n ρ fun ad n' v=>v.ok n' bl.length ad/\v.rel ad m (.string ((bb (U (p.den ρ))).extract (a.den ρ).toNat (b.den ρ).toNat))/\0<=a.den ρ/\a.den ρ<=b.den ρ/\b.den ρ<=((U (p.den ρ)).length:Int):=by
 refine fF fun hc=>?_
 have hc:0<=a.den ρ/\a.den ρ<=b.den ρ/\b.den ρ<=((U (p.den ρ)).length:Int):=hc
 have hl:=s5 hp.2.2
 have mF:(((U (p.den ρ)).drop (a.den ρ).toNat).take ((b.den ρ).toNat-(a.den ρ).toNat)).length<=ga:=by simp;omega
 refine(eZ (op:=2) (args:=[p,a,b]) (pz _) (nG mF)).bind fun ax n1 l _ _ ⟨h1,h2⟩=>?_
 have h2:l.den ax=dI (((U (p.den ρ)).drop (a.den ρ).toNat).take ((b.den ρ).toNat-(a.den ρ).toNat)):=h2
 refine ai.pure ⟨⟨h1,by rw[h2];exact pz _,by rw[h2];exact nG mF⟩,?_,hc⟩
 show _=_
 simp only[W.den,A.den,h2,gb]
 congr 1
 exact ByteArray.extract_mk _ _ _
theorem xx {v:V} {l:I} {x:Value} (h:nk v=some l) (hr:v.rel ρ m x) (hok:v.ok n bl.length ρ):∃k,x= .int k (l.den ρ)/\l.aX n:=by
 unfold nk at h
 split at h
 ·rename_i k a
  simp only[Option.some.injEq]at h;subst h
  exact⟨k,hr,hok.1⟩
 ·cases h
theorem pf {k:IntKind} {i:Int} {y:Nat} {tf:BoundsCode} (p1:0<=i) (p2:i<=y) (w:World):(Instr.sliceBound (.int k i) y tf).run P w= .ok i.toNat w:=by
 simp[Instr.sliceBound,asIntOf,p1,p2]
theorem aoi {t:TypeId} {p:I} {lo hi:Option Operand} (hu:P.underlying t=some .string) (hp:(A.str p).ok n bl.length ρ) (ht:du n bl.length ρ m tm a.tmps):
 ai S L (Na tm p lo hi) n ρ (j0 w0 m bl n ρ fun w=>(Instr.sliceAt t (.string (bb (U (p.den ρ)))) (lo.map a.eval) (hi.map a.eval) none).run P w):=by
 unfold Na
 split
 ·exact ai.fail
 ·rename_i la zv
  have qQ:∃f:Option Value,lo.map a.eval=f/\(f=none/\la.den ρ=0∨∃k,f=some (.int k (la.den ρ))):=by
   cases lo with
   |none=>simp only[Option.some.injEq]at zv;subst zv;exact⟨none,rfl,.inl ⟨rfl,I.aK _ _⟩⟩
   |some x=>
    obtain⟨k,hk,_⟩:=xx (m:=m) (bl:=bl) zv (b9 ht x).2 (b9 ht x).1
    exact⟨_,rfl,.inr ⟨k,by rw[<-hk];rfl⟩⟩
  obtain⟨RM,e1,hfl⟩:=qQ
  have key:∀(lb:I) (ax:Env) (n1:Nat),n<=n1->agree n ρ ax->(hi.map a.eval=none/\lb.den ax=((U (p.den ρ)).length:Int)∨∃k,hi.map a.eval=some (.int k (lb.den ax)))->la.aX n->
   ai S L (Ha p la lb) n1 ax (j0 w0 m bl n ρ fun w=>(Instr.sliceAt t (.string (bb (U (p.den ρ)))) (lo.map a.eval) (hi.map a.eval) none).run P w):=fun lb ax n1 hn ha hh ag7=>by
   have FD:(A.str p).ok n1 bl.length ax:=hp.ext ha hn (Nat.le_refl _)
   have ep:p.den ax=p.den ρ:=I.bA ha hp.1
   have Jf:la.den ax=la.den ρ:=I.bA ha ag7
   refine(aoj (m:=m) (bl:=bl) (a:=la) (b:=lb) FD).mono fun bC dM v _ _ ⟨bo,bQ,cq,dq,jL⟩=>⟨bo,_,bQ,fun w _=>?_⟩
   rw[ep,Jf]at*
   have m9:(Instr.sliceBounds false (bb (U (p.den ρ))).size (bb (U (p.den ρ))).size RM (hi.map a.eval) none).run P w= .ok ((la.den ρ).toNat,(lb.den ax).toNat,(bb (U (p.den ρ))).size) w:=by
    rw[oC]
    rcases hfl with⟨rfl,hz⟩|⟨k,rfl⟩<;>rcases hh with⟨h1,h2⟩|⟨k2,h1⟩
    ·rw[h1,hz,h2];simp[Instr.sliceBounds]
    ·rw[h1,hz];simp[Instr.sliceBounds,pf (P:=P) (by omega:0<=lb.den ax) jL]
    ·rw[h1,h2];simp[Instr.sliceBounds,pf (P:=P) (y:=(U (p.den ρ)).length) cq (by omega)]
    ·rw[h1];simp[Instr.sliceBounds,pf (P:=P) (by omega:0<=lb.den ax) jL,pf (P:=P) (y:=(lb.den ax).toNat) cq (by omega)]
   rw[e1]
   simp[Instr.sliceAt,Instr.slice,run_underlying hu,m9]
  have zw:la.aX n:=by
   cases lo with
   |none=>simp only[Option.some.injEq]at zv;subst zv;exact I.cA _ _
   |some x=>exact(xx (m:=m) (bl:=bl) zv (b9 ht x).2 (b9 ht x).1).choose_spec.2
  cases hi with
  |none=>
   have hl:=s5 hp.2.2
   unfold ga at hl
   exact(eZ (op:=0) (args:=[p]) (Int.natCast_nonneg _) (by show((U (p.den ρ)).length:Int)<=_;omega)).bind fun ax n1 l hn ha ⟨h1,h2⟩=>key l ax n1 hn ha (.inl ⟨rfl,h2⟩) zw
  |some y=>
   simp only
   cases hy:nk (bP tm y)with
   |none=>exact ai.fail
   |some b=>
    obtain⟨k,hk,_⟩:=xx (m:=m) (bl:=bl) hy (b9 ht y).2 (b9 ht y).1
    exact key b ρ n (Nat.le_refl _) (agree.refl _ _) (.inr ⟨k,by rw[<-hk];rfl⟩) zw
theorem D5 {xs:List Operand} (h:du n bl.length ρ m tm a.tmps):dK ρ m (xs.map (bP tm)) (xs.map a.eval):=by
 induction xs with
 |nil=>trivial
 |cons x r ih=>exact⟨(b9 h x).2,ih⟩
theorem ML {c:Call} {f:FuncId} (hc:c.callee= .value (.func f)) (o:Oper) (ho:o.op= .call c):execOp a.eval o=callFunc f (c.args.map a.eval):=by
 simp only[execOp,ho,resolve,hc,Act.eval,Deferred.ofValue]
 simp[invoke,bind_pure_comp]
theorem Jj {nb:Nat} {m:Nat->Nat}:∀(dv:List Field) (x y:List A) (i n:Nat) (ρ:Env),y4 P i dv=true->(∀a∈x,A.ok n nb ρ a)->(∀a∈y,A.ok n nb ρ a)->
 ai S L (oF P dv x y) n ρ fun ad n' b=>b.aX n'/\∀(w:World) (d:Nat) (xs eO:Array Value),xs.toList.drop i=x.map (A.den ρ m)->eO.toList.drop i=y.map (A.den ρ m)->(Op.eqFields (d+1) xs eO dv).run P w= .ok (b.den ad) w
 |[],[],[],i,n,ρ,_,_,_=>ai.pure ⟨trivial,fun w d xs eO _ _=>by simp[Op.eqFields,aT.den]⟩
 |f::dv,x::xs,y::eO,i,n,ρ,hf,hx,hy=>by
  cases x with
  |int k a=>
   cases y with
   |int aQ b=>
    unfold y4 at hf
    simp only[Bool.and_eq_true,bne_iff_ne,ne_eq]at hf
    obtain⟨⟨hn,ho⟩,hf⟩:=hf
    have ho:=Nat.eq_of_beq_eq_true ho
    unfold oF
    split
    ·rename_i k2 j9
     have hu:=Ly j9
     refine dr fun hk=>?_
     have hk:k=aQ:=by simpa using hk
     subst hk
     have Db:a.ok n ρ:=hx (.int k a) (by simp)
     have ob:b.ok n ρ:=hy (.int k b) (by simp)
     refine(Jj (nb:=nb) (m:=m) dv xs eO (i+1) n ρ hf (fun z hz=>hx z (List.mem_cons_of_mem _ hz)) (fun z hz=>hy z (List.mem_cons_of_mem _ hz))).bind fun ad n' r hnn e0 ⟨r1,r2⟩=>ai.pure ?_
     have e1:=aT.pD (Db.agree e0 hnn) (ob.agree e0 hnn)
     refine⟨aT.GZ e1.2 r1,fun w d lX lY CL CM=>?_⟩
     have BN:lX[i]?=some (.int k (a.l.den ρ)):=by
      have:=congrArg List.head? CL
      simpa [A.den]using this
     have BO:lY[i]?=some (.int k (b.l.den ρ)):=by
      have:=congrArg List.head? CM
      simpa [A.den]using this
     have wH:lX.toList.drop (i+1)=xs.map (A.den ρ m):=by
      have:=congrArg List.tail CL
      simpa using this
     have aE:lY.toList.drop (i+1)=eO.map (A.den ρ m):=by
      have:=congrArg List.tail CM
      simpa using this
     have xI:(part f.type lX f.offset).run P w= .ok (.int k (a.l.den ρ)) w:=by simp[part,isAgg,run_underlying hu,ho,BN]
     have xJ:(part f.type lY f.offset).run P w= .ok (.int k (b.l.den ρ)) w:=by simp[part,isAgg,run_underlying hu,ho,BO]
     have Jf:a.l.den ad=a.l.den ρ:=by
      have:=A.jl (m:=m) (m':=m) (hx (.int k a) (by simp)) e0 (fun _ _=>rfl)
      simpa [A.den]using this
     have rV:b.l.den ad=b.l.den ρ:=by
      have:=A.jl (m:=m) (m':=m) (hy (.int k b) (by simp)) e0 (fun _ _=>rfl)
      simpa [A.den]using this
     simp only[Op.eqFields,ne_eq,hn,not_false_eq_true,if_true,Sem.run_bind,xI,xJ,Result.andThen_ok,run_equalIn_int w d f.type k k2 _ _ hu,aT.ET,e1.1,Jf,rV]
     by_cases hq:a.l.den ρ=b.l.den ρ
     ·simp[hq,r2 w d lX lY wH aE]
     ·simp[hq]
    ·exact ai.fail
   |_=>unfold oF;exact ai.fail
  |str a=>
   cases y with
   |str b=>
    unfold y4 at hf
    simp only[Bool.and_eq_true,bne_iff_ne,ne_eq]at hf
    obtain⟨⟨hn,ho⟩,hf⟩:=hf
    have ho:=Nat.eq_of_beq_eq_true ho
    unfold oF
    split
    ·rename_i hu
     have b1:=Bb (U (a.den ρ)=U (b.den ρ))
     refine(eZ (op:=4) (args:=[a,b]) b1.1 b1.2).bind fun ax n1 l eL wT ⟨h1,h2⟩=>?_
     have h2:l.den ax=if U (a.den ρ)=U (b.den ρ)then 1 else 0:=h2
     have hx1:∀z∈xs,A.ok n1 nb ax z:=fun z hz=>(hx z (List.mem_cons_of_mem _ hz)).ext wT eL (Nat.le_refl _)
     have Ty:∀z∈eO,A.ok n1 nb ax z:=fun z hz=>(hy z (List.mem_cons_of_mem _ hz)).ext wT eL (Nat.le_refl _)
     have ol:(⟨l,0,1⟩:bh).ok n1 ax:=⟨h1,by simp only[h2];exact b1.1,by simp only[h2];exact b1.2⟩
     refine(Jj (nb:=nb) (m:=m) dv xs eO (i+1) n1 ax hf hx1 Ty).bind fun ad n' r hnn e0 ⟨r1,r2⟩=>ai.pure ?_
     have e1:=aT.pD (n:=n') (ρ:=ad) (a:=⟨l,0,1⟩) (b:= .const 1) (ol.agree e0 hnn) (bh.lI _ _ _)
     refine⟨aT.GZ e1.2 r1,fun w d lX lY CL CM=>?_⟩
     have BN:lX[i]?=some (.string (bb (U (a.den ρ)))):=by
      have:=congrArg List.head? CL
      simpa [A.den]using this
     have BO:lY[i]?=some (.string (bb (U (b.den ρ)))):=by
      have:=congrArg List.head? CM
      simpa [A.den]using this
     have wH:lX.toList.drop (i+1)=xs.map (A.den ax m):=by
      have:=congrArg List.tail CL
      rw[List.map_congr_left (g:=A.den ρ m) fun z hz=>A.jl (hx z (List.mem_cons_of_mem _ hz)) wT (fun _ _=>rfl)]
      simpa using this
     have aE:lY.toList.drop (i+1)=eO.map (A.den ax m):=by
      have:=congrArg List.tail CM
      rw[List.map_congr_left (g:=A.den ρ m) fun z hz=>A.jl (hy z (List.mem_cons_of_mem _ hz)) wT (fun _ _=>rfl)]
      simpa using this
     have xI:(part f.type lX f.offset).run P w= .ok (.string (bb (U (a.den ρ)))) w:=by simp[part,isAgg,run_underlying hu,ho,BN]
     have xJ:(part f.type lY f.offset).run P w= .ok (.string (bb (U (b.den ρ)))) w:=by simp[part,isAgg,run_underlying hu,ho,BO]
     have el:l.den ad=l.den ax:=I.bA e0 h1
     have e2:(aT.mkEq ⟨l,0,1⟩ (.const 1)).den ad=decide (U (a.den ρ)=U (b.den ρ)):=by
      rw[e1.1]
      simp only[bh.const,I.aK,el,h2]
      by_cases hq:U (a.den ρ)=U (b.den ρ)<;>simp[hq]
     simp only[Op.eqFields,ne_eq,hn,not_false_eq_true,if_true,Sem.run_bind,xI,xJ,Result.andThen_ok,run_equalIn_string w d f.type _ _ hu,aT.ET,e2,wz]
     by_cases hq:U (a.den ρ)=U (b.den ρ)
     ·simp[hq,r2 w d lX lY wH aE]
     ·simp[hq]
    ·exact ai.fail
   |_=>unfold oF;exact ai.fail
  |_=>unfold oF;exact ai.fail
 |[],_::_,_,_,_,_,_,_,_=>by unfold oF;exact ai.fail
 |[],[],y::_,_,_,_,_,_,_=>by cases y<;>(unfold oF;exact ai.fail)
 |_::_,[],_,_,_,_,_,_,_=>by unfold oF;exact ai.fail
 |_::_,x::_,[],_,_,_,_,_,_=>by cases x<;>(unfold oF;exact ai.fail)
def A0 (P:Program) (t:TypeId) (l:List Value) (v:Value):Prop:=(gK P t=some true/\v= .agg l.toArray)∨(gK P t=some false/\l=[v])
theorem VD {t:TypeId} {xs:Array Value} {o s:Nat} (hs:ed P t=some s) {v:Value} (h:A0 P t ((xs.toList.drop o).take s) v) (w:World):(part t xs o).run P w= .ok v w:=by
 obtain⟨l⟩:=xs
 rcases h with⟨h1,rfl⟩|⟨h1,h2⟩
 ·simp[part,nw h1,gy hs,List.take_drop]
 ·have h3:(⟨l⟩:Array Value)[o]?=some v:=by
   have h4:=congrArg List.head? h2
   rw[<-Array.getElem?_toList]
   cases s with
   |zero=>simp at h2
   |succ s=>simpa [List.head?_take,List.head?_drop]using h4
  simp[part,nw h1,h3]
theorem Rs {nb:Nat} {m:Nat->Nat} {g:TypeId->List A->List A->M aT} {D:Nat}
 (hg:∀(t:TypeId) (x y:List A) (n:Nat) (ρ:Env),(∀a∈x,A.ok n nb ρ a)->(∀a∈y,A.ok n nb ρ a)->ai S L (g t x y) n ρ fun ad n' b=>b.aX n'/\∃lX lY,A0 P t (x.map (A.den ρ m)) lX/\A0 P t (y.map (A.den ρ m)) lY/\∀w,(Op.equalIn D t lX lY).run P w= .ok (b.den ad) w):
 ∀(dv:List Field) (x y:List A) (o n:Nat) (ρ:Env),(∀a∈x,A.ok n nb ρ a)->(∀a∈y,A.ok n nb ρ a)->
 ai S L (EW P g o dv x y) n ρ fun ad n' b=>b.aX n'/\∀(w:World) (xs eO:Array Value),xs.toList.drop o=x.map (A.den ρ m)->eO.toList.drop o=y.map (A.den ρ m)->(Op.eqFields D xs eO dv).run P w= .ok (b.den ad) w
 |[],x,y,o,n,ρ,_,_=>ai.pure ⟨trivial,fun w xs eO _ _=>by simp[Op.eqFields,aT.den]⟩
 |f::dv,x,y,o,n,ρ,hx,hy=>by
  unfold EW
  cases hs:ed P f.type with
  |none=>exact ai.fail
  |some s=>
   simp only
   refine dr fun hc=>?_
   simp only[Bool.and_eq_true,bne_iff_ne,ne_eq]at hc
   obtain⟨hn,ho⟩:=hc
   have ho:=Nat.eq_of_beq_eq_true ho
   refine(hg f.type (x.take s) (y.take s) n ρ (fun a ha=>hx a (List.mem_of_mem_take ha)) (fun a ha=>hy a (List.mem_of_mem_take ha))).bind fun ax n1 b eL dw ⟨b1,lX,lY,b2,b3,b4⟩=>?_
   refine(Rs hg dv (x.drop s) (y.drop s) (o+s) n1 ax (fun a ha=>(hx a (List.mem_of_mem_drop ha)).ext dw eL (Nat.le_refl _)) (fun a ha=>(hy a (List.mem_of_mem_drop ha)).ext dw eL (Nat.le_refl _))).bind fun bC dM r dU dd ⟨r1,r2⟩=>ai.pure ⟨aT.GZ (b1.mono dU) r1,fun w xs eO eu xq=>?_⟩
   have xI:(part f.type xs f.offset).run P w= .ok lX w:=VD hs (by rw[ho,eu,<-List.map_take];exact b2) w
   have xJ:(part f.type eO f.offset).run P w= .ok lY w:=VD hs (by rw[ho,xq,<-List.map_take];exact b3) w
   have wH:xs.toList.drop (o+s)=(x.drop s).map (A.den ax m):=by
    rw[<-List.drop_drop,eu,<-List.map_drop]
    exact(rp (fun a ha=>hx a (List.mem_of_mem_drop ha)) dw (fun _ _=>rfl)).symm
   have aE:eO.toList.drop (o+s)=(y.drop s).map (A.den ax m):=by
    rw[<-List.drop_drop,xq,<-List.map_drop]
    exact(rp (fun a ha=>hy a (List.mem_of_mem_drop ha)) dw (fun _ _=>rfl)).symm
   have rV:b.den bC=b.den ax:=aT.bA dd b1
   simp only[Op.eqFields,ne_eq,hn,not_false_eq_true,if_true,Sem.run_bind,xI,xJ,Result.andThen_ok,b4 w,aT.ET,rV]
   cases hq:b.den ax with
   |true=>simp[r2 w xs eO wH aE]
   |false=>simp
theorem Rt {nb:Nat} {m:Nat->Nat}:∀(d:Nat) (t:TypeId) (x y:List A) (n:Nat) (ρ:Env),(∀a∈x,A.ok n nb ρ a)->(∀a∈y,A.ok n nb ρ a)->∀D,d<=D->
 ai S L (yY P d t x y) n ρ fun ad n' b=>b.aX n'/\∃lX lY,A0 P t (x.map (A.den ρ m)) lX/\A0 P t (y.map (A.den ρ m)) lY/\∀w,(Op.equalIn D t lX lY).run P w= .ok (b.den ad) w
 |0,t,x,y,n,ρ,_,_,_,_=>ai.fail
 |d+1,t,x,y,n,ρ,hx,hy,D,hD=>by
  obtain⟨E,rfl⟩:∃E,D=E+1:=⟨D-1,by omega⟩
  unfold yY
  split
  ·rename_i k hu
   split
   ·rename_i k1 a k2 b
    refine dr fun hk=>?_
    have hk:k1=k2:=by simpa using hk
    subst hk
    have Db:a.ok n ρ:=hx (.int k1 a) (by simp)
    have ob:b.ok n ρ:=hy (.int k1 b) (by simp)
    have e1:=aT.pD Db ob
    have e0:gK P t=some false:=by simp[gK,hu]
    refine ai.pure ⟨e1.2,_,_,.inr ⟨e0,rfl⟩,.inr ⟨e0,rfl⟩,fun w=>?_⟩
    simp only[A.den]
    rw[run_equalIn_int w E t k1 k _ _ hu,e1.1]
    rfl
   ·exact ai.fail
  ·rename_i hu
   split
   ·rename_i a b
    have b1:=Bb (U (a.den ρ)=U (b.den ρ))
    have e0:gK P t=some false:=by simp[gK,hu]
    refine(eZ (op:=4) (args:=[a,b]) b1.1 b1.2).bind fun ax n1 l eL wT ⟨h1,h2⟩=>ai.pure ?_
    have h2:l.den ax=if U (a.den ρ)=U (b.den ρ)then 1 else 0:=h2
    have ol:(⟨l,0,1⟩:bh).ok n1 ax:=⟨h1,by simp only[h2];exact b1.1,by simp only[h2];exact b1.2⟩
    have e1:=aT.pD (n:=n1) (ρ:=ax) (a:=⟨l,0,1⟩) (b:= .const 1) ol (bh.lI _ _ _)
    refine⟨e1.2,_,_,.inr ⟨e0,rfl⟩,.inr ⟨e0,rfl⟩,fun w=>?_⟩
    simp only[A.den]
    rw[run_equalIn_string w E t _ _ hu,e1.1,wz,wz]
    simp only[bh.const,I.aK,h2]
    by_cases hq:U (a.den ρ)=U (b.den ρ)
    ·simp[hq]
    ·simp[hq]
   ·exact ai.fail
  ·rename_i hu
   split
   ·rename_i a b
    have e0:gK P t=some false:=by simp[gK,hu]
    have Db:a.aX n:=hx (.bool a) (by simp)
    have ob:b.aX n:=hy (.bool b) (by simp)
    refine ai.pure ⟨aT.MO Db ob,_,_,.inr ⟨e0,rfl⟩,.inr ⟨e0,rfl⟩,fun w=>?_⟩
    simp only[A.den]
    rw[run_equalIn_bool w E t _ _ hu,aT.I6]
   ·exact ai.fail
  ·rename_i dv hu
   refine dr fun hg=>?_
   have hg:P.stoodInHeld t=false:=by simpa using hg
   have e0:gK P t=some true:=by simp[gK,hu]
   refine(Rs (m:=m) (D:=E) (fun t x y n ρ h1 h2=>Rt d t x y n ρ h1 h2 E (by omega)) dv.toList x y 0 n ρ hx hy).mono fun ad n' b _ _ ⟨h1,h2⟩=>⟨h1,_,_,.inl ⟨e0,rfl⟩,.inl ⟨e0,rfl⟩,fun w=>?_⟩
   have hf:P.fieldsOf t=dv:=by simp[Program.fieldsOf,hu]
   rw[run_equalIn_struct w E t _ _ (by rw[hf];exact hu) hg,hf]
   exact h2 w _ _ (by simp) (by simp)
  ·exact ai.fail
theorem Rv {nb:Nat} {m:Nat->Nat} {t:TypeId} {x y:List A} (hx:∀a∈x,A.ok n nb ρ a) (hy:∀a∈y,A.ok n nb ρ a):
 ai S L (EX P t x y) n ρ fun ad n' b=>b.aX n'/\P.eqGuardType P.depth t=false/\∀w,(Op.equalIn 10000 t (.agg (x.map (A.den ρ m)).toArray) (.agg (y.map (A.den ρ m)).toArray)).run P w= .ok (b.den ad) w:=by
 unfold EX
 split
 ·rename_i dv hu
  have lK:gK P t=some true:=by simp[gK,hu]
  have deep:P.eqGuardType P.depth t=false->ai S L (yY P 8 t x y) n ρ fun ad n' b=>b.aX n'/\P.eqGuardType P.depth t=false/\∀w,(Op.equalIn 10000 t (.agg (x.map (A.den ρ m)).toArray) (.agg (y.map (A.den ρ m)).toArray)).run P w= .ok (b.den ad) w:=fun hg=>
   (Rt (m:=m) 8 t x y n ρ hx hy 10000 (by decide)).mono fun ad n' b _ _ ⟨h1,lX,lY,h2,h3,h4⟩=>⟨h1,hg,fun w=>by
     rcases h2 with⟨_,rfl⟩|⟨h2,_⟩
     ·rcases h3 with⟨_,rfl⟩|⟨h3,_⟩
      ·exact h4 w
      ·rw[lK]at h3;cases h3
     ·rw[lK]at h2;cases h2⟩
  cases hg:(y4 P 0 dv.toList&& !P.stoodInHeld t&& !P.eqGuardType P.depth t)with
  |true=>
   simp only[cond_true]
   simp only[Bool.and_eq_true,Bool.not_eq_true']at hg
   generalize (dv.toList.all fun f=>match P.underlying f.type with|some (.int _)=>true|some .string=>true|_=>false)=flat
   cases flat with
   |true=>
    simp only[cond_true]
    refine(Jj (nb:=nb) (m:=m) dv.toList x y 0 n ρ hg.1.1 hx hy).mono fun ad n' b _ _ ⟨h1,h2⟩=>⟨h1,hg.2,fun w=>?_⟩
    have hf:P.fieldsOf t=dv:=by simp[Program.fieldsOf,hu]
    rw[run_equalIn_struct w 9999 t _ _ (by rw[hf];exact hu) hg.1.2,hf]
    exact h2 w 9998 _ _ (by simp) (by simp)
   |false=>exact deep hg.2
  |false=>
   simp only[cond_false]
   refine dr fun tv=>deep (by simpa using tv)
 ·exact ai.fail
theorem amW {cal:dQ} (cz:e7 S P gl w0 cal) (hb:cn n bl.length ρ bl) (hg:bL gl w0) (hex:∃w,Mem w0 ρ m bl w) (ht:du n bl.length ρ m tm a.tmps) (o:Oper):
 ai S L (Mq P cal gl bl tm o) n ρ (jZ w0 m bl n ρ P o a):=by
 unfold Mq
 split
 case h_1 x h=>
  exact ai.pure ⟨(b9 ht x).1,_,(b9 ht x).2,fun w _=> .inl (by simp[execOp,h])⟩
 case h_2 x h=>
  exact ai.pure ⟨(b9 ht x).1,_,(b9 ht x).2,fun w _=> .inl (by simp[execOp,h])⟩
 case h_3 t x h=>
  have hx:=b9 ht x
  have he:execOp a.eval o=(do pure (Next.value (<-Instr.loadAt t (a.eval x)))):=by simp only[execOp,h]
  split
  ·rename_i b off aJ hv
   rw[hv]at hx
   have cL:a.eval x=(A.lq b off aJ).den ρ m:=hx.2
   rw[cL]at he
   exact(anM hb t b off hx.1.2.1).mono fun _ _ _ _ _ hq=>jZ.of_run he hq
  ·rename_i g off aJ hv
   rw[hv]at hx
   have cL:a.eval x=(A.y9 g off aJ).den ρ m:=hx.2
   rw[cL]at he
   exact(anL hg t g off hx.1.1).mono fun _ _ _ _ _ hq=>jZ.of_run he hq
  ·rename_i p _ _ hv
   rw[hv]at hx
   have cL:a.eval x=p.den ρ m:=hx.2
   rw[cL]at he
   exact(ai2 hb hg hex t p).mono fun _ _ _ _ _ hq=>jZ.of_run he hq
  ·exact ai.fail
 case h_4 x h=>
  have hx:=b9 ht x
  unfold Va
  split<;>first
   |exact ai.fail
   |(rename_i hv
     rw[hv]at hx
     refine ai.pure ⟨hx.1,_,rfl,fun w _=> .inl ?_⟩
     have cL:=hx.2
     simp only[V.rel,W.den,A.den]at cL
     simp[execOp,h,cL,W.den,A.den])
 case h_5 c x y h=>
  have hc:=b9 ht c
  split
  ·rename_i v hv
   rw[hv]at hc
   have e1:a.eval c= .bool v:=hc.2
   cases v with
   |true=>exact ai.pure ⟨(b9 ht x).1,_,(b9 ht x).2,fun w _=> .inl (by simp[execOp,h,e1,asBool])⟩
   |false=>exact ai.pure ⟨(b9 ht y).1,_,(b9 ht y).2,fun w _=> .inl (by simp[execOp,h,e1,asBool])⟩
  ·exact ai.fail
 case h_6 op t x y t' h=>
  have hx:=b9 ht x
  have hy:=b9 ht y
  unfold Qs
  split
  ·rename_i k p aQ q ni jo
   rw[ni]at hx;rw[jo]at hy
   have e1:a.eval x= .int k (p.l.den ρ):=hx.2
   have e2:a.eval y= .int aQ (q.l.den ρ):=hy.2
   refine(aaK (nb:=bl.length) (m:=m) P t hx.1 hy.1).bind fun ax n1 r _ _ ⟨h1,h2⟩=>ai.pure ⟨h1,_,rfl,fun w _=> .inl ?_⟩
   have hgd:(eqGuard op t x y (.int k (p.l.den ρ)) (.int aQ (q.l.den ρ))).run P w= .ok () w:=by cases op<;>simp[eqGuard]
   simp only[execOp,h,e1,e2]
   simp[hgd,h2,W.den]
  ·rename_i p q ni jo
   rw[ni]at hx;rw[jo]at hy
   have e1:a.eval x= .agg (p.map (A.den ρ m)).toArray:=hx.2
   have e2:a.eval y= .agg (q.map (A.den ρ m)).toArray:=hy.2
   split
   ·rename_i b heq
    obtain⟨s1,g1,r1⟩:=Ru (m:=m) heq hx.1 hy.1
    refine ai.pure ⟨s1,_,rfl,fun w _=> .inl ?_⟩
    simp only[execOp,h,e1,e2]
    simp[run_eqGuard_agg w .eql t x y _ _ g1,run_eql_struct,r1,W.den,A.den]
   ·rename_i b heq
    obtain⟨s1,g1,r1⟩:=Ru (m:=m) heq hx.1 hy.1
    refine ai.pure ⟨aT.sL s1,_,rfl,fun w _=> .inl ?_⟩
    simp only[execOp,h,e1,e2]
    simp[run_eqGuard_agg w .neq t x y _ _ g1,run_neq_struct,r1,W.den,A.den,aT.rR]
   ·rename_i heq
    refine(Rv (m:=m) (t:=t) hx.1 hy.1).bind fun ad n' r _ _ ⟨r1,g1,r2⟩=>ai.pure ⟨r1,_,rfl,fun w _=> .inl ?_⟩
    simp only[execOp,h,e1,e2]
    simp[run_eqGuard_agg w .eql t x y _ _ g1,run_eql_struct,r2,W.den,A.den]
   ·rename_i heq
    refine(Rv (m:=m) (t:=t) hx.1 hy.1).bind fun ad n' r _ _ ⟨r1,g1,r2⟩=>ai.pure ⟨aT.sL r1,_,rfl,fun w _=> .inl ?_⟩
    simp only[execOp,h,e1,e2]
    simp[run_eqGuard_agg w .neq t x y _ _ g1,run_neq_struct,r2,W.den,A.den,aT.rR]
   ·exact ai.fail
  ·rename_i p q ni jo
   rw[ni]at hx;rw[jo]at hy
   have e1:a.eval x= .string (bb (U (p.den ρ))):=hx.2
   have e2:a.eval y= .string (bb (U (q.den ρ))):=hy.2
   have he:execOp a.eval o=(do pure (Next.value (<-(do eqGuard op t x y (.string (bb (U (p.den ρ)))) (.string (bb (U (q.den ρ))));binOp op t (.string (bb (U (p.den ρ)))) (.string (bb (U (q.den ρ)))):Sem Value)))):=by simp only[execOp,h,e1,e2]
   exact(aof (op:=op) (t:=t) (x:=x) (y:=y) (w0:=w0) (m:=m) hx.1 hy.1).mono fun _ _ _ _ _ hq=>jZ.of_run he hq
  ·rename_i p q ni jo
   rw[ni]at hx;rw[jo]at hy
   have e1:a.eval x= .bool (p.den ρ):=hx.2
   have e2:a.eval y= .bool (q.den ρ):=hy.2
   have hgd:(eqGuard op t x y (.bool (p.den ρ)) (.bool (q.den ρ))).run P=fun w=> .ok () w:=by funext w;cases op<;>simp[eqGuard]
   split
   ·rename_i hu
    refine ai.pure ⟨aT.MO hx.1 hy.1,_,rfl,fun w _=> .inl ?_⟩
    simp only[execOp,h,e1,e2]
    simp[hgd,run_eql_bool w t _ _ hu,W.den,A.den,aT.I6]
   ·rename_i hu
    refine ai.pure ⟨aT.sL (aT.MO hx.1 hy.1),_,rfl,fun w _=> .inl ?_⟩
    simp only[execOp,h,e1,e2]
    simp[hgd,run_neq_bool w t _ _ hu,W.den,A.den,aT.I6,aT.rR]
   ·exact ai.fail
  ·exact ai.fail
 case h_7 op t x h=>
  have hx:=b9 ht x
  unfold WW
  split
  ·rename_i b hv
   rw[hv]at hx
   have e1:a.eval x= .bool (b.den ρ):=hx.2
   refine ai.pure ⟨aT.sL hx.1,_,rfl,fun w _=> .inl ?_⟩
   simp[execOp,h,e1,Op.unary,W.den,A.den,aT.rR]
  ·rename_i k p hv
   rw[hv]at hx
   have e1:a.eval x= .int k (p.l.den ρ):=hx.2
   refine dr fun hc=>?_
   simp only[Bool.and_eq_true,Bool.not_eq_true',decide_eq_true_eq]at hc
   have hp:=hx.1
   have QB:=bh.ok.agree (n':=n) hp (agree.refl n ρ) (Nat.le_refl _)
   have b2:=QB.2
   have e2:((I.const (two k-1)).sub p.l).den ρ=two k-1-p.l.den ρ:=by rw[I.kS,I.aK]
   refine ai.pure ⟨⟨I.vP (I.cA _ _) QB.1,by simp only[e2];omega,by simp only[e2];omega⟩,_,rfl,fun w _=> .inl ?_⟩
   have key:k.wrap (BitVec.ofInt k.bits (if k.signed=true then-1 else k.max)^^^BitVec.ofInt k.bits (p.l.den ρ)).toNat=two k-1-p.l.den ρ:=by
    have hk:=hc.1.1
    obtain⟨X,bw⟩:=Int.eq_ofNat_of_zero_le (show 0<=p.l.den ρ by omega)
    have hlt:X<2^k.bits:=by
     have:(X:Int)<2^k.bits:=by rw[<-sS,<-bw];omega
     exact_mod_cast this
    have hall:(BitVec.ofInt k.bits (if k.signed=true then-1 else k.max))=BitVec.allOnes k.bits:=by
     cases k<;>simp[IntKind.signed]at hk<;>rfl
    rw[hall,BitVec.allOnes_xor,BitVec.toNat_not,bw,BitVec.toNat_ofInt]
    have bu:((X:Int)% ((2^k.bits:Nat):Int)).toNat=X:=by
     rw[Int.emod_eq_of_lt (by omega) (by exact_mod_cast hlt)];rfl
    rw[bu,Hl]
    have hh:half k=0:=by simp[half,hk]
    have h2:two k=((2^k.bits:Nat):Int):=by rw[sS];simp
    rw[hh,h2,Int.add_zero,Int.sub_zero,Int.emod_eq_of_lt (by omega) (by omega)]
    omega
   simp only[execOp,h,e1,Op.unary,Op.intBits,W.den,A.den,e2]
   simp at key
   simp[key]
  ·rename_i k p hv
   rw[hv]at hx
   have e1:a.eval x= .int k (p.l.den ρ):=hx.2
   have b2:=bh.ok.agree (n':=n) hx.1 (agree.refl n ρ) (Nat.le_refl _)
   have b3:=b2.2
   have e2:(p.l.smul (-1)).den ρ=-p.l.den ρ:=by rw[I.j5];omega
   refine(vU (k:=k) (x:=⟨p.l.smul (-1),-p.hi,-p.lo⟩) ⟨I.ui b2.1,by simp only[e2];omega,by simp only[e2];omega⟩).bind fun ax n1 r _ _ ⟨h1,h2⟩=>ai.pure ⟨h1,_,rfl,fun w _=> .inl ?_⟩
   simp only[e2]at h2
   simp[execOp,h,e1,Op.unary,Op.intArith,W.den,A.den,h2]
  ·exact ai.fail
 case h_8 s d x h=>
  have hx:=b9 ht x
  unfold Ra
  split
  ·rename_i aQ p hu hk hv
   rw[hv]at hx
   have e1:a.eval x= .int aQ (p.l.den ρ):=hx.2
   split
   ·rename_i c hc
    refine dr fun hsz=>?_
    have hl:(Utf8.encode c).data.toList.length<=ga:=by
     have:=Nat.le_of_ble_eq_true hsz
     have h2:(Utf8.encode c).data.toList.length=(Utf8.encode c).size:=by simp
     unfold ga;omega
    refine ai.pure ⟨⟨I.cA _ _,by rw[I.aK];exact pz _,by rw[I.aK];exact nG hl⟩,_,rfl,fun w _=> .inl ?_⟩
    simp[execOp,h,e1,convert,run_underlying hu,run_underlying hk,Conv.intToString,W.den,A.den,I.aK,gb,bb,I.gq hc]
   ·exact ai.fail
  ·split
   rotate_left
   ·exact ai.fail
   rename_i k aQ p hu hk hv
   rw[hv]at hx
   have e1:a.eval x= .int aQ (p.l.den ρ):=hx.2
   refine(vU (k:=k) hx.1).bind fun ax n1 r _ _ ⟨h1,h2⟩=>ai.pure ⟨h1,_,rfl,fun w _=> .inl ?_⟩
   simp[execOp,h,e1,convert,run_underlying hu,run_underlying (Ly hk),Conv.intToInt,W.den,A.den,h2]
 case h_9 t x aJ h=>
  have hx:=b9 ht x
  have hi:=b9 ht aJ
  split
  ·rename_i k i hv
   rw[hv]at hi
   have e1:a.eval aJ= .int k (i.l.den ρ):=hi.2
   have he:execOp a.eval o=(do pure (Next.value (<-Instr.indexAt t (a.eval x) (.int k (i.l.den ρ))))):=by simp only[execOp,h,e1]
   exact(ahG hx.1 hx.2 hi.1).mono fun _ _ _ _ _ hq=>jZ.of_run he hq
  ·exact ai.fail
 case h_10 t x aJ h=>
  have hx:=b9 ht x
  have hi:=b9 ht aJ
  split
  ·rename_i s hv
   rw[hv]at hx
   have e1:a.eval x= .string (bb (U (s.den ρ))):=hx.2
   split
   ·rename_i i hu u9
    obtain⟨k,hk,_⟩:=xx (m:=m) (bl:=bl) u9 hi.2 hi.1
    have he:execOp a.eval o=(do pure (Next.value (<-Instr.index t (.string (bb (U (s.den ρ)))) (.int k (i.den ρ))))):=by simp only[execOp,h,e1,hk]
    exact(aog (w0:=w0) (m:=m) hu hx.1).mono fun _ _ _ _ _ hq=>jZ.of_run he hq
   ·exact ai.fail
  split
  ·rename_i l i len e hv u9 zl
   rw[hv]at hx
   have e1:a.eval x= .agg (l.map (A.den ρ m)).toArray:=hx.2
   have e2:∃k,a.eval aJ= .int k i:=by
    unfold EO at u9
    split at u9
    ·rename_i k p jo
     rw[jo]at hi
     have:a.eval aJ= .int k (p.l.den ρ):=hi.2
     exact⟨k,by rw[this,I.gq u9]⟩
    ·cases u9
   obtain⟨k,e2⟩:=e2
   split
   ·rename_i s hs
    refine dr fun hc=>?_
    simp only[Bool.and_eq_true,decide_eq_true_eq]at hc
    refine(VC (w0:=w0) (m:=m) (bl:=bl) hx.1).mono fun ax n1 v _ _ ⟨bo,val,bQ,cq⟩=>⟨bo,val,bQ,fun w hw=> .inl ?_⟩
    have:=cq w hw
    simp[execOp,h,e1,e2,Instr.index,asIntOf,run_underlying (qn zl),hc,gy hs,this]
   ·exact ai.fail
  ·exact ai.fail
 case h_11 s x f h=>
  have hx:=b9 ht x
  split
  ·rename_i b off fd hv hf
   rw[hv]at hx
   have e1:a.eval x= .pointer (some ⟨m b,off,none⟩):=hx.2
   obtain⟨dv,hu,Ce⟩:=Jp hf
   split
   ·rename_i k hs
    refine ai.pure ⟨hx.1,_,rfl,fun w _=> .inl ?_⟩
    simp[execOp,h,e1,Instr.fieldAt,run_underlying hu,Ce,Instr.sureAddr,fieldPlace,gy hs,gE,W.den,A.den]
   ·exact ai.fail
  ·exact ai.fail
 case h_12 s x f h=>
  have hx:=b9 ht x
  split
  ·rename_i l fd hv hf
   rw[hv]at hx
   have e1:a.eval x= .agg (l.map (A.den ρ m)).toArray:=hx.2
   obtain⟨dv,hu,Ce⟩:=Jp hf
   refine(VC (w0:=w0) (m:=m) (bl:=bl) hx.1).mono fun ax n1 v _ _ ⟨bo,val,bQ,cq⟩=>⟨bo,val,bQ,fun w hw=> .inl ?_⟩
   have:=cq w hw
   simp[execOp,h,e1,Instr.field,asAgg,run_underlying hu,Ce,this]
  ·exact ai.fail
 case h_13 x i h=>
  have hx:=b9 ht x
  split
  ·rename_i l hv
   rw[hv]at hx
   have e1:a.eval x= .tuple (l.map (W.den ρ m)).toArray:=hx.2
   split
   ·rename_i u hu
    refine ai.pure ⟨hx.1 u (List.mem_of_getElem? hu),_,rfl,fun w _=> .inl ?_⟩
    simp[execOp,h,e1,Instr.extract,hu]
   ·exact ai.fail
  ·exact ai.fail
 case h_14 t x lo hi h=>
  have hx:=b9 ht x
  split
  ·rename_i s hv hu
   rw[hv]at hx
   have e1:a.eval x= .string (bb (U (s.den ρ))):=hx.2
   have he:execOp a.eval o=(do pure (Next.value (<-Instr.sliceAt t (.string (bb (U (s.den ρ)))) (lo.map a.eval) (hi.map a.eval) none))):=by simp only[execOp,h,e1];rfl
   exact(aoi (w0:=w0) (m:=m) hu hx.1 ht).mono fun _ _ _ _ _ hq=>jZ.of_run he hq
  have key:∀(y:Option Operand) (c:Option Int),Gm tm y=some c->∃f:Int->Value,(∀c,∃k,f c= .int k c)/\y.map a.eval=c.map f:=by
   intro y c hy
   unfold Gm at hy
   cases y with
   |none=>simp at hy;subst hy;exact⟨fun c=> .int .i64 c,fun c=>⟨_,rfl⟩,rfl⟩
   |some y=>
    simp only at hy
    have hi:=b9 ht y
    unfold EO at hy
    split at hy
    ·rename_i c' hq
     split at hq
     ·rename_i k p jo
      simp only[Option.some.injEq]at hy;subst hy
      rw[jo]at hi
      have:a.eval y= .int k (p.l.den ρ):=hi.2
      exact⟨fun c=> .int k c,fun c=>⟨_,rfl⟩,by simp[this,I.gq hq]⟩
     ·cases hq
    ·cases hy
  split
  ·rename_i l hh h1 h2
   obtain⟨RM,mD,uU⟩:=key lo l h1
   obtain⟨axA,E0,RC⟩:=key hi hh h2
   unfold Wt
   split
   ·rename_i b off xB e hv zl
    rw[hv]at hx
    have e1:a.eval x= .pointer (some ⟨m b,off,none⟩):=hx.2
    split
    ·rename_i s hs
     refine dr fun hc=>?_
     simp only[Bool.and_eq_true,decide_eq_true_eq]at hc
     refine ai.pure ⟨hx.1,_,rfl,fun w _=> .inl ?_⟩
     have gT:(Instr.sliceBounds false xB xB (lo.map a.eval) (hi.map a.eval) none).run P w= .ok ((l.getD 0).toNat,(hh.getD xB).toNat,xB) w:=by
      rw[uU,RC]
      have c1:∀(k:IntKind) (i:Int) (y:Nat) (tf:BoundsCode),0<=i->i<=y->(Instr.sliceBound (.int k i) y tf).run P w= .ok i.toNat w:=fun k i y tf p1 p2=>by
       simp[Instr.sliceBound,asIntOf,p1,p2]
      cases l with
      |none=>
       cases hh with
       |none=>simp[Instr.sliceBounds]
       |some h'=>
        obtain⟨aQ,iY⟩:=E0 h'
        simp only[Option.getD_none,Option.getD_some]at hc
        simp[Instr.sliceBounds,iY,c1 aQ h' xB _ (by omega) (by omega)]
      |some bx=>
       obtain⟨k1,hk1⟩:=mD bx
       cases hh with
       |none=>
        simp only[Option.getD_none,Option.getD_some]at hc
        simp[Instr.sliceBounds,hk1,c1 k1 bx xB _ (by omega) (by omega)]
       |some h'=>
        obtain⟨aQ,iY⟩:=E0 h'
        simp only[Option.getD_some]at hc
        simp[Instr.sliceBounds,iY,hk1,c1 aQ h' xB _ (by omega) (by omega),c1 k1 bx h'.toNat _ (by omega) (by omega)]
     simp only[execOp,h,e1,Option.map_none,Instr.sliceAt]
     simp[run_underlying (qn zl),Instr.sureAddr,gT,gy hs,gE,W.den,A.den]
     intro hq
     have h3:=hc.2
     omega
    ·exact ai.fail
   ·rename_i b off len cap hv zl
    rw[hv]at hx
    have e1:a.eval x= .slice (some ⟨m b,off,none⟩) len cap:=hx.2
    split
    ·rename_i e pP
     split
     ·rename_i s hs
      refine dr fun hc=>?_
      simp only[Bool.and_eq_true,decide_eq_true_eq]at hc
      refine ai.pure ⟨hx.1,_,rfl,fun w _=> .inl ?_⟩
      have gT:(Instr.sliceBounds true len cap (lo.map a.eval) (hi.map a.eval) none).run P w= .ok ((l.getD 0).toNat,(hh.getD len).toNat,cap) w:=by
       rw[uU,RC]
       have c1:∀(k:IntKind) (i:Int) (y:Nat) (tf:BoundsCode),0<=i->i<=y->(Instr.sliceBound (.int k i) y tf).run P w= .ok i.toNat w:=fun k i y tf p1 p2=>by
        simp[Instr.sliceBound,asIntOf,p1,p2]
       cases l with
       |none=>
        cases hh with
        |none=>simp[Instr.sliceBounds]
        |some h'=>
         obtain⟨aQ,iY⟩:=E0 h'
         simp only[Option.getD_none,Option.getD_some]at hc
         simp[Instr.sliceBounds,iY,c1 aQ h' cap _ (by omega) (by omega)]
       |some bx=>
        obtain⟨k1,hk1⟩:=mD bx
        cases hh with
        |none=>
         simp only[Option.getD_none,Option.getD_some]at hc
         simp[Instr.sliceBounds,hk1,c1 k1 bx len _ (by omega) (by omega)]
        |some h'=>
         obtain⟨aQ,iY⟩:=E0 h'
         simp only[Option.getD_some]at hc
         simp[Instr.sliceBounds,iY,hk1,c1 aQ h' cap _ (by omega) (by omega),c1 k1 bx h'.toNat _ (by omega) (by omega)]
      simp only[execOp,h,e1,Option.map_none,Instr.sliceAt]
      simp[run_underlying (ff pP),Instr.slice,gT,gy hs,gE,W.den,A.den]
      intro hq
      have h3:=hc.2
      omega
     ·exact ai.fail
    ·exact ai.fail
   ·exact ai.fail
  ·exact ai.fail
 case h_15 c h=>
  split
  ·rename_i f hc
   split
   ·rename_i g Ki
    have mE:∀v∈c.args.toList.map (bP tm),V.ok n bl.length ρ v:=fun v hv=>by
     obtain⟨x,_,rfl⟩:=List.mem_map.1 hv
     exact(b9 ht x).1
    refine(cz f g Ki L n ρ m bl _ _ hb hex mE (D5 (xs:=c.args.toList) ht)).mono fun ax n1 v _ _ ⟨bo,val,bQ,cq⟩=>⟨bo,val,bQ,fun w hw=>?_⟩
    have he:=ML (a:=a) hc o h
    have ha:(c.args.toList.map a.eval).toArray=c.args.map a.eval:=by
     rw[<-Array.toList_map]
    have dq:=cq w hw
    rw[ha]at dq
    rcases dq with dq|⟨dq,jL⟩
    ·exact .inl (by rw[he];exact dq)
    ·exact .inr ⟨f,_,by rw[he];exact dq,jL⟩
   ·exact ai.fail
  ·rename_i hc
   split
   ·rename_i x t eu kA
    have hx:=b9 ht x
    split
    ·rename_i s hv hu
     rw[hv]at hx
     have e1:a.eval x= .string (bb (U (s.den ρ))):=hx.2
     have a1:c.args=#[x]:=by rw[<-Array.toArray_toList (xs:=c.args),eu]
     have a2:c.argTypes=#[t]:=by rw[<-Array.toArray_toList (xs:=c.argTypes),kA]
     have he:execOp a.eval o=(do pure (Next.value (<-Builtin.len_ #[t] o.type #[.string (bb (U (s.den ρ)))]))):=by
      simp[execOp,h,resolve,hc,a1,a2,e1,invoke,builtin]
     exact(aoh (w0:=w0) (m:=m) hu hx.1).mono fun _ _ _ _ _ hq=>jZ.of_run he hq
    split
    ·rename_i b off len cap e hv hs
     rw[hv]at hx
     have e1:a.eval x= .slice (some ⟨m b,off,none⟩) len cap:=hx.2
     refine ai.pure ⟨bh.lI _ _ _,_,rfl,fun w _=> .inl ?_⟩
     have a1:c.args=#[x]:=by rw[<-Array.toArray_toList (xs:=c.args),eu]
     have a2:c.argTypes=#[t]:=by rw[<-Array.toArray_toList (xs:=c.argTypes),kA]
     simp[execOp,h,resolve,hc,a1,a2,e1,invoke,builtin,Builtin.len_,run_underlying (ff hs),goInt,W.den,A.den,bh.const,I.aK]
    ·rename_i b len lo e hv hs
     rw[hv]at hx
     obtain⟨kR,_,e1⟩:=hx.2
     refine ai.pure ⟨bh.lI _ _ _,_,rfl,fun w _=> .inl ?_⟩
     have a1:c.args=#[x]:=by rw[<-Array.toArray_toList (xs:=c.args),eu]
     have a2:c.argTypes=#[t]:=by rw[<-Array.toArray_toList (xs:=c.argTypes),kA]
     simp[execOp,h,resolve,hc,a1,a2,e1,invoke,builtin,Builtin.len_,run_underlying (ff hs),goInt,W.den,A.den,bh.const,I.aK]
    ·exact ai.fail
   ·exact ai.fail
  ·exact ai.fail
 case h_16 f first gG h=>
  split
  ·rename_i l hf hl
   obtain⟨g1,g2⟩:=akR (m:=m) hl (fun v hv=>by obtain⟨x,_,rfl⟩:=List.mem_map.1 hv;exact(b9 ht x).1) (D5 (xs:=gG.toList) ht)
   have SX:first=#[]:=by rw[<-Array.toArray_toList (xs:=first),hf]
   have zn:gG.map a.eval=(l.map (A.den ρ m)).toArray:=by rw[<-g2,<-Array.toList_map]
   refine ai.pure ⟨g1,_,rfl,fun w _=> .inl ?_⟩
   simp only[execOp,h,zn,SX]
   simp[Instr.makeFunc]
  ·exact ai.fail
 case h_17 t parts h=>
  split
  ·rename_i l hl
   obtain⟨g1,g2⟩:=aaU (n:=n) (nb:=bl.length) (ρ:=ρ) (m:=m) (vals:=(parts.map fun(i,x)=>(i,a.eval x)).toList) hl (by
    rw[Array.toList_map]
    generalize parts.toList=bY
    induction bY with
    |nil=>exact trivial
    |cons p r ih=>exact⟨⟨rfl,b9 ht p.2⟩,ih⟩)
   refine ai.pure ⟨g1,_,rfl,fun w _=> .inl ?_⟩
   simp only[execOp,h]
   simp[run_build w t _ _ g2,W.den]
  ·exact ai.fail
 case h_18 t x h=>
  have hx:=b9 ht x
  split
  ·rename_i b len lo k e hv ha
   rw[hv]at hx
   refine dr fun hc=>ai.pure ⟨hx.1,_,rfl,fun w _=> .inl ?_⟩
   obtain⟨c,hc1,hX⟩:=hx.2
   have hle:¬len<k:=by have:=Nat.le_of_ble_eq_true hc;omega
   simp only[execOp,h]
   rw[hX]
   simp[Instr.arrayAt,run_underlying (qn ha),hle,W.den,A.den]
  ·rename_i b off len cap k e hv ha
   rw[hv]at hx
   refine dr fun hc=>ai.pure ⟨by simpa [V.ok,W.ok,A.ok]using hx.1,_,rfl,fun w _=> .inl ?_⟩
   have hle:¬len<k:=by have:=Nat.le_of_ble_eq_true hc;omega
   have e1:a.eval x=_:=hx.2
   simp only[execOp,h]
   rw[e1]
   simp[Instr.arrayAt,run_underlying (qn ha),hle,W.den,A.den]
  ·exact ai.fail
 case h_19=>exact ai.fail
end
end Go.bj

/- Quiet operations on rows. -/
set_option linter.unusedVariables false
set_option linter.unusedSimpArgs false
namespace Go.bj
open M
noncomputable def EJ (c:aw) (code i:I) (j:Nat):M A:=
 match c with
 | .int k lo hi=>bind (dZ 21 [code,i,.const j] lo hi) fun l=>pure (.int k ⟨l,lo,hi⟩)
 | .str=>bind (dZ 21 [code,i,.const j] 0 cy) fun l=>pure (.str l)
 | .bool=>bind (dZ 21 [code,i,.const j] 0 1) fun l=>pure (.bool (.mkEq ⟨l,0,1⟩ (.const 1)))
noncomputable def EK (code i:I):Nat->List aw->M (List A)
 |_,[]=>pure []
 |j,c::r=>bind (EJ c code i j) fun a=>bind (EK code i (j+1) r) fun l=>pure (a::l)
noncomputable def MG (c:aw) (code:I):Nat->I->M (List A)
 |0,_=>pure []
 |q+1,i=>bind (eE 21 [code,i]) fun _=>bind (EJ c code i 0) fun a=>bind (MG c code q (i.add (.const 1))) fun l=>pure (a::l)
noncomputable def Ji (P:Program) (bl:List aq) (t:TypeId) (b aL:Nat) (o i:I) (j:Nat):M V:=
 match bl[b]? with
 |some ([.rows sh off code cap kind],_)=>cond (Nat.blt 0 kind&&Nat.beq aL sh.length&&I.beq o off) (bind (eE 21 [code,i]) fun _=>match gK P t,ed P t with
  |some true,some k=>cond (Nat.ble (j+k) sh.length) (bind (EK code i j ((sh.drop j).take k)) fun l=>pure (.w (.agg l))) (match sh,j with
   |[c],0=>bind (MG c code k i) fun l=>pure (.w (.agg l))
   |_,_=>fail)
  |some false,_=>match sh[j]? with
   |some c=>bind (EJ c code i j) fun a=>pure (.w (.one a))
   |none=>fail
  |_,_=>fail) fail
 |_=>fail
def MY (P:Program) (t:TypeId) (b aL:Nat) (o ro len:I) (aJ:I):M V:=
 match gg P t with
 |some e=>match ed P e with
  |some s=>cond (Nat.beq s aL) (bind (eE 30 [aJ,len]) fun _=>pure (.w (.one (.ep b aL o (ro.add aJ) 0)))) fail
  |none=>fail
 |none=>fail
def yD (op:Nat) (ls:List I):M Unit:=fun n k=> .oB op ls (k () n)
def M1 (P:Program) (t:TypeId) (b aL:Nat) (o ro len cap:I) (x y:I):M V:=
 match gg P t with
 |some e=>match ed P e with
  |some s=>cond (Nat.beq s aL) (bind (eE 32 [x,y,len]) fun _=>match x.dg with
   |some 0=>pure (.w (.one (.sl b aL o ro y cap)))
   |_=>bind (yD 68 [len,cap]) fun _=>bind (dZ 33 [ro,x,cap] 0 9223372036854775808) fun r=>pure (.w (.one (.sl b aL o r (y.sub x) (cap.sub x))))) fail
  |none=>fail
 |none=>fail
def uM (tm:List V) (d:I):Option Operand->Option I
 |none=>some d
 |some x=>nk (bP tm x)
def EE:List aw->Bool
 |[.int .u8 lo hi]=>decide (lo=0)&&decide (hi=255)
 |_=>false
noncomputable def M0 (bl:List aq) (b aL:Nat) (o ro len:I):M V:=
 match bl[b]? with
 |some ([.rows sh off code cap kind],_)=>cond (Nat.blt 0 kind&&Nat.beq aL 1&&I.beq o off&&EE sh) (bind (eE 35 [code,ro,ro.add len]) fun _=>bind (dZ 34 [code,ro,ro.add len] 0 cy) fun l=>pure (.w (.one (.str l)))) fail
 |_=>fail
def EB {α:Type} (b:aT) (x y:M α):M α:=fun n k=>match b with
 | .lit v=>cond v (x n k) (y n k)
 |b=> .nK b (x n k) (y n k)
def U1 (k:IntKind) (x y:bh):M V:=EB (.mkLt y x) (pure (.w (.one (.int k y)))) (pure (.w (.one (.int k x))))
def UY (k:IntKind) (x y:bh):M V:=EB (.mkLt x y) (pure (.w (.one (.int k y)))) (pure (.w (.one (.int k x))))
def lF:List A->Option (List Bool)
 |[]=>some []
 | .bool (.lit b)::r=>match lF r with|some l=>some (b::l)|none=>none
 |_::_=>none
def tD:Nat->List Bool->List UInt8
 |_,[]=>[]
 |i,b::r=>cond b (UInt8.ofNat i::tD (i+1) r) (tD (i+1) r)
def MQ (bl:List aq) (b off:Nat) (aJ:bh):M V:=
 match bl[b]? with
 |some (cs,_)=>match lF ((cs.drop off).take (aJ.hi.toNat+1))with
  |some l=>cond (Nat.beq l.length (aJ.hi.toNat+1)&&Nat.ble aJ.hi.toNat 255&&decide (0<=aJ.lo)&&bI cs) (bind (dZ 43 [.const (dI (tD 0 l)),aJ.l] 0 1) fun r=>pure (.w (.one (.bool (.mkEq ⟨r,0,1⟩ (.const 1)))))) fail
  |none=>fail
 |none=>fail
noncomputable def MH (P:Program) (bl:List aq) (tm:List V) (o:Oper):Option (M V):=
 match o.op with
 | .load t x=>match bP tm x with
  | .w (.one (.ep b aL o i j))=>some (Ji P bl t b aL o i j)
  | .w (.one (.lq b off aJ))=>match P.underlying t with
   |some .bool=>some (MQ bl b off aJ)
   |_=>none
  |_=>none
 | .nilCheck x=>match bP tm x with
  | .w (.one (.ep b aL o i j))=>some (pure (.w (.one (.ep b aL o i j))))
  |_=>none
 | .indexAddr t x aJ=>match bP tm x,bP tm aJ with
  | .w (.one (.sl b aL o ro len cap)),.w (.one (.int _ i))=>some (MY P t b aL o ro len i.l)
  |_,_=>none
 | .sliceToArrayPointer t x=>match bP tm x,oz P t with
  | .w (.one (.sl b aL o ro len cap)),some (k,_)=>some (cond (Nat.blt 0 k) (bind (eE 30 [.const ((k:Int)-1),len]) fun _=>pure (.w (.one (.ep b aL o ro 0)))) fail)
  |_,_=>none
 | .fieldAddr s x f=>match bP tm x,BD P s f with
  | .w (.one (.ep b aL o i j)),some fd=>match ed P fd.type with
   |some (_+1)=>some (pure (.w (.one (.ep b aL o i (j+fd.offset)))))
   |_=>none
  |_,_=>none
 | .slice t x lo hi none=>match bP tm x with
  | .w (.one (.sl b aL o ro len cap))=>match uM tm (.const 0) lo,uM tm len hi with
   |some p,some q=>some (M1 P t b aL o ro len cap p q)
   |_,_=>none
  |_=>none
 | .convert s d x=>match bP tm x,gg P s,P.underlying d with
  | .w (.one (.sl b aL o ro len cap)),some e,some .string=>match P.underlying e with
   |some (.int .u8)=>some (M0 bl b aL o ro len)
   |_=>none
  |_,_,_=>none
 | .call c=>match c.callee with
  | .builtin .len=>match c.args.toList,c.argTypes.toList with
   |[x],[t]=>match bP tm x,gg P t with
    | .w (.one (.sl b aL o ro len cap)),some _=>some (pure (.w (.one (.int .i64 ⟨len,0,9223372036854775807⟩))))
    |_,_=>none
   |_,_=>none
  | .builtin .min=>match c.args.toList with
   |[x,y]=>match bP tm x,bP tm y with
    | .w (.one (.int k p)),.w (.one (.int aQ q))=>cond (decide (k=aQ)) (some (U1 k p q)) none
    |_,_=>none
   |_=>none
  | .builtin .max=>match c.args.toList with
   |[x,y]=>match bP tm x,bP tm y with
    | .w (.one (.int k p)),.w (.one (.int aQ q))=>cond (decide (k=aQ)) (some (UY k p q)) none
    |_,_=>none
   |_=>none
  |_=>none
 | .binOp op t x y _=>match gg P t,bP tm x,bP tm y with
  |some _,.w (.one (.sl b aL o ro len cap)),.w (.one (.con (.slice none 0 0)))=>match op with
   | .eql=>some (bind (yD 53 [cap,len]) fun _=>pure (.w (.one (.bool (.lt cap (.const 0))))))
   | .neq=>some (bind (yD 53 [cap,len]) fun _=>pure (.w (.one (.bool (.mkNot (.lt cap (.const 0)))))))
   |_=>none
  |_,_,_=>none
 |_=>none
def El (bl:List aq) (b off:Nat):Option (List aw×I×Nat):=
 match bl[b]? with
 |some ([.rows sh o code cap kind],_)=>match cap.dg with
  |some c=>cond (Nat.beq off 0&&Nat.blt 0 kind&&I.beq o (.const 0)&&decide (0<=c)) (some (sh,code,c.toNat)) none
  |none=>none
 |_=>none
noncomputable def Ej (code:I) (sh:List aw):Nat->Nat->M (List A)
 |_,0=>pure []
 |i,k+1=>bind (EK code (.const i) 0 sh) fun a=>bind (Ej code sh (i+1) k) fun l=>pure (a++l)
def M3 (P:Program) (t:TypeId) (b aL:Nat) (o ro len cap:I) (x y z:I):M V:=
 match gg P t with
 |some e=>match ed P e with
  |some s=>cond (Nat.beq s aL) (bind (cond (I.beq z len) (eE 78 [x,y,z,cap]) (eE 64 [x,y,z,len])) fun _=>bind (dZ 33 [ro,x,z] 0 9223372036854775808) fun r=>pure (.w (.one (.sl b aL o r (y.sub x) (z.sub x))))) fail
  |none=>fail
 |none=>fail
noncomputable def GV (P:Program) (bl:List aq) (tm:List V) (o:Oper):Option (M V):=
 match o.op with
 | .indexAddr t x aJ=>match bP tm x,bP tm aJ with
  | .w (.one (.ptr b off)),.w (.one (.int _ i))=>match El bl b off,oz P t with
   |some (sh,code,c),some (len,e)=>match ed P e with
    |some s=>cond (Nat.beq s sh.length&&Nat.beq len c) (some (bind (eE 30 [i.l,.const len]) fun _=>pure (.w (.one (.ep b s (.const 0) i.l 0))))) none
    |none=>none
   |_,_=>none
  |_,_=>none
 | .load t x=>match bP tm x with
  | .w (.one (.ptr b off))=>match El bl b off,gK P t,ed P t with
   |some (sh,code,c),some true,some k=>cond (Nat.beq k (c*sh.length)) (some (bind (eE 31 [code,.const c]) fun _=>bind (Ej code sh 0 c) fun l=>pure (.w (.agg l)))) none
   |_,_,_=>none
  |_=>none
 | .slice t x lo (some hi) (some br)=>match bP tm x with
  | .w (.one (.sl b aL bU ro len cap))=>match uM tm (.const 0) lo,nk (bP tm hi),nk (bP tm br)with
   |some p,some q,some r=>some (M3 P t b aL bU ro len cap p q r)
   |_,_,_=>none
  |_=>none
 | .call c=>match c.callee with
  | .builtin .len=>match c.args.toList,c.argTypes.toList with
   |[x],[t]=>match bP tm x,gg P t with
    | .w (.one (.con (.slice none 0 0))),some _=>some (pure (.w (.one (.int .i64 (.const 0)))))
    |_,_=>none
   |_,_=>none
  |_=>none
 |_=>none
noncomputable def EV (cal:dQ) (bl:List aq) (tm:List V) (o:Oper):Option (M V):=
 match o.op with
 | .call c=>match c.callee with
  | .value (.tmp x)=>match bP tm (.tmp x)with
   | .w (.one (.con (.func (.func f) EY EZ)))=>cond (Nat.beq EY.size 0&&Nat.beq EZ.size 0) ((cal f).map fun g=>g bl (c.args.toList.map (bP tm))) none
   |_=>none
  |_=>none
 |_=>none
noncomputable def tZ (P:Program) (cal:dQ) (gl:dz) (bl:List aq) (tm:List V) (o:Oper):M V:=
 match MH P bl tm o with
 |some x=>x
 |none=>match GV P bl tm o with
  |some x=>x
  |none=>match EV cal bl tm o with
   |some x=>x
   |none=>Mq P cal gl bl tm o
theorem j1.get {cells:Array Value} {off:Nat} {sh:List aw} {rows:List (List Int)} (h:j1 cells off sh rows) {i j:Nat} {row:List Int} {v:Value} (hi:rows[i]?=some row) (hj:(cO sh row)[j]?=some v):cells[off+i*sh.length+j]?=some v:=by
 obtain⟨h1,pre,post,h2,h3⟩:=h
 have h4:=Jx h1 hi hj
 rw[<-Array.getElem?_toList,h2,List.append_assoc,List.getElem?_append_right (by omega),List.getElem?_append_left]
 ·rw[show off+i*sh.length+j-pre.length=i*sh.length+j by omega];exact h4
 ·have:=(List.getElem?_eq_some_iff.1 h4).1;omega
section
variable {S:Nat->List Int->List Int->Prop} {L:V->Env->Prop} {n:Nat} {ρ:Env} {m:Nat->Nat} {bl:List aq} {gl:dz} {w0:de} {P:Program} {tm:List V} {a:Act}
theorem QC {α:Type} {b:aT} {x y:M α} {R:Env->Nat->α->Prop} (h1:b.den ρ=true->ai S L x n ρ R) (h2:b.den ρ=false->ai S L y n ρ R):ai S L (EB b x y) n ρ R:=by
 intro A k hk
 unfold EB at hk
 cases hb:b.den ρ with
 |true=>
  cases b with
  |lit v=>simp only[aT.den]at hb;subst hb;exact h1 rfl A k hk
  |_=>exact h1 hb A k (hk.1 hb)
 |false=>
  cases b with
  |lit v=>simp only[aT.den]at hb;subst hb;exact h2 rfl A k hk
  |_=>exact h2 hb A k (hk.2 hb)
theorem IP {nb:Nat} {c:aw} {code i:I} {j:Nat} {z:Int} {row:List Int} (hrow:(aa (code.den ρ))[(i.den ρ).toNat]?=some row) (hz:row[j]?=some z) (h1:c.ef.1<=z) (h2:z<=c.ef.2):
 ai S L (EJ c code i j) n ρ fun ad n' x=>x.ok n' nb ad/\x.den ad m=c.val z:=by
 have hf:aA 21 ([code,i,I.const (j:Nat)].map (·.den ρ))=z:=by
  simp only[List.map_cons,List.map_nil,I.aK,aA,Int.toNat_natCast]
  simp[List.getD,hrow,hz]
 cases c with
 |int k lo hi=>
  refine(eZ (by rw[hf];exact h1) (by rw[hf];exact h2)).bind fun ax n1 l _ _ ⟨g1,g2⟩=>ai.pure ⟨⟨g1,?_,?_⟩,?_⟩
  ·rw[g2,hf];exact h1
  ·rw[g2,hf];exact h2
  ·simp only[A.den,aw.val];rw[g2,hf]
 |str=>
  refine(eZ (by rw[hf];exact h1) (by rw[hf];exact h2)).bind fun ax n1 l _ _ ⟨g1,g2⟩=>ai.pure ⟨⟨g1,?_,?_⟩,?_⟩
  ·rw[g2,hf];exact h1
  ·rw[g2,hf];exact h2
  ·simp only[A.den,aw.val];rw[g2,hf]
 |bool=>
  refine(eZ (by rw[hf];exact h1) (by rw[hf];exact h2)).bind fun ax n1 l _ _ ⟨g1,g2⟩=>ai.pure ?_
  have hok:bh.ok n1 ax ⟨l,0,1⟩:=⟨g1,by simp only;rw[g2,hf];exact h1,by simp only;rw[g2,hf];exact h2⟩
  have e:=aT.pD hok (bh.lI n1 ax 1)
  refine⟨e.2,?_⟩
  simp only[A.den,aw.val]
  rw[e.1]
  simp only[bh.const,I.aK]
  rw[g2,hf]
theorem IT {nb:Nat} {sh:List aw} {row:List Int} (hok:bT sh row):∀{r:List aw} {n:Nat} {ρ:Env} {code i:I} {j:Nat},code.aX n->i.aX n->(aa (code.den ρ))[(i.den ρ).toNat]?=some row->(∀(x:Nat) (c:aw),r[x]?=some c->sh[j+x]?=some c)->
 ai S L (EK code i j r) n ρ fun ad n' l=>(∀a∈l,A.ok n' nb ad a)/\l.length=r.length/\∀(x:Nat) (a:A),l[x]?=some a->(cO sh row)[j+x]?=some (a.den ad m)
 |[],n,ρ,code,i,j,_,_,_,_=>ai.pure ⟨fun _ h=>by simp at h,rfl,fun x a h=>by simp at h⟩
 |c::r,n,ρ,code,i,j,CC,CD,hrow,hr=>by
  have h0:=hr 0 c rfl
  obtain⟨z,h1,h2,h3,h4⟩:=hok.get h0
  refine(IP (nb:=nb) (m:=m) hrow h1 h2 h3).bind fun ax n1 y hn ha ⟨g1,g2⟩=>?_
  refine(IT (nb:=nb) (r:=r) (n:=n1) (ρ:=ax) (code:=code) (i:=i) (j:=j+1) hok (CC.mono hn) (CD.mono hn) (by rw[I.bA ha CC,I.bA ha CD];exact hrow) (fun x c hx=>by
   have:=hr (x+1) c (by simpa using hx)
   rw[show j+1+x=j+(x+1) by omega];exact this)).bind fun bC dM l dU dd ⟨k1,k2,k3⟩=>ai.pure ⟨fun b hb=>?_,by simp[k2],fun x b hb=>?_⟩
  ·rcases List.mem_cons.1 hb with rfl|hb
   ·exact g1.ext dd dU (Nat.le_refl _)
   ·exact k1 b hb
  ·cases x with
   |zero=>
    simp only[List.getElem?_cons_zero,Option.some.injEq]at hb
    subst hb
    rw[A.jl g1 dd (fun _ _=>rfl),g2];exact h4
   |succ x=>
    have:=k3 x b (by simpa using hb)
    rw[show j+(x+1)=j+1+x by omega];exact this
theorem V9 {nb:Nat} {c:aw} {code:I}:∀{q n:Nat} {ρ:Env} {i:I},(∀row∈aa (code.den ρ),bT [c] row)->code.aX n->i.aX n->
 ai S L (MG c code q i) n ρ fun ad n' l=>(∀a∈l,A.ok n' nb ad a)/\l.length=q/\∀(x:Nat) (a:A),l[x]?=some a->∃row,(aa (code.den ρ))[(i.den ρ).toNat+x]?=some row/\(cO [c] row)[0]?=some (a.den ad m)
 |0,n,ρ,i,_,_,_=>ai.pure ⟨fun _ h=>by simp at h,rfl,fun x a h=>by simp at h⟩
 |q+1,n,ρ,i,iq,CC,CD=>by
  refine fF fun hk=>?_
  simp only[List.map_cons,List.map_nil,ab]at hk
  have hlt:(i.den ρ).toNat<(aa (code.den ρ)).length:=by omega
  have hrow:(aa (code.den ρ))[(i.den ρ).toNat]?=some (aa (code.den ρ))[(i.den ρ).toNat]:=List.getElem?_eq_getElem hlt
  have hok:=iq _ (List.getElem_mem hlt)
  generalize (aa (code.den ρ))[(i.den ρ).toNat]=row at hrow hok
  obtain⟨z,h1,h2,h3,h4⟩:=hok.get (show([c]:List aw)[0]?=some c from rfl)
  refine(IP (nb:=nb) (m:=m) hrow h1 h2 h3).bind fun ax n1 y hn ha ⟨g1,g2⟩=>?_
  have fH:=I.bA ha CC
  have hid:=I.bA ha CD
  refine(V9 (nb:=nb) (q:=q) (n:=n1) (ρ:=ax) (i:=i.add (.const 1)) (by rw[fH];exact iq) (CC.mono hn) (I.sK (CD.mono hn) (I.cA _ _))).bind fun bC dM l dU dd ⟨k1,k2,k3⟩=>ai.pure ⟨fun b hb=>?_,by simp[k2],fun x b hb=>?_⟩
  ·rcases List.mem_cons.1 hb with rfl|hb
   ·exact g1.ext dd dU (Nat.le_refl _)
   ·exact k1 b hb
  ·cases x with
   |zero=>
    simp only[List.getElem?_cons_zero,Option.some.injEq]at hb
    subst hb
    exact⟨row,by simpa using hrow,by rw[A.jl g1 dd (fun _ _=>rfl),g2];exact h4⟩
   |succ x=>
    obtain⟨x4,r1,r2⟩:=k3 x b (by simpa using hb)
    rw[fH,I.den_add,I.aK,hid]at r1
    exact⟨x4,by rw[<-r1];congr 1;omega,r2⟩
theorem acS (hb:cn n bl.length ρ bl) (hex:∃w,Mem w0 ρ m bl w) (t:TypeId) {b aL:Nat} {o i:I} {j:Nat} (hx:(A.ep b aL o i j).ok n bl.length ρ):
 ai S L (Ji P bl t b aL o i j) n ρ (j0 w0 m bl n ρ fun w=>(Instr.loadAt t ((A.ep b aL o i j).den ρ m)).run P w):=by
 obtain⟨sV,pQ⟩:=hex
 unfold Ji
 split
 ·rename_i sh off code cap kind t' aB
  refine dr fun hc=>fF fun hk=>?_
  simp only[Bool.and_eq_true]at hc
  obtain⟨⟨c1,c2⟩,c3⟩:=hc
  have c1:0<kind:=Nat.le_of_ble_eq_true c1
  have c2:=Nat.eq_of_beq_eq_true c2
  have c3:=I.beq_eq c3
  subst c3
  have xj:(A.rows sh o code cap kind).ok n bl.length ρ:=hb _ (List.mem_of_getElem? aB) _ (by simp)
  simp only[List.map_cons,List.map_nil,ab]at hk
  have hlt:(i.den ρ).toNat<(aa (code.den ρ)).length:=by omega
  have hrow:(aa (code.den ρ))[(i.den ρ).toNat]?=some (aa (code.den ρ))[(i.den ρ).toNat]:=List.getElem?_eq_getElem hlt
  generalize (aa (code.den ρ))[(i.den ρ).toNat]=row at hrow
  have hcap:0<=cap.den ρ:=by
   rcases Int.lt_or_le (cap.den ρ) 0 with h|h
   ·have:=(pQ.rws b sh o code cap kind t' aB (by omega)).1 h
    rw[this]at hlt;simp at hlt
   ·exact h
  have ka:∀w,Mem w0 ρ m bl w->bT sh row/\∀(x:Nat) (v:Value),(cO sh row)[x]?=some v->w.cell? ⟨m b,(o.den ρ).toNat+(i.den ρ).toNat*aL+x,none⟩=some v:=fun w hw=>by
   obtain⟨_,cells,hH,fz,g1,⟨g2,g3⟩,_⟩:=(hw.rws b sh o code cap kind t' aB (by omega)).2 hcap
   refine⟨g3.1 _ (List.mem_of_getElem? hrow),fun x v hv=>?_⟩
   have:=g3.get hrow hv
   simp only[World.cell?,g1,Option.isSome_none,Bool.false_eq_true,if_false]
   rw[c2];exact this
  have iq:=(ka sV pQ).1
  cases lK:gK P t with
  |none=>exact ai.fail
  |some yB=>
   cases yB with
   |true=>
    cases hs:ed P t with
    |none=>exact ai.fail
    |some k=>
     simp only
     cases j9:Nat.ble (j+k) sh.length with
     |false=>
      simp only[cond_false]
      split
      ·rename_i c _
       have hall:∀row∈aa (code.den ρ),bT [c] row:=by
        obtain⟨_,cells,hH,fz,g1,⟨g2,g3⟩,_⟩:=(pQ.rws b [c] o code cap kind t' aB (by omega)).2 hcap
        exact g3.1
       refine(V9 (nb:=bl.length) (m:=m) (q:=k) (i:=i) hall xj.1.2.1 hx.2.1.2).bind fun ax n1 l hn ha ⟨g1,g2,g3⟩=>ai.pure ⟨g1,_,rfl,fun w hw=>?_⟩
       have hl:=run_loadCells_list (P:=P) w ⟨m b,(o.den ρ).toNat+(i.den ρ).toNat*aL+0,none⟩ (l.map (A.den ax m)) fun x v hj=>by
        rw[gE]
        rw[List.getElem?_map]at hj
        cases hq:l[x]? with
        |none=>simp[hq]at hj
        |some y=>
         simp only[hq,Option.map_some,Option.some.injEq]at hj
         subst hj
         obtain⟨x4,r1,r2⟩:=g3 x y hq
         obtain⟨_,cells,hH,fz,e1,⟨e2,bu⟩,_⟩:=(hw.rws b [c] o code cap kind t' aB (by omega)).2 hcap
         have:=bu.get r1 r2
         simp only[World.cell?,e1,Option.isSome_none,Bool.false_eq_true,if_false]
         simp only[List.length_cons,List.length_nil]at c2 this
         rw[c2]
         rw[<-this];congr 1;omega
       simp only[List.length_map,g2,Nat.add_zero]at hl
       simp[Instr.loadAt,Instr.sureAddr,A.den,loadVar,nw lK,gy hs,hl,W.den]
      ·exact ai.fail
     |true=>
     simp only[cond_true]
     have j9:=Nat.le_of_ble_eq_true j9
     refine(IT (nb:=bl.length) (m:=m) (r:=(sh.drop j).take k) iq xj.1.2.1 hx.2.1.2 hrow (fun x c CN=>by
      rw[List.getElem?_take]at CN
      split at CN
      ·rw[List.getElem?_drop]at CN;exact CN
      ·cases CN)).bind fun ax n1 l hn ha ⟨g1,g2,g3⟩=>ai.pure ⟨g1,_,rfl,fun w hw=>?_⟩
     have hl:=run_loadCells_list (P:=P) w ⟨m b,(o.den ρ).toNat+(i.den ρ).toNat*aL+j,none⟩ (l.map (A.den ax m)) fun x v hj=>by
      rw[gE]
      rw[List.getElem?_map]at hj
      cases hq:l[x]? with
      |none=>simp[hq]at hj
      |some y=>
       simp only[hq,Option.map_some,Option.some.injEq]at hj
       subst hj
       rw[Nat.add_assoc]
       exact(ka w hw).2 (j+x) _ (g3 x y hq)
     simp only[List.length_map,g2,List.length_take,List.length_drop,Nat.min_eq_left (show k<=sh.length-j by omega)]at hl
     simp[Instr.loadAt,Instr.sureAddr,A.den,loadVar,nw lK,gy hs,hl,W.den]
   |false=>
    cases hc:sh[j]? with
    |none=>simp only;exact ai.fail
    |some c=>
     simp only
     obtain⟨z,h1,h2,h3,h4⟩:=iq.get hc
     refine(IP (nb:=bl.length) (m:=m) hrow h1 h2 h3).bind fun ax n1 y hn ha ⟨g1,g2⟩=>ai.pure ⟨g1,_,rfl,fun w hw=>?_⟩
     have:=(ka w hw).2 j _ h4
     have KO:(A.ep b aL o i j).den ρ m= .pointer (some ⟨m b,(o.den ρ).toNat+(i.den ρ).toNat*aL+j,none⟩):=rfl
     simp[Instr.loadAt,Instr.sureAddr,KO,loadVar,nw lK,this,W.den,g2]
 ·exact ai.fail
theorem oh {b aL:Nat} {o ro len cap:I} (hx:(A.sl b aL o ro len cap).ok n bl.length ρ):∃p,(A.sl b aL o ro len cap).den ρ m= .slice p (len.den ρ).toNat (if cap.den ρ<0 then 0 else(cap.den ρ).toNat)/\(cap.den ρ<0->p=none)/\(0<=cap.den ρ->p=some ⟨m b,(o.den ρ).toNat+(ro.den ρ).toNat*aL,none⟩):=by
 obtain⟨_,_,_,_,h3,_⟩:=hx
 simp only[A.den]
 by_cases hc:cap.den ρ<0
 ·rw[if_pos hc,if_pos hc,h3 hc]
  exact⟨none,rfl,fun _=>rfl,fun h=>by omega⟩
 ·rw[if_neg hc,if_neg hc]
  exact⟨_,rfl,fun h=>absurd h hc,fun _=>rfl⟩
theorem anY {t:TypeId} {b aL:Nat} {o ro len cap aJ:I} {k:IntKind} (hx:(A.sl b aL o ro len cap).ok n bl.length ρ) (hi:aJ.aX n):
 ai S L (MY P t b aL o ro len aJ) n ρ (j0 w0 m bl n ρ fun w=>(Instr.indexAt t ((A.sl b aL o ro len cap).den ρ m) (.int k (aJ.den ρ))).run P w):=by
 unfold MY
 cases h1:gg P t with
 |none=>exact ai.fail
 |some e=>
  cases h2:ed P e with
  |none=>simp only[h2];exact ai.fail
  |some s=>
   simp only[h2]
   refine dr fun hs=>fF fun hk=>ai.pure ?_
   have hs:=Nat.eq_of_beq_eq_true hs
   subst hs
   simp only[List.map_cons,List.map_nil,ab]at hk
   obtain⟨x1,⟨x2,fg,eX,e5⟩,⟨fh,ib,jd,je⟩,jv,eH,fy⟩:=hx
   have hcap:¬(cap.den ρ<0):=fun h=>by have:=eH h;omega
   refine⟨⟨x1,⟨x2,I.sK fg hi⟩,fh,by rw[I.den_add];omega⟩,_,rfl,fun w _=>?_⟩
   have c2:aJ.den ρ<((len.den ρ).toNat:Int):=by omega
   have e1:(ro.den ρ+aJ.den ρ).toNat=(ro.den ρ).toNat+(aJ.den ρ).toNat:=by omega
   simp only[A.den,if_neg hcap,W.den,I.den_add,e1]
   simp[-Int.ofNat_toNat,Instr.indexAt,asIntOf,run_underlying (ff h1),hk.1,c2,gy h2,gE,Nat.add_mul,Nat.add_assoc]
theorem Iv {d:I} {y:Option Operand} {l:I} (h:uM tm d y=some l) (ht:du n bl.length ρ m tm a.tmps):(y=none/\l=d)∨∃k,y.map a.eval=some (.int k (l.den ρ))/\l.aX n:=by
 cases y with
 |none=>exact .inl ⟨rfl,by simpa [uM]using h.symm⟩
 |some x=>
  obtain⟨k,hk,h2⟩:=xx (m:=m) (bl:=bl) h (b9 ht x).2 (b9 ht x).1
  exact .inr ⟨k,by rw[<-hk];rfl,h2⟩
theorem Em {op:Nat} {ls:List I} (h:ab op (ls.map (·.den ρ))):ai S L (yD op ls) n ρ fun ad n' _=>ad=ρ/\n'=n:=fun A k hk=>⟨ρ,n,(),Nat.le_refl _,agree.refl _ _,⟨rfl,rfl⟩,hk h⟩
theorem an1 {t:TypeId} {b aL:Nat} {o ro len cap p q:I} {lo hi:Option Operand} (hx:(A.sl b aL o ro len cap).ok n bl.length ρ) (ht:du n bl.length ρ m tm a.tmps) (hp:uM tm (.const 0) lo=some p) (hq:uM tm len hi=some q):
 ai S L (M1 P t b aL o ro len cap p q) n ρ (j0 w0 m bl n ρ fun w=>(Instr.sliceAt t ((A.sl b aL o ro len cap).den ρ m) (lo.map a.eval) (hi.map a.eval) none).run P w):=by
 unfold M1
 cases h1:gg P t with
 |none=>exact ai.fail
 |some e=>
  cases h2:ed P e with
  |none=>simp only[h2];exact ai.fail
  |some s=>
   simp only[h2]
   refine dr fun hs=>fF fun hk=>?_
   have hs:=Nat.eq_of_beq_eq_true hs
   subst hs
   simp only[List.map_cons,List.map_nil,ab]at hk
   obtain⟨k1,k2,k3⟩:=hk
   have jH:=hx
   obtain⟨x1,⟨x2,fg,eX,e5⟩,⟨fh,ib,jd,je⟩,⟨jv,iN⟩,eH,fy⟩:=hx
   have hsp:=Iv hp ht
   have FH:=Iv hq ht
   have x9:p.aX n:=by rcases hsp with⟨_,rfl⟩|⟨_,_,h⟩;exact I.cA _ _;exact h
   have An:q.aX n:=by rcases FH with⟨_,rfl⟩|⟨_,_,h⟩;exact eX;exact h
   obtain⟨ptr,e1,e2,bu⟩:=oh (m:=m) jH
   have m9:∀w,(Instr.sliceBounds true (len.den ρ).toNat (if cap.den ρ<0 then 0 else(cap.den ρ).toNat) (lo.map a.eval) (hi.map a.eval) none).run P w= .ok ((p.den ρ).toNat,(q.den ρ).toNat,(if cap.den ρ<0 then 0 else(cap.den ρ).toNat)) w:=fun w=>by
    have hle:(len.den ρ)<=((if cap.den ρ<0 then 0 else(cap.den ρ).toNat:Nat):Int):=by
     split
     ·rename_i h;rw[eH h];simp
     ·rename_i h;have:=fy (by omega);omega
    generalize (if cap.den ρ<0 then 0 else(cap.den ρ).toNat)=C at hle
    rcases hsp with⟨rfl,rfl⟩|⟨TW,vh,_⟩<;>rcases FH with⟨rfl,rfl⟩|⟨aio,hq',_⟩
    ·simp[Instr.sliceBounds,I.aK]
    ·rw[hq'];simp[Instr.sliceBounds,I.aK,pf (P:=P) (by omega:0<=q.den ρ) (by omega:q.den ρ<=(C:Int))]
    ·rw[vh];simp[Instr.sliceBounds,pf (P:=P) (y:=(q.den ρ).toNat) k1 (by omega)]
    ·rw[vh,hq'];simp[Instr.sliceBounds,pf (P:=P) (by omega:0<=q.den ρ) (by omega:q.den ρ<=(C:Int)),pf (P:=P) (y:=(q.den ρ).toNat) k1 (by omega)]
   have fY:∀(w:World) (r:Int),r=(if p.den ρ=cap.den ρ then ro.den ρ else ro.den ρ+p.den ρ)->
    (Instr.sliceAt t ((A.sl b s o ro len cap).den ρ m) (lo.map a.eval) (hi.map a.eval) none).run P w= .ok (if cap.den ρ-p.den ρ<0 then .slice none 0 0 else .slice (some ⟨m b,(o.den ρ).toNat+r.toNat*s,none⟩) (q.den ρ-p.den ρ).toNat (cap.den ρ-p.den ρ).toNat) w:=fun w r hr=>by
    rw[e1]
    have eK:(q.den ρ).toNat-(p.den ρ).toNat=(q.den ρ-p.den ρ).toNat:=by omega
    simp only[Instr.sliceAt,Sem.run_bind,run_underlying (ff h1),Result.andThen_ok,Instr.slice,m9 w,gy h2,Sem.run_pure,eK]
    by_cases hc:cap.den ρ<0
    ·have hl:=eH hc
     have hp0:p.den ρ=0:=by omega
     rw[if_pos hc,e2 hc,if_pos (by omega)]
     have:q.den ρ=0:=by omega
     simp[hp0,this,hc]
    ·rw[if_neg hc,bu (by omega)]
     have fo:=fy (by omega)
     have SN:¬(cap.den ρ-p.den ρ<0):=by omega
     rw[if_neg SN]
     have pE:(cap.den ρ).toNat-(p.den ρ).toNat=(cap.den ρ-p.den ρ).toNat:=by omega
     rw[pE]
     by_cases Cz:p.den ρ=cap.den ρ
     ·rw[if_pos Cz]at hr
      have h7:(cap.den ρ).toNat=(p.den ρ).toNat:=by omega
      rw[if_pos h7,hr]
     ·rw[if_neg Cz]at hr
      have h7:¬(cap.den ρ).toNat=(p.den ρ).toNat:=by omega
      rw[if_neg h7,hr]
      have iF:(ro.den ρ+p.den ρ).toNat=(ro.den ρ).toNat+(p.den ρ).toNat:=by omega
      rw[iF,Nat.add_mul,<-Nat.add_assoc]
      simp[gE]
   split
   ·rename_i h0
    have hp0:=I.gq h0 (ρ:=ρ)
    refine ai.pure ⟨⟨x1,⟨x2,fg,An,e5⟩,⟨fh,ib,by omega,by omega⟩,⟨jv,iN⟩,fun h=>?_,fun h=>?_⟩,_,rfl,fun w _=>?_⟩
    ·have:=eH h;omega
    ·have:=fy h;omega
    ·have hr:=fY w (ro.den ρ) (by rw[hp0];split<;>omega)
     rw[hp0]at hr
     simp only[Int.sub_zero]at hr
     simp only[W.den,A.den]at hr⊢
     exact hr
   ·have gT:(0:Int)<=aA 33 ([ro,p,cap].map (·.den ρ)):=by
     simp only[List.map_cons,List.map_nil,aA];split<;>omega
    have im:aA 33 ([ro,p,cap].map (·.den ρ))<=9223372036854775808:=by
     simp only[List.map_cons,List.map_nil,aA]
     by_cases hc:cap.den ρ<0
     ·have:=eH hc;split<;>omega
     ·have:=fy (by omega);split<;>omega
    refine(Em (op:=68) (ls:=[len,cap]) (show len.den ρ<=cap.den ρ∨len.den ρ=0 from by
     by_cases hc:cap.den ρ<0
     ·exact .inr (eH hc)
     ·exact .inl (fy (by omega)))).bind fun bK n0 _ _ _ ⟨xr,ma⟩=>?_
    have xr:=xr.symm;have ma:=ma.symm
    subst xr;subst ma
    refine(eZ gT im).bind fun ax n1 r hn ha ⟨g1,g2⟩=>ai.pure ?_
    simp only[List.map_cons,List.map_nil,aA]at g2
    have a1:=I.bA ha x2;have a2:=I.bA ha An;have a3:=I.bA ha x9;have a4:=I.bA ha e5
    refine⟨⟨x1,⟨x2.mono hn,g1,I.vP (An.mono hn) (x9.mono hn),I.vP (e5.mono hn) (x9.mono hn)⟩,?_⟩,_,rfl,fun w _=>?_⟩
    ·rw[I.kS,I.kS,a1,a2,a3,a4,g2]
     refine⟨⟨fh,?_,by omega,by omega⟩,⟨?_,?_⟩,fun h=>?_,fun h=>?_⟩
     ·split<;>omega
     ·by_cases hc:cap.den ρ<0
      ·have:=eH hc;omega
      ·have:=fy (by omega);omega
     ·split<;>omega
     ·by_cases hc:cap.den ρ<0
      ·have:=eH hc;omega
      ·have:=fy (by omega);omega
     ·by_cases hc:cap.den ρ<0
      ·have:=eH hc;omega
      ·have:=fy (by omega);omega
    ·refine(fY w (r.den ax) g2).trans ?_
     simp only[W.den,A.den,I.kS,a1,a2,a3,a4]
theorem anZ (hb:cn n bl.length ρ bl) (hex:∃w,Mem w0 ρ m bl w) {src dst e:TypeId} (hs:P.underlying src=some (.slice e)) (he:P.underlying e=some (.int .u8)) (hd:P.underlying dst=some .string) {b aL:Nat} {o ro len cap:I} (hx:(A.sl b aL o ro len cap).ok n bl.length ρ):
 ai S L (M0 bl b aL o ro len) n ρ (j0 w0 m bl n ρ fun w=>(convert src dst ((A.sl b aL o ro len cap).den ρ m)).run P w):=by
 obtain⟨sV,pQ⟩:=hex
 unfold M0
 split
 ·rename_i sh off code fE kind t' aB
  refine dr fun hc=>fF fun hk=>?_
  simp only[Bool.and_eq_true]at hc
  obtain⟨⟨⟨c1,c2⟩,c3⟩,c4⟩:=hc
  have c1:0<kind:=Nat.le_of_ble_eq_true c1
  have c2:=Nat.eq_of_beq_eq_true c2
  have c3:=I.beq_eq c3
  subst c3;subst c2
  simp only[List.map_cons,List.map_nil,ab,I.den_add]at hk
  obtain⟨ptr,e1,e2,bu⟩:=oh (m:=m) hx
  obtain⟨x1,⟨x2,fg,eX,e5⟩,⟨fh,ib,jd,je⟩,⟨jv,iN⟩,eH,fy⟩:=hx
  generalize hR:aa (code.den ρ)=rows at hk
  have lM:fE.den ρ<0->rows=[]:=fun h=>by rw[<-hR];exact(pQ.rws b sh o code fE kind t' aB (by omega)).1 h
  have eu:(((rows.drop (ro.den ρ).toNat).take (len.den ρ).toNat).map fun row=>row.getD 0 0).length=(len.den ρ).toNat:=by
   simp;omega
  have hf:aA 34 ([code,ro,ro.add len].map (·.den ρ))=dI ((((rows.drop (ro.den ρ).toNat).take (len.den ρ).toNat).map fun row=>row.getD 0 0).map fun z=>UInt8.ofNat z.toNat):=by
   simp only[List.map_cons,List.map_nil,aA,I.den_add,hR]
   have:(ro.den ρ+len.den ρ).toNat-(ro.den ρ).toNat=(len.den ρ).toNat:=by omega
   rw[this,List.map_map];rfl
  generalize bw:(((rows.drop (ro.den ρ).toNat).take (len.den ρ).toNat).map fun row=>row.getD 0 0)=xs at eu hf
  have hl:(xs.map fun z=>UInt8.ofNat z.toNat).length<=ga:=by
   have:(xs.map fun z=>UInt8.ofNat z.toNat).length=(len.den ρ).toNat:=by simp[eu]
   unfold ga;omega
  refine(eZ (by rw[hf];exact pz _) (by rw[hf];exact nG hl)).bind fun ax n1 l _ _ ⟨g1,g2⟩=>ai.pure ⟨⟨g1,by rw[g2,hf];exact pz _,by rw[g2,hf];exact nG hl⟩,_,rfl,fun w hw=>?_⟩
  have k0:(W.one (A.str l)).den ax m= .string (strOfNums xs):=by
   simp only[W.den,A.den,g2,hf,gb]
   rfl
  rw[k0]
  show(convert src dst ((A.sl b 1 o ro len cap).den ρ m)).run P w=_
  rw[e1]
  by_cases hcap:cap.den ρ<0
  ·have gV:=eH hcap
   rw[e2 hcap,if_pos hcap]
   have Tx:xs=[]:=List.eq_nil_of_length_eq_zero (by rw[eu,gV];rfl)
   rw[Tx,run_convert_bytes_nil w src e hs he _ _ dst hd]
   rfl
  ·rw[bu (by omega),if_neg hcap]
   by_cases B6:fE.den ρ<0
   ·have ng:=lM B6
    have gV:len.den ρ=0:=by rw[ng]at hk;simp at hk;omega
    have Tx:xs=[]:=List.eq_nil_of_length_eq_zero (by rw[eu,gV];rfl)
    exact run_convert_bytes_arg w src e hs he (m b) _ _ _ xs eu (fun i hi=>by rw[gV]at hi;simp at hi) dst hd
   ·obtain⟨_,cells,hH,fz,k1,⟨k2,k3⟩,_⟩:=(hw.rws b sh o code fE kind t' aB (by omega)).2 (by omega)
    refine run_convert_bytes_arg w src e hs he (m b) _ _ _ xs eu (fun i hi=>?_) dst hd
    have hlt:(ro.den ρ).toNat+i<rows.length:=by omega
    have hrow:(aa (code.den ρ))[(ro.den ρ).toNat+i]?=some rows[(ro.den ρ).toNat+i]:=by rw[hR];exact List.getElem?_eq_getElem hlt
    have hsh:∃lo hi,sh=[.int .u8 lo hi]:=by
     unfold EE at c4
     split at c4
     ·exact⟨_,_,rfl⟩
     ·cases c4
    obtain⟨lo,cE,rfl⟩:=hsh
    have xj:=k3.1 _ (List.mem_of_getElem? hrow)
    obtain⟨z,bo,_,_,dq⟩:=xj.get (j:=0) (c:= .int .u8 lo cE) rfl
    have:=k3.get hrow dq
    have hz:xs.getD i 0=z:=by
     rw[<-bw]
     have:i<(len.den ρ).toNat:=hi
     simp[List.getD,List.getElem?_take,this,hlt,bo]
    simp only[World.cell?,k1,Option.isSome_none,Bool.false_eq_true,if_false,hz]
    simp only[List.length_cons,List.length_nil,Nat.add_zero,Nat.zero_add,Nat.mul_one]at this
    rw[show(o.den ρ).toNat+(ro.den ρ).toNat*1+i=(o.den ρ).toNat+((ro.den ρ).toNat+i) by omega]
    exact this
 ·exact ai.fail
theorem ajk {k:IntKind} {x y:bh} {t:TypeId} {ts:Array TypeId} (hx:x.ok n ρ) (hy:y.ok n ρ):ai S L (U1 k x y) n ρ (j0 w0 m bl n ρ fun w=>(Builtin.min_ ts t #[.int k (x.l.den ρ),.int k (y.l.den ρ)]).run P w):=by
 have e:=aT.EU hy hx
 have hr:∀w,(Builtin.min_ ts t #[.int k (x.l.den ρ),.int k (y.l.den ρ)]).run P w= .ok (.int k (if y.l.den ρ<x.l.den ρ then y.l.den ρ else x.l.den ρ)) w:=fun w=>by
  simp[Builtin.min_,Builtin.min2]
 refine QC (fun hb=>ai.pure ⟨hy,_,rfl,fun w _=>?_⟩) fun hb=>ai.pure ⟨hx,_,rfl,fun w _=>?_⟩
 ·rw[e.1]at hb
  simp only[hr,if_pos (of_decide_eq_true hb)];rfl
 ·rw[e.1]at hb
  simp only[hr,if_neg (of_decide_eq_false hb)];rfl
theorem aji {k:IntKind} {x y:bh} {t:TypeId} {ts:Array TypeId} (hx:x.ok n ρ) (hy:y.ok n ρ):ai S L (UY k x y) n ρ (j0 w0 m bl n ρ fun w=>(Builtin.max_ ts t #[.int k (x.l.den ρ),.int k (y.l.den ρ)]).run P w):=by
 have e:=aT.EU hx hy
 have hr:∀w,(Builtin.max_ ts t #[.int k (x.l.den ρ),.int k (y.l.den ρ)]).run P w= .ok (.int k (if x.l.den ρ<y.l.den ρ then y.l.den ρ else x.l.den ρ)) w:=fun w=>by
  simp[Builtin.max_,Builtin.max2]
 refine QC (fun hb=>ai.pure ⟨hy,_,rfl,fun w _=>?_⟩) fun hb=>ai.pure ⟨hx,_,rfl,fun w _=>?_⟩
 ·rw[e.1]at hb
  simp only[hr,if_pos (of_decide_eq_true hb)];rfl
 ·rw[e.1]at hb
  simp only[hr,if_neg (of_decide_eq_false hb)];rfl
theorem QA:∀{cs:List A} {l:List Bool},lF cs=some l->cs=l.map fun b=>A.bool (.lit b)
 |[],l,h=>by simp[lF]at h;subst h;rfl
 | .bool (.lit b)::r,l,h=>by
  simp only[lF]at h
  cases hr:lF r with
  |none=>simp[hr]at h
  |some bx=>
   simp only[hr,Option.some.injEq]at h
   subst h
   simp[QA hr]
 | .bool (.eq ..)::_,_,h| .bool (.lt ..)::_,_,h| .bool (.le ..)::_,_,h| .bool (.not ..)::_,_,h| .bool (.and ..)::_,_,h| .bool (.iff ..)::_,_,h=>by simp[lF]at h
 | .int .. ::_,_,h=>by simp[lF]at h
 | .ptr .. ::_,_,h=>by simp[lF]at h
 | .lq .. ::_,_,h=>by simp[lF]at h
 | .gptr .. ::_,_,h=>by simp[lF]at h
 | .slc .. ::_,_,h=>by simp[lF]at h
 | .con _::_,_,h=>by simp[lF]at h
 | .str _::_,_,h=>by simp[lF]at h
 | .rows .. ::_,_,h=>by simp[lF]at h
 | .sl .. ::_,_,h=>by simp[lF]at h
 | .ep .. ::_,_,h=>by simp[lF]at h
theorem TD:∀(l:List Bool) (s:Nat),s+l.length<=256->∀i:Nat,i<256->(UInt8.ofNat i∈tD s l↔s<=i/\l[i-s]?=some true)
 |[],s,_,i,_=>by simp[tD]
 |b::r,s,h,i,hi=>by
  simp only[List.length_cons]at h
  have ih:=TD r (s+1) (by omega) i hi
  have hne:s≠i->UInt8.ofNat i≠UInt8.ofNat s:=fun hne he=>by
   have:=congrArg UInt8.toNat he
   simp at this;omega
  have key:(s+1<=i/\r[i-(s+1)]?=some true)↔(s<i/\(b::r)[i-s]?=some true):=by
   constructor
   ·rintro⟨h1,h2⟩
    refine⟨h1,?_⟩
    rw[show i-s=(i-(s+1))+1 by omega];simpa using h2
   ·rintro⟨h1,h2⟩
    refine⟨h1,?_⟩
    rw[show i-s=(i-(s+1))+1 by omega]at h2;simpa using h2
  unfold tD
  cases b with
  |true=>
   simp only[cond_true,List.mem_cons,ih,key]
   by_cases he:s=i
   ·subst he;simp
   ·constructor
    ·rintro(h1|h1)
     ·exact absurd h1 (hne he)
     ·exact⟨by omega,h1.2⟩
    ·rintro⟨h1,h2⟩;exact .inr ⟨by omega,h2⟩
  |false=>
   simp only[cond_false,ih,key]
   by_cases he:s=i
   ·subst he;simp
   ·constructor
    ·rintro⟨h1,h2⟩;exact⟨by omega,h2⟩
    ·rintro⟨h1,h2⟩;exact⟨by omega,h2⟩
theorem anK (hb:cn n bl.length ρ bl) {ty:TypeId} (hu:P.underlying ty=some .bool) (b off:Nat) {aJ:bh} (Co:aJ.ok n ρ):ai S L (MQ bl b off aJ) n ρ (j0 w0 m bl n ρ fun w=>(Instr.loadAt ty ((A.lq b off aJ).den ρ m)).run P w):=by
 unfold MQ
 cases aB:bl[b]? with
 |none=>exact ai.fail
 |some q=>
  obtain⟨cs,t⟩:=q
  simp only
  cases hi:lF ((cs.drop off).take (aJ.hi.toNat+1))with
  |none=>exact ai.fail
  |some l=>
   refine dr fun hc=>?_
   simp only[Bool.and_eq_true,decide_eq_true_eq]at hc
   obtain⟨⟨⟨hc1,hX⟩,ayN⟩,hq⟩:=hc
   have hlen:=Nat.eq_of_beq_eq_true hc1
   have BR:=Nat.le_of_ble_eq_true hX
   have e:=QA hi
   have yN:=Co.2
   have hlt:(aJ.l.den ρ).toNat<l.length:=by omega
   have hcl:dI (tD 0 l)=(I.const (dI (tD 0 l))).den ρ:=(I.aK _ _).symm
   have hf:aA 43 ([I.const (dI (tD 0 l)),aJ.l].map (·.den ρ))=if l[(aJ.l.den ρ).toNat]=true then 1 else 0:=by
    simp only[List.map_cons,List.map_nil,aA,I.aK,gb]
    have:=TD l 0 (by omega) (aJ.l.den ρ).toNat (by omega)
    simp only[Nat.sub_zero,Nat.zero_le,true_and,List.getElem?_eq_getElem hlt,Option.some.injEq]at this
    simp only[this]
   have b1:=Bb (l[(aJ.l.den ρ).toNat]=true)
   refine(eZ (by rw[hf];exact b1.1) (by rw[hf];exact b1.2)).bind fun ax n1 r hn ha ⟨g1,g2⟩=>?_
   rw[hf]at g2
   have e2:=aT.pD (n:=n1) (ρ:=ax) (a:=⟨r,0,1⟩) (b:= .const 1) ⟨g1,by simp only[g2];exact b1.1,by simp only[g2];exact b1.2⟩ (bh.lI _ _ _)
   refine ai.pure ⟨e2.2,_,rfl,fun w hw=>?_⟩
   obtain⟨_,_,x6,_,h2⟩:=hw.dX b cs t aB hq
   have hcs:cs[off+(aJ.l.den ρ).toNat]?=some (.bool (.lit l[(aJ.l.den ρ).toNat])):=by
    have h1:((cs.drop off).take (aJ.hi.toNat+1))[(aJ.l.den ρ).toNat]?=some (.bool (.lit l[(aJ.l.den ρ).toNat])):=by rw[e];simp[hlt]
    rw[List.getElem?_take]at h1
    split at h1
    ·rw[List.getElem?_drop]at h1;exact h1
    ·cases h1
   have afJ:=(List.getElem?_eq_some_iff.1 hcs).1
   have hcell:w.cell? ⟨m b,off+(aJ.l.den ρ).toNat,none⟩=some (.bool l[(aJ.l.den ρ).toNat]):=by
    simp only[World.cell?,h2,Option.isSome_none,Bool.false_eq_true,if_false,List.getElem?_toArray]
    rw[List.getElem?_append_left (by simpa using afJ),List.getElem?_map,hcs];rfl
   have lK:gK P ty=some false:=by unfold gK;rw[hu]
   have KO:(A.lq b off aJ).den ρ m= .pointer (some ⟨m b,off+(aJ.l.den ρ).toNat,none⟩):=rfl
   simp only[W.den,A.den]
   rw[e2.1]
   simp only[g2,bh.const,I.aK]
   have afB:decide ((if l[(aJ.l.den ρ).toNat]=true then(1:Int)else 0)=1)=l[(aJ.l.den ρ).toNat]:=by
    cases l[(aJ.l.den ρ).toNat]<;>rfl
   rw[afB]
   have agU:=KO
   simp only[A.den]at agU
   simp[Instr.loadAt,Instr.sureAddr,loadVar,nw lK,hcell]
theorem ant (w:World) {t e:TypeId} (hu:P.underlying t=some (.slice e)) (p:Option Addr) (l c:Nat):(binOp .eql t (.slice p l c) (.slice none 0 0)).run P w= .ok (.bool p.isNone) w:=by
 have h:binOp .eql t (.slice p l c) (.slice none 0 0)=(do pure (.bool (<-Op.equal t (.slice p l c) (.slice none 0 0)))):=rfl
 rw[h]
 simp only[Sem.run_bind,run_equal_slice_nil w t e p l c hu,Result.andThen_ok,Sem.run_pure]
theorem anw (w:World) {t e:TypeId} (hu:P.underlying t=some (.slice e)) (p:Option Addr) (l c:Nat):(binOp .neq t (.slice p l c) (.slice none 0 0)).run P w= .ok (.bool !p.isNone) w:=by
 have h:binOp .neq t (.slice p l c) (.slice none 0 0)=(do pure (.bool (!(<-Op.equal t (.slice p l c) (.slice none 0 0))))):=rfl
 rw[h]
 simp only[Sem.run_bind,run_equal_slice_nil w t e p l c hu,Result.andThen_ok,Sem.run_pure]
theorem Qb {b off:Nat} {sh:List aw} {code:I} {c:Nat} (h:El bl b off=some (sh,code,c)):off=0/\∃cap kind t,bl[b]?=some ([.rows sh (.const 0) code cap kind],t)/\0<kind/\∀ρ,cap.den ρ=(c:Int):=by
 unfold El at h
 split at h
 ·rename_i dR o code' cap kind t aB
  split at h
  ·rename_i q hq
   cases hc:(Nat.beq off 0&&Nat.blt 0 kind&&I.beq o (.const 0)&&decide (0<=q))with
   |false=>rw[hc]at h;cases h
   |true=>
    rw[hc]at h
    simp only[cond_true,Option.some.injEq,Prod.mk.injEq]at h
    obtain⟨rfl,rfl,rfl⟩:=h
    simp only[Bool.and_eq_true,decide_eq_true_eq]at hc
    obtain⟨⟨⟨c1,c2⟩,c3⟩,c4⟩:=hc
    have c3:=I.beq_eq c3
    subst c3
    exact⟨Nat.eq_of_beq_eq_true c1,cap,kind,t,aB,Nat.le_of_ble_eq_true c2,fun ρ=>by rw[I.gq hq];omega⟩
  ·cases h
 ·cases h
theorem P6 {nb:Nat} {sh:List aw}:∀{k i:Nat} {n:Nat} {ρ:Env} {code:I},code.aX n->(∀row∈aa (code.den ρ),bT sh row)->(aa (code.den ρ)).length=i+k->
 ai S L (Ej code sh i k) n ρ fun ad n' l=>(∀a∈l,A.ok n' nb ad a)/\l.length=k*sh.length/\∀(x:Nat) (a:A),l[x]?=some a->(aV sh (aa (code.den ρ)))[i*sh.length+x]?=some (a.den ad m)
 |0,i,n,ρ,code,_,_,_=>ai.pure ⟨fun _ h=>by simp at h,by simp,fun x a h=>by simp at h⟩
 |k+1,i,n,ρ,code,hs,iq,hl=>by
  unfold Ej
  have hlt:i<(aa (code.den ρ)).length:=by omega
  have hrow:(aa (code.den ρ))[i]?=some (aa (code.den ρ))[i]:=List.getElem?_eq_getElem hlt
  generalize (aa (code.den ρ))[i]=row at hrow
  refine(IT (nb:=nb) (m:=m) (r:=sh) (j:=0) (i:= .const (i:Nat)) (code:=code) (iq row (List.mem_of_getElem? hrow)) hs (I.cA _ _) (by rw[I.aK,Int.toNat_natCast];exact hrow) (fun x c hx=>by rw[Nat.zero_add];exact hx)).bind fun ax n1 l1 eL dw ⟨g1,g2,g3⟩=>?_
  have e1:code.den ax=code.den ρ:=I.bA dw hs
  refine(P6 (nb:=nb) (k:=k) (i:=i+1) (code:=code) (hs.mono eL) (by rw[e1];exact iq) (by rw[e1];omega)).bind fun bC dM l2 dU dd ⟨k1,k2,k3⟩=>ai.pure ⟨fun a ha=>?_,by rw[List.length_append,g2,k2,Nat.succ_mul];omega,fun x a hx=>?_⟩
  ·rcases List.mem_append.1 ha with ha|ha
   ·exact(g1 a ha).ext dd dU (Nat.le_refl _)
   ·exact k1 a ha
  ·rw[List.getElem?_append]at hx
   split at hx
   ·rename_i hlt
    have:=g3 x a hx
    rw[Nat.zero_add]at this
    rw[A.jl (g1 a (List.mem_of_getElem? hx)) dd (fun _ _=>rfl)]
    exact Jx iq hrow this
   ·rename_i hge
    have:=k3 (x-l1.length) a hx
    rw[e1,g2]at this
    rw[g2]at hge
    rw[show i*sh.length+x=(i+1)*sh.length+(x-sh.length) by rw[Nat.succ_mul];omega]
    exact this
theorem ab0 {α:Type} {p q r len cap:I} {f:Unit->M α} {R:Env->Nat->α->Prop} (eF:cap.den ρ<0->len.den ρ=0) (fo:0<=cap.den ρ->len.den ρ<=cap.den ρ) (h:(0<=p.den ρ/\p.den ρ<=q.den ρ/\q.den ρ<=r.den ρ/\r.den ρ<=cap.den ρ)->ai S L (f ()) n ρ R):
 ai S L (bind (cond (I.beq r len) (eE 78 [p,q,r,cap]) (eE 64 [p,q,r,len])) f) n ρ R:=by
 cases I.beq r len with
 |true=>exact fF fun hk=>h hk
 |false=>
  refine fF fun hk=>h ?_
  have hk:0<=p.den ρ/\p.den ρ<=q.den ρ/\q.den ρ<=r.den ρ/\r.den ρ<=len.den ρ/\0<len.den ρ:=hk
  have hc:0<=cap.den ρ:=by
   rcases Int.lt_or_le (cap.den ρ) 0 with h|h
   ·have:=eF h;omega
   ·exact h
  have:=fo hc
  omega
theorem an0 {t:TypeId} {b aL:Nat} {o ro len cap p q r:I} {lo:Option Operand} {hi br:Operand} (hx:(A.sl b aL o ro len cap).ok n bl.length ρ) (ht:du n bl.length ρ m tm a.tmps) (hp:uM tm (.const 0) lo=some p) (hq:nk (bP tm hi)=some q) (hr:nk (bP tm br)=some r):
 ai S L (M3 P t b aL o ro len cap p q r) n ρ (j0 w0 m bl n ρ fun w=>(Instr.sliceAt t ((A.sl b aL o ro len cap).den ρ m) (lo.map a.eval) (some (a.eval hi)) (some (a.eval br))).run P w):=by
 unfold M3
 cases h1:gg P t with
 |none=>exact ai.fail
 |some e=>
  cases h2:ed P e with
  |none=>simp only[h2];exact ai.fail
  |some s=>
   simp only[h2]
   refine dr fun hs=>ab0 (fun h=>hx.2.2.2.2.1 h) (fun h=>hx.2.2.2.2.2 h) fun hk=>?_
   have hs:=Nat.eq_of_beq_eq_true hs
   subst hs
   obtain⟨k1,k2,k3,k4⟩:=hk
   have jH:=hx
   obtain⟨x1,⟨x2,fg,eX,e5⟩,⟨fh,ib,jd,je⟩,⟨jv,iN⟩,eH,fy⟩:=hx
   have hsp:=Iv hp ht
   have x9:p.aX n:=by rcases hsp with⟨_,rfl⟩|⟨_,_,h⟩;exact I.cA _ _;exact h
   obtain⟨aio,hq',An⟩:=xx (m:=m) (bl:=bl) hq (b9 ht hi).2 (b9 ht hi).1
   obtain⟨azb,cd,Wm⟩:=xx (m:=m) (bl:=bl) hr (b9 ht br).2 (b9 ht br).1
   obtain⟨ptr,e1,e2,bu⟩:=oh (m:=m) jH
   have hc:¬(cap.den ρ<0):=by omega
   have fo:=fy (by omega)
   have yV:=e1
   rw[if_neg hc,bu (by omega)]at yV
   have hf:aA 33 ([ro,p,r].map (·.den ρ))=(if p.den ρ=r.den ρ then ro.den ρ else ro.den ρ+p.den ρ):=rfl
   refine(eZ (by rw[hf];split<;>omega) (by rw[hf];split<;>omega)).bind fun ax n1 x6 hn ha ⟨g1,g2⟩=>ai.pure ?_
   rw[hf]at g2
   have a1:=I.bA ha x2;have a2:=I.bA ha An;have a3:=I.bA ha x9;have a4:=I.bA ha Wm
   refine⟨⟨x1,⟨x2.mono hn,g1,I.vP (An.mono hn) (x9.mono hn),I.vP (Wm.mono hn) (x9.mono hn)⟩,?_⟩,_,rfl,fun w _=>?_⟩
   ·rw[I.kS,I.kS,a1,a2,a3,a4,g2]
    refine⟨⟨fh,?_,by omega,by omega⟩,⟨by omega,?_⟩,fun h=>by omega,fun h=>by omega⟩
    ·split<;>omega
    ·split<;>omega
   ·rw[yV]
    have m9:(Instr.sliceBounds true (len.den ρ).toNat (cap.den ρ).toNat (lo.map a.eval) (some (a.eval hi)) (some (a.eval br))).run P w= .ok ((p.den ρ).toNat,(q.den ρ).toNat,(r.den ρ).toNat) w:=by
     rw[hq',cd]
     rcases hsp with⟨rfl,rfl⟩|⟨TW,vh,_⟩
     ·simp[Instr.sliceBounds,I.aK,pf (P:=P) (y:=(cap.den ρ).toNat) (by omega:0<=r.den ρ) (by omega),pf (P:=P) (y:=(r.den ρ).toNat) (by omega:0<=q.den ρ) (by omega)]
     ·rw[vh]
      simp[Instr.sliceBounds,pf (P:=P) (y:=(cap.den ρ).toNat) (by omega:0<=r.den ρ) (by omega),pf (P:=P) (y:=(r.den ρ).toNat) (by omega:0<=q.den ρ) (by omega),pf (P:=P) (y:=(q.den ρ).toNat) k1 (by omega)]
    have eK:(q.den ρ).toNat-(p.den ρ).toNat=(q.den ρ-p.den ρ).toNat:=by omega
    have pE:(r.den ρ).toNat-(p.den ρ).toNat=(r.den ρ-p.den ρ).toNat:=by omega
    simp only[Instr.sliceAt,Sem.run_bind,run_underlying (ff h1),Result.andThen_ok,Instr.slice,m9,gy h2,Sem.run_pure,eK,pE,W.den,A.den,I.kS,a1,a2,a3,a4,g2]
    rw[if_neg (show ¬(r.den ρ-p.den ρ<0) by omega)]
    by_cases Cz:p.den ρ=r.den ρ
    ·rw[if_pos Cz,if_pos (by omega)]
    ·rw[if_neg Cz,if_neg (by omega)]
     have iF:(ro.den ρ+p.den ρ).toNat=(ro.den ρ).toNat+(p.den ρ).toNat:=by omega
     rw[iF,Nat.add_mul,<-Nat.add_assoc]
     simp[gE]
theorem anm (hb:cn n bl.length ρ bl) (hex:∃w,Mem w0 ρ m bl w) (ht:du n bl.length ρ m tm a.tmps) (o:Oper) {q:M V} (hq:GV P bl tm o=some q):ai S L q n ρ (jZ w0 m bl n ρ P o a):=by
 obtain⟨sV,pQ⟩:=hex
 unfold GV at hq
 split at hq
 ·rename_i t x aJ h
  have hx:=b9 ht x
  have hi:=b9 ht aJ
  split at hq
  ·rename_i b off k i hv xl
   rw[hv]at hx;rw[xl]at hi
   split at hq
   ·rename_i sh code c len e wU zl
    split at hq
    ·rename_i s hs
     cases hc:(Nat.beq s sh.length&&Nat.beq len c)with
     |false=>rw[hc]at hq;cases hq
     |true=>
      rw[hc]at hq
      simp only[cond_true,Option.some.injEq]at hq
      subst hq
      simp only[Bool.and_eq_true]at hc
      have c2:=Nat.eq_of_beq_eq_true hc.2
      subst c2
      obtain⟨rfl,cap,kind,bJ,aB,hk,hcap⟩:=Qb wU
      refine fF fun Fu=>ai.pure ?_
      simp only[List.map_cons,List.map_nil,ab,I.aK]at Fu
      have cL:a.eval x= .pointer (some ⟨m b,0,none⟩):=hx.2
      have Ks:a.eval aJ= .int k (i.l.den ρ):=hi.2
      have Kt:bh.ok n ρ i:=hi.1
      have lO:b<bl.length:=hx.1
      refine⟨⟨lO,⟨I.cA _ _,Kt.1⟩,by rw[I.aK];omega,Fu.1⟩,_,rfl,fun w _=> .inl ?_⟩
      have c1:i.l.den ρ<((len:Nat):Int):=Fu.2
      simp[execOp,h,cL,Ks,Instr.indexAt,asIntOf,run_underlying (qn zl),Instr.sureAddr,Fu.1,c1,gy hs,gE,W.den,A.den,I.aK]
    ·cases hq
   ·cases hq
  ·cases hq
 ·rename_i t x h
  have hx:=b9 ht x
  split at hq
  ·rename_i b off hv
   rw[hv]at hx
   split at hq
   ·rename_i sh code c k wU lK hs
    cases hc:(Nat.beq k (c*sh.length))with
    |false=>rw[hc]at hq;cases hq
    |true=>
     rw[hc]at hq
     simp only[cond_true,Option.some.injEq]at hq
     subst hq
     have hc:=Nat.eq_of_beq_eq_true hc
     subst hc
     obtain⟨rfl,cap,kind,bJ,aB,hk,hcap⟩:=Qb wU
     refine fF fun xb=>?_
     simp only[List.map_cons,List.map_nil,ab,I.aK]at xb
     have ej:(A.rows sh (.const 0) code cap kind).ok n bl.length ρ:=hb _ (List.mem_of_getElem? aB) _ (by simp)
     have ka:∀w,Mem w0 ρ m bl w->∃cells t' fz,w.heap[m b]?=some (.cells cells t' fz)/\j1 cells 0 sh (aa (code.den ρ)):=fun w hw=>by
      obtain⟨_,cells,hH,fz,g1,⟨g2,g3⟩,_⟩:=(hw.rws b sh (.const 0) code cap kind bJ aB (by omega)).2 (by rw[hcap];omega)
      rw[I.aK]at g3
      exact⟨cells,hH,fz,g1,g3⟩
     obtain⟨_,_,_,_,ag2⟩:=ka sV pQ
     refine(P6 (nb:=bl.length) (m:=m) (k:=c) (i:=0) ej.1.2.1 ag2.1 (by omega)).bind fun ax n1 l hn ha ⟨g1,g2,g3⟩=>ai.pure ⟨g1,_,rfl,fun w hw=> .inl ?_⟩
     obtain⟨cells,hH,fz,bo,bQ⟩:=ka w hw
     have hl:=run_loadCells_list (P:=P) w ⟨m b,0,none⟩ (l.map (A.den ax m)) fun x v hj=>by
      rw[gE]
      rw[List.getElem?_map]at hj
      cases hq:l[x]? with
      |none=>simp[hq]at hj
      |some y=>
       simp only[hq,Option.map_some,Option.some.injEq]at hj
       subst hj
       have h3:=g3 x y hq
       rw[Nat.zero_mul,Nat.zero_add]at h3
       simp only[World.cell?,bo,Option.isSome_none,Bool.false_eq_true,if_false]
       obtain⟨_,pre,post,p1,p2⟩:=bQ
       have hpre:pre=[]:=List.eq_nil_of_length_eq_zero p2
       subst hpre
       have hlt:=(List.getElem?_eq_some_iff.1 h3).1
       rw[<-Array.getElem?_toList,p1,List.nil_append,List.getElem?_append_left (by omega),Nat.zero_add]
       exact h3
     simp only[List.length_map,g2]at hl
     have cL:a.eval x= .pointer (some ⟨m b,0,none⟩):=hx.2
     simp[execOp,h,cL,Instr.loadAt,Instr.sureAddr,loadVar,nw lK,gy hs,hl,W.den]
   ·cases hq
  ·cases hq
 ·rename_i t x lo hi br h
  have hx:=b9 ht x
  split at hq
  ·rename_i b aL off ro len cap hv
   rw[hv]at hx
   have cL:a.eval x=(A.sl b aL off ro len cap).den ρ m:=hx.2
   have he:execOp a.eval o=(do pure (Next.value (<-Instr.sliceAt t ((A.sl b aL off ro len cap).den ρ m) (lo.map a.eval) (some (a.eval hi)) (some (a.eval br))))):=by simp only[execOp,h,cL];rfl
   split at hq
   ·rename_i p q' r hp hq' hr
    cases hq
    exact(an0 hx.1 ht hp hq' hr).mono fun _ _ _ _ _ hq=>jZ.of_run he hq
   ·cases hq
  ·cases hq
 ·rename_i c h
  split at hq
  ·rename_i hc
   split at hq
   ·rename_i x t eu kA
    have hx:=b9 ht x
    split at hq
    ·rename_i e hv hs
     cases hq
     rw[hv]at hx
     have cL:a.eval x= .slice none 0 0:=hx.2
     have a1:c.args=#[x]:=by rw[<-Array.toArray_toList (xs:=c.args),eu]
     have a2:c.argTypes=#[t]:=by rw[<-Array.toArray_toList (xs:=c.argTypes),kA]
     refine ai.pure ⟨bh.lI _ _ _,_,rfl,fun w _=> .inl ?_⟩
     simp[execOp,h,resolve,hc,a1,a2,cL,invoke,builtin,Builtin.len_,run_underlying (ff hs),goInt,W.den,A.den,bh.const,I.aK]
    ·cases hq
   ·cases hq
  ·cases hq
 ·cases hq
theorem Mr {cal:dQ} (cz:e7 S P gl w0 cal) (hb:cn n bl.length ρ bl) (hg:bL gl w0) (hex:∃w,Mem w0 ρ m bl w) (ht:du n bl.length ρ m tm a.tmps) (o:Oper):
 ai S L (tZ P cal gl bl tm o) n ρ (jZ w0 m bl n ρ P o a):=by
 unfold tZ
 cases hq:MH P bl tm o with
 |none=>
  simp only
  cases nT:GV P bl tm o with
  |some q=>exact anm hb hex ht o nT
  |none=>
  simp only
  cases hd:EV cal bl tm o with
  |none=>exact amW cz hb hg hex ht o
  |some q=>
   simp only
   unfold EV at hd
   split at hd
   ·rename_i c ho
    split at hd
    ·rename_i x hc
     split at hd
     ·rename_i f EY EZ hv
      cases hz:(Nat.beq EY.size 0&&Nat.beq EZ.size 0)with
      |false=>rw[hz]at hd;cases hd
      |true=>
       rw[hz]at hd
       simp only[cond_true,Option.map_eq_some_iff]at hd
       obtain⟨g,Ki,rfl⟩:=hd
       simp only[Bool.and_eq_true,Nat.beq_eq]at hz
       have bD:EY=#[]:=Array.eq_empty_of_size_eq_zero hz.1
       have e1:EZ=#[]:=Array.eq_empty_of_size_eq_zero hz.2
       subst bD e1
       have hx:=b9 ht (.tmp x)
       rw[hv]at hx
       have cL:a.eval (.tmp x)= .func (.func f) #[] #[]:=hx.2
       have mE:∀v∈c.args.toList.map (bP tm),V.ok n bl.length ρ v:=fun v hv=>by
        obtain⟨x,_,rfl⟩:=List.mem_map.1 hv
        exact(b9 ht x).1
       have he:execOp a.eval o=callFunc f (c.args.map a.eval):=by
        simp only[execOp,ho,resolve,hc,cL,Deferred.ofValue]
        simp[invoke,bind_pure_comp]
       refine(cz f g Ki L n ρ m bl _ _ hb hex mE (D5 (xs:=c.args.toList) ht)).mono fun ax n1 v _ _ ⟨bo,val,bQ,cq⟩=>⟨bo,val,bQ,fun w hw=>?_⟩
       have ha:(c.args.toList.map a.eval).toArray=c.args.map a.eval:=by
        rw[<-Array.toList_map]
       have dq:=cq w hw
       rw[ha]at dq
       rcases dq with dq|⟨dq,jL⟩
       ·exact .inl (by rw[he];exact dq)
       ·exact .inr ⟨f,_,by rw[he];exact dq,jL⟩
     ·cases hd
    ·cases hd
   ·cases hd
 |some q=>
  simp only
  unfold MH at hq
  split at hq
  case h_1 t x h=>
   have hx:=b9 ht x
   split at hq
   ·rename_i b aL off i j hv
    cases hq
    rw[hv]at hx
    have cL:a.eval x=(A.ep b aL off i j).den ρ m:=hx.2
    have he:execOp a.eval o=(do pure (Next.value (<-Instr.loadAt t ((A.ep b aL off i j).den ρ m)))):=by simp only[execOp,h,cL]
    exact(acS hb hex t hx.1).mono fun _ _ _ _ _ hq=>jZ.of_run he hq
   ·rename_i b off aJ hv
    split at hq
    ·rename_i hu
     cases hq
     rw[hv]at hx
     have cL:a.eval x=(A.lq b off aJ).den ρ m:=hx.2
     have he:execOp a.eval o=(do pure (Next.value (<-Instr.loadAt t ((A.lq b off aJ).den ρ m)))):=by simp only[execOp,h,cL]
     exact(anK hb hu b off hx.1.2.1).mono fun _ _ _ _ _ hq=>jZ.of_run he hq
    ·cases hq
   ·cases hq
  case h_2 x h=>
   have hx:=b9 ht x
   split at hq
   ·rename_i b aL off i j hv
    cases hq
    rw[hv]at hx
    refine ai.pure ⟨hx.1,_,rfl,fun w _=> .inl ?_⟩
    have cL:=hx.2
    simp only[V.rel,W.den,A.den]at cL
    simp[execOp,h,cL,W.den,A.den]
   ·cases hq
  case h_3 t x aJ h=>
   have hx:=b9 ht x
   have hi:=b9 ht aJ
   split at hq
   ·rename_i b aL off ro len cap k i hv xl
    cases hq
    rw[hv]at hx
    rw[xl]at hi
    have cL:a.eval x=(A.sl b aL off ro len cap).den ρ m:=hx.2
    have Ks:a.eval aJ= .int k (i.l.den ρ):=hi.2
    have he:execOp a.eval o=(do pure (Next.value (<-Instr.indexAt t ((A.sl b aL off ro len cap).den ρ m) (.int k (i.l.den ρ))))):=by simp only[execOp,h,cL,Ks]
    have Kt:bh.ok n ρ i:=hi.1
    exact(anY hx.1 Kt.1).mono fun _ _ _ _ _ hq=>jZ.of_run he hq
   ·cases hq
  case h_4 t x h=>
   have hx:=b9 ht x
   split at hq
   ·rename_i b aL off ro len cap k e hv ha
    cases hq
    rw[hv]at hx
    refine dr fun hc=>fF fun hk=>?_
    have hc:0<k:=Nat.le_of_ble_eq_true hc
    simp only[List.map_cons,List.map_nil,I.aK,ab]at hk
    have hok:A.ok n bl.length ρ (.sl b aL off ro len cap):=hx.1
    obtain⟨h1,⟨h2,h3,h4,h5⟩,h6⟩:=hok
    have hcap:¬cap.den ρ<0:=fun xd=>by have:=h6.2.2.1 xd;omega
    refine ai.pure ⟨⟨h1,⟨h2,h3⟩,h6.1.1,h6.1.2.1⟩,_,rfl,fun w _=> .inl ?_⟩
    have cL:a.eval x=(A.sl b aL off ro len cap).den ρ m:=hx.2
    have hle:¬(len.den ρ).toNat<k:=by omega
    simp only[execOp,h]
    rw[cL]
    simp only[A.den,if_neg hcap]
    simp[Instr.arrayAt,run_underlying (qn ha),hle,W.den,A.den]
   ·cases hq
  case h_5 s x f h=>
   have hx:=b9 ht x
   split at hq
   ·rename_i b aL off i j fd hv hf
    rw[hv]at hx
    obtain⟨dv,hu,Ce⟩:=Jp hf
    split at hq
    ·rename_i k hs
     cases hq
     refine ai.pure ⟨hx.1,_,rfl,fun w _=> .inl ?_⟩
     have cL:=hx.2
     simp only[V.rel,W.den,A.den]at cL
     simp[execOp,h,cL,Instr.fieldAt,run_underlying hu,Ce,Instr.sureAddr,fieldPlace,gy hs,gE,W.den,A.den,Nat.add_assoc]
    ·cases hq
   ·cases hq
  case h_6 t x lo hi h=>
   have hx:=b9 ht x
   split at hq
   ·rename_i b aL off ro len cap hv
    rw[hv]at hx
    have cL:a.eval x=(A.sl b aL off ro len cap).den ρ m:=hx.2
    have he:execOp a.eval o=(do pure (Next.value (<-Instr.sliceAt t ((A.sl b aL off ro len cap).den ρ m) (lo.map a.eval) (hi.map a.eval) none))):=by simp only[execOp,h,cL];rfl
    split at hq
    ·rename_i p q' hp hq'
     cases hq
     exact(an1 hx.1 ht hp hq').mono fun _ _ _ _ _ hq=>jZ.of_run he hq
    ·cases hq
   ·cases hq
  case h_7 s d x h=>
   have hx:=b9 ht x
   split at hq
   ·rename_i b aL off ro len cap e hv hs hd
    split at hq
    ·rename_i afU
     cases hq
     rw[hv]at hx
     have cL:a.eval x=(A.sl b aL off ro len cap).den ρ m:=hx.2
     have he:execOp a.eval o=(do pure (Next.value (<-convert s d ((A.sl b aL off ro len cap).den ρ m)))):=by simp only[execOp,h,cL]
     exact(anZ hb hex (ff hs) afU hd hx.1).mono fun _ _ _ _ _ hq=>jZ.of_run he hq
    ·cases hq
   ·cases hq
  case h_8 c h=>
   split at hq
   ·rename_i hc
    split at hq
    ·rename_i x t eu kA
     have hx:=b9 ht x
     split at hq
     ·rename_i b aL off ro len cap e hv hs
      cases hq
      rw[hv]at hx
      have cL:a.eval x=(A.sl b aL off ro len cap).den ρ m:=hx.2
      have lO:(A.sl b aL off ro len cap).ok n bl.length ρ:=hx.1
      obtain⟨ptr,e1,_,_⟩:=oh (m:=m) lO
      rw[e1]at cL
      obtain⟨x1,⟨x2,fg,eX,e5⟩,⟨fh,ib,jd,je⟩,_⟩:=lO
      have a1:c.args=#[x]:=by rw[<-Array.toArray_toList (xs:=c.args),eu]
      have a2:c.argTypes=#[t]:=by rw[<-Array.toArray_toList (xs:=c.argTypes),kA]
      refine ai.pure ⟨⟨eX,jd,je⟩,_,rfl,fun w _=> .inl ?_⟩
      have eK:((len.den ρ).toNat:Int)=len.den ρ:=by omega
      simp[-Int.ofNat_toNat,execOp,h,resolve,hc,a1,a2,cL,invoke,builtin,Builtin.len_,run_underlying (ff hs),goInt,W.den,A.den,eK]
     ·cases hq
    ·cases hq
   ·rename_i hc
    split at hq
    ·rename_i x y eu
     have hx:=b9 ht x
     have hy:=b9 ht y
     split at hq
     ·rename_i k p aQ q' ni jo
      by_cases kX:k=aQ
      ·subst kX
       simp only[decide_true,cond_true]at hq
       cases hq
       rw[ni]at hx;rw[jo]at hy
       have e1:a.eval x= .int k (p.l.den ρ):=hx.2
       have e2:a.eval y= .int k (q'.l.den ρ):=hy.2
       have a1:c.args=#[x,y]:=by rw[<-Array.toArray_toList (xs:=c.args),eu]
       have he:execOp a.eval o=(do pure (Next.value (<-Builtin.min_ c.argTypes o.type #[.int k (p.l.den ρ),.int k (q'.l.den ρ)]))):=by
        simp[execOp,h,resolve,hc,a1,e1,e2,invoke,builtin]
       exact(ajk hx.1 hy.1).mono fun _ _ _ _ _ hq=>jZ.of_run he hq
      ·simp[kX]at hq
     ·cases hq
    ·cases hq
   ·rename_i hc
    split at hq
    ·rename_i x y eu
     have hx:=b9 ht x
     have hy:=b9 ht y
     split at hq
     ·rename_i k p aQ q' ni jo
      by_cases kX:k=aQ
      ·subst kX
       simp only[decide_true,cond_true]at hq
       cases hq
       rw[ni]at hx;rw[jo]at hy
       have e1:a.eval x= .int k (p.l.den ρ):=hx.2
       have e2:a.eval y= .int k (q'.l.den ρ):=hy.2
       have a1:c.args=#[x,y]:=by rw[<-Array.toArray_toList (xs:=c.args),eu]
       have he:execOp a.eval o=(do pure (Next.value (<-Builtin.max_ c.argTypes o.type #[.int k (p.l.den ρ),.int k (q'.l.den ρ)]))):=by
        simp[execOp,h,resolve,hc,a1,e1,e2,invoke,builtin]
       exact(aji hx.1 hy.1).mono fun _ _ _ _ _ hq=>jZ.of_run he hq
      ·simp[kX]at hq
     ·cases hq
    ·cases hq
   ·cases hq
  case h_9 op t x y kg h=>
   have hx:=b9 ht x
   have hy:=b9 ht y
   split at hq
   ·rename_i e b aL bU ro len cap hs ni jo
    rw[ni]at hx;rw[jo]at hy
    have cL:a.eval x=(A.sl b aL bU ro len cap).den ρ m:=hx.2
    have qU:a.eval y= .slice none 0 0:=hy.2
    have lO:(A.sl b aL bU ro len cap).ok n bl.length ρ:=hx.1
    obtain⟨ptr,e1,e2,bu⟩:=oh (m:=m) lO
    rw[e1]at cL
    obtain⟨x1,⟨x2,fg,eX,e5⟩,_,_,eH,_⟩:=lO
    have has:ab 53 ([cap,len].map (·.den ρ)):=eH
    have hp:ptr.isNone=decide (cap.den ρ<0):=by
     rcases Int.lt_or_le (cap.den ρ) 0 with h0|h0
     ·rw[e2 h0,decide_eq_true h0];rfl
     ·rw[bu h0,decide_eq_false (by omega)];rfl
    split at hq
    ·cases hq
     refine(Em has).bind fun ax n1 _ _ _ ⟨mI,hn⟩=>?_
     have mI:=mI.symm
     have hn:=hn.symm
     subst mI hn
     refine ai.pure ⟨⟨e5,I.cA _ _⟩,_,rfl,fun w _=> .inl ?_⟩
     have Ch:eqGuard .eql t x y (.slice ptr (len.den ρ).toNat (if cap.den ρ<0 then 0 else(cap.den ρ).toNat)) (.slice none 0 0)=Pure.pure ():=rfl
     have he:execOp a.eval o=(do pure (Next.value (<-binOp .eql t (.slice ptr (len.den ρ).toNat (if cap.den ρ<0 then 0 else(cap.den ρ).toNat)) (.slice none 0 0)))):=by
      simp only[execOp,h,cL,qU,Ch,pure_bind]
     simp only[he,Sem.run_bind,ant w (ff hs),Result.andThen_ok,Sem.run_pure,hp]
     simp[W.den,A.den,aT.den,I.aK]
    ·cases hq
     refine(Em has).bind fun ax n1 _ _ _ ⟨mI,hn⟩=>?_
     have mI:=mI.symm
     have hn:=hn.symm
     subst mI hn
     refine ai.pure ⟨aT.sL ⟨e5,I.cA _ _⟩,_,rfl,fun w _=> .inl ?_⟩
     have Ch:eqGuard .neq t x y (.slice ptr (len.den ρ).toNat (if cap.den ρ<0 then 0 else(cap.den ρ).toNat)) (.slice none 0 0)=Pure.pure ():=rfl
     have he:execOp a.eval o=(do pure (Next.value (<-binOp .neq t (.slice ptr (len.den ρ).toNat (if cap.den ρ<0 then 0 else(cap.den ρ).toNat)) (.slice none 0 0)))):=by
      simp only[execOp,h,cL,qU,Ch,pure_bind]
     simp only[he,Sem.run_bind,anw w (ff hs),Result.andThen_ok,Sem.run_pure,hp]
     simp[W.den,A.den,aT.den,aT.rR,I.aK]
    ·cases hq
   ·cases hq
  case h_10=>cases hq
end
end Go.bj

/- A region whose order is open: quiet operations first,whichever of them comes when; then what goes one behind the other. -/
set_option linter.unusedVariables false
set_option linter.unusedSimpArgs false
namespace Go.bj
def Rl (ops:Array Oper) (n:Nat):Bool:=
 (List.range n).all fun i=>match ops[i]? with
   |none=>false
   |some iK=>(iK.after.all fun e=> !Region.binds .any e||Nat.blt e.on i)&&(match iK.op with| .select .. =>false|_=>true)&&
    (List.range n).all fun j=>Nat.beq i j||match ops[j]? with
      |none=>false
      |some dm=>match dm.dst with
       |none=>true
       |some d=>(!(iK.looksAt ops).contains d||Region.waitsFor .any ops i j||Region.waitsFor .any ops j i)&& !(match iK.dst with|some d'=>Nat.beq d' d|none=>false)
def Kc (size n:Nat):Array Bool:=((List.range size).map fun i=>Nat.blt i n).toArray
def y5 (o:Oper):Bool:=match o.op with| .move _| .assign _| .extract _ _=>true|_=>false
def qw (ops:Array Oper) (i:Nat):Bool:=match ops[i]? with|some o=>y5 o|none=>false
def eS (o:Oper):Bool:=match o.op,o.guard,o.dst with| .alloc _,none,some _=>true|_,_,_=>false
def ox (ops:Array Oper) (i:Nat):Bool:=match ops[i]? with|some o=>eS o|none=>false
def U9 (ops:Array Oper) (n:Nat):Bool:=
 (List.range n).all fun i=> !ox ops i||match ops[i]? with
   |some iK=>match iK.dst with
    |some d=>(List.range n).all fun j=>match ops[j]? with|some dm=> !(dm.looksAt ops).contains d|none=>true
    |none=>false
   |none=>false
def Ws (ops:Array Oper) (n:Nat):Bool:=
 (List.range n).all fun i=>qw ops i||(List.range (n+1)).any fun j=>Nat.blt i j&&Region.waitsFor .any ops j i&&(Nat.beq j n|| !qw ops j)
def adb (ops:Array Oper) (n:Nat):Bool:=
 (List.range n).all fun i=> !qw ops i||(List.range ops.size).all fun j=>Nat.blt j n||Region.waitsFor .any ops j i||(match ops[i]?,ops[j]? with|some iK,some dm=>iK.apart ops dm|_,_=>false)
def As (ops:Array Oper) (n:Nat):Bool:=
 Region.noSelect ops&&adb ops n&&U9 ops n&&Rl ops n&&Nat.ble n ops.size&&(Nat.beq n ops.size||(Ws ops n&&Region.chainB .any ops n))&&Region.seqB .any ops (ops.size-n) n (Kc ops.size n)
def calm (Q:Exit->Act->World->Prop):Exit->Act->World->Prop
 | .panic _,_,_=>False
 |e,a,w=>Q e a w
theorem oD {a b:Nat} (h:Nat.blt a b=true):a<b:=Nat.le_of_ble_eq_true h
theorem ai7 {a b:Nat} (h:a<b):Nat.blt a b=true:=Nat.ble_eq_true_of_le h
section
variable {P:Program} {ops:Array Oper} {C:World->Prop}
def rM (P:Program) (ops:Array Oper) (C:World->Prop) (o:Oper) (v:Value) (a:Act):Prop:=
 (Region.wanted o (yielded ops a.tmps)=true/\∀w,C w->AX P o a w v)∨(Region.wanted o (yielded ops a.tmps)=false/\v=undef)
def v7 (P:Program) (ops:Array Oper) (C:World->Prop) (F:Act->Prop):List Oper->Act->Prop
 |[],a=>F a
 |o::r,a=>cond (eS o) (v7 P ops C F r a) (∃v,rM P ops C o v a/\v7 P ops C F r (a.put o.dst v))
theorem Ms {Q:Act->Prop}:∀(l:List Oper) (a:Act),v7 P ops C Q l a->∃(as:Nat->Act) (vs:Nat->Value),as 0=a/\(∀i o,l[i]?=some o->(eS o=false->rM P ops C o (vs i) (as i)/\as (i+1)=(as i).put o.dst (vs i))/\(eS o=true->as (i+1)=as i))/\Q (as l.length)
 |[],a,h=>⟨fun _=>a,fun _=>undef,rfl,fun i o hi=>by simp at hi,h⟩
 |o::r,a,h=>by
  unfold v7 at h
  cases hal:eS o with
  |true=>
   simp only[hal,cond_true]at h
   obtain⟨as,vs,bD,hs,wP⟩:=Ms r _ h
   refine⟨fun i=>match i with|0=>a|i+1=>as i,fun i=>match i with|0=>undef|i+1=>vs i,rfl,fun i bU hi=>?_,wP⟩
   cases i with
   |zero=>
    simp at hi;subst hi
    exact⟨fun h1=>by(rw[hal]at h1;cases h1),fun _=>bD⟩
   |succ i=>
    simp at hi
    exact hs i bU hi
  |false=>
   simp only[hal,cond_false]at h
   obtain⟨v,hy,h2⟩:=h
   obtain⟨as,vs,bD,hs,wP⟩:=Ms r _ h2
   refine⟨fun i=>match i with|0=>a|i+1=>as i,fun i=>match i with|0=>v|i+1=>vs i,rfl,fun i bU hi=>?_,wP⟩
   cases i with
   |zero=>
    simp at hi;subst hi
    exact⟨fun _=>⟨hy,bD⟩,fun h1=>by(rw[hal]at h1;cases h1)⟩
   |succ i=>
    simp at hi
    exact hs i bU hi
theorem W6 {Q:Exit->Act->World->Prop} {md:Region.Mode}:∀(f:Nat) (listed:Array Bool) (a:Act) (w:World),wpAny P md ops Q f listed a w->wpAny P md ops Q (f+1) listed a w
 |0,_,_,_,h=>⟨fun _=>h.2,fun i hi=>by rw[h.1]at hi;cases hi⟩
 |f+1,_,_,_,h=>⟨h.1,fun i hi=>wpOp_mono (fun c7 w' h'=>W6 f _ c7 w' h') (h.2 i hi)⟩
theorem W5 {Q:Exit->Act->World->Prop} {md:Region.Mode} {listed:Array Bool} {a:Act} {w:World} {f kU:Nat} (h:wpAny P md ops Q f listed a w) (hle:f<=kU):wpAny P md ops Q kU listed a w:=by
 induction hle with
 |refl=>exact h
 |step _ ih=>exact W6 _ _ _ _ ih
theorem Rb {α:Type} {p q:α->Bool}:∀{l:List α},(∀x∈l,q x=true->p x=true)->(∃x∈l,p x=true/\q x=false)->l.countP q<l.countP p
 |[],_,⟨x,hx,_⟩=>by simp at hx
 |y::r,h1,⟨x,hx,h2,h3⟩=>by
  have hle:r.countP q<=r.countP p:=List.countP_mono_left fun z hz=>h1 z (List.mem_cons_of_mem _ hz)
  rw[List.countP_cons,List.countP_cons]
  rcases List.mem_cons.1 hx with rfl|hx
  ·simp[h2,h3];omega
  ·have ih:=Rb (l:=r) (fun z hz=>h1 z (List.mem_cons_of_mem _ hz)) ⟨x,hx,h2,h3⟩
   have:=h1 y (by simp)
   cases hq:q y<;>cases hp:p y<;>simp[hq,hp]at this⊢<;>omega
theorem rS {n i:Nat} {iK:Oper} (h:Rl ops n=true) (hi:i<n) (ho:ops[i]?=some iK):
 (∀e∈iK.after,Region.binds .any e=true->e.on<i)/\(∀cs b,iK.op≠ .select cs b)/\
 ∀j dm d,j<n->j≠i->ops[j]?=some dm->dm.dst=some d->iK.dst≠some d/\(d∈iK.looksAt ops->Region.waitsFor .any ops i j=true∨Region.waitsFor .any ops j i=true):=by
 have h1:=List.all_eq_true.1 h i (List.mem_range.2 hi)
 simp only[ho,Bool.and_eq_true]at h1
 obtain⟨⟨h1,h2⟩,h3⟩:=h1
 refine⟨fun e he hb=>?_,fun cs b hc=>by simp[hc]at h2,fun j dm d hj hne pN hd=>?_⟩
 ·have:=Array.all_eq_true_iff_forall_mem.1 h1 e he
  simp only[hb,Bool.not_true,Bool.false_or]at this
  exact oD this
 ·have h4:=List.all_eq_true.1 h3 j (List.mem_range.2 hj)
  have h5:Nat.beq i j=false:=by cases hb:Nat.beq i j with|false=>rfl|true=>exact absurd (Nat.eq_of_beq_eq_true hb).symm hne
  simp only[h5,Bool.false_or,pN,hd,Bool.and_eq_true]at h4
  refine⟨fun afR=>?_,fun ka=>?_⟩
  ·have:=h4.2
   simp[afR]at this
  ·have:=h4.1
   have hc:(iK.looksAt ops).contains d=true:=by simpa using ka
   simp only[hc,Bool.not_true,Bool.false_or,Bool.or_eq_true]at this
   exact this
theorem Y9 {a b:Act} (h1:a.defers=b.defers) (h2:∀t:Nat,a.tmps[t]?=b.tmps[t]?):a=b:=by
 cases a;cases b
 simp only at h1 h2
 rw[h1,Array.ext_getElem? h2]
theorem sy {a:Act} {o:Option Tmp} {v:Value} {t:Nat} (h:o≠some t):(a.put o v).tmps[t]?=a.tmps[t]?:=by
 cases o with
 |none=>rfl
 |some d=>simp only[Act.put];rw[Array.getElem?_setIfInBounds_ne (fun e=>h (by rw[e]))]
theorem put_defers (a:Act) (o:Option Tmp) (v:Value):(a.put o v).defers=a.defers:=by cases o<;>rfl
theorem xH (a:Act) (o:Option Tmp) (v:Value):(a.put o v).tmps.size=a.tmps.size:=by cases o<;>simp[Act.put]
theorem ac9 {o:Oper} {a:Act} {v:Value} {w:World} (hf:y5 o=true) (hC:C w) (h:rM P ops C o v a):Yields P ops o v a:=by
 rcases h with⟨h1,h2⟩|h
 ·refine .inl ⟨h1,fun w'=>?_⟩
  have h3:=h2 w hC
  unfold AX at h3
  unfold y5 at hf
  split at hf
  ·rename_i x ho
   simp only[execOp,ho,Sem.run_pure]at h3⊢
   rcases h3 with h3|⟨f,args,h3,_⟩
   ·simp only[Result.ok.injEq,Next.value.injEq,and_true]at h3;rw[h3]
   ·simp at h3
  ·rename_i x ho
   simp only[execOp,ho,Sem.run_pure]at h3⊢
   rcases h3 with h3|⟨f,args,h3,_⟩
   ·simp only[Result.ok.injEq,Next.value.injEq,and_true]at h3;rw[h3]
   ·simp at h3
  ·rename_i x i ho
   simp only[execOp,ho,Sem.run_bind]at h3⊢
   unfold Instr.extract at h3⊢
   cases hx:a.eval x<;>simp only[hx]at h3⊢<;>try(simp[Result.andThen]at h3;done)
   rename_i vs
   cases hv:vs[i]? with
   |none=>simp[hv,Result.andThen]at h3
   |some u=>simp[hv]at h3;simp[h3]
  ·cases hf
 ·exact .inr h
theorem anV {n:Nat} {listed:Array Bool} (hs:Ws ops n=true) (hc:Region.chainB .any ops n=true) (hn:n<ops.size) (inv:HeadInv .any ops n listed):
 ∀(d i:Nat),n-i=d->i<n->qw ops i=false->listed.getD i false=false->∀t,n<=t->t∉Region.ready .any ops listed:=by
 intro d
 induction d using Nat.strongRecOn with
 |_ d ih=>
  intro i hd hi hfl oQ t ht hr
  obtain⟨_,Vp,KN,hall⟩:=mem_ready.1 hr
  have ahj:t<ops.size:=(Array.getElem?_eq_some_iff.1 KN).1
  by_cases ahk:t=n
  ·subst ahk
   have h1:=List.all_eq_true.1 hs i (List.mem_range.2 hi)
   simp only[hfl,Bool.false_or]at h1
   obtain⟨j,hj,nR⟩:=List.any_eq_true.1 h1
   simp only[Bool.and_eq_true,Bool.or_eq_true]at nR
   obtain⟨⟨S1,Cp⟩,Kv⟩:=nR
   have S1:=oD S1
   obtain⟨dm,pN,e,he,hb,FC⟩:=Region.waitsFor_spec Cp
   have ayT:j<=t:=by have:=List.mem_range.1 hj;omega
   by_cases S4:j=t
   ·subst S4
    have:dm=Vp:=Option.some.inj (pN.symm.trans KN)
    subst this
    have h2:=hall e he hb
    rw[FC,oQ]at h2
    cases h2
   ·cases hl:listed.getD j false with
    |true=>
     have h2:=inv.closed j dm pN hl e he hb
     rw[FC,oQ]at h2
     cases h2
    |false=>
     have af2:qw ops j=false:=by
      rcases Kv with h3|h3
      ·exact absurd (Nat.eq_of_beq_eq_true h3) S4
      ·simpa using h3
     exact ih (t-j) (by omega) j rfl (by omega) af2 hl t (Nat.le_refl _) hr
  ·have h1:=List.all_eq_true.1 hc t (List.mem_range.2 ahj)
   simp only[Bool.or_eq_true,decide_eq_true_eq]at h1
   rcases h1 with h1|h1
   ·omega
   ·obtain⟨bU,fX,e,he,hb,FC⟩:=Region.waitsFor_spec h1
    have:bU=Vp:=Option.some.inj (fX.symm.trans KN)
    subst this
    have h2:=hall e he hb
    rw[FC,getD_both (inv.tail (t-1) (by omega) (by omega))]at h2
    cases h2
theorem ac8 {o:Oper} (h:y5 o=true):eS o=false:=by
 unfold y5 at h
 unfold eS
 cases ho:o.op<;>simp only[ho]at h⊢<;>cases h
theorem ajz {n i j:Nat} {iK dm:Oper} {d:Tmp} (h:U9 ops n=true) (hi:i<n) (ho:ops[i]?=some iK) (hal:eS iK=true) (hd:iK.dst=some d) (hj:j<n) (pN:ops[j]?=some dm):d∉dm.looksAt ops:=by
 have h1:=List.all_eq_true.1 h i (List.mem_range.2 hi)
 have ha:ox ops i=true:=by simp[ox,ho,hal]
 simp only[ha,Bool.not_true,Bool.false_or,ho,hd]at h1
 have h2:=List.all_eq_true.1 h1 j (List.mem_range.2 hj)
 simp only[pN,Bool.not_eq_true']at h2
 intro hm
 have:(dm.looksAt ops).contains d=true:=by simpa using hm
 rw[this]at h2;cases h2
theorem arj {Q:Exit->Act->World->Prop} {o:Oper} {i:Nat} {v:Value} {a:Act} {w:World} {K:Act->World->Prop} (hi:ops[i]?=some o) (hC:C w) (hy:rM P ops C o v a) (h:∀w',w.Extends w'->K (a.put o.dst v) w'):wpOp P ops Q i K a w:=by
 unfold wpOp
 simp only[hi]
 rcases hy with⟨h1,h2⟩|⟨h1,h2⟩
 ·rw[if_pos h1]
  refine .inl ?_
  unfold Oper.wp
  rcases h2 w hC with h3|⟨f,args,h3,h4⟩
  ·rw[h3];exact h w (World.Extends.refl w)
  ·rw[h3]
   refine h4.mono fun e mq ⟨he,hx⟩=>?_
   subst he
   exact h mq hx
 ·rw[if_neg (by simp[h1]),<-h2]
  exact h w (World.Extends.refl w)
theorem rM.of_same {o:Oper} {v:Value} {a c7:Act} (hy:rM P ops C o v a) (he:execOp c7.eval o=execOp a.eval o) (hw:Region.wanted o (yielded ops c7.tmps)=Region.wanted o (yielded ops a.tmps)):rM P ops C o v c7:=by
 unfold rM AX at*
 rw[he,hw]
 exact hy
structure PS (ops:Array Oper) (n:Nat) (S:Nat->Prop) (a an b:Act) (eD:Nat->Nat):Prop where
 d:b.defers=a.defers
 aL:b.tmps.size=a.tmps.size
 q:∀t:Nat,(∃j o,j<n/\S j/\ops[j]?=some o/\eS o=false/\o.dst=some t)->b.tmps[t]?=an.tmps[t]?
 al:∀(t:Nat) j o,j<n->S j->ops[j]?=some o->eS o=true->o.dst=some t->t<b.tmps.size->b.tmps[t]?=some (.pointer (some ⟨eD j,0,none⟩))
 no:∀t:Nat,(∀j o,j<n->S j->ops[j]?=some o->o.dst≠some t)->b.tmps[t]?=a.tmps[t]?
structure Fin (ops:Array Oper) (n:Nat) (an b:Act) (eD:Nat->Nat):Prop where
 d:b.defers=an.defers
 aL:b.tmps.size=an.tmps.size
 al:∀(t:Nat) j o,j<n->ops[j]?=some o->eS o=true->o.dst=some t->t<b.tmps.size->b.tmps[t]?=some (.pointer (some ⟨eD j,0,none⟩))
 no:∀t:Nat,(∀j o,j<n->ops[j]?=some o->eS o=true->o.dst≠some t)->b.tmps[t]?=an.tmps[t]?
def uE (ops:Array Oper) (n:Nat) (S:Nat->Prop) (Z:Nat->Obj) (eD:Nat->Nat) (aL:Nat) (w:World):Prop:=
 (∀j,j<n->S j->ox ops j=true->aL<=eD j/\w.heap[eD j]?=some (Z j))/\∀i j,i<n->j<n->S i->S j->ox ops i=true->ox ops j=true->eD i=eD j->i=j
theorem uE.grow {n:Nat} {S:Nat->Prop} {Z:Nat->Obj} {eD:Nat->Nat} {aL:Nat} {w w':World} (h:uE ops n S Z eD aL w) (he:w.Extends w'):uE ops n S Z eD aL w':=
 ⟨fun j h1 h2 h3=>by
  obtain⟨h4,h5⟩:=h.1 j h1 h2 h3
  exact⟨h4,by rw[he.block _ (Array.getElem?_eq_some_iff.1 h5).1];exact h5⟩,h.2⟩
theorem ark {Q:Exit->Act->World->Prop} {a:Act} {w:World} {l:List Oper} (n:Nat) (Z:Nat->Obj) (hm:P.follows .mixedOrders=true) (hB:As l.toArray n=true) (hC:∀w',w.drew.Extends w'->C w')
 (wR:∀j o,j<n->l.toArray[j]?=some o->eS o=true->∀(b:Act) w',(execOp b.eval o).run P w'= .ok (.value (.pointer (some ⟨w'.heap.size,0,none⟩))) (w'.alloc (Z j)))
 (h:v7 P l.toArray C (fun an=>∀eD b w',Fin l.toArray n an b eD->w.drew.Extends w'->uE l.toArray n (fun _=>True) Z eD w.drew.heap.size w'->wpList P l.toArray (calm Q) (l.drop n) b w') (l.take n) a):wpAny P .any l.toArray (calm Q) l.toArray.size (Array.replicate l.toArray.size false) a {w with drawn:=w.drawn+1}:=by
 simp only[As,Bool.and_eq_true]at hB
 obtain⟨⟨⟨⟨⟨⟨agI,af4⟩,lL⟩,r9⟩,hle⟩,Tp⟩,ag9⟩:=hB
 have hle:n<=l.length:=by simpa using Nat.le_of_ble_eq_true hle
 obtain⟨as,vs,bD,hs,bm⟩:=Ms _ _ h
 have hlen:(l.take n).length=n:=by simp;omega
 rw[hlen]at bm
 have hop:∀i,i<n->∃o,l.toArray[i]?=some o/\(eS o=false->rM P l.toArray C o (vs i) (as i)/\as (i+1)=(as i).put o.dst (vs i))/\(eS o=true->as (i+1)=as i):=fun i hi=>by
  have hlt:i<l.length:=by omega
  have h1:(l.take n)[i]?=some l[i]:=by rw[List.getElem?_take,if_pos hi,List.getElem?_eq_getElem hlt]
  have h2:=hs i _ h1
  exact⟨l[i],by simp[hlt],h2⟩
 have Ca:∀i,i<=n->(as i).defers=a.defers/\(as i).tmps.size=a.tmps.size:=by
  intro i
  induction i with
  |zero=>intro _;rw[bD];exact⟨rfl,rfl⟩
  |succ i ih=>
   intro hi
   obtain⟨o,ho,h1,h2⟩:=hop i (by omega)
   cases hal:eS o with
   |true=>rw[h2 hal];exact ih (by omega)
   |false=>rw[(h1 hal).2,put_defers,xH];exact ih (by omega)
 have Su:∀i,i<=n->∀t:Nat,(∀j o,j<i->l.toArray[j]?=some o->eS o=false->o.dst≠some t)->(as i).tmps[t]?=a.tmps[t]?:=by
  intro i
  induction i with
  |zero=>intro _ t _;rw[bD]
  |succ i ih=>
   intro hi t hno
   obtain⟨o,ho,h1,h2⟩:=hop i (by omega)
   have TG:=ih (by omega) t fun j o hj=>hno j o (by omega)
   cases hal:eS o with
   |true=>rw[h2 hal];exact TG
   |false=>rw[(h1 hal).2,sy (hno i o (by omega) ho hal)];exact TG
 have St:∀(d i:Nat),i+d=n->∀t:Nat,(∃j o,j<i/\l.toArray[j]?=some o/\o.dst=some t)->(as n).tmps[t]?=(as i).tmps[t]?:=by
  intro d
  induction d with
  |zero=>intro i hi t _;rw[show i=n by omega]
  |succ d ih=>
   intro i hi t hj
   obtain⟨o,ho,h1,h2⟩:=hop i (by omega)
   rw[ih (i+1) (by omega) t (by obtain⟨j,o,h1,h2⟩:=hj;exact⟨j,o,by omega,h2⟩)]
   cases hal:eS o with
   |true=>rw[h2 hal]
   |false=>
    rw[(h1 hal).2]
    obtain⟨j,dm,Cp,nR,Kv⟩:=hj
    exact sy ((rS r9 (show i<n by omega) ho).2.2 j dm t (by omega) (by omega) nR Kv).1
 have hsz:l.toArray.size=l.length:=by simp
 have main:∀(f:Nat) (listed:Array Bool) (b:Act) (w1:World) (eD:Nat->Nat),HeadInv .any l.toArray n listed->w.drew.Extends w1->
  PS l.toArray n (fun j=>listed.getD j false=true) a (as n) b eD->uE l.toArray n (fun j=>listed.getD j false=true) Z eD w.drew.heap.size w1->
  (List.range n).countP (fun i=> !listed.getD i false)+(l.length-n)<=f->wpAny P .any l.toArray (calm Q) f listed b w1:=by
  intro f
  have done:∀(listed:Array Bool) (b:Act) (w1:World) (eD:Nat->Nat),HeadInv .any l.toArray n listed->w.drew.Extends w1->
   PS l.toArray n (fun j=>listed.getD j false=true) a (as n) b eD->uE l.toArray n (fun j=>listed.getD j false=true) Z eD w.drew.heap.size w1->(∀i,i<n->listed.getD i false=true)->
   wpAny P .any l.toArray (calm Q) (l.drop n).length listed b w1:=by
   intro listed b w1 eD inv pJ jC qz hall
   have hl:listed=Kc l.toArray.size n:=by
    apply Array.ext_getElem?
    intro i
    unfold Kc
    simp only[List.getElem?_toArray,List.getElem?_map]
    rcases Nat.lt_or_ge i l.length with hi|hi
    ·rw[List.getElem?_range (by simpa using hi)]
     have cE:i<listed.size:=by rw[inv.size];simpa using hi
     rcases Nat.lt_or_ge i n with hin|hin
     ·have:=hall i hin
      simp[cE]at this
      simp[cE,this,ai7 hin]
     ·have:=inv.tail i hin (by simpa using hi)
      simp[cE]at this
      have hb:Nat.blt i n=false:=by cases hq:Nat.blt i n with|false=>rfl|true=>have:=oD hq;omega
      simp[cE,this,hb]
    ·have h1:listed.size<=i:=by rw[inv.size];simpa using hi
     have h2:(List.range l.toArray.size)[i]?=none:=by simp;omega
     rw[h2,Array.getElem?_eq_none h1];rfl
   have FH:Region.seqB .any l.toArray (l.drop n).length n listed=true:=by rw[hl];simpa using ag9
   refine wpAny_of_seq (P:=P) (md:= .any) (Q':=calm Q) (l.drop n) n listed b w1 (fun j=>by simp[List.getElem?_drop]) FH (bm eD b w1 ?_ pJ ?_)
   ·refine⟨jC.d.trans (Ca n (Nat.le_refl _)).1.symm,jC.aL.trans (Ca n (Nat.le_refl _)).2.symm,fun t j o h1 h3 h4 h5=>jC.al t j o h1 (hall j h1) h3 h4 h5,fun t hno=>?_⟩
    by_cases hq:∃j o,j<n/\l.toArray[j]?=some o/\eS o=false/\o.dst=some t
    ·obtain⟨j,o,h1,h2,h3,h4⟩:=hq
     exact jC.q t ⟨j,o,h1,hall j h1,h2,h3,h4⟩
    ·have hq':∀j o,j<n->l.toArray[j]?=some o->eS o=false->o.dst≠some t:=fun j o h1 h2 h3 h4=>hq ⟨j,o,h1,h2,h3,h4⟩
     rw[jC.no t fun j o h1 _ h3=>(by
      cases hal:eS o with
      |true=>exact hno j o h1 h3 hal
      |false=>exact hq' j o h1 h3 hal),Su n (Nat.le_refl _) t hq']
   ·exact⟨fun j h1 _ h3=>qz.1 j h1 (hall j h1) h3,fun i j h1 h2 _ _ h5 h6=>qz.2 i j h1 h2 (hall i h1) (hall j h2) h5 h6⟩
  have P5:∀(listed:Array Bool),(List.range n).countP (fun i=> !listed.getD i false)=0->∀i,i<n->listed.getD i false=true:=fun listed hc i hi=>by
   cases hq:listed.getD i false with
   |true=>rfl
   |false=>
    have:0<(List.range n).countP (fun i=> !listed.getD i false):=List.countP_pos_iff.2 ⟨i,List.mem_range.2 hi,by simp[hq]⟩
    omega
  induction f with
  |zero=>
   intro listed b w1 eD inv pJ jC qz hf
   have:=done listed b w1 eD inv pJ jC qz (P5 listed (by omega))
   exact W5 this (by simp;omega)
  |succ f ih=>
   intro listed b w1 eD inv pJ jC qz hf
   by_cases afK:(List.range n).countP (fun i=> !listed.getD i false)=0
   ·exact W5 (done listed b w1 eD inv pJ jC qz (P5 listed afK)) (by simp;omega)
   ·
    have hpos:∃i,i<n/\listed.getD i false=false:=by
     have h1:0<(List.range n).countP (fun i=> !listed.getD i false):=by omega
     obtain⟨i,hi,hq⟩:=List.countP_pos_iff.1 h1
     exact⟨i,List.mem_range.1 hi,by simpa using hq⟩
    have hne:Region.ready .any l.toArray listed≠[]:=by
     have key:∀k,∀i,i<=k->i<n->listed.getD i false=false->Region.ready .any l.toArray listed≠[]:=by
      intro k
      induction k with
      |zero=>
       intro i Kq hin hq lM
       obtain⟨o,ho,_,_⟩:=hop i hin
       have hlt:i<listed.size:=by rw[inv.size];exact(Array.getElem?_eq_some_iff.1 ho).1
       have:i∈Region.ready .any l.toArray listed:=mem_ready.2 ⟨getD_in hlt hq,o,ho,fun e he hb=>by have:=(rS r9 hin ho).1 e he hb;omega⟩
       rw[lM]at this;cases this
      |succ k Lm=>
       intro i Kq hin hq lM
       obtain⟨o,ho,_,_⟩:=hop i hin
       have hlt:i<listed.size:=by rw[inv.size];exact(Array.getElem?_eq_some_iff.1 ho).1
       have:i∈Region.ready .any l.toArray listed:=mem_ready.2 ⟨getD_in hlt hq,o,ho,fun e he hb=>by
        have h1:=(rS r9 hin ho).1 e he hb
        cases nT:listed.getD e.on false with
        |true=>rfl
        |false=>exact absurd lM (Lm e.on (by omega) (by omega) nT)⟩
       rw[lM]at this;cases this
     obtain⟨i,hi,hq⟩:=hpos
     exact key i i (Nat.le_refl _) hi hq
    have cN:∀i,i∈Region.ready .any l.toArray listed->∀j,(listed.setIfInBounds i true).getD j false=true↔(j=i∨listed.getD j false=true):=fun i hi j=>by
     obtain⟨oQ,iK,xf,hall⟩:=mem_ready.1 hi
     have hlt:i<listed.size:=by rw[inv.size];exact(Array.getElem?_eq_some_iff.1 xf).1
     by_cases hj:i=j
     ·subst hj;simp[hlt]
     ·rw[getD_set_ne false hj]
      exact⟨.inr,fun h=>h.resolve_left (fun e=>hj e.symm)⟩
    have S7:∀i,i∈Region.ready .any l.toArray listed->i<n->(List.range n).countP (fun j=> !(listed.setIfInBounds i true).getD j false)+(l.length-n)<=f:=fun i hi hin=>by
     obtain⟨oQ,_⟩:=mem_ready.1 hi
     have:(List.range n).countP (fun j=> !(listed.setIfInBounds i true).getD j false)<(List.range n).countP (fun j=> !listed.getD j false):=by
      refine Rb (fun j _ hj=>?_) ⟨i,List.mem_range.2 hin,?_,?_⟩
      ·cases hq:listed.getD j false with
       |false=>rfl
       |true=>rw[(cN i hi j).2 (.inr hq)]at hj;cases hj
      ·simp only[getD_both oQ];rfl
      ·simp only[(cN i hi i).2 (.inl rfl)];rfl
     omega
    have step:∀i,i∈Region.ready .any l.toArray listed->i<n->∀o,l.toArray[i]?=some o->eS o=false->rM P l.toArray C o (vs i) b/\∀w',w1.Extends w'->wpAny P .any l.toArray (calm Q) f (listed.setIfInBounds i true) (b.put o.dst (vs i)) w':=by
     intro i hi hin o ho hal
     obtain⟨oQ,iK,xf,hall⟩:=mem_ready.1 hi
     have:o=iK:=Option.some.inj (ho.symm.trans xf)
     subst this
     obtain⟨bU,fX,Ld,_⟩:=hop i hin
     have:bU=o:=Option.some.inj (fX.symm.trans ho)
     subst this
     obtain⟨hy,he⟩:=Ld hal
     have va:=rS r9 hin ho
     have Tr:∀t:Nat,t∈bU.looksAt l.toArray->b.tmps[t]?=(as i).tmps[t]?:=fun t ht=>by
      by_cases hw:∃j dm,j<i/\l.toArray[j]?=some dm/\eS dm=false/\dm.dst=some t
      ·obtain⟨j,dm,h1,h2,BQ,h3⟩:=hw
       rw[<-St (n-i) i (by omega) t ⟨j,dm,h1,h2,h3⟩]
       refine jC.q t ⟨j,dm,by omega,?_,h2,BQ,h3⟩
       rcases(va.2.2 j dm t (by omega) (by omega) h2 h3).2 ht with h4|h4
       ·obtain⟨L8,KL,e,qI,qJ,tt⟩:=Region.waitsFor_spec h4
        have:L8=bU:=Option.some.inj (KL.symm.trans ho)
        subst this
        have:=hall e qI qJ
        rwa [tt]at this
       ·obtain⟨zX,Cy,e,qI,qJ,tt⟩:=Region.waitsFor_spec h4
        have:zX=dm:=Option.some.inj (Cy.symm.trans h2)
        subst this
        have:=(rS r9 (show j<n by omega) h2).1 e qI qJ
        omega
      ·rw[Su i (by omega) t fun j dm h1 h2 BQ h3=>hw ⟨j,dm,h1,h2,BQ,h3⟩]
       refine jC.no t fun j dm h1 hl h2 h3=>?_
       cases Sx:eS dm with
       |true=>exact ajz lL h1 h2 Sx h3 hin ho ht
       |false=>
        by_cases jD:j=i
        ·subst jD
         rw[getD_both oQ]at hl;cases hl
        ·rcases(va.2.2 j dm t h1 jD h2 h3).2 ht with h4|h4
         ·obtain⟨L8,KL,e,qI,qJ,tt⟩:=Region.waitsFor_spec h4
          have:L8=bU:=Option.some.inj (KL.symm.trans ho)
          subst this
          have:=va.1 e qI qJ
          exact hw ⟨j,dm,by omega,h2,Sx,h3⟩
         ·obtain⟨zX,Cy,e,qI,qJ,tt⟩:=Region.waitsFor_spec h4
          have:zX=dm:=Option.some.inj (Cy.symm.trans h2)
          subst this
          have:=inv.closed j zX h2 hl e qI qJ
          rw[tt,getD_both oQ]at this;cases this
     have afY:∀x∈bU.op.operands,b.eval x=(as i).eval x:=fun x hx=>by
      cases x with
      |tmp t=>
       have:=Tr t (List.mem_append_left _ (List.mem_filterMap.2 ⟨.tmp t,by simpa using hx,rfl⟩))
       simp only[Act.eval]
       simp[this]
      |_=>rfl
     have hex:execOp b.eval bU=execOp (as i).eval bU:=execOp_congr bU va.2.1 afY
     have xo:Region.wanted bU (yielded l.toArray b.tmps)=Region.wanted bU (yielded l.toArray (as i).tmps):=by
      unfold Region.wanted
      cases hg:bU.guard with
      |none=>rfl
      |some JE=>
       obtain⟨g,want⟩:=JE
       have:yielded l.toArray b.tmps g=yielded l.toArray (as i).tmps g:=by
        unfold yielded
        cases ht:(l.toArray[g]?).bind (·.dst)with
        |none=>rfl
        |some t=>
         have:=Tr t (List.mem_append_right _ (by simp only[hg,ht];simp))
         simp[this]
       simp only[this]
     refine⟨hy.of_same hex xo,fun w' sg=>?_⟩
     refine ih _ _ _ eD (inv.set hi hin) (pJ.trans sg) ⟨(put_defers _ _ _).trans jC.d,(xH _ _ _).trans jC.aL,?_,?_,?_⟩ (uE.grow (w:=w1) ⟨fun j h1 h2 h3=>?_,fun i1 dL h1 h2 h3 h4 h5 h6=>?_⟩ sg) (S7 i hi hin)
     ·rintro t ⟨j,dm,h1,h2,h3,uZ,h4⟩
      by_cases ht:bU.dst=some t
      ·have e1:(as n).tmps[t]?=(as (i+1)).tmps[t]?:=St (n-(i+1)) (i+1) (by omega) t ⟨i,bU,by omega,ho,ht⟩
       rw[e1,he,ht]
       simp only[Act.put]
       have Tn:b.tmps.size=(as i).tmps.size:=jC.aL.trans (Ca i (by omega)).2.symm
       rcases Nat.lt_or_ge t b.tmps.size with h5|h5
       ·simp[h5,Tn▸h5]
       ·rw[Array.getElem?_eq_none (by simpa using h5),Array.getElem?_eq_none (by rw[Array.size_setIfInBounds,<-Tn];exact h5)]
      ·rw[sy ht]
       rcases(cN i hi j).1 h2 with rfl|h5
       ·have:dm=bU:=Option.some.inj (h3.symm.trans ho)
        subst this
        exact absurd h4 ht
       ·exact jC.q t ⟨j,dm,h1,h5,h3,uZ,h4⟩
     ·intro t j dm h1 h2 h3 h4 h5 h6
      rcases(cN i hi j).1 h2 with rfl|h7
      ·have:dm=bU:=Option.some.inj (h3.symm.trans ho)
       subst this
       rw[hal]at h4;cases h4
      ·have jD:j≠i:=fun e=>by subst e;rw[getD_both oQ]at h7;cases h7
       have ht:bU.dst≠some t:=(va.2.2 j dm t h1 jD h3 h5).1
       rw[sy ht]
       rw[xH]at h6
       exact jC.al t j dm h1 h7 h3 h4 h5 h6
     ·intro t hno
      have ht:bU.dst≠some t:=hno i bU hin ((cN i hi i).2 (.inl rfl)) ho
      rw[sy ht]
      exact jC.no t fun j dm h1 h2 h3=>hno j dm h1 ((cN i hi j).2 (.inr h2)) h3
     ·rcases(cN i hi j).1 h2 with rfl|h7
      ·simp[ox,ho,hal]at h3
      ·exact qz.1 j h1 h7 h3
     ·have k1:listed.getD i1 false=true:=by
       rcases(cN i hi i1).1 h3 with rfl|h7
       ·simp[ox,ho,hal]at h5
       ·exact h7
      have k2:listed.getD dL false=true:=by
       rcases(cN i hi dL).1 h4 with rfl|h7
       ·simp[ox,ho,hal]at h6
       ·exact h7
      exact qz.2 i1 dL h1 h2 k1 k2 h5 h6
    by_cases hfl:∃i,i∈Region.ready .any l.toArray listed/\i<n/\qw l.toArray i=true
    ·obtain⟨i,hi,hin,nc⟩:=hfl
     obtain⟨o,ho,_,_⟩:=hop i hin
     obtain⟨oQ,iK,xf,hall⟩:=mem_ready.1 hi
     have SY:y5 o=true:=by unfold qw at nc;simpa [ho]using nc
     have hal:eS o=false:=ac8 SY
     obtain⟨vl,KH⟩:=step i hi hin o ho hal
     refine wpAny_first ho (Region.noSelect_spec agI) (fun c c7 w' hq=>hq.elim) f listed b w1 (fun j dm pN jD agj agh=>?_) hi (ac9 SY (hC w1 pJ) vl) (KH w1 (World.Extends.refl w1))
     have vg:Region.waitsFor .any l.toArray j i=false:=by
      cases hq:Region.waitsFor .any l.toArray j i with
      |false=>rfl
      |true=>
       obtain⟨zX,Cy,e,qI,qJ,tt⟩:=Region.waitsFor_spec hq
       have:zX=dm:=Option.some.inj (Cy.symm.trans pN)
       subst this
       exact absurd tt (agh e qI qJ)
     have Tb:j<n->Region.waitsFor .any l.toArray i j=false:=fun hjn=>by
      cases hq:Region.waitsFor .any l.toArray i j with
      |false=>rfl
      |true=>
       obtain⟨bU,fX,e,qI,qJ,tt⟩:=Region.waitsFor_spec hq
       have:bU=iK:=Option.some.inj (fX.symm.trans xf)
       subst this
       have:=hall e qI qJ
       rw[tt,getD_both agj]at this;cases this
     by_cases hjn:j<n
     ·have d1:=(rS r9 hin ho).2.2 j dm
      have d2:=(rS r9 hjn pN).2.2 i o
      simp only[Oper.apart,Bool.and_eq_true]
      constructor
      ·cases hd:o.dst with
       |none=>rfl
       |some d=>
        have:=d2 d hin (fun e=>jD e.symm) ho hd
        simp only[Bool.and_eq_true,Bool.not_eq_true',bne_iff_ne,ne_eq]
        refine⟨?_,this.1⟩
        cases hc:(dm.looksAt l.toArray).contains d with
        |false=>rfl
        |true=>
         rcases this.2 (by simpa using hc)with h1|h1
         ·rw[vg]at h1;cases h1
         ·rw[Tb hjn]at h1;cases h1
      ·cases hd:dm.dst with
       |none=>rfl
       |some d=>
        have:=d1 d hjn jD pN hd
        simp only[Bool.not_eq_true']
        cases hc:(o.looksAt l.toArray).contains d with
        |false=>rfl
        |true=>
         rcases this.2 (by simpa using hc)with h1|h1
         ·rw[Tb hjn]at h1;cases h1
         ·rw[vg]at h1;cases h1
     ·have h1:=List.all_eq_true.1 af4 i (List.mem_range.2 hin)
      simp only[nc,Bool.not_true,Bool.false_or]at h1
      have h2:=List.all_eq_true.1 h1 j (List.mem_range.2 (Array.getElem?_eq_some_iff.1 pN).1)
      have hb:Nat.blt j n=false:=by cases hq:Nat.blt j n with|false=>rfl|true=>exact absurd (oD hq) hjn
      simp only[hb,vg,Bool.false_or,ho,pN]at h2
      exact h2
    ·
     have KI:∃i,i<n/\qw l.toArray i=false/\listed.getD i false=false:=by
      have key:∀k,∀i,i<=k->i<n->listed.getD i false=false->∃i,i<n/\qw l.toArray i=false/\listed.getD i false=false:=by
       intro k
       induction k with
       |zero=>
        intro i Kq hin hq
        cases gI:qw l.toArray i with
        |false=>exact⟨i,hin,gI,hq⟩
        |true=>
         obtain⟨o,ho,_,_⟩:=hop i hin
         have hlt:i<listed.size:=by rw[inv.size];exact(Array.getElem?_eq_some_iff.1 ho).1
         exact absurd ⟨i,mem_ready.2 ⟨getD_in hlt hq,o,ho,fun e he hb=>by have:=(rS r9 hin ho).1 e he hb;omega⟩,hin,gI⟩ hfl
       |succ k Lm=>
        intro i Kq hin hq
        cases gI:qw l.toArray i with
        |false=>exact⟨i,hin,gI,hq⟩
        |true=>
         obtain⟨o,ho,_,_⟩:=hop i hin
         have hlt:i<listed.size:=by rw[inv.size];exact(Array.getElem?_eq_some_iff.1 ho).1
         by_cases SO:∀e∈o.after,Region.binds .any e=true->listed.getD e.on false=true
         ·exact absurd ⟨i,mem_ready.2 ⟨getD_in hlt hq,o,ho,SO⟩,hin,gI⟩ hfl
         ·have hex:∃e,e∈o.after/\Region.binds .any e=true/\¬listed.getD e.on false=true:=by
           apply Classical.byContradiction
           intro hno
           exact SO fun e he hb=>Classical.byContradiction fun nT=>hno ⟨e,he,hb,nT⟩
          obtain⟨e,he,hb,nT⟩:=hex
          have h1:=(rS r9 hin ho).1 e he hb
          exact Lm e.on (by omega) (by omega) (by simpa using nT)
      obtain⟨i,hi,hq⟩:=hpos
      exact key i i (Nat.le_refl _) hi hq
     refine⟨fun h0=>absurd h0 hne,fun i hi=>?_⟩
     have hin:i<n:=by
      rcases Nat.lt_or_ge i n with h1|h1
      ·exact h1
      ·exfalso
       obtain⟨_,iK,xf,_⟩:=mem_ready.1 hi
       have ayS:i<l.toArray.size:=(Array.getElem?_eq_some_iff.1 xf).1
       simp only[Bool.or_eq_true,Bool.and_eq_true]at Tp
       rcases Tp with h2|⟨h2,h3⟩
       ·have:=Nat.eq_of_beq_eq_true h2;omega
       ·obtain⟨i0,qN,zt,hq0⟩:=KI
        exact anV h2 h3 (by omega) inv (n-i0) i0 rfl qN zt hq0 i h1 hi
     obtain⟨o,ho,_,_⟩:=hop i hin
     cases hal:eS o with
     |false=>
      obtain⟨vl,KH⟩:=step i hi hin o ho hal
      exact arj ho (hC w1 pJ) vl KH
     |true=>
      obtain⟨oQ,_⟩:=mem_ready.1 hi
      have hgd:o.guard=none/\∃d,o.dst=some d:=by
       unfold eS at hal
       split at hal
       ·rename_i h1 h2 h3;exact⟨h2,_,h3⟩
       ·cases hal
      obtain⟨hgd,d,hd⟩:=hgd
      have va:=rS r9 hin ho
      unfold wpOp
      simp only[ho]
      rw[if_pos (by simp[Region.wanted,hgd])]
      refine .inl ?_
      unfold Oper.wp
      rw[wR i o hin ho hal b w1]
      show wpAny P .any l.toArray (calm Q) f (listed.setIfInBounds i true) (b.put o.dst _) _
      have Lk:∀j,j<n->listed.getD j false=true->ox l.toArray j=true->eD j<w1.heap.size:=fun j h1 h2 h3=>(Array.getElem?_eq_some_iff.1 (qz.1 j h1 h2 h3).2).1
      refine ih _ _ _ (fun j=>if j=i then w1.heap.size else eD j) (inv.set hi hin) (pJ.alloc _) ⟨(put_defers _ _ _).trans jC.d,(xH _ _ _).trans jC.aL,?_,?_,?_⟩ ⟨fun j h1 h2 h3=>?_,fun i1 dL h1 h2 h3 h4 h5 h6 h7=>?_⟩ (S7 i hi hin)
      ·rintro t ⟨j,dm,h1,h2,h3,uZ,h4⟩
       rcases(cN i hi j).1 h2 with rfl|h5
       ·have:dm=o:=Option.some.inj (h3.symm.trans ho)
        subst this
        rw[hal]at uZ;cases uZ
       ·have jD:j≠i:=fun e=>by subst e;rw[getD_both oQ]at h5;cases h5
        rw[sy (va.2.2 j dm t h1 jD h3 h4).1]
        exact jC.q t ⟨j,dm,h1,h5,h3,uZ,h4⟩
      ·intro t j dm h1 h2 h3 h4 h5 h6
       rcases(cN i hi j).1 h2 with rfl|h7
       ·have:dm=o:=Option.some.inj (h3.symm.trans ho)
        subst this
        rw[h5]
        simp only[if_true]
        rw[xH]at h6
        simp[Act.put,h6]
       ·have jD:j≠i:=fun e=>by subst e;rw[getD_both oQ]at h7;cases h7
        rw[sy (va.2.2 j dm t h1 jD h3 h5).1]
        rw[xH]at h6
        rw[if_neg jD]
        exact jC.al t j dm h1 h7 h3 h4 h5 h6
      ·intro t hno
       rw[sy (hno i o hin ((cN i hi i).2 (.inl rfl)) ho)]
       exact jC.no t fun j dm h1 h2 h3=>hno j dm h1 ((cN i hi j).2 (.inr h2)) h3
      ·show w.drew.heap.size<=(if j=i then w1.heap.size else eD j)/\(w1.alloc (Z i)).heap[(if j=i then w1.heap.size else eD j)]?=some (Z j)
       by_cases jD:j=i
       ·subst jD
        rw[if_pos rfl]
        exact⟨pJ.size,heap_alloc_new w1 (Z j)⟩
       ·rw[if_neg jD]
        have h7:=((cN i hi j).1 h2).resolve_left jD
        obtain⟨cv,bX⟩:=qz.1 j h1 h7 h3
        exact⟨cv,by rw[heap_alloc_old w1 _ (Lk j h1 h7 h3)];exact bX⟩
      ·change (if i1=i then w1.heap.size else eD i1)=(if dL=i then w1.heap.size else eD dL)at h7
       by_cases cv:i1=i<;>by_cases bX:dL=i
       ·rw[cv,bX]
       ·rw[if_pos cv,if_neg bX]at h7
        have:=Lk dL h2 (((cN i hi dL).1 h4).resolve_left bX) h6
        omega
       ·rw[if_neg cv,if_pos bX]at h7
        have:=Lk i1 h1 (((cN i hi i1).1 h3).resolve_left cv) h5
        omega
       ·rw[if_neg cv,if_neg bX]at h7
        exact qz.2 i1 dL h1 h2 (((cN i hi i1).1 h3).resolve_left cv) (((cN i hi dL).1 h4).resolve_left bX) h5 h6 h7
 have ahP:HeadInv .any l.toArray n (Array.replicate l.toArray.size false):=
  ⟨by simp,fun j dm _ hl=>(by rw[getD_replicate_false]at hl;cases hl),fun t _ ht=>getD_in (by simpa using ht) (getD_replicate_false _ _)⟩
 have Gf:∀j,¬(Array.replicate l.toArray.size false).getD j false=true:=fun j h=>by rw[getD_replicate_false]at h;cases h
 refine main l.toArray.size _ a _ (fun _=>0) ahP (World.Extends.refl w.drew) ⟨rfl,rfl,fun t ⟨j,o,_,h2,_⟩=>absurd h2 (Gf j),fun t j o _ h2=>absurd h2 (Gf j),fun _ _=>rfl⟩ ⟨fun j _ h2=>absurd h2 (Gf j),fun i j _ _ h3=>absurd h3 (Gf i)⟩ ?_
 have:(List.range n).countP (fun i=> !(Array.replicate l.toArray.size false).getD i false)<=n:=by
  have:=List.countP_le_length (p:=fun i=> !(Array.replicate l.toArray.size false).getD i false) (l:=List.range n)
  simpa using this
 omega
end
end Go.bj
