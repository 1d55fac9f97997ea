/- Pae: a part of the proof of statements of this seat. -/
import Derived.Test.YtponpidccjmlnaaGreatDoorPad
import Derived.Test.YtponpidccjmlnaaGreatDoorProg
import Derived.KernelRfl
set_option maxRecDepth 100000
set_option linter.unusedVariables false
set_option linter.unusedSimpArgs false
namespace Go.ck
open Go Go.bj
def Ph (S:Nat->List (List Int)->List (List Int)->Prop) (K:List (List Int)->List (List Int)->Prop):Prop:=
 c9 fun z0=>(ab 71 [z0]->cK fun ag=>bW fun z2=>bp 20 [z0] fun z3=>en (-9223372036854775808) 9223372036854775807 fun z4=>S 440 [[z3],[32]] [[z4]]->
 ab 49 [z4,z4]/\aI 26 [z4,0] fun z5=>bW fun ao=>ab 80 [z5,0,z4]/\ab 22 [z0,0,z3]/\bp 62 [z3,z4] fun z7=>aI 22 [z0,0,z7] fun au=>aI 63
 [z5,0,au] fun z9=>ab 30 [z3,z4]/\ab 21 [z9,z3]/\(ab 67 [z9,z3,1]->aI 42 [z9,z3,0,128] fun ay=>aG 0 3 (8*z3) 18446744073709551616 fun aS=>∃
 (wc:List (List Int)->Prop) (DQ:List (List Int)->Nat),wc [[((8*z3)+((-18446744073709551616)*aS))],[(z4+(-1))],[ay]]/\(bB fun ae=>bW fun
 ah=>c9 fun aD=>wc [[ae],[ah],[aD]]->(aC (decide (0<ae)) (aG 0 72057594037927935 ae 256 fun aP=>ab 30 [ah,z4]/\ab 21 [aD,ah]/\(ab
 67 [aD,ah,1]->aI 42 [aD,ah,0,(ae+((-256)*aP))] fun bd=>aG 0 72057594037927935 ae 256 fun aM=>ab 39 [(ah+(-1)),(-1),9223372036854775807]
 /\(wc [[aM],[(ah+(-1))],[bd]]/\DQ [[aM],[(ah+(-1))],[bd]]<DQ [[ae],[ah],[aD]]))) (ab 22 [aD,0,z4]/\aI 22 [aD,0,z4] fun aP=>K
 [[z0]] [[aP]])))))
def Pj (S:Nat->List (List Int)->List (List Int)->Prop) (K:List (List Int)->List (List Int)->Prop):Prop:=
 c9 fun z0=>(ab 71 [z0]->cK fun ag=>bW fun z2=>bp 20 [z0] fun z3=>en (-9223372036854775808) 9223372036854775807 fun z4=>S 440 [[z3],[64]] [[z4]]->
 ab 49 [z4,z4]/\aI 26 [z4,0] fun z5=>bW fun ao=>ab 80 [z5,0,z4]/\ab 22 [z0,0,z3]/\bp 62 [z3,z4] fun z7=>aI 22 [z0,0,z7] fun au=>aI 63
 [z5,0,au] fun z9=>ab 30 [z3,z4]/\ab 21 [z9,z3]/\(ab 67 [z9,z3,1]->aI 42 [z9,z3,0,128] fun ay=>aG 0 3 (8*z3) 18446744073709551616 fun aS=>∃
 (wc:List (List Int)->Prop) (DQ:List (List Int)->Nat),wc [[((8*z3)+((-18446744073709551616)*aS))],[(z4+(-1))],[ay]]/\(bB fun ae=>bW fun
 ah=>c9 fun aD=>wc [[ae],[ah],[aD]]->(aC (decide (0<ae)) (aG 0 72057594037927935 ae 256 fun aP=>ab 30 [ah,z4]/\ab 21 [aD,ah]/\(ab
 67 [aD,ah,1]->aI 42 [aD,ah,0,(ae+((-256)*aP))] fun bd=>aG 0 72057594037927935 ae 256 fun aM=>ab 39 [(ah+(-1)),(-1),9223372036854775807]
 /\(wc [[aM],[(ah+(-1))],[bd]]/\DQ [[aM],[(ah+(-1))],[bd]]<DQ [[ae],[ah],[aD]]))) (ab 22 [aD,0,z4]/\aI 22 [aD,0,z4] fun aP=>K
 [[z0]] [[aP]])))))
/-- A list of numbers as rows of one. -/
def rws (l:List Int):List (List Int):=l.map fun x=>[x]
theorem Be {z:Int} {l:List Int} (h:aa z=rws l):cl z=l:=by
 unfold cl rws at*
 rw[h,List.map_map]
 exact(List.map_congr_left fun x _=>rfl).trans (List.map_id l)
theorem lT (l:List Int):(rws l).length=l.length:=by simp[rws]
theorem MM (a b:List Int):rws (a++b)=rws a++rws b:=by simp[rws]
theorem Al (n:Nat) (x:Int):rws (List.replicate n x)=List.replicate n [x]:=by simp[rws]
def kM (v:Nat) (j:Nat):List Int:=(List.range j).map fun q=>((v/256^(j-1-q)% 256:Nat):Int)
theorem WM (v j:Nat):(kM v j).length=j:=by simp[kM]
theorem Nf (v j:Nat):kM v (j+1)=((v/256^j% 256:Nat):Int)::kM v j:=by
 unfold kM
 rw[List.range_succ_eq_map,List.map_cons,List.map_map]
 refine congr (congrArg _ (by simp)) (List.map_congr_left fun q hq=>?_)
 have:q<j:=List.mem_range.1 hq
 simp only[Function.comp]
 rw[show j+1-1-(q+1)=j-1-q by omega]
theorem WL (v:Nat):∀(d j:Nat),j+d=8->v/256^j=0->rP v=List.replicate (8-j) 0++kM v j:=by
 have base:rP v=kM v 8:=by
  unfold rP kM
  refine List.map_congr_left fun q hq=>?_
  have:q<8:=List.mem_range.1 hq
  have e:(256:Nat)^(8-1-q)=2^(56-8*q):=by
   rw[show(256:Nat)=2^8 by rfl,<-Nat.pow_mul];congr 1;omega
  rw[e]
 intro d
 induction d with
 |zero=>
  intro j hj _
  have:j=8:=by omega
  subst this
  simpa using base
 |succ d ih=>
  intro j hj h0
  have h1:v/256^(j+1)=0:=by rw[Nat.pow_succ,<-Nat.div_div_eq_div_mul,h0]
  rw[ih (j+1) (by omega) h1,Nf,h0,show 8-j=(8-(j+1))+1 by omega,List.replicate_succ']
  simp
theorem G3 {α:Type} (a b:List α) (x y:α) (n:Nat) (h:a.length=n):(a++x::b).set n y=a++y::b:=by
 subst h
 induction a with
 |nil=>rfl
 |cons z a ih=>simp[ih]
theorem E5 {α:Type} (a b:List α) (x d:α) (n:Nat) (h:a.length=n):(a++x::b).getD n d=x:=by
 subst h
 simp[List.getD]
theorem amf:Ph SB (dJ SB [vz] 442):=by
 intro z0 a0 a1 hp ag b0 z2 c0 c1 z3 d0 d1 h3 z4 bD e1 h4
 have hp:(aa z0).length<=1000000000:=hp
 have h3:z3=((aa z0).length:Int):=h3
 have h4:[[z4]]=[[pa z3 32]]:=h4
 obtain⟨n,hn⟩:∃n,(aa z0).length=n:=⟨_,rfl⟩
 rw[hn]at h3 hp
 have wY:(cl z0).length=n:=by rw[rQ,hn]
 obtain⟨P,oK⟩:∃P,kI 32 n=P:=⟨_,rfl⟩
 have afh:P=(n+1+8+63)/64*64:=oK.symm
 have h4:z4=(P:Int):=by
  have:z4=pa z3 32:=by simpa using h4
  rw[this];unfold pa
  rw[if_neg (by omega),h3]
  simp only[Int.toNat_natCast]
  rw[show(32:Int).toNat=32 from rfl,oK]
 have g1:n+9<=P:=by omega
 have g2:P<=1000001000:=by omega
 refine⟨⟨by omega,by omega,by omega⟩,fun z5 f0 f1 h5 ao i0 i1=>?_⟩
 have h5:aa z5=rws (List.replicate P 0):=by
  rw[h5]
  show aa (rc (List.replicate z4.toNat [0]))=_
  rw[dN,Al,h4];simp
 have tP:(aa z5).length=P:=by rw[h5,lT];simp
 refine⟨⟨Int.le_refl _,by omega,by rw[tP];omega⟩,⟨Int.le_refl _,by omega,by rw[hn];omega⟩,fun z7 fZ dL h7 au kc k1 cv z9 m0 iw bX=>?_⟩
 have h7:z7=(n:Int):=by
  have:z7=min z3 z4:=h7
  rw[this,h3,h4];omega
 have cv:aa au=aa z0:=mQ cv (by rw[h7,hn])
 obtain⟨asC,zG⟩:∃l:List (List Int),aa z0=l:=⟨_,rfl⟩
 have bX:aa z9=aa z0++rws (0::List.replicate (P-n-1) 0):=by
  rw[bX]
  show aa (rc ((aa z5).take (0:Int).toNat++aa au++(aa z5).drop ((0:Int).toNat+(aa au).length)))=_
  rw[dN,cv,h5,hn]
  simp only[Int.toNat_zero,List.take_zero,List.nil_append,Nat.zero_add]
  congr 1
  rw[Al,List.drop_replicate,<-List.replicate_succ,Al]
  rw[show P-n-1+1=P-n by omega]
 have tQ:(aa z9).length=P:=by rw[bX,List.length_append,hn,lT];simp;omega
 refine⟨⟨by omega,by omega⟩,⟨by omega,by rw[tQ];omega⟩,fun _ ay n0 n1 dc aS zV o1 o2 L4=>?_⟩
 have:aS=0:=by omega
 subst this
 have dc:aa ay=aa z0++rws (128::List.replicate (P-n-1) 0):=by
  rw[dc]
  show aa (rc ((aa z9).set z3.toNat (((aa z9).getD z3.toNat []).take (0:Int).toNat++[128]++((aa z9).getD z3.toNat []).drop ((0:Int).toNat+[(128:Int)].length))))=_
  have e1:rws (0::List.replicate (P-n-1) 0)=[0]::rws (List.replicate (P-n-1) 0):=rfl
  have e2:rws (128::List.replicate (P-n-1) 0)=[128]::rws (List.replicate (P-n-1) 0):=rfl
  have hl:(aa z0).length=z3.toNat:=by rw[hn,h3];simp
  rw[dN,bX,e1,e2,E5 _ _ _ _ _ hl]
  simp only[Int.toNat_zero,List.take_zero,List.nil_append,List.length_singleton,List.drop_succ_cons,List.drop_zero,Nat.zero_add,List.append_nil]
  exact G3 _ _ _ _ _ hl
 refine⟨fun l=>∃(j:Nat) (c:Int),j<=8/\l=[[((8*n/256^j:Nat):Int)],[(P:Int)-1-j],[c]]/\aa c=aa z0++rws (128::List.replicate (P-n-1-j) 0++kM (8*n) j),fun l=>((l.getD 0 []).getD 0 0).toNat,⟨0,ay,by decide,by
  rw[Nat.pow_zero,Nat.div_one,show(8*z3+-18446744073709551616*0:Int)=((8*n:Nat):Int) by omega,show(z4+-1:Int)=(P:Int)-1-((0:Nat):Int) by omega],by rw[dc];simp[kM]⟩,?_⟩
 intro ae p0 p1 ah kg bo aD af r1 hI
 obtain⟨j,c,hj,hl,hc⟩:=hI
 simp only[List.cons.injEq,and_true]at hl
 obtain⟨Bt,acy,Ja⟩:=hl
 subst Ja
 have xA:(aa aD).length=P:=by
  rw[hc,List.length_append,hn,lT]
  simp only[List.length_append,List.length_cons,List.length_replicate,WM]
  omega
 refine⟨fun hpos=>?_,fun xd=>⟨⟨Int.le_refl _,by omega,by rw[xA];omega⟩,fun aP eb s1 iU=>⟨⟨eb,s1,trivial⟩,?_⟩⟩⟩
 ·have hpos:=of_decide_eq_true hpos
  intro aP eb s1 s2 ew
  have age:j<8:=by
   rcases Nat.lt_or_ge j 8 with h|h
   ·exact h
   ·have:j=8:=by omega
    subst this
    have:8*n/256^8=0:=Nat.div_eq_of_lt (by omega)
    omega
  refine⟨⟨by omega,by omega⟩,⟨by omega,by rw[xA];omega⟩,fun _ bd t0 t1 j7 aM u0 nz rC sT=>?_⟩
  have sf:aa aD=aa z0++rws ((128::List.replicate (P-n-1-j-1) 0)++0::kM (8*n) j):=by
   rw[hc];congr 2
   rw[show P-n-1-j=(P-n-1-j-1)+1 by omega,List.replicate_succ']
   simp
  have Lg:aa bd=aa z0++rws ((128::List.replicate (P-n-1-j-1) 0)++(ae+-256*aP)::kM (8*n) j):=by
   rw[j7]
   show aa (rc ((aa aD).set ah.toNat (((aa aD).getD ah.toNat []).take (0:Int).toNat++[ae+-256*aP]++((aa aD).getD ah.toNat []).drop ((0:Int).toNat+[ae+-256*aP].length))))=_
   have e1:∀x:Int,aa z0++rws ((128::List.replicate (P-n-1-j-1) 0)++x::kM (8*n) j)=(aa z0++rws (128::List.replicate (P-n-1-j-1) 0))++[x]::rws (kM (8*n) j):=fun x=>by
    rw[MM,List.append_assoc];rfl
   have hl:(aa z0++rws (128::List.replicate (P-n-1-j-1) 0)).length=ah.toNat:=by
    rw[List.length_append,hn,lT]
    simp only[List.length_cons,List.length_replicate]
    omega
   rw[dN,sf,e1,e1,E5 _ _ _ _ _ hl]
   simp only[Int.toNat_zero,List.take_zero,List.nil_append,List.length_singleton,List.drop_succ_cons,List.drop_zero,Nat.zero_add,List.append_nil]
   exact G3 _ _ _ _ _ hl
  have Jb:aP=ae/256:=by omega
  have yW:aM=ae/256:=by omega
  refine⟨⟨by omega,by omega⟩,⟨j+1,bd,by omega,?_,?_⟩,?_⟩
  ·rw[show aM=((8*n/256^(j+1):Nat):Int) by rw[Nat.pow_succ,<-Nat.div_div_eq_div_mul,yW,Bt];simp,show(ah+-1:Int)=(P:Int)-1-((j+1:Nat):Int) by omega]
  ·rw[Lg,Nf]
   congr 2
   rw[show P-n-1-(j+1)=P-n-1-j-1 by omega]
   congr 2
   rw[Jb,Bt];omega
  ·show aM.toNat<ae.toNat
   omega
 ·have xd:=of_decide_eq_false xd
  have h0:8*n/256^j=0:=by omega
  show cl aP=pb cC (cl z0)
  have iU:=mQ iU (by rw[xA,h4])
  have bD:aa aD=aa z0++rws (128::List.replicate (P-n-9) 0++rP (8*n)):=by
   rw[hc,WL (8*n) (8-j) j (by omega) h0]
   congr 2
   rw[show P-n-1-j=(P-n-9)+(8-j) by omega,<-List.replicate_append_replicate]
   simp only[List.cons_append,List.append_assoc]
  unfold pb
  rw[wY,show cC.w=32 from rfl,oK]
  unfold cl
  rw[iU,bD,List.map_append]
  have:=Be (z:=rc (rws (128::List.replicate (P-n-9) 0++rP (8*n)))) (dN _)
  unfold cl at this
  rw[dN]at this
  rw[this]
  simp
theorem amg:Pj SB (dJ SB [vz] 443):=by
 intro z0 a0 a1 hp ag b0 z2 c0 c1 z3 d0 d1 h3 z4 bD e1 h4
 have hp:(aa z0).length<=1000000000:=hp
 have h3:z3=((aa z0).length:Int):=h3
 have h4:[[z4]]=[[pa z3 64]]:=h4
 obtain⟨n,hn⟩:∃n,(aa z0).length=n:=⟨_,rfl⟩
 rw[hn]at h3 hp
 have wY:(cl z0).length=n:=by rw[rQ,hn]
 obtain⟨P,oK⟩:∃P,kI 64 n=P:=⟨_,rfl⟩
 have afh:P=(n+1+16+127)/128*128:=oK.symm
 have h4:z4=(P:Int):=by
  have:z4=pa z3 64:=by simpa using h4
  rw[this];unfold pa
  rw[if_neg (by omega),h3]
  simp only[Int.toNat_natCast]
  rw[show(64:Int).toNat=64 from rfl,oK]
 have g1:n+9<=P:=by omega
 have g2:P<=1000001000:=by omega
 refine⟨⟨by omega,by omega,by omega⟩,fun z5 f0 f1 h5 ao i0 i1=>?_⟩
 have h5:aa z5=rws (List.replicate P 0):=by
  rw[h5]
  show aa (rc (List.replicate z4.toNat [0]))=_
  rw[dN,Al,h4];simp
 have tP:(aa z5).length=P:=by rw[h5,lT];simp
 refine⟨⟨Int.le_refl _,by omega,by rw[tP];omega⟩,⟨Int.le_refl _,by omega,by rw[hn];omega⟩,fun z7 fZ dL h7 au kc k1 cv z9 m0 iw bX=>?_⟩
 have h7:z7=(n:Int):=by
  have:z7=min z3 z4:=h7
  rw[this,h3,h4];omega
 have cv:aa au=aa z0:=mQ cv (by rw[h7,hn])
 obtain⟨asC,zG⟩:∃l:List (List Int),aa z0=l:=⟨_,rfl⟩
 have bX:aa z9=aa z0++rws (0::List.replicate (P-n-1) 0):=by
  rw[bX]
  show aa (rc ((aa z5).take (0:Int).toNat++aa au++(aa z5).drop ((0:Int).toNat+(aa au).length)))=_
  rw[dN,cv,h5,hn]
  simp only[Int.toNat_zero,List.take_zero,List.nil_append,Nat.zero_add]
  congr 1
  rw[Al,List.drop_replicate,<-List.replicate_succ,Al]
  rw[show P-n-1+1=P-n by omega]
 have tQ:(aa z9).length=P:=by rw[bX,List.length_append,hn,lT];simp;omega
 refine⟨⟨by omega,by omega⟩,⟨by omega,by rw[tQ];omega⟩,fun _ ay n0 n1 dc aS zV o1 o2 L4=>?_⟩
 have:aS=0:=by omega
 subst this
 have dc:aa ay=aa z0++rws (128::List.replicate (P-n-1) 0):=by
  rw[dc]
  show aa (rc ((aa z9).set z3.toNat (((aa z9).getD z3.toNat []).take (0:Int).toNat++[128]++((aa z9).getD z3.toNat []).drop ((0:Int).toNat+[(128:Int)].length))))=_
  have e1:rws (0::List.replicate (P-n-1) 0)=[0]::rws (List.replicate (P-n-1) 0):=rfl
  have e2:rws (128::List.replicate (P-n-1) 0)=[128]::rws (List.replicate (P-n-1) 0):=rfl
  have hl:(aa z0).length=z3.toNat:=by rw[hn,h3];simp
  rw[dN,bX,e1,e2,E5 _ _ _ _ _ hl]
  simp only[Int.toNat_zero,List.take_zero,List.nil_append,List.length_singleton,List.drop_succ_cons,List.drop_zero,Nat.zero_add,List.append_nil]
  exact G3 _ _ _ _ _ hl
 refine⟨fun l=>∃(j:Nat) (c:Int),j<=8/\l=[[((8*n/256^j:Nat):Int)],[(P:Int)-1-j],[c]]/\aa c=aa z0++rws (128::List.replicate (P-n-1-j) 0++kM (8*n) j),fun l=>((l.getD 0 []).getD 0 0).toNat,⟨0,ay,by decide,by
  rw[Nat.pow_zero,Nat.div_one,show(8*z3+-18446744073709551616*0:Int)=((8*n:Nat):Int) by omega,show(z4+-1:Int)=(P:Int)-1-((0:Nat):Int) by omega],by rw[dc];simp[kM]⟩,?_⟩
 intro ae p0 p1 ah kg bo aD af r1 hI
 obtain⟨j,c,hj,hl,hc⟩:=hI
 simp only[List.cons.injEq,and_true]at hl
 obtain⟨Bt,acy,Ja⟩:=hl
 subst Ja
 have xA:(aa aD).length=P:=by
  rw[hc,List.length_append,hn,lT]
  simp only[List.length_append,List.length_cons,List.length_replicate,WM]
  omega
 refine⟨fun hpos=>?_,fun xd=>⟨⟨Int.le_refl _,by omega,by rw[xA];omega⟩,fun aP eb s1 iU=>⟨⟨eb,s1,trivial⟩,?_⟩⟩⟩
 ·have hpos:=of_decide_eq_true hpos
  intro aP eb s1 s2 ew
  have age:j<8:=by
   rcases Nat.lt_or_ge j 8 with h|h
   ·exact h
   ·have:j=8:=by omega
    subst this
    have:8*n/256^8=0:=Nat.div_eq_of_lt (by omega)
    omega
  refine⟨⟨by omega,by omega⟩,⟨by omega,by rw[xA];omega⟩,fun _ bd t0 t1 j7 aM u0 nz rC sT=>?_⟩
  have sf:aa aD=aa z0++rws ((128::List.replicate (P-n-1-j-1) 0)++0::kM (8*n) j):=by
   rw[hc];congr 2
   rw[show P-n-1-j=(P-n-1-j-1)+1 by omega,List.replicate_succ']
   simp
  have Lg:aa bd=aa z0++rws ((128::List.replicate (P-n-1-j-1) 0)++(ae+-256*aP)::kM (8*n) j):=by
   rw[j7]
   show aa (rc ((aa aD).set ah.toNat (((aa aD).getD ah.toNat []).take (0:Int).toNat++[ae+-256*aP]++((aa aD).getD ah.toNat []).drop ((0:Int).toNat+[ae+-256*aP].length))))=_
   have e1:∀x:Int,aa z0++rws ((128::List.replicate (P-n-1-j-1) 0)++x::kM (8*n) j)=(aa z0++rws (128::List.replicate (P-n-1-j-1) 0))++[x]::rws (kM (8*n) j):=fun x=>by
    rw[MM,List.append_assoc];rfl
   have hl:(aa z0++rws (128::List.replicate (P-n-1-j-1) 0)).length=ah.toNat:=by
    rw[List.length_append,hn,lT]
    simp only[List.length_cons,List.length_replicate]
    omega
   rw[dN,sf,e1,e1,E5 _ _ _ _ _ hl]
   simp only[Int.toNat_zero,List.take_zero,List.nil_append,List.length_singleton,List.drop_succ_cons,List.drop_zero,Nat.zero_add,List.append_nil]
   exact G3 _ _ _ _ _ hl
  have Jb:aP=ae/256:=by omega
  have yW:aM=ae/256:=by omega
  refine⟨⟨by omega,by omega⟩,⟨j+1,bd,by omega,?_,?_⟩,?_⟩
  ·rw[show aM=((8*n/256^(j+1):Nat):Int) by rw[Nat.pow_succ,<-Nat.div_div_eq_div_mul,yW,Bt];simp,show(ah+-1:Int)=(P:Int)-1-((j+1:Nat):Int) by omega]
  ·rw[Lg,Nf]
   congr 2
   rw[show P-n-1-(j+1)=P-n-1-j-1 by omega]
   congr 2
   rw[Jb,Bt];omega
  ·show aM.toNat<ae.toNat
   omega
 ·have xd:=of_decide_eq_false xd
  have h0:8*n/256^j=0:=by omega
  show cl aP=pb cD (cl z0)
  have iU:=mQ iU (by rw[xA,h4])
  have bD:aa aD=aa z0++rws (128::List.replicate (P-n-9) 0++rP (8*n)):=by
   rw[hc,WL (8*n) (8-j) j (by omega) h0]
   congr 2
   rw[show P-n-1-j=(P-n-9)+(8-j) by omega,<-List.replicate_append_replicate]
   simp only[List.cons_append,List.append_assoc]
  unfold pb
  rw[wY,show cD.w=64 from rfl,oK]
  unfold cl
  rw[iU,bD,List.map_append]
  have:=Be (z:=rc (rws (128::List.replicate (P-n-9) 0++rP (8*n)))) (dN _)
  unfold cl at this
  rw[dN]at this
  rw[this]
  simp
end Go.ck

set_option maxRecDepth 100000
set_option linter.unusedVariables false
set_option linter.unusedSimpArgs false
namespace Go.ck
open Go Go.bj
theorem Jm (p:e8):∀(j:Nat) (m:List Int),pF p (j+1) m=pF p j m++[vw p (pF p j m)]
 |0,m=>rfl
 |j+1,m=>by
  show pF p (j+1) (m++[vw p m])=_
  rw[Jm p j];rfl
theorem Jl (p:e8):∀(j:Nat) (m:List Int),(pF p j m).length=m.length+j
 |0,_=>rfl
 |j+1,m=>by
  show(pF p j (m++[vw p m])).length=_
  rw[Jl p j];simp;omega
theorem MK (p:e8):∀(m:List Int) (i:Nat) (x:Int) (v:List Int),uh p i (m++[x]) v=sQ p (i+m.length) x (uh p i m v)
 |[],i,x,v=>rfl
 |y::m,i,x,v=>by
  show uh p (i+1) (m++[x]) _=sQ p _ x (uh p (i+1) m _)
  rw[MK p m]
  congr 1
  simp only[List.length_cons];omega
theorem WK (m:List Int) (i:Nat) (h:i<m.length):m.take (i+1)=m.take i++[m.getD i 0]:=by
 rw[List.take_add_one,List.getElem?_eq_getElem h];simp[List.getD,h]
theorem Ut {r:List Int} (h:r.length=8):r=[r.getD 0 0,r.getD 1 0,r.getD 2 0,r.getD 3 0,r.getD 4 0,r.getD 5 0,r.getD 6 0,r.getD 7 0]:=BJ r 8 h
theorem fa {c z x:Int} {l:List Int} (h:z=aA 23 [c,x]) (hc:aa c=rws l):aa z=rws (l++[x]):=by
 rw[h]
 show aa (rc (aa c++[[x]]))=_
 rw[dN,hc,MM];rfl
theorem rY {c i z:Int} {l:List Int} (h:z=aA 21 [c,i,0]) (hc:aa c=rws l):z=l.getD i.toNat 0:=by
 rw[bM h,Be hc]
theorem CR {lo hi:Int}:∀(n:Nat) (l:List Int),av (a7 lo hi n) l->l.length=n/\∀x∈l,lo<=x/\x<=hi
 |0,[],_=>⟨rfl,fun _ h=>by cases h⟩
 |n+1,x::l,h=>by
  obtain⟨h1,h2⟩:=CR n l h.2.2
  refine⟨by simp[h1],fun y hy=>?_⟩
  rcases List.mem_cons.1 hy with rfl|hy
  ·exact⟨h.1,h.2.1⟩
  ·exact h2 y hy
 |0,_::_,h=>h.elim
 |_+1,[],h=>h.elim
theorem Rq (b:List Int) (o n k:Nat) (hk:k<n):((b.drop o).take n).getD k 0=b.getD (o+k) 0:=by
 simp only[List.getD,List.getElem?_take,List.getElem?_drop,hk,if_true]
theorem vR {x c l k:Int} {pre:List Int} {Next:Int->Int->Int->Prop} (hc:aa c=rws pre) (hl:l=(pre.length:Int)) (hb:pre.length<=1000)
 (hn:∀c' bx aQ:Int,0<=c'->c'<=b8->aa c'=rws (pre++(List.range 4).map (j4 cC x))->bx=((pre.length+4:Nat):Int)->Next c' bx aQ):
 ∃(gn:List (List Int)->Prop) (iR:List (List Int)->Nat),gn [[3],[c],[l],[k]]/\(∀aD:Int,(-1)<=aD->aD<=3->∀aP:Int,0<=aP->aP<=b8->∀bd:Int,0<=bd->bd<=9223372036854775807->∀aM:Int,(-1)<=aM->aM<=9223372036854775807->gn [[aD],[aP],[bd],[aM]]->
 (((decide (0<=aD))=true->
  ∀a8:Int,0<=a8->a8<=4294967295->a8=x/2^((8*aD)).toNat->
  ∀z20:Int,0<=z20->z20<=16777215->0<=a8-256*z20->a8-256*z20<256->
  ab 31 [aP,bd]/\
  ab 23 [aP,1]/\
  ∀z21:Int,0<=z21->z21<=b8->z21=aA 23 [aP,(a8+((-256)*z20))]->
  ∀z22:Int,(-1)<=z22->z22<=9223372036854775807->
  (gn [[(aD+(-1))],[z21],[(bd+1)],[z22]]/\iR [[(aD+(-1))],[z21],[(bd+1)],[z22]]<iR [[aD],[aP],[bd],[aM]])
 )/\((decide (0<=aD))=false->Next aP bd aM))):=by
 refine⟨fun l=>∃(j:Nat) (c' aQ:Int),j<=4/\l=[[3-(j:Int)],[c'],[((pre.length+j:Nat):Int)],[aQ]]/\aa c'=rws (pre++(List.range j).map (j4 cC x)),fun l=>((l.getD 0 []).getD 0 0+1).toNat,⟨0,c,k,by decide,by rw[hl];rfl,by rw[hc];simp⟩,?_⟩
 intro aD a0 a1 aP b0 b1 bd c0 c1 aM d0 d1 ⟨j,c',aQ,hj,e,hr⟩
 simp only[List.cons.injEq,and_true]at e
 obtain⟨e1,e2,bu,eK⟩:=e
 subst e2
 have hlen:(aa aP).length=pre.length+j:=by rw[hr,lT];simp
 refine⟨fun h a8 f0 f1 f2 z20 g0 g1 g2 g3=>?_,fun h=>?_⟩
 ·have h:=of_decide_eq_true h
  refine⟨by show bd=((aa aP).length:Int);rw[hlen,bu],by show(aa aP).length+(1:Int)<=1073741824;rw[hlen];omega,fun z21 i0 i1 i2 z22 fZ dL=>⟨⟨j+1,z21,z22,by omega,?_,?_⟩,?_⟩⟩
  ·rw[show aD+-1=3-((j+1:Nat):Int) by omega,show bd+1=((pre.length+(j+1):Nat):Int) by omega]
  ·rw[fa i2 hr,List.append_assoc,List.range_succ,List.map_append]
   congr 3
   show [a8+-256*z20]=[x/2^(32-8-8*j)% 256]
   have:(8*aD).toNat=32-8-8*j:=by omega
   rw[<-this,<-f2]
   congr 1;omega
  ·show(aD+-1+1).toNat<(aD+1).toNat
   omega
 ·have h:=of_decide_eq_false h
  have:j=4:=by omega
  subst this
  exact hn aP bd aM b0 b1 hr bu
theorem vS {x c l k:Int} {pre:List Int} {Next:Int->Int->Int->Prop} (hc:aa c=rws pre) (hl:l=(pre.length:Int)) (hb:pre.length<=1000)
 (hn:∀c' bx aQ:Int,0<=c'->c'<=b8->aa c'=rws (pre++(List.range 8).map (j4 cD x))->bx=((pre.length+8:Nat):Int)->Next c' bx aQ):
 ∃(gn:List (List Int)->Prop) (iR:List (List Int)->Nat),gn [[7],[c],[l],[k]]/\(∀aD:Int,(-1)<=aD->aD<=7->∀aP:Int,0<=aP->aP<=b8->∀bd:Int,0<=bd->bd<=9223372036854775807->∀aM:Int,(-1)<=aM->aM<=9223372036854775807->gn [[aD],[aP],[bd],[aM]]->
 (((decide (0<=aD))=true->
  ∀a8:Int,0<=a8->a8<=18446744073709551615->a8=x/2^((8*aD)).toNat->
  ∀z20:Int,0<=z20->z20<=72057594037927935->0<=a8-256*z20->a8-256*z20<256->
  ab 31 [aP,bd]/\
  ab 23 [aP,1]/\
  ∀z21:Int,0<=z21->z21<=b8->z21=aA 23 [aP,(a8+((-256)*z20))]->
  ∀z22:Int,(-1)<=z22->z22<=9223372036854775807->
  (gn [[(aD+(-1))],[z21],[(bd+1)],[z22]]/\iR [[(aD+(-1))],[z21],[(bd+1)],[z22]]<iR [[aD],[aP],[bd],[aM]])
 )/\((decide (0<=aD))=false->Next aP bd aM))):=by
 refine⟨fun l=>∃(j:Nat) (c' aQ:Int),j<=8/\l=[[7-(j:Int)],[c'],[((pre.length+j:Nat):Int)],[aQ]]/\aa c'=rws (pre++(List.range j).map (j4 cD x)),fun l=>((l.getD 0 []).getD 0 0+1).toNat,⟨0,c,k,by decide,by rw[hl];rfl,by rw[hc];simp⟩,?_⟩
 intro aD a0 a1 aP b0 b1 bd c0 c1 aM d0 d1 ⟨j,c',aQ,hj,e,hr⟩
 simp only[List.cons.injEq,and_true]at e
 obtain⟨e1,e2,bu,eK⟩:=e
 subst e2
 have hlen:(aa aP).length=pre.length+j:=by rw[hr,lT];simp
 refine⟨fun h a8 f0 f1 f2 z20 g0 g1 g2 g3=>?_,fun h=>?_⟩
 ·have h:=of_decide_eq_true h
  refine⟨by show bd=((aa aP).length:Int);rw[hlen,bu],by show(aa aP).length+(1:Int)<=1073741824;rw[hlen];omega,fun z21 i0 i1 i2 z22 fZ dL=>⟨⟨j+1,z21,z22,by omega,?_,?_⟩,?_⟩⟩
  ·rw[show aD+-1=7-((j+1:Nat):Int) by omega,show bd+1=((pre.length+(j+1):Nat):Int) by omega]
  ·rw[fa i2 hr,List.append_assoc,List.range_succ,List.map_append]
   congr 3
   show [a8+-256*z20]=[x/2^(64-8-8*j)% 256]
   have:(8*aD).toNat=64-8-8*j:=by omega
   rw[<-this,<-f2]
   congr 1;omega
  ·show(aD+-1+1).toNat<(aD+1).toNat
   omega
 ·have h:=of_decide_eq_false h
  have:j=8:=by omega
  subst this
  exact hn aP bd aM b0 b1 hr bu
end Go.ck

set_option maxRecDepth 100000
set_option linter.unusedVariables false
set_option linter.unusedSimpArgs false
namespace Go.ck
open Go Go.bj
def Oe (S:Nat->List (List Int)->List (List Int)->Prop) (K:List (List Int)->List (List Int)->Prop):Prop:=
 c9 fun z0=>(ab 72 [z0]->cK fun ag=>bW fun z2=>bp 20 [z0] fun z3=>ab 70 [z3,64]/\∃(lB:List (List Int)->Prop) (mu:List (List Int)->
 Nat),lB [[1779033703,3144134277,1013904242,2773480762,1359893119,2600822924,528734635,1541459225],[0]]/\(∀aj:List Int,av (a7 0 4294967295 8) aj->fe fun
 ae=>lB [aj,[ae]]->(aC (decide ((64*ae)<z3)) (ab 21 [z0,(64*ae)]/\ak 21 [z0,(64*ae),0] fun ah=>ab 21 [z0,((64*ae)+1)]/\ak 21
 [z0,((64*ae)+1),0] fun aD=>ab 21 [z0,((64*ae)+2)]/\ak 21 [z0,((64*ae)+2),0] fun aP=>ab 21 [z0,((64*ae)+3)]/\ak 21 [z0,((64*
 ae)+3),0] fun bd=>ab 21 [z0,((64*ae)+4)]/\ak 21 [z0,((64*ae)+4),0] fun aM=>ab 21 [z0,((64*ae)+5)]/\ak 21 [z0,((64*ae)+
 5),0] fun a8=>ab 21 [z0,((64*ae)+6)]/\ak 21 [z0,((64*ae)+6),0] fun z20=>ab 21 [z0,((64*ae)+7)]/\ak 21 [z0,((64*ae)+7),0] fun
 z21=>ab 21 [z0,((64*ae)+8)]/\ak 21 [z0,((64*ae)+8),0] fun z22=>ab 21 [z0,((64*ae)+9)]/\ak 21 [z0,((64*ae)+9),0] fun bH=>ab
 21 [z0,((64*ae)+10)]/\ak 21 [z0,((64*ae)+10),0] fun z24=>ab 21 [z0,((64*ae)+11)]/\ak 21 [z0,((64*ae)+11),0] fun bn=>ab 21
 [z0,((64*ae)+12)]/\ak 21 [z0,((64*ae)+12),0] fun z26=>ab 21 [z0,((64*ae)+13)]/\ak 21 [z0,((64*ae)+13),0] fun bO=>ab 21
 [z0,((64*ae)+14)]/\ak 21 [z0,((64*ae)+14),0] fun z28=>ab 21 [z0,((64*ae)+15)]/\ak 21 [z0,((64*ae)+15),0] fun cx=>ab 21
 [z0,((64*ae)+16)]/\ak 21 [z0,((64*ae)+16),0] fun bZ=>ab 21 [z0,((64*ae)+17)]/\ak 21 [z0,((64*ae)+17),0] fun z31=>ab 21
 [z0,((64*ae)+18)]/\ak 21 [z0,((64*ae)+18),0] fun cu=>ab 21 [z0,((64*ae)+19)]/\ak 21 [z0,((64*ae)+19),0] fun cM=>ab 21
 [z0,((64*ae)+20)]/\ak 21 [z0,((64*ae)+20),0] fun cb=>ab 21 [z0,((64*ae)+21)]/\ak 21 [z0,((64*ae)+21),0] fun b7=>ab 21
 [z0,((64*ae)+22)]/\ak 21 [z0,((64*ae)+22),0] fun cj=>ab 21 [z0,((64*ae)+23)]/\ak 21 [z0,((64*ae)+23),0] fun z37=>ab 21
 [z0,((64*ae)+24)]/\ak 21 [z0,((64*ae)+24),0] fun cQ=>ab 21 [z0,((64*ae)+25)]/\ak 21 [z0,((64*ae)+25),0] fun c6=>ab 21
 [z0,((64*ae)+26)]/\ak 21 [z0,((64*ae)+26),0] fun z40=>ab 21 [z0,((64*ae)+27)]/\ak 21 [z0,((64*ae)+27),0] fun cF=>ab 21
 [z0,((64*ae)+28)]/\ak 21 [z0,((64*ae)+28),0] fun cR=>ab 21 [z0,((64*ae)+29)]/\ak 21 [z0,((64*ae)+29),0] fun dD=>ab 21
 [z0,((64*ae)+30)]/\ak 21 [z0,((64*ae)+30),0] fun c8=>ab 21 [z0,((64*ae)+31)]/\ak 21 [z0,((64*ae)+31),0] fun cH=>ab 21
 [z0,((64*ae)+32)]/\ak 21 [z0,((64*ae)+32),0] fun z46=>ab 21 [z0,((64*ae)+33)]/\ak 21 [z0,((64*ae)+33),0] fun cm=>ab 21
 [z0,((64*ae)+34)]/\ak 21 [z0,((64*ae)+34),0] fun dE=>ab 21 [z0,((64*ae)+35)]/\ak 21 [z0,((64*ae)+35),0] fun z49=>ab 21
 [z0,((64*ae)+36)]/\ak 21 [z0,((64*ae)+36),0] fun cS=>ab 21 [z0,((64*ae)+37)]/\ak 21 [z0,((64*ae)+37),0] fun z51=>ab 21
 [z0,((64*ae)+38)]/\ak 21 [z0,((64*ae)+38),0] fun dh=>ab 21 [z0,((64*ae)+39)]/\ak 21 [z0,((64*ae)+39),0] fun z53=>ab 21
 [z0,((64*ae)+40)]/\ak 21 [z0,((64*ae)+40),0] fun eI=>ab 21 [z0,((64*ae)+41)]/\ak 21 [z0,((64*ae)+41),0] fun eY=>ab 21
 [z0,((64*ae)+42)]/\ak 21 [z0,((64*ae)+42),0] fun dF=>ab 21 [z0,((64*ae)+43)]/\ak 21 [z0,((64*ae)+43),0] fun dO=>ab 21
 [z0,((64*ae)+44)]/\ak 21 [z0,((64*ae)+44),0] fun eB=>ab 21 [z0,((64*ae)+45)]/\ak 21 [z0,((64*ae)+45),0] fun z59=>ab 21
 [z0,((64*ae)+46)]/\ak 21 [z0,((64*ae)+46),0] fun eJ=>ab 21 [z0,((64*ae)+47)]/\ak 21 [z0,((64*ae)+47),0] fun hO=>ab 21
 [z0,((64*ae)+48)]/\ak 21 [z0,((64*ae)+48),0] fun fO=>ab 21 [z0,((64*ae)+49)]/\ak 21 [z0,((64*ae)+49),0] fun dP=>ab 21
 [z0,((64*ae)+50)]/\ak 21 [z0,((64*ae)+50),0] fun fi=>ab 21 [z0,((64*ae)+51)]/\ak 21 [z0,((64*ae)+51),0] fun eQ=>ab 21
 [z0,((64*ae)+52)]/\ak 21 [z0,((64*ae)+52),0] fun eC=>ab 21 [z0,((64*ae)+53)]/\ak 21 [z0,((64*ae)+53),0] fun gC=>ab 21
 [z0,((64*ae)+54)]/\ak 21 [z0,((64*ae)+54),0] fun iB=>ab 21 [z0,((64*ae)+55)]/\ak 21 [z0,((64*ae)+55),0] fun fj=>ab 21
 [z0,((64*ae)+56)]/\ak 21 [z0,((64*ae)+56),0] fun z70=>ab 21 [z0,((64*ae)+57)]/\ak 21 [z0,((64*ae)+57),0] fun fB=>ab 21
 [z0,((64*ae)+58)]/\ak 21 [z0,((64*ae)+58),0] fun z72=>ab 21 [z0,((64*ae)+59)]/\ak 21 [z0,((64*ae)+59),0] fun eo=>ab 21
 [z0,((64*ae)+60)]/\ak 21 [z0,((64*ae)+60),0] fun iC=>ab 21 [z0,((64*ae)+61)]/\ak 21 [z0,((64*ae)+61),0] fun z75=>ab 21
 [z0,((64*ae)+62)]/\ak 21 [z0,((64*ae)+62),0] fun z76=>ab 21 [z0,((64*ae)+63)]/\ak 21 [z0,((64*ae)+63),0] fun e6=>aI 23
 [0,((16777216*ah)+((65536*aD)+((256*aP)+bd)))] fun fk=>aI 23 [fk,((16777216*aM)+((65536*a8)+((256*z20)+z21)))] fun jj=>aI
 23 [jj,((16777216*z22)+((65536*bH)+((256*z24)+bn)))] fun iP=>aI 23 [iP,((16777216*z26)+((65536*bO)+((256*z28)+cx)))] fun gD=>
 aI 23 [gD,((16777216*bZ)+((65536*z31)+((256*cu)+cM)))] fun gO=>aI 23 [gO,((16777216*cb)+((65536*b7)+((256*cj)+z37)))] fun
 hP=>aI 23 [hP,((16777216*cQ)+((65536*c6)+((256*z40)+cF)))] fun jx=>aI 23 [jx,((16777216*cR)+((65536*dD)+((256*c8)+cH)))]
 fun z85=>aI 23 [z85,((16777216*z46)+((65536*cm)+((256*dE)+z49)))] fun kO=>aI 23 [kO,((16777216*cS)+((65536*z51)+((256*dh)+
 z53)))] fun z87=>aI 23 [z87,((16777216*eI)+((65536*eY)+((256*dF)+dO)))] fun gj=>aI 23 [gj,((16777216*eB)+((65536*z59)+((256*
 eJ)+hO)))] fun hQ=>aI 23 [hQ,((16777216*fO)+((65536*dP)+((256*fi)+eQ)))] fun gP=>aI 23 [gP,((16777216*eC)+((65536*gC)+
 ((256*iB)+fj)))] fun z91=>aI 23 [z91,((16777216*z70)+((65536*fB)+((256*z72)+eo)))] fun gk=>aI 23 [gk,((16777216*iC)+((65536*
 z75)+((256*z76)+e6)))] fun z93=>ab 66 [z93]/\c9 fun iQ=>S 462 [[z93]] [[iQ]]->bW fun gm=>bp 20 [iQ] fun gQ=>∃(HF:List (List Int)
 ->Prop) (Xh:List (List Int)->Nat),HF [[16],[iQ],[gQ],[gm]]/\(en 16 9223372036854775807 fun dS=>c9 fun fP=>fe fun hJ=>bW fun iz=>HF
 [[dS],[fP],[hJ],[iz]]->(aC (decide (dS<64)) (ab 30 [(dS+(-16)),hJ]/\ab 21 [fP,(dS+(-16))]/\Dm 21 [fP,(dS+(-16)),0] fun ic=>
 ab 30 [(dS+(-15)),hJ]/\ab 21 [fP,(dS+(-15))]/\Dm 21 [fP,(dS+(-15)),0] fun jg=>ml fun gh=>S 446 [[jg]] [[gh]]->bg (ic+
 gh) 4294967296 fun z105=>ab 30 [(dS+(-7)),hJ]/\ab 21 [fP,(dS+(-7))]/\Dm 21 [fP,(dS+(-7)),0] fun jw=>bg (ic+(gh+
 (((-4294967296)*z105)+jw))) 4294967296 fun z107=>ab 30 [(dS+(-2)),hJ]/\ab 21 [fP,(dS+(-2))]/\Dm 21 [fP,(dS+(-2)),0] fun kj=>ml
 fun z109=>S 447 [[kj]] [[z109]]->bg (ic+(gh+(((-4294967296)*z105)+(jw+(((-4294967296)*z107)+z109))))) 4294967296 fun pj=>ab 31
 [fP,hJ]/\ab 23 [fP,1]/\aI 23 [fP,(ic+(gh+(((-4294967296)*z105)+(jw+(((-4294967296)*z107)+(z109+((-4294967296)*pj)))))))]
 fun ey=>bW fun fA=>(HF [[(dS+1)],[ey],[(hJ+1)],[fA]]/\Xh [[(dS+1)],[ey],[(hJ+1)],[fA]]<Xh [[dS],[fP],[hJ],[iz]])) (∃
 (HC:List (List Int)->Prop) (Xe:List (List Int)->Nat),HC [aj,[0]]/\(∀cV:List Int,av (a7 0 4294967295 8) cV->fe fun ey=>HC
 [cV,[ey]]->(aC (decide (ey<hJ)) (ab 30 [ey,hJ]/\ab 21 [fP,ey]/\Dm 21 [fP,ey,0] fun fA=>ml fun fN=>S 445 [[(List.getD cV
 4 0)]] [[fN]]->bg ((List.getD cV 7 0)+fN) 4294967296 fun eP=>cK fun gz=>gz<=IntKind.max .u32->gz=cc .and .u32 (List.getD cV 4 0)
 (List.getD cV 5 0)->cK fun z116=>z116<=IntKind.max .u32->z116=cc .and .u32 (((-1)*(List.getD cV 4 0))+4294967295) (List.getD cV 6 0)->cK
 fun z117=>z117<=IntKind.max .u32->z117=cc .xor .u32 gz z116->bg ((List.getD cV 7 0)+(fN+(((-4294967296)*eP)+z117))) 4294967296 fun
 eU=>ab 39 [ey,0,79]/\ml fun z119=>S 466 [[ey]] [[z119]]->bg ((List.getD cV 7 0)+(fN+(((-4294967296)*eP)+(z117+(((-4294967296)*
 eU)+z119))))) 4294967296 fun jT=>bg ((List.getD cV 7 0)+(fA+(fN+(((-4294967296)*eP)+(z117+(((-4294967296)*eU)+(z119+
 ((-4294967296)*jT)))))))) 4294967296 fun gA=>ml fun hL=>S 444 [[(List.getD cV 0 0)]] [[hL]]->cK fun jU=>jU<=IntKind.max .u32->jU=
 cc .and .u32 (List.getD cV 0 0) (List.getD cV 1 0)->cK fun z124=>z124<=IntKind.max .u32->z124=cc .and .u32 (List.getD cV 0 0) (List.getD cV
 2 0)->cK fun jh=>jh<=IntKind.max .u32->jh=cc .xor .u32 jU z124->cK fun nA=>nA<=IntKind.max .u32->nA=cc .and .u32 (List.getD
 cV 1 0) (List.getD cV 2 0)->cK fun z127=>z127<=IntKind.max .u32->z127=cc .xor .u32 jh nA->bg (hL+z127) 4294967296 fun iA=>bR fun
 ji=>0<=((List.getD cV 3 0)+((List.getD cV 7 0)+(fA+(fN+(((-4294967296)*eP)+(z117+(((-4294967296)*eU)+(z119+(((-4294967296)*
 jT)+((-4294967296)*gA))))))))))-4294967296*ji->((List.getD cV 3 0)+((List.getD cV 7 0)+(fA+(fN+(((-4294967296)*eP)+(z117+
 (((-4294967296)*eU)+(z119+(((-4294967296)*jT)+((-4294967296)*gA))))))))))-4294967296*ji<4294967296->bR fun z130=>0<=((List.getD
 cV 7 0)+(fA+(fN+(((-4294967296)*eP)+(z117+(((-4294967296)*eU)+(z119+(((-4294967296)*jT)+(((-4294967296)*gA)+(hL+(z127
 +((-4294967296)*iA))))))))))))-4294967296*z130->((List.getD cV 7 0)+(fA+(fN+(((-4294967296)*eP)+(z117+(((-4294967296)*eU)+
 (z119+(((-4294967296)*jT)+(((-4294967296)*gA)+(hL+(z127+((-4294967296)*iA))))))))))))-4294967296*z130<4294967296->bg (ey+
 9223372036854775809) 18446744073709551616 fun z131=>ab 39 [((ey+((-18446744073709551616)*z131))+1),0,9223372036854775807]/\(HC [[((List.getD cV
 7 0)+(fA+(fN+(((-4294967296)*eP)+(z117+(((-4294967296)*eU)+(z119+(((-4294967296)*jT)+(((-4294967296)*gA)+(hL+(z127+
 (((-4294967296)*iA)+((-4294967296)*z130))))))))))))),(List.getD cV 0 0),(List.getD cV 1 0),(List.getD cV 2 0),((List.getD cV 3 0)+((List.getD
 cV 7 0)+(fA+(fN+(((-4294967296)*eP)+(z117+(((-4294967296)*eU)+(z119+(((-4294967296)*jT)+(((-4294967296)*gA)+
 ((-4294967296)*ji))))))))))),(List.getD cV 4 0),(List.getD cV 5 0),(List.getD cV 6 0)],[((ey+((-18446744073709551616)*z131))+1)]]/\Xe
 [[((List.getD cV 7 0)+(fA+(fN+(((-4294967296)*eP)+(z117+(((-4294967296)*eU)+(z119+(((-4294967296)*jT)+(((-4294967296)*gA)+
 (hL+(z127+(((-4294967296)*iA)+((-4294967296)*z130))))))))))))),(List.getD cV 0 0),(List.getD cV 1 0),(List.getD cV 2 0),((List.getD cV 3 0)
 +((List.getD cV 7 0)+(fA+(fN+(((-4294967296)*eP)+(z117+(((-4294967296)*eU)+(z119+(((-4294967296)*jT)+(((-4294967296)*gA)+
 ((-4294967296)*ji))))))))))),(List.getD cV 4 0),(List.getD cV 5 0),(List.getD cV 6 0)],[((ey+((-18446744073709551616)*z131))+1)]]<Xe
 [cV,[ey]])) (bg ((List.getD aj 0 0)+(List.getD cV 0 0)) 4294967296 fun fA=>bg ((List.getD aj 1 0)+(List.getD cV 1 0)) 4294967296 fun fN=>bg
 ((List.getD aj 2 0)+(List.getD cV 2 0)) 4294967296 fun eP=>bg ((List.getD aj 3 0)+(List.getD cV 3 0)) 4294967296 fun gz=>bg ((List.getD aj 4 0)+
 (List.getD cV 4 0)) 4294967296 fun z116=>bg ((List.getD aj 5 0)+(List.getD cV 5 0)) 4294967296 fun z117=>bg ((List.getD aj 6 0)+(List.getD cV 6 0))
 4294967296 fun eU=>bg ((List.getD aj 7 0)+(List.getD cV 7 0)) 4294967296 fun z119=>(lB [[((List.getD aj 0 0)+((List.getD cV 0 0)+((-4294967296)*
 fA))),((List.getD aj 1 0)+((List.getD cV 1 0)+((-4294967296)*fN))),((List.getD aj 2 0)+((List.getD cV 2 0)+((-4294967296)*eP))),((List.getD
 aj 3 0)+((List.getD cV 3 0)+((-4294967296)*gz))),((List.getD aj 4 0)+((List.getD cV 4 0)+((-4294967296)*z116))),((List.getD aj 5 0)+
 ((List.getD cV 5 0)+((-4294967296)*z117))),((List.getD aj 6 0)+((List.getD cV 6 0)+((-4294967296)*eU))),((List.getD aj 7 0)+((List.getD cV 7
 0)+((-4294967296)*z119)))],[(ae+1)]]/\mu [[((List.getD aj 0 0)+((List.getD cV 0 0)+((-4294967296)*fA))),((List.getD aj 1 0)+((List.getD cV
 1 0)+((-4294967296)*fN))),((List.getD aj 2 0)+((List.getD cV 2 0)+((-4294967296)*eP))),((List.getD aj 3 0)+((List.getD cV 3 0)+
 ((-4294967296)*gz))),((List.getD aj 4 0)+((List.getD cV 4 0)+((-4294967296)*z116))),((List.getD aj 5 0)+((List.getD cV 5 0)+((-4294967296)*
 z117))),((List.getD aj 6 0)+((List.getD cV 6 0)+((-4294967296)*eU))),((List.getD aj 7 0)+((List.getD cV 7 0)+((-4294967296)*z119)))],[(ae+
 1)]]<mu [aj,[ae]])))))))) (∃(ou:List (List Int)->Prop) (qh:List (List Int)->Nat),ou [[3],[0],[0],[(-1)]]/\(en (-1) 3 fun aD=>c9 fun aP=>fe
 fun bd=>bW fun aM=>ou [[aD],[aP],[bd],[aM]]->(aC (decide (0<=aD)) (ml fun a8=>a8=(List.getD aj 0 0)/2^((8*aD)).toNat->aG 0 16777215
 a8 256 fun z20=>ab 31 [aP,bd]/\ab 23 [aP,1]/\aI 23 [aP,(a8+((-256)*z20))] fun z21=>bW fun z22=>(ou [[(aD+(-1))],[z21],[(bd+
 1)],[z22]]/\qh [[(aD+(-1))],[z21],[(bd+1)],[z22]]<qh [[aD],[aP],[bd],[aM]])) (∃(we:List (List Int)->Prop) (DR:List (List Int)->
 Nat),we [[3],[aP],[bd],[aM]]/\(en (-1) 3 fun z20=>c9 fun z21=>fe fun z22=>bW fun bH=>we [[z20],[z21],[z22],[bH]]->(aC (decide (0<=z20)) (ml
 fun z24=>z24=(List.getD aj 1 0)/2^((8*z20)).toNat->aG 0 16777215 z24 256 fun bn=>ab 31 [z21,z22]/\ab 23 [z21,1]/\aI 23 [z21,(z24+
 ((-256)*bn))] fun z26=>bW fun bO=>(we [[(z20+(-1))],[z26],[(z22+1)],[bO]]/\DR [[(z20+(-1))],[z26],[(z22+1)],[bO]]<DR
 [[z20],[z21],[z22],[bH]])) (∃(wg:List (List Int)->Prop) (DS:List (List Int)->Nat),wg [[3],[z21],[z22],[bH]]/\(en (-1) 3 fun bn=>c9 fun z26=>
 fe fun bO=>bW fun z28=>wg [[bn],[z26],[bO],[z28]]->(aC (decide (0<=bn)) (ml fun cx=>cx=(List.getD aj 2 0)/2^((8*bn)).toNat->aG 0
 16777215 cx 256 fun bZ=>ab 31 [z26,bO]/\ab 23 [z26,1]/\aI 23 [z26,(cx+((-256)*bZ))] fun z31=>bW fun cu=>(wg [[(bn+(-1))],[z31],[(bO
 +1)],[cu]]/\DS [[(bn+(-1))],[z31],[(bO+1)],[cu]]<DS [[bn],[z26],[bO],[z28]])) (∃(wh:List (List Int)->Prop) (DT:List (List Int)->
 Nat),wh [[3],[z26],[bO],[z28]]/\(en (-1) 3 fun bZ=>c9 fun z31=>fe fun cu=>bW fun cM=>wh [[bZ],[z31],[cu],[cM]]->(aC (decide (0<=bZ)) (ml
 fun cb=>cb=(List.getD aj 3 0)/2^((8*bZ)).toNat->aG 0 16777215 cb 256 fun b7=>ab 31 [z31,cu]/\ab 23 [z31,1]/\aI 23 [z31,(cb+
 ((-256)*b7))] fun cj=>bW fun z37=>(wh [[(bZ+(-1))],[cj],[(cu+1)],[z37]]/\DT [[(bZ+(-1))],[cj],[(cu+1)],[z37]]<DT
 [[bZ],[z31],[cu],[cM]])) (∃(wi:List (List Int)->Prop) (DU:List (List Int)->Nat),wi [[3],[z31],[cu],[cM]]/\(en (-1) 3 fun b7=>c9 fun cj=>
 fe fun z37=>bW fun cQ=>wi [[b7],[cj],[z37],[cQ]]->(aC (decide (0<=b7)) (ml fun c6=>c6=(List.getD aj 4 0)/2^((8*b7)).toNat->aG 0
 16777215 c6 256 fun z40=>ab 31 [cj,z37]/\ab 23 [cj,1]/\aI 23 [cj,(c6+((-256)*z40))] fun cF=>bW fun cR=>(wi [[(b7+(-1))],[cF],[(z37
 +1)],[cR]]/\DU [[(b7+(-1))],[cF],[(z37+1)],[cR]]<DU [[b7],[cj],[z37],[cQ]])) (∃(wj:List (List Int)->Prop) (DV:List (List Int)->
 Nat),wj [[3],[cj],[z37],[cQ]]/\(en (-1) 3 fun z40=>c9 fun cF=>fe fun cR=>bW fun dD=>wj [[z40],[cF],[cR],[dD]]->(aC (decide (0<=z40)) (ml
 fun c8=>c8=(List.getD aj 5 0)/2^((8*z40)).toNat->aG 0 16777215 c8 256 fun cH=>ab 31 [cF,cR]/\ab 23 [cF,1]/\aI 23 [cF,(c8+
 ((-256)*cH))] fun z46=>bW fun cm=>(wj [[(z40+(-1))],[z46],[(cR+1)],[cm]]/\DV [[(z40+(-1))],[z46],[(cR+1)],[cm]]<DV
 [[z40],[cF],[cR],[dD]])) (∃(wk:List (List Int)->Prop) (DW:List (List Int)->Nat),wk [[3],[cF],[cR],[dD]]/\(en (-1) 3 fun cH=>c9 fun z46=>
 fe fun cm=>bW fun dE=>wk [[cH],[z46],[cm],[dE]]->(aC (decide (0<=cH)) (ml fun z49=>z49=(List.getD aj 6 0)/2^((8*cH)).toNat->aG 0
 16777215 z49 256 fun cS=>ab 31 [z46,cm]/\ab 23 [z46,1]/\aI 23 [z46,(z49+((-256)*cS))] fun z51=>bW fun dh=>(wk [[(cH+(-1))],[z51],[(cm
 +1)],[dh]]/\DW [[(cH+(-1))],[z51],[(cm+1)],[dh]]<DW [[cH],[z46],[cm],[dE]])) (∃(wm:List (List Int)->Prop) (DX:List (List Int)->
 Nat),wm [[3],[z46],[cm],[dE]]/\(en (-1) 3 fun cS=>c9 fun z51=>fe fun dh=>bW fun z53=>wm [[cS],[z51],[dh],[z53]]->(aC (decide (0<=cS)) (ml
 fun eI=>eI=(List.getD aj 7 0)/2^((8*cS)).toNat->aG 0 16777215 eI 256 fun eY=>ab 31 [z51,dh]/\ab 23 [z51,1]/\aI 23 [z51,(eI+
 ((-256)*eY))] fun dF=>bW fun dO=>(wm [[(cS+(-1))],[dF],[(dh+1)],[dO]]/\DX [[(cS+(-1))],[dF],[(dh+1)],[dO]]<DX
 [[cS],[z51],[dh],[z53]])) (ab 22 [z51,0,dh]/\aI 22 [z51,0,dh] fun eI=>K [[z0]] [[eI]]))))))))))))))))))))))))))))
theorem Gc {L S M k:Int} (h:L=S-M*k) (h1:0<=L) (h2:L<M):L=S% M:=by
 have e:S=L+M*k:=by omega
 rw[e,Int.add_mul_emod_self_left,Int.emod_eq_of_lt h1 h2]
theorem asA (f:Int->Int->Int) {r t:List Int} (h:r.length=8) (h':t.length=8):List.zipWith f r t=[f (r.getD 0 0) (t.getD 0 0),f (r.getD 1 0) (t.getD 1 0),f (r.getD 2 0) (t.getD 2 0),f (r.getD 3 0) (t.getD 3 0),f (r.getD 4 0) (t.getD 4 0),f (r.getD 5 0) (t.getD 5 0),f (r.getD 6 0) (t.getD 6 0),f (r.getD 7 0) (t.getD 7 0)]:=by
 match r,t,h,h' with
 |[_,_,_,_,_,_,_,_],[_,_,_,_,_,_,_,_],_,_=>rfl
theorem an7 (i:Nat) (x:Int) {r:List Int} (hr:r.length=8):sQ cC i x r=(let t:=md cC (r.getD 7 0+td cC (r.getD 4 0)+wE cC (r.getD 4 0) (r.getD 5 0) (r.getD 6 0)+x3 cC i+x);let u:=md cC (tc cC (r.getD 0 0)+C5 cC (r.getD 0 0) (r.getD 1 0) (r.getD 2 0));[md cC (t+u),r.getD 0 0,r.getD 1 0,r.getD 2 0,md cC (r.getD 3 0+t),r.getD 4 0,r.getD 5 0,r.getD 6 0]):=by
 match r,hr with
 |[_,_,_,_,_,_,_,_],_=>rfl
theorem zP (x:Int):md cC x=x% 4294967296:=by
 show x% (2:Int)^32=_
 rw[show(2:Int)^32=4294967296 by decide]
theorem aaI:pw cC=[1779033703,3144134277,1013904242,2773480762,1359893119,2600822924,528734635,1541459225]:=by decide+kernel
set_option maxHeartbeats 4000000 in
theorem ald:Oe SB (dJ SB [vz] 464):=by
 intro z0 a0 a1 hp ag b0 z2 c0 c1 z3 d0 d1 h3
 have hp:64∣(aa z0).length/\(aa z0).length<=1000001000:=hp
 have h3:z3=((aa z0).length:Int):=h3
 obtain⟨⟨q,hq⟩,vj⟩:=hp
 have aB:(cl z0).length=64*q:=by rw[rQ,hq]
 have BT:z3=64*(q:Int):=by rw[h3,hq];simp
 refine⟨⟨(q:Int),BT⟩,fun l=>∃(i:Nat),i<=q/\l=[wB cC (cl z0) i (pw cC),[(i:Int)]],fun l=>((q:Int)-(l.getD 1 []).getD 0 0).toNat,⟨0,Nat.zero_le _,by
  show _=[pw cC,[(0:Int)]]
  rw[aaI]⟩,?_⟩
 intro aj KW ae bD e1 ⟨i,hi,hI⟩
 simp only[List.cons.injEq,and_true]at hI
 obtain⟨u6,afa⟩:=hI
 obtain⟨tP,b5⟩:=CR 8 aj KW
 have xc:((aa z0).length:Int)=64*(q:Int):=by rw[<-h3,BT]
 refine⟨fun h=>?_,fun h=>?_⟩
 ·have h:=of_decide_eq_true h
  have Cn:i<q:=by omega
  have ar:∀k:Int,0<=k->k<64->ab 21 [z0,64*ae+k]:=fun k h1 h2=>⟨by omega,by rw[xc];omega⟩
  have ID:ab 21 [z0,64*ae]:=⟨by omega,by rw[xc];omega⟩
  refine⟨ID,?_⟩
  intro ah f0 g0 t0
  refine⟨ar 1 (by decide) (by decide),?_⟩
  intro aD f1 g1 t1
  refine⟨ar 2 (by decide) (by decide),?_⟩
  intro aP f2 g2 t2
  refine⟨ar 3 (by decide) (by decide),?_⟩
  intro bd f3 g3 t3
  refine⟨ar 4 (by decide) (by decide),?_⟩
  intro aM f4 g4 t4
  refine⟨ar 5 (by decide) (by decide),?_⟩
  intro a8 f5 g5 t5
  refine⟨ar 6 (by decide) (by decide),?_⟩
  intro z20 f6 g6 t6
  refine⟨ar 7 (by decide) (by decide),?_⟩
  intro z21 f7 g7 t7
  refine⟨ar 8 (by decide) (by decide),?_⟩
  intro z22 f8 g8 t8
  refine⟨ar 9 (by decide) (by decide),?_⟩
  intro bH f9 g9 t9
  refine⟨ar 10 (by decide) (by decide),?_⟩
  intro z24 f10 g10 t10
  refine⟨ar 11 (by decide) (by decide),?_⟩
  intro bn f11 g11 t11
  refine⟨ar 12 (by decide) (by decide),?_⟩
  intro z26 f12 g12 t12
  refine⟨ar 13 (by decide) (by decide),?_⟩
  intro bO f13 g13 t13
  refine⟨ar 14 (by decide) (by decide),?_⟩
  intro z28 f14 g14 t14
  refine⟨ar 15 (by decide) (by decide),?_⟩
  intro cx f15 g15 t15
  refine⟨ar 16 (by decide) (by decide),?_⟩
  intro bZ f16 g16 t16
  refine⟨ar 17 (by decide) (by decide),?_⟩
  intro z31 f17 g17 t17
  refine⟨ar 18 (by decide) (by decide),?_⟩
  intro cu f18 g18 t18
  refine⟨ar 19 (by decide) (by decide),?_⟩
  intro cM f19 g19 t19
  refine⟨ar 20 (by decide) (by decide),?_⟩
  intro cb f20 g20 t20
  refine⟨ar 21 (by decide) (by decide),?_⟩
  intro b7 f21 g21 t21
  refine⟨ar 22 (by decide) (by decide),?_⟩
  intro cj f22 g22 t22
  refine⟨ar 23 (by decide) (by decide),?_⟩
  intro z37 f23 g23 t23
  refine⟨ar 24 (by decide) (by decide),?_⟩
  intro cQ f24 g24 t24
  refine⟨ar 25 (by decide) (by decide),?_⟩
  intro c6 f25 adf t25
  refine⟨ar 26 (by decide) (by decide),?_⟩
  intro z40 f26 adg t26
  refine⟨ar 27 (by decide) (by decide),?_⟩
  intro cF f27 adh t27
  refine⟨ar 28 (by decide) (by decide),?_⟩
  intro cR f28 adi t28
  refine⟨ar 29 (by decide) (by decide),?_⟩
  intro dD f29 adj t29
  refine⟨ar 30 (by decide) (by decide),?_⟩
  intro c8 f30 adn t30
  refine⟨ar 31 (by decide) (by decide),?_⟩
  intro cH f31 ado t31
  refine⟨ar 32 (by decide) (by decide),?_⟩
  intro z46 f32 adp t32
  refine⟨ar 33 (by decide) (by decide),?_⟩
  intro cm f33 adq t33
  refine⟨ar 34 (by decide) (by decide),?_⟩
  intro dE f34 adr t34
  refine⟨ar 35 (by decide) (by decide),?_⟩
  intro z49 f35 ads t35
  refine⟨ar 36 (by decide) (by decide),?_⟩
  intro cS f36 adt t36
  refine⟨ar 37 (by decide) (by decide),?_⟩
  intro z51 f37 adu t37
  refine⟨ar 38 (by decide) (by decide),?_⟩
  intro dh f38 adv t38
  refine⟨ar 39 (by decide) (by decide),?_⟩
  intro z53 f39 adw t39
  refine⟨ar 40 (by decide) (by decide),?_⟩
  intro eI f40 adz t40
  refine⟨ar 41 (by decide) (by decide),?_⟩
  intro eY f41 adA t41
  refine⟨ar 42 (by decide) (by decide),?_⟩
  intro dF f42 adB t42
  refine⟨ar 43 (by decide) (by decide),?_⟩
  intro dO f43 adC t43
  refine⟨ar 44 (by decide) (by decide),?_⟩
  intro eB f44 adD t44
  refine⟨ar 45 (by decide) (by decide),?_⟩
  intro z59 f45 adE t45
  refine⟨ar 46 (by decide) (by decide),?_⟩
  intro eJ f46 adF t46
  refine⟨ar 47 (by decide) (by decide),?_⟩
  intro hO f47 adG t47
  refine⟨ar 48 (by decide) (by decide),?_⟩
  intro fO f48 adH t48
  refine⟨ar 49 (by decide) (by decide),?_⟩
  intro dP f49 adI t49
  refine⟨ar 50 (by decide) (by decide),?_⟩
  intro fi f50 adL t50
  refine⟨ar 51 (by decide) (by decide),?_⟩
  intro eQ f51 adM t51
  refine⟨ar 52 (by decide) (by decide),?_⟩
  intro eC f52 adN t52
  refine⟨ar 53 (by decide) (by decide),?_⟩
  intro gC f53 adO t53
  refine⟨ar 54 (by decide) (by decide),?_⟩
  intro iB f54 adP t54
  refine⟨ar 55 (by decide) (by decide),?_⟩
  intro fj f55 adQ t55
  refine⟨ar 56 (by decide) (by decide),?_⟩
  intro z70 f56 adR t56
  refine⟨ar 57 (by decide) (by decide),?_⟩
  intro fB f57 adS t57
  refine⟨ar 58 (by decide) (by decide),?_⟩
  intro z72 f58 adT t58
  refine⟨ar 59 (by decide) (by decide),?_⟩
  intro eo f59 adU t59
  refine⟨ar 60 (by decide) (by decide),?_⟩
  intro iC f60 adX t60
  refine⟨ar 61 (by decide) (by decide),?_⟩
  intro z75 f61 adY t61
  refine⟨ar 62 (by decide) (by decide),?_⟩
  intro z76 f62 adZ t62
  refine⟨ar 63 (by decide) (by decide),?_⟩
  intro e6 f63 ad0 t63
  obtain⟨bl,oM⟩:∃l,((cl z0).drop (64*i)).take 64=l:=⟨_,rfl⟩
  have Iu:bl.length=64:=by rw[<-oM,List.length_take,List.length_drop,aB];omega
  have aF:∀(k:Nat) (y z:Int),k<64->y=(k:Int)->z=aA 21 [z0,64*ae+y,0]->z=bl.getD k 0:=fun k y z hk hy hz=>by
   rw[bM hz,<-oM,Rq _ _ _ _ hk]
   congr 1;omega
  have hB:[ah,aD,aP,bd,aM,a8,z20,z21,z22,bH,z24,bn,z26,bO,z28,cx,bZ,z31,cu,cM,cb,b7,cj,z37,cQ,c6,z40,cF,cR,dD,c8,cH,z46,cm,dE,z49,cS,z51,dh,z53,eI,eY,dF,dO,eB,z59,eJ,hO,fO,dP,fi,eQ,eC,gC,iB,fj,z70,fB,z72,eo,iC,z75,z76,e6]=bl:=by
   rw[aF 0 0 ah (by decide) rfl (by rw[Int.add_zero];exact t0),aF 1 1 aD (by decide) rfl t1,aF 2 2 aP (by decide) rfl t2,aF 3 3 bd (by decide) rfl t3,aF 4 4 aM (by decide) rfl t4,aF 5 5 a8 (by decide) rfl t5,aF 6 6 z20 (by decide) rfl t6,aF 7 7 z21 (by decide) rfl t7,aF 8 8 z22 (by decide) rfl t8,aF 9 9 bH (by decide) rfl t9,aF 10 10 z24 (by decide) rfl t10,aF 11 11 bn (by decide) rfl t11,aF 12 12 z26 (by decide) rfl t12,aF 13 13 bO (by decide) rfl t13,aF 14 14 z28 (by decide) rfl t14,aF 15 15 cx (by decide) rfl t15,aF 16 16 bZ (by decide) rfl t16,aF 17 17 z31 (by decide) rfl t17,aF 18 18 cu (by decide) rfl t18,aF 19 19 cM (by decide) rfl t19,aF 20 20 cb (by decide) rfl t20,aF 21 21 b7 (by decide) rfl t21,aF 22 22 cj (by decide) rfl t22,aF 23 23 z37 (by decide) rfl t23,aF 24 24 cQ (by decide) rfl t24,aF 25 25 c6 (by decide) rfl t25,aF 26 26 z40 (by decide) rfl t26,aF 27 27 cF (by decide) rfl t27,aF 28 28 cR (by decide) rfl t28,aF 29 29 dD (by decide) rfl t29,aF 30 30 c8 (by decide) rfl t30,aF 31 31 cH (by decide) rfl t31,aF 32 32 z46 (by decide) rfl t32,aF 33 33 cm (by decide) rfl t33,aF 34 34 dE (by decide) rfl t34,aF 35 35 z49 (by decide) rfl t35,aF 36 36 cS (by decide) rfl t36,aF 37 37 z51 (by decide) rfl t37,aF 38 38 dh (by decide) rfl t38,aF 39 39 z53 (by decide) rfl t39,aF 40 40 eI (by decide) rfl t40,aF 41 41 eY (by decide) rfl t41,aF 42 42 dF (by decide) rfl t42,aF 43 43 dO (by decide) rfl t43,aF 44 44 eB (by decide) rfl t44,aF 45 45 z59 (by decide) rfl t45,aF 46 46 eJ (by decide) rfl t46,aF 47 47 hO (by decide) rfl t47,aF 48 48 fO (by decide) rfl t48,aF 49 49 dP (by decide) rfl t49,aF 50 50 fi (by decide) rfl t50,aF 51 51 eQ (by decide) rfl t51,aF 52 52 eC (by decide) rfl t52,aF 53 53 gC (by decide) rfl t53,aF 54 54 iB (by decide) rfl t54,aF 55 55 fj (by decide) rfl t55,aF 56 56 z70 (by decide) rfl t56,aF 57 57 fB (by decide) rfl t57,aF 58 58 z72 (by decide) rfl t58,aF 59 59 eo (by decide) rfl t59,aF 60 60 iC (by decide) rfl t60,aF 61 61 z75 (by decide) rfl t61,aF 62 62 z76 (by decide) rfl t62,aF 63 63 e6 (by decide) rfl t63]
   exact(BJ bl 64 Iu).symm
  have qA:uv cC bl=[((16777216*ah)+((65536*aD)+((256*aP)+bd))),((16777216*aM)+((65536*a8)+((256*z20)+z21))),((16777216*z22)+((65536*bH)+((256*z24)+bn))),((16777216*z26)+((65536*bO)+((256*z28)+cx))),((16777216*bZ)+((65536*z31)+((256*cu)+cM))),((16777216*cb)+((65536*b7)+((256*cj)+z37))),((16777216*cQ)+((65536*c6)+((256*z40)+cF))),((16777216*cR)+((65536*dD)+((256*c8)+cH))),((16777216*z46)+((65536*cm)+((256*dE)+z49))),((16777216*cS)+((65536*z51)+((256*dh)+z53))),((16777216*eI)+((65536*eY)+((256*dF)+dO))),((16777216*eB)+((65536*z59)+((256*eJ)+hO))),((16777216*fO)+((65536*dP)+((256*fi)+eQ))),((16777216*eC)+((65536*gC)+((256*iB)+fj))),((16777216*z70)+((65536*fB)+((256*z72)+eo))),((16777216*iC)+((65536*z75)+((256*z76)+e6)))]:=by
   rw[<-hB]
   show [((((0*256+ah)*256+aD)*256+aP)*256+bd),((((0*256+aM)*256+a8)*256+z20)*256+z21),((((0*256+z22)*256+bH)*256+z24)*256+bn),((((0*256+z26)*256+bO)*256+z28)*256+cx),((((0*256+bZ)*256+z31)*256+cu)*256+cM),((((0*256+cb)*256+b7)*256+cj)*256+z37),((((0*256+cQ)*256+c6)*256+z40)*256+cF),((((0*256+cR)*256+dD)*256+c8)*256+cH),((((0*256+z46)*256+cm)*256+dE)*256+z49),((((0*256+cS)*256+z51)*256+dh)*256+z53),((((0*256+eI)*256+eY)*256+dF)*256+dO),((((0*256+eB)*256+z59)*256+eJ)*256+hO),((((0*256+fO)*256+dP)*256+fi)*256+eQ),((((0*256+eC)*256+gC)*256+iB)*256+fj),((((0*256+z70)*256+fB)*256+z72)*256+eo),((((0*256+iC)*256+z75)*256+z76)*256+e6)]=_
   simp only[List.cons.injEq,and_true]
   refine⟨by omega,by omega,by omega,by omega,by omega,by omega,by omega,by omega,by omega,by omega,by omega,by omega,by omega,by omega,by omega,by omega⟩
  obtain⟨ws,xn⟩:∃l,uv cC bl=l:=⟨_,rfl⟩
  intro fk x0 y0 u0 jj x1 y1 nz iP x2 y2 rC gD fg yr sT gO eX AA DH hP e5 AB Nq jx fh AD Nr z85 ib AE Ns kO jd AF u8 z87 je AG Nu gj jv Ax Nj hQ eH yq Nk gP fy Ay Nl z91 iN Az Nn gk rD DK No z93 rE DL Np
  have v0:=fa (l:=[]) u0 fL
  have v1:=fa nz v0
  have v2:=fa rC v1
  have v3:=fa sT v2
  have v4:=fa DH v3
  have v5:=fa Nq v4
  have v6:=fa Nr v5
  have Nz:=fa Ns v6
  have NB:=fa u8 Nz
  have v9:=fa Nu NB
  have v10:=fa Nj v9
  have v11:=fa Nk v10
  have v12:=fa Nl v11
  have Nw:=fa Nn v12
  have Nx:=fa No Nw
  have Ny:=fa Np Nx
  have hr:aa z93=rws ws:=by
   rw[<-xn,qA];exact Ny
  have wl:ws.length=16:=by rw[<-xn];simp[uv]
  refine⟨by show(aa z93).length<=1000000;rw[hr,lT,wl];decide,?_⟩
  intro iQ i0 i1 fZ gm kc k1 gQ m0 iw n0
  have fZ:aa iQ=aa z93:=fZ
  rw[hr]at fZ
  have n0:gQ=((aa iQ).length:Int):=n0
  rw[fZ,lT,wl]at n0
  refine⟨fun l=>∃(j:Nat) (c k:Int),j<=48/\l=[[((16+j:Nat):Int)],[c],[((16+j:Nat):Int)],[k]]/\aa c=rws (pF cC j ws),fun l=>(64-(l.getD 0 []).getD 0 0).toNat,⟨0,iQ,gm,Nat.zero_le _,by rw[n0];rfl,fZ⟩,?_⟩
  intro dS zV o1 fP p0 p1 hJ kg bo iz af r1 ⟨j,c,bk,hj,hl,hc⟩
  simp only[List.cons.injEq,and_true]at hl
  obtain⟨nS,mF,Ct,agr⟩:=hl
  subst mF
  obtain⟨ba,iI⟩:∃l,pF cC j ws=l:=⟨_,rfl⟩
  rw[iI]at hc
  have C7:ba.length=16+j:=by rw[<-iI,Jl,wl]
  have qt:((aa fP).length:Int)=16+(j:Int):=by rw[hc,lT,C7];omega
  refine⟨fun hlt=>?_,fun hge=>?_⟩
  ·have hlt:=of_decide_eq_true hlt
   refine⟨⟨by omega,by omega⟩,⟨by omega,by rw[qt];omega⟩,fun ic eb s1 s2=>⟨⟨by omega,by omega⟩,⟨by omega,by rw[qt];omega⟩,fun jg aoJ aoL Nd gh aoW aoX ur z105 aq5 aq6 aq7 aq8=>⟨⟨by omega,by omega⟩,⟨by omega,by rw[qt];omega⟩,fun jw w0 w1 w2 z107 arW arX arn aro=>⟨⟨by omega,by omega⟩,⟨by omega,by rw[qt];omega⟩,fun kj asu asv NL z109 A3 A4 mY pj Iq Ir qp aaF=>⟨by show hJ=((aa fP).length:Int);omega,by show((aa fP).length:Int)+1<=1073741824;omega,fun ey IK IL wD fA I2 I3=>?_⟩⟩⟩⟩⟩
   have ur:[[gh]]=[[yc cC jg]]:=ur
   have mY:[[z109]]=[[yd cC kj]]:=mY
   simp only[List.cons.injEq,and_true]at ur mY
   have e1:=rY s2 hc
   have e2:=rY Nd hc
   have bu:=rY w2 hc
   have eK:=rY NL hc
   have KJ:ic+(gh+((-4294967296)*z105+(jw+((-4294967296)*z107+(z109+(-4294967296)*pj)))))=vw cC ba:=by
    unfold vw
    rw[zP,C7,show 16+j-16=(dS+-16).toNat by omega,show 16+j-15=(dS+-15).toNat by omega,show 16+j-7=(dS+-7).toNat by omega,show 16+j-2=(dS+-2).toNat by omega,<-e1,<-e2,<-bu,<-eK,<-ur,<-mY]
    omega
   have fH:=fa wD hc
   rw[KJ]at fH
   refine⟨⟨j+1,ey,fA,by omega,by rw[show dS+1=((16+(j+1):Nat):Int) by omega,show hJ+1=((16+(j+1):Nat):Int) by omega],by rw[Jm,iI];exact fH⟩,?_⟩
   show(64-(dS+1)).toNat<(64-dS).toNat
   omega
  ·have hge:=of_decide_eq_false hge
   have Kw:j=48:=by omega
   have K2:sched cC ws=ba:=by rw[<-iI,Kw];rfl
   refine⟨fun l=>∃(t:Nat),t<=64/\l=[uh cC 0 (ba.take t) aj,[(t:Int)]],fun l=>(64-(l.getD 1 []).getD 0 0).toNat,⟨0,Nat.zero_le _,rfl⟩,?_⟩
   intro ei KX ey eb s1 ⟨t,ht,hl⟩
   simp only[List.cons.injEq,and_true]at hl
   obtain⟨hv,ahB⟩:=hl
   obtain⟨tQ,Qn⟩:=CR 8 ei KX
   refine⟨fun hlt=>?_,fun Cj=>?_⟩
   ·have hlt:=of_decide_eq_true hlt
    refine⟨⟨by omega,by omega⟩,⟨by omega,by rw[qt];omega⟩,?_⟩
    intro fA A3 A4 mY fN Iq Ir qp eP IK IL wD IM gz I2 I3 I4 z116 acM acN Jg z117 acZ ac0 Jo eU ad2 ad3 JC JD
    refine⟨⟨by omega,by omega⟩,?_⟩
    intro z119 Ck af9 qM jT ahK ahL Ln Lo gA ahS ahT Lu Lv hL ail aim tO jU aiY aiZ LN z124 ajq ajr LX jh ajA ajB L2 nA akV akW Mb z127 amM amN Mm iA amX amY amZ am0 ji ano anp DA DB z130 an4 an5 M4 M5 z131 aoK aoM aoN aoO
    have CH:t<64:=by omega
    have I9:z131=0:=by omega
    have ex:=rY mY hc
    rw[show ey.toNat=t by omega]at ex
    have qp:[[fN]]=[[td cC (ei.getD 4 0)]]:=qp
    have qM:[[z119]]=[[x3 cC ey.toNat]]:=qM
    have tO:[[hL]]=[[tc cC (ei.getD 0 0)]]:=tO
    simp only[List.cons.injEq,and_true]at qp qM tO
    rw[show ey.toNat=t by omega]at qM
    have iW:z117=wE cC (ei.getD 4 0) (ei.getD 5 0) (ei.getD 6 0):=by
     rw[Jo,I4,Jg]
     unfold wE
     rw[show(2:Int)^cC.w-1-ei.getD 4 0=-1*ei.getD 4 0+4294967295 by rw[show(2:Int)^cC.w=4294967296 by decide];omega]
     rfl
    have KG:z127=C5 cC (ei.getD 0 0) (ei.getD 1 0) (ei.getD 2 0):=by
     rw[Mm,L2,LX,LN,Mb];rfl
    obtain⟨A,hA⟩:∃A,ei.getD 0 0=A:=⟨_,rfl⟩
    obtain⟨D,hD⟩:∃A,ei.getD 3 0=A:=⟨_,rfl⟩
    obtain⟨H,BX⟩:∃A,ei.getD 7 0=A:=⟨_,rfl⟩
    rw[BX]at wD IM JC JD Ln Lo Lu Lv DA DB M4 M5⊢
    rw[hD]at DA DB⊢
    have xk:=an7 t fA tQ
    rw[BX,hD,<-qp,<-iW,<-qM,<-tO,<-KG]at xk
    have bm:md cC (H+fN+z117+z119+fA)=H+(fA+(fN+((-4294967296)*eP+(z117+((-4294967296)*eU+(z119+((-4294967296)*jT+(-4294967296)*gA))))))):=by
     rw[zP];omega
    have JT:md cC (hL+z127)=hL+(z127+(-4294967296)*iA):=by
     rw[zP];omega
    simp only[bm,JT]at xk
    refine⟨⟨by omega,by omega⟩,⟨t+1,by omega,?_⟩,?_⟩
    ·rw[WK ba t (by omega),MK,<-hv,show 0+(ba.take t).length=t by rw[List.length_take];omega,<-ex,xk,I9]
     simp only[List.cons.injEq,and_true]
     refine⟨⟨?_,trivial,trivial,trivial,?_⟩,?_⟩
     ·rw[zP];exact Gc (k:=z130) (by omega) (by omega) (by omega)
     ·rw[zP];exact Gc (k:=ji) (by omega) (by omega) (by omega)
     ·omega
    ·show(64-(ey+-18446744073709551616*z131+1)).toNat<(64-ey).toNat
     omega
   ·have Cj:=of_decide_eq_false Cj
    intro fA A3 YT Y1 Za fN A4 YU Y2 Zb eP mY YV Y3 Zc gz YO YW Y4 Zd z116 YP YX Y5 Ze z117 YQ YY Y6 Zf eU YR YZ Y7 Zg z119 YS Y0 Y8 Zh
    have CH:t=64:=by omega
    have Kf:ba.take t=ba:=List.take_of_length_le (by omega)
    rw[Kf]at hv
    have lL:uo cC aj ws=[aj.getD 0 0+(ei.getD 0 0+(-4294967296)*fA),aj.getD 1 0+(ei.getD 1 0+(-4294967296)*fN),aj.getD 2 0+(ei.getD 2 0+(-4294967296)*eP),aj.getD 3 0+(ei.getD 3 0+(-4294967296)*gz),aj.getD 4 0+(ei.getD 4 0+(-4294967296)*z116),aj.getD 5 0+(ei.getD 5 0+(-4294967296)*z117),aj.getD 6 0+(ei.getD 6 0+(-4294967296)*eU),aj.getD 7 0+(ei.getD 7 0+(-4294967296)*z119)]:=by
     unfold uo
     rw[K2,<-hv,asA _ tP tQ]
     simp only[zP,List.cons.injEq,and_true]
     refine⟨by omega,by omega,by omega,by omega,by omega,by omega,by omega,by omega⟩
    refine⟨⟨i+1,by omega,?_⟩,?_⟩
    ·rw[<-lL,u6]
     show _=[uo cC (wB cC (cl z0) i (pw cC)) (uv cC (((cl z0).drop (64*i)).take 64)),_]
     rw[oM,xn,show ae+1=((i+1:Nat):Int) by omega]
    ·show((q:Int)-(ae+1)).toNat<((q:Int)-ae).toNat
     omega
 ·have h:=of_decide_eq_false h
  have Cn:i=q:=by omega
  have hall:oy cC (cl z0)=sw cC aj:=by
   unfold oy
   rw[aB,show 2*cC.w=64 from rfl,Nat.mul_div_cancel_left q (by decide),<-Cn,<-u6]
  have gr:sw cC aj=((((((([]++(List.range 4).map (j4 cC (aj.getD 0 0)))++(List.range 4).map (j4 cC (aj.getD 1 0)))++(List.range 4).map (j4 cC (aj.getD 2 0)))++(List.range 4).map (j4 cC (aj.getD 3 0)))++(List.range 4).map (j4 cC (aj.getD 4 0)))++(List.range 4).map (j4 cC (aj.getD 5 0)))++(List.range 4).map (j4 cC (aj.getD 6 0)))++(List.range 4).map (j4 cC (aj.getD 7 0)):=by
   conv=>lhs;rw[Ut tP]
   rfl
  refine vR (pre:=[]) fL rfl (by simp) fun aaZ ait ahU p0 p1 h0 I8=>?_
  refine vR h0 (by rw[I8];simp) (by simp) fun aa0 Lz ahV p2 p3 h1 yV=>?_
  refine vR h1 (by rw[yV];simp) (by simp) fun aa1 LA ahW dx dy h2 Bu=>?_
  refine vR h2 (by rw[Bu];simp) (by simp) fun Bi aiw ahX fc lp h3 Bv=>?_
  refine vR h3 (by rw[Bv];simp) (by simp) fun aba aix ahZ ru Mh h4 Jc=>?_
  refine vR h4 (by rw[Jc];simp) (by simp) fun abg aiA ah0 Mg ak6 h5 Bw=>?_
  refine vR h5 (by rw[Bw];simp) (by simp) fun abl aiB ah1 ak7 ak8 h6 Bx=>?_
  refine vR h6 (by rw[Bx];simp) (by simp) fun Bj LB ah3 ak9 ala h7 Je=>?_
  have Cu:aa Bj=rws (sw cC aj):=by rw[h7,gr]
  have LM:LB=((aa Bj).length:Int):=by rw[h7,lT,Je];simp
  refine⟨⟨Int.le_refl _,by omega,by omega⟩,fun N7 x0 x1 x2=>⟨⟨x0,x1,trivial⟩,?_⟩⟩
  have hf:=mQ x2 LM
  show cl N7=oy cC (cl z0)
  rw[hall]
  exact Be (by rw[hf,Cu])
end Go.ck

set_option maxRecDepth 100000
set_option linter.unusedVariables false
set_option linter.unusedSimpArgs false
namespace Go.ck
open Go Go.bj
def Of (S:Nat->List (List Int)->List (List Int)->Prop) (K:List (List Int)->List (List Int)->Prop):Prop:=
 c9 fun z0=>(ab 73 [z0]->cK fun ag=>bW fun z2=>bp 20 [z0] fun z3=>ab 70 [z3,128]/\∃(lB:List (List Int)->Prop) (mu:List (List Int)->
 Nat),lB
 [[7640891576956012808,13503953896175478587,4354685564936845355,11912009170470909681,5840696475078001361,11170449401992604703,2270897969802886507,6620516959819538809],[0]]
 /\(∀aj:List Int,av (a7 0 18446744073709551615 8) aj->fe fun ae=>lB [aj,[ae]]->(aC (decide ((128*ae)<z3)) (ab 21 [z0,(128*ae)]/\ak 21
 [z0,(128*ae),0] fun ah=>ab 21 [z0,((128*ae)+1)]/\ak 21 [z0,((128*ae)+1),0] fun aD=>ab 21 [z0,((128*ae)+2)]/\ak 21 [z0,((128*
 ae)+2),0] fun aP=>ab 21 [z0,((128*ae)+3)]/\ak 21 [z0,((128*ae)+3),0] fun bd=>ab 21 [z0,((128*ae)+4)]/\ak 21 [z0,((128*ae)+
 4),0] fun aM=>ab 21 [z0,((128*ae)+5)]/\ak 21 [z0,((128*ae)+5),0] fun a8=>ab 21 [z0,((128*ae)+6)]/\ak 21 [z0,((128*ae)+6),0]
 fun z20=>ab 21 [z0,((128*ae)+7)]/\ak 21 [z0,((128*ae)+7),0] fun z21=>ab 21 [z0,((128*ae)+8)]/\ak 21 [z0,((128*ae)+8),0] fun z22
 =>ab 21 [z0,((128*ae)+9)]/\ak 21 [z0,((128*ae)+9),0] fun bH=>ab 21 [z0,((128*ae)+10)]/\ak 21 [z0,((128*ae)+10),0] fun z24=>
 ab 21 [z0,((128*ae)+11)]/\ak 21 [z0,((128*ae)+11),0] fun bn=>ab 21 [z0,((128*ae)+12)]/\ak 21 [z0,((128*ae)+12),0] fun z26=>
 ab 21 [z0,((128*ae)+13)]/\ak 21 [z0,((128*ae)+13),0] fun bO=>ab 21 [z0,((128*ae)+14)]/\ak 21 [z0,((128*ae)+14),0] fun z28=>
 ab 21 [z0,((128*ae)+15)]/\ak 21 [z0,((128*ae)+15),0] fun cx=>ab 21 [z0,((128*ae)+16)]/\ak 21 [z0,((128*ae)+16),0] fun bZ=>
 ab 21 [z0,((128*ae)+17)]/\ak 21 [z0,((128*ae)+17),0] fun z31=>ab 21 [z0,((128*ae)+18)]/\ak 21 [z0,((128*ae)+18),0] fun cu=>
 ab 21 [z0,((128*ae)+19)]/\ak 21 [z0,((128*ae)+19),0] fun cM=>ab 21 [z0,((128*ae)+20)]/\ak 21 [z0,((128*ae)+20),0] fun cb=>
 ab 21 [z0,((128*ae)+21)]/\ak 21 [z0,((128*ae)+21),0] fun b7=>ab 21 [z0,((128*ae)+22)]/\ak 21 [z0,((128*ae)+22),0] fun cj=>
 ab 21 [z0,((128*ae)+23)]/\ak 21 [z0,((128*ae)+23),0] fun z37=>ab 21 [z0,((128*ae)+24)]/\ak 21 [z0,((128*ae)+24),0] fun cQ=>
 ab 21 [z0,((128*ae)+25)]/\ak 21 [z0,((128*ae)+25),0] fun c6=>ab 21 [z0,((128*ae)+26)]/\ak 21 [z0,((128*ae)+26),0] fun z40=>
 ab 21 [z0,((128*ae)+27)]/\ak 21 [z0,((128*ae)+27),0] fun cF=>ab 21 [z0,((128*ae)+28)]/\ak 21 [z0,((128*ae)+28),0] fun cR=>
 ab 21 [z0,((128*ae)+29)]/\ak 21 [z0,((128*ae)+29),0] fun dD=>ab 21 [z0,((128*ae)+30)]/\ak 21 [z0,((128*ae)+30),0] fun c8=>
 ab 21 [z0,((128*ae)+31)]/\ak 21 [z0,((128*ae)+31),0] fun cH=>ab 21 [z0,((128*ae)+32)]/\ak 21 [z0,((128*ae)+32),0] fun z46=>
 ab 21 [z0,((128*ae)+33)]/\ak 21 [z0,((128*ae)+33),0] fun cm=>ab 21 [z0,((128*ae)+34)]/\ak 21 [z0,((128*ae)+34),0] fun dE=>
 ab 21 [z0,((128*ae)+35)]/\ak 21 [z0,((128*ae)+35),0] fun z49=>ab 21 [z0,((128*ae)+36)]/\ak 21 [z0,((128*ae)+36),0] fun cS=>
 ab 21 [z0,((128*ae)+37)]/\ak 21 [z0,((128*ae)+37),0] fun z51=>ab 21 [z0,((128*ae)+38)]/\ak 21 [z0,((128*ae)+38),0] fun dh=>
 ab 21 [z0,((128*ae)+39)]/\ak 21 [z0,((128*ae)+39),0] fun z53=>ab 21 [z0,((128*ae)+40)]/\ak 21 [z0,((128*ae)+40),0] fun eI=>
 ab 21 [z0,((128*ae)+41)]/\ak 21 [z0,((128*ae)+41),0] fun eY=>ab 21 [z0,((128*ae)+42)]/\ak 21 [z0,((128*ae)+42),0] fun dF=>
 ab 21 [z0,((128*ae)+43)]/\ak 21 [z0,((128*ae)+43),0] fun dO=>ab 21 [z0,((128*ae)+44)]/\ak 21 [z0,((128*ae)+44),0] fun eB=>
 ab 21 [z0,((128*ae)+45)]/\ak 21 [z0,((128*ae)+45),0] fun z59=>ab 21 [z0,((128*ae)+46)]/\ak 21 [z0,((128*ae)+46),0] fun eJ=>
 ab 21 [z0,((128*ae)+47)]/\ak 21 [z0,((128*ae)+47),0] fun hO=>ab 21 [z0,((128*ae)+48)]/\ak 21 [z0,((128*ae)+48),0] fun fO=>
 ab 21 [z0,((128*ae)+49)]/\ak 21 [z0,((128*ae)+49),0] fun dP=>ab 21 [z0,((128*ae)+50)]/\ak 21 [z0,((128*ae)+50),0] fun fi=>
 ab 21 [z0,((128*ae)+51)]/\ak 21 [z0,((128*ae)+51),0] fun eQ=>ab 21 [z0,((128*ae)+52)]/\ak 21 [z0,((128*ae)+52),0] fun eC=>
 ab 21 [z0,((128*ae)+53)]/\ak 21 [z0,((128*ae)+53),0] fun gC=>ab 21 [z0,((128*ae)+54)]/\ak 21 [z0,((128*ae)+54),0] fun iB=>
 ab 21 [z0,((128*ae)+55)]/\ak 21 [z0,((128*ae)+55),0] fun fj=>ab 21 [z0,((128*ae)+56)]/\ak 21 [z0,((128*ae)+56),0] fun z70=>
 ab 21 [z0,((128*ae)+57)]/\ak 21 [z0,((128*ae)+57),0] fun fB=>ab 21 [z0,((128*ae)+58)]/\ak 21 [z0,((128*ae)+58),0] fun z72=>
 ab 21 [z0,((128*ae)+59)]/\ak 21 [z0,((128*ae)+59),0] fun eo=>ab 21 [z0,((128*ae)+60)]/\ak 21 [z0,((128*ae)+60),0] fun iC=>
 ab 21 [z0,((128*ae)+61)]/\ak 21 [z0,((128*ae)+61),0] fun z75=>ab 21 [z0,((128*ae)+62)]/\ak 21 [z0,((128*ae)+62),0] fun z76=>
 ab 21 [z0,((128*ae)+63)]/\ak 21 [z0,((128*ae)+63),0] fun e6=>ab 21 [z0,((128*ae)+64)]/\ak 21 [z0,((128*ae)+64),0] fun fk=>
 ab 21 [z0,((128*ae)+65)]/\ak 21 [z0,((128*ae)+65),0] fun jj=>ab 21 [z0,((128*ae)+66)]/\ak 21 [z0,((128*ae)+66),0] fun iP=>
 ab 21 [z0,((128*ae)+67)]/\ak 21 [z0,((128*ae)+67),0] fun gD=>ab 21 [z0,((128*ae)+68)]/\ak 21 [z0,((128*ae)+68),0] fun gO=>
 ab 21 [z0,((128*ae)+69)]/\ak 21 [z0,((128*ae)+69),0] fun hP=>ab 21 [z0,((128*ae)+70)]/\ak 21 [z0,((128*ae)+70),0] fun jx=>
 ab 21 [z0,((128*ae)+71)]/\ak 21 [z0,((128*ae)+71),0] fun z85=>ab 21 [z0,((128*ae)+72)]/\ak 21 [z0,((128*ae)+72),0] fun kO=>
 ab 21 [z0,((128*ae)+73)]/\ak 21 [z0,((128*ae)+73),0] fun z87=>ab 21 [z0,((128*ae)+74)]/\ak 21 [z0,((128*ae)+74),0] fun gj=>
 ab 21 [z0,((128*ae)+75)]/\ak 21 [z0,((128*ae)+75),0] fun hQ=>ab 21 [z0,((128*ae)+76)]/\ak 21 [z0,((128*ae)+76),0] fun gP=>
 ab 21 [z0,((128*ae)+77)]/\ak 21 [z0,((128*ae)+77),0] fun z91=>ab 21 [z0,((128*ae)+78)]/\ak 21 [z0,((128*ae)+78),0] fun gk=>
 ab 21 [z0,((128*ae)+79)]/\ak 21 [z0,((128*ae)+79),0] fun z93=>ab 21 [z0,((128*ae)+80)]/\ak 21 [z0,((128*ae)+80),0] fun iQ=>
 ab 21 [z0,((128*ae)+81)]/\ak 21 [z0,((128*ae)+81),0] fun gm=>ab 21 [z0,((128*ae)+82)]/\ak 21 [z0,((128*ae)+82),0] fun gQ=>
 ab 21 [z0,((128*ae)+83)]/\ak 21 [z0,((128*ae)+83),0] fun jV=>ab 21 [z0,((128*ae)+84)]/\ak 21 [z0,((128*ae)+84),0] fun dS=>
 ab 21 [z0,((128*ae)+85)]/\ak 21 [z0,((128*ae)+85),0] fun fP=>ab 21 [z0,((128*ae)+86)]/\ak 21 [z0,((128*ae)+86),0] fun hJ=>
 ab 21 [z0,((128*ae)+87)]/\ak 21 [z0,((128*ae)+87),0] fun iz=>ab 21 [z0,((128*ae)+88)]/\ak 21 [z0,((128*ae)+88),0] fun ic=>
 ab 21 [z0,((128*ae)+89)]/\ak 21 [z0,((128*ae)+89),0] fun jg=>ab 21 [z0,((128*ae)+90)]/\ak 21 [z0,((128*ae)+90),0] fun gh=>
 ab 21 [z0,((128*ae)+91)]/\ak 21 [z0,((128*ae)+91),0] fun z105=>ab 21 [z0,((128*ae)+92)]/\ak 21 [z0,((128*ae)+92),0] fun jw=>
 ab 21 [z0,((128*ae)+93)]/\ak 21 [z0,((128*ae)+93),0] fun z107=>ab 21 [z0,((128*ae)+94)]/\ak 21 [z0,((128*ae)+94),0] fun kj=>
 ab 21 [z0,((128*ae)+95)]/\ak 21 [z0,((128*ae)+95),0] fun z109=>ab 21 [z0,((128*ae)+96)]/\ak 21 [z0,((128*ae)+96),0] fun pj=>
 ab 21 [z0,((128*ae)+97)]/\ak 21 [z0,((128*ae)+97),0] fun ey=>ab 21 [z0,((128*ae)+98)]/\ak 21 [z0,((128*ae)+98),0] fun fA=>
 ab 21 [z0,((128*ae)+99)]/\ak 21 [z0,((128*ae)+99),0] fun fN=>ab 21 [z0,((128*ae)+100)]/\ak 21 [z0,((128*ae)+100),0] fun eP=>
 ab 21 [z0,((128*ae)+101)]/\ak 21 [z0,((128*ae)+101),0] fun gz=>ab 21 [z0,((128*ae)+102)]/\ak 21 [z0,((128*ae)+102),0] fun z116
 =>ab 21 [z0,((128*ae)+103)]/\ak 21 [z0,((128*ae)+103),0] fun z117=>ab 21 [z0,((128*ae)+104)]/\ak 21 [z0,((128*ae)+104),0] fun
 eU=>ab 21 [z0,((128*ae)+105)]/\ak 21 [z0,((128*ae)+105),0] fun z119=>ab 21 [z0,((128*ae)+106)]/\ak 21 [z0,((128*ae)+106),0]
 fun jT=>ab 21 [z0,((128*ae)+107)]/\ak 21 [z0,((128*ae)+107),0] fun gA=>ab 21 [z0,((128*ae)+108)]/\ak 21 [z0,((128*ae)+
 108),0] fun hL=>ab 21 [z0,((128*ae)+109)]/\ak 21 [z0,((128*ae)+109),0] fun jU=>ab 21 [z0,((128*ae)+110)]/\ak 21 [z0,((128*ae)
 +110),0] fun z124=>ab 21 [z0,((128*ae)+111)]/\ak 21 [z0,((128*ae)+111),0] fun jh=>ab 21 [z0,((128*ae)+112)]/\ak 21 [z0,((128*
 ae)+112),0] fun nA=>ab 21 [z0,((128*ae)+113)]/\ak 21 [z0,((128*ae)+113),0] fun z127=>ab 21 [z0,((128*ae)+114)]/\ak 21 [z0,((128
 *ae)+114),0] fun iA=>ab 21 [z0,((128*ae)+115)]/\ak 21 [z0,((128*ae)+115),0] fun ji=>ab 21 [z0,((128*ae)+116)]/\ak 21
 [z0,((128*ae)+116),0] fun z130=>ab 21 [z0,((128*ae)+117)]/\ak 21 [z0,((128*ae)+117),0] fun z131=>ab 21 [z0,((128*ae)+118)]/\ak
 21 [z0,((128*ae)+118),0] fun sW=>ab 21 [z0,((128*ae)+119)]/\ak 21 [z0,((128*ae)+119),0] fun sX=>ab 21 [z0,((128*ae)+120)]/\
 ak 21 [z0,((128*ae)+120),0] fun mr=>ab 21 [z0,((128*ae)+121)]/\ak 21 [z0,((128*ae)+121),0] fun nB=>ab 21 [z0,((128*ae)+122)]
 /\ak 21 [z0,((128*ae)+122),0] fun nC=>ab 21 [z0,((128*ae)+123)]/\ak 21 [z0,((128*ae)+123),0] fun uA=>ab 21 [z0,((128*ae)+
 124)]/\ak 21 [z0,((128*ae)+124),0] fun z138=>ab 21 [z0,((128*ae)+125)]/\ak 21 [z0,((128*ae)+125),0] fun z139=>ab 21 [z0,((128*ae)
 +126)]/\ak 21 [z0,((128*ae)+126),0] fun sY=>ab 21 [z0,((128*ae)+127)]/\ak 21 [z0,((128*ae)+127),0] fun z141=>aI 23
 [0,((72057594037927936*ah)+((281474976710656*aD)+((1099511627776*aP)+((4294967296*bd)+((16777216*aM)+((65536*a8)+((256*z20)+
 z21)))))))] fun rG=>aI 23 [rG,((72057594037927936*z22)+((281474976710656*bH)+((1099511627776*z24)+((4294967296*bn)+((16777216*z26)+
 ((65536*bO)+((256*z28)+cx)))))))] fun z143=>aI 23 [z143,((72057594037927936*bZ)+((281474976710656*z31)+((1099511627776*cu)+
 ((4294967296*cM)+((16777216*cb)+((65536*b7)+((256*cj)+z37)))))))] fun DM=>aI 23 [DM,((72057594037927936*cQ)+((281474976710656*
 c6)+((1099511627776*z40)+((4294967296*cF)+((16777216*cR)+((65536*dD)+((256*c8)+cH)))))))] fun z145=>aI 23
 [z145,((72057594037927936*z46)+((281474976710656*cm)+((1099511627776*dE)+((4294967296*z49)+((16777216*cS)+((65536*z51)+((256*dh)+
 z53)))))))] fun z146=>aI 23 [z146,((72057594037927936*eI)+((281474976710656*eY)+((1099511627776*dF)+((4294967296*dO)+((16777216*eB)+
 ((65536*z59)+((256*eJ)+hO)))))))] fun AH=>aI 23 [AH,((72057594037927936*fO)+((281474976710656*dP)+((1099511627776*fi)+
 ((4294967296*eQ)+((16777216*eC)+((65536*gC)+((256*iB)+fj)))))))] fun z148=>aI 23 [z148,((72057594037927936*z70)+((281474976710656*
 fB)+((1099511627776*z72)+((4294967296*eo)+((16777216*iC)+((65536*z75)+((256*z76)+e6)))))))] fun rH=>aI 23
 [rH,((72057594037927936*fk)+((281474976710656*jj)+((1099511627776*iP)+((4294967296*gD)+((16777216*gO)+((65536*hP)+((256*jx)+
 z85)))))))] fun rI=>aI 23 [rI,((72057594037927936*kO)+((281474976710656*z87)+((1099511627776*gj)+((4294967296*hQ)+((16777216*gP)+
 ((65536*z91)+((256*gk)+z93)))))))] fun DN=>aI 23 [DN,((72057594037927936*iQ)+((281474976710656*gm)+((1099511627776*gQ)+
 ((4294967296*jV)+((16777216*dS)+((65536*fP)+((256*hJ)+iz)))))))] fun z152=>aI 23 [z152,((72057594037927936*ic)+((281474976710656
 *jg)+((1099511627776*gh)+((4294967296*z105)+((16777216*jw)+((65536*z107)+((256*kj)+z109)))))))] fun AI=>aI 23
 [AI,((72057594037927936*pj)+((281474976710656*ey)+((1099511627776*fA)+((4294967296*fN)+((16777216*eP)+((65536*gz)+((256*
 z116)+z117)))))))] fun z154=>aI 23 [z154,((72057594037927936*eU)+((281474976710656*z119)+((1099511627776*jT)+((4294967296*gA)+
 ((16777216*hL)+((65536*jU)+((256*z124)+jh)))))))] fun pk=>aI 23 [pk,((72057594037927936*nA)+((281474976710656*z127)+
 ((1099511627776*iA)+((4294967296*ji)+((16777216*z130)+((65536*z131)+((256*sW)+sX)))))))] fun z156=>aI 23 [z156,((72057594037927936
 *mr)+((281474976710656*nB)+((1099511627776*nC)+((4294967296*uA)+((16777216*z138)+((65536*z139)+((256*sY)+z141)))))))] fun
 z157=>ab 66 [z157]/\c9 fun sZ=>S 463 [[z157]] [[sZ]]->bW fun z159=>bp 20 [sZ] fun z160=>∃(HD:List (List Int)->Prop) (Xf:List
 (List Int)->Nat),HD [[16],[sZ],[z160],[z159]]/\(en 16 9223372036854775807 fun z162=>c9 fun hM=>fe fun z164=>bW fun qd=>HD
 [[z162],[hM],[z164],[qd]]->(aC (decide (z162<80)) (ab 30 [(z162+(-16)),z164]/\ab 21 [hM,(z162+(-16))]/\Dl 21 [hM,(z162+(-16)),0] fun
 s0=>ab 30 [(z162+(-15)),z164]/\ab 21 [hM,(z162+(-15))]/\Dl 21 [hM,(z162+(-15)),0] fun z167=>bB fun z168=>S 450 [[z167]] [[z168]]->bg
 (s0+z168) 18446744073709551616 fun qe=>ab 30 [(z162+(-7)),z164]/\ab 21 [hM,(z162+(-7))]/\Dl 21 [hM,(z162+(-7)),0] fun qf=>bg (s0
 +(z168+(((-18446744073709551616)*qe)+qf))) 18446744073709551616 fun z171=>ab 30 [(z162+(-2)),z164]/\ab 21 [hM,(z162+(-2))]/\Dl 21
 [hM,(z162+(-2)),0] fun vV=>bB fun z173=>S 451 [[vV]] [[z173]]->bg (s0+(z168+(((-18446744073709551616)*qe)+(qf+
 (((-18446744073709551616)*z171)+z173))))) 18446744073709551616 fun qg=>ab 31 [hM,z164]/\ab 23 [hM,1]/\aI 23 [hM,(s0+(z168+
 (((-18446744073709551616)*qe)+(qf+(((-18446744073709551616)*z171)+(z173+((-18446744073709551616)*qg)))))))] fun z175=>bW fun gB=>(HD
 [[(z162+1)],[z175],[(z164+1)],[gB]]/\Xf [[(z162+1)],[z175],[(z164+1)],[gB]]<Xf [[z162],[hM],[z164],[qd]])) (∃(HE:List (List Int)->
 Prop) (Xg:List (List Int)->Nat),HE [aj,[0]]/\(∀cW:List Int,av (a7 0 18446744073709551615 8) cW->fe fun z175=>HE [cW,[z175]]->(aC
 (decide (z175<z164)) (ab 30 [z175,z164]/\ab 21 [hM,z175]/\Dl 21 [hM,z175,0] fun gB=>bB fun gi=>S 449 [[(List.getD cW 4 0)]] [[gi]]->
 bg ((List.getD cW 7 0)+gi) 18446744073709551616 fun iO=>cK fun mU=>mU<=IntKind.max .u64->mU=cc .and .u64 (List.getD cW 4 0) (List.getD
 cW 5 0)->cK fun pn=>pn<=IntKind.max .u64->pn=cc .and .u64 (((-1)*(List.getD cW 4 0))+18446744073709551615) (List.getD cW 6 0)->cK
 fun ie=>ie<=IntKind.max .u64->ie=cc .xor .u64 mU pn->bg ((List.getD cW 7 0)+(gi+(((-18446744073709551616)*iO)+ie)))
 18446744073709551616 fun z182=>ab 39 [z175,0,79]/\bB fun z183=>S 467 [[z175]] [[z183]]->bg ((List.getD cW 7 0)+(gi+(((-18446744073709551616)*
 iO)+(ie+(((-18446744073709551616)*z182)+z183))))) 18446744073709551616 fun nD=>bg ((List.getD cW 7 0)+(gB+(gi+
 (((-18446744073709551616)*iO)+(ie+(((-18446744073709551616)*z182)+(z183+((-18446744073709551616)*nD)))))))) 18446744073709551616 fun mV=>
 bB fun lA=>S 448 [[(List.getD cW 0 0)]] [[lA]]->cK fun rJ=>rJ<=IntKind.max .u64->rJ=cc .and .u64 (List.getD cW 0 0) (List.getD cW 1
 0)->cK fun rK=>rK<=IntKind.max .u64->rK=cc .and .u64 (List.getD cW 0 0) (List.getD cW 2 0)->cK fun ys=>ys<=IntKind.max .u64->ys
 =cc .xor .u64 rJ rK->cK fun uB=>uB<=IntKind.max .u64->uB=cc .and .u64 (List.getD cW 1 0) (List.getD cW 2 0)->cK fun oo=>oo<=
 IntKind.max .u64->oo=cc .xor .u64 ys uB->bg (lA+oo) 18446744073709551616 fun nE=>bR fun z193=>0<=((List.getD cW 3 0)+((List.getD
 cW 7 0)+(gB+(gi+(((-18446744073709551616)*iO)+(ie+(((-18446744073709551616)*z182)+(z183+(((-18446744073709551616)*nD)+
 ((-18446744073709551616)*mV))))))))))-18446744073709551616*z193->((List.getD cW 3 0)+((List.getD cW 7 0)+(gB+(gi+
 (((-18446744073709551616)*iO)+(ie+(((-18446744073709551616)*z182)+(z183+(((-18446744073709551616)*nD)+((-18446744073709551616)*
 mV))))))))))-18446744073709551616*z193<18446744073709551616->bR fun z194=>0<=((List.getD cW 7 0)+(gB+(gi+(((-18446744073709551616)*
 iO)+(ie+(((-18446744073709551616)*z182)+(z183+(((-18446744073709551616)*nD)+(((-18446744073709551616)*mV)+(lA+(oo+
 ((-18446744073709551616)*nE))))))))))))-18446744073709551616*z194->((List.getD cW 7 0)+(gB+(gi+(((-18446744073709551616)*iO)+(ie+
 (((-18446744073709551616)*z182)+(z183+(((-18446744073709551616)*nD)+(((-18446744073709551616)*mV)+(lA+(oo+((-18446744073709551616)*
 nE))))))))))))-18446744073709551616*z194<18446744073709551616->bg (z175+9223372036854775809) 18446744073709551616 fun nF=>ab 39 [((z175+
 ((-18446744073709551616)*nF))+1),0,9223372036854775807]/\(HE [[((List.getD cW 7 0)+(gB+(gi+(((-18446744073709551616)*iO)+(ie+
 (((-18446744073709551616)*z182)+(z183+(((-18446744073709551616)*nD)+(((-18446744073709551616)*mV)+(lA+(oo+(((-18446744073709551616)*
 nE)+((-18446744073709551616)*z194))))))))))))),(List.getD cW 0 0),(List.getD cW 1 0),(List.getD cW 2 0),((List.getD cW 3 0)+((List.getD cW 7 0)
 +(gB+(gi+(((-18446744073709551616)*iO)+(ie+(((-18446744073709551616)*z182)+(z183+(((-18446744073709551616)*nD)+
 (((-18446744073709551616)*mV)+((-18446744073709551616)*z193))))))))))),(List.getD cW 4 0),(List.getD cW 5 0),(List.getD cW 6 0)],[((z175+
 ((-18446744073709551616)*nF))+1)]]/\Xg [[((List.getD cW 7 0)+(gB+(gi+(((-18446744073709551616)*iO)+(ie+(((-18446744073709551616)
 *z182)+(z183+(((-18446744073709551616)*nD)+(((-18446744073709551616)*mV)+(lA+(oo+(((-18446744073709551616)*nE)+
 ((-18446744073709551616)*z194))))))))))))),(List.getD cW 0 0),(List.getD cW 1 0),(List.getD cW 2 0),((List.getD cW 3 0)+((List.getD cW 7 0)+(gB
 +(gi+(((-18446744073709551616)*iO)+(ie+(((-18446744073709551616)*z182)+(z183+(((-18446744073709551616)*nD)+(((-18446744073709551616)*
 mV)+((-18446744073709551616)*z193))))))))))),(List.getD cW 4 0),(List.getD cW 5 0),(List.getD cW 6 0)],[((z175+((-18446744073709551616)*nF))+
 1)]]<Xg [cW,[z175]])) (bg ((List.getD aj 0 0)+(List.getD cW 0 0)) 18446744073709551616 fun gB=>bg ((List.getD aj 1 0)+(List.getD cW 1 0))
 18446744073709551616 fun gi=>bg ((List.getD aj 2 0)+(List.getD cW 2 0)) 18446744073709551616 fun iO=>bg ((List.getD aj 3 0)+(List.getD cW 3 0))
 18446744073709551616 fun mU=>bg ((List.getD aj 4 0)+(List.getD cW 4 0)) 18446744073709551616 fun pn=>bg ((List.getD aj 5 0)+(List.getD cW 5 0))
 18446744073709551616 fun ie=>bg ((List.getD aj 6 0)+(List.getD cW 6 0)) 18446744073709551616 fun z182=>bg ((List.getD aj 7 0)+(List.getD cW 7 0))
 18446744073709551616 fun z183=>(lB [[((List.getD aj 0 0)+((List.getD cW 0 0)+((-18446744073709551616)*gB))),((List.getD aj 1 0)+((List.getD cW 1
 0)+((-18446744073709551616)*gi))),((List.getD aj 2 0)+((List.getD cW 2 0)+((-18446744073709551616)*iO))),((List.getD aj 3 0)+((List.getD cW 3
 0)+((-18446744073709551616)*mU))),((List.getD aj 4 0)+((List.getD cW 4 0)+((-18446744073709551616)*pn))),((List.getD aj 5 0)+((List.getD cW 5
 0)+((-18446744073709551616)*ie))),((List.getD aj 6 0)+((List.getD cW 6 0)+((-18446744073709551616)*z182))),((List.getD aj 7 0)+((List.getD cW 7
 0)+((-18446744073709551616)*z183)))],[(ae+1)]]/\mu [[((List.getD aj 0 0)+((List.getD cW 0 0)+((-18446744073709551616)*gB))),((List.getD aj 1
 0)+((List.getD cW 1 0)+((-18446744073709551616)*gi))),((List.getD aj 2 0)+((List.getD cW 2 0)+((-18446744073709551616)*iO))),((List.getD aj 3
 0)+((List.getD cW 3 0)+((-18446744073709551616)*mU))),((List.getD aj 4 0)+((List.getD cW 4 0)+((-18446744073709551616)*pn))),((List.getD aj 5
 0)+((List.getD cW 5 0)+((-18446744073709551616)*ie))),((List.getD aj 6 0)+((List.getD cW 6 0)+((-18446744073709551616)*z182))),((List.getD aj 7
 0)+((List.getD cW 7 0)+((-18446744073709551616)*z183)))],[(ae+1)]]<mu [aj,[ae]])))))))) (∃(ou:List (List Int)->Prop) (qh:List (List Int)
 ->Nat),ou [[7],[0],[0],[(-1)]]/\(en (-1) 7 fun aD=>c9 fun aP=>fe fun bd=>bW fun aM=>ou [[aD],[aP],[bd],[aM]]->(aC (decide (0<=aD)) (bB
 fun a8=>a8=(List.getD aj 0 0)/2^((8*aD)).toNat->aG 0 72057594037927935 a8 256 fun z20=>ab 31 [aP,bd]/\ab 23 [aP,1]/\aI 23 [aP,(a8
 +((-256)*z20))] fun z21=>bW fun z22=>(ou [[(aD+(-1))],[z21],[(bd+1)],[z22]]/\qh [[(aD+(-1))],[z21],[(bd+1)],[z22]]<qh
 [[aD],[aP],[bd],[aM]])) (∃(we:List (List Int)->Prop) (DR:List (List Int)->Nat),we [[7],[aP],[bd],[aM]]/\(en (-1) 7 fun z20=>c9 fun z21=>
 fe fun z22=>bW fun bH=>we [[z20],[z21],[z22],[bH]]->(aC (decide (0<=z20)) (bB fun z24=>z24=(List.getD aj 1 0)/2^((8*z20)).toNat->aG 0
 72057594037927935 z24 256 fun bn=>ab 31 [z21,z22]/\ab 23 [z21,1]/\aI 23 [z21,(z24+((-256)*bn))] fun z26=>bW fun bO=>(we [[(z20+
 (-1))],[z26],[(z22+1)],[bO]]/\DR [[(z20+(-1))],[z26],[(z22+1)],[bO]]<DR [[z20],[z21],[z22],[bH]])) (∃(wg:List (List Int)->Prop) (DS:List
 (List Int)->Nat),wg [[7],[z21],[z22],[bH]]/\(en (-1) 7 fun bn=>c9 fun z26=>fe fun bO=>bW fun z28=>wg [[bn],[z26],[bO],[z28]]->(aC (decide (0
 <=bn)) (bB fun cx=>cx=(List.getD aj 2 0)/2^((8*bn)).toNat->aG 0 72057594037927935 cx 256 fun bZ=>ab 31 [z26,bO]/\ab 23 [z26,1]/\aI
 23 [z26,(cx+((-256)*bZ))] fun z31=>bW fun cu=>(wg [[(bn+(-1))],[z31],[(bO+1)],[cu]]/\DS [[(bn+(-1))],[z31],[(bO+1)],[cu]]<DS
 [[bn],[z26],[bO],[z28]])) (∃(wh:List (List Int)->Prop) (DT:List (List Int)->Nat),wh [[7],[z26],[bO],[z28]]/\(en (-1) 7 fun bZ=>c9 fun z31=>
 fe fun cu=>bW fun cM=>wh [[bZ],[z31],[cu],[cM]]->(aC (decide (0<=bZ)) (bB fun cb=>cb=(List.getD aj 3 0)/2^((8*bZ)).toNat->aG 0
 72057594037927935 cb 256 fun b7=>ab 31 [z31,cu]/\ab 23 [z31,1]/\aI 23 [z31,(cb+((-256)*b7))] fun cj=>bW fun z37=>(wh [[(bZ+
 (-1))],[cj],[(cu+1)],[z37]]/\DT [[(bZ+(-1))],[cj],[(cu+1)],[z37]]<DT [[bZ],[z31],[cu],[cM]])) (∃(wi:List (List Int)->Prop) (DU:List
 (List Int)->Nat),wi [[7],[z31],[cu],[cM]]/\(en (-1) 7 fun b7=>c9 fun cj=>fe fun z37=>bW fun cQ=>wi [[b7],[cj],[z37],[cQ]]->(aC (decide (0
 <=b7)) (bB fun c6=>c6=(List.getD aj 4 0)/2^((8*b7)).toNat->aG 0 72057594037927935 c6 256 fun z40=>ab 31 [cj,z37]/\ab 23 [cj,1]/\aI
 23 [cj,(c6+((-256)*z40))] fun cF=>bW fun cR=>(wi [[(b7+(-1))],[cF],[(z37+1)],[cR]]/\DU [[(b7+(-1))],[cF],[(z37+1)],[cR]]<DU
 [[b7],[cj],[z37],[cQ]])) (∃(wj:List (List Int)->Prop) (DV:List (List Int)->Nat),wj [[7],[cj],[z37],[cQ]]/\(en (-1) 7 fun z40=>c9 fun cF=>
 fe fun cR=>bW fun dD=>wj [[z40],[cF],[cR],[dD]]->(aC (decide (0<=z40)) (bB fun c8=>c8=(List.getD aj 5 0)/2^((8*z40)).toNat->aG 0
 72057594037927935 c8 256 fun cH=>ab 31 [cF,cR]/\ab 23 [cF,1]/\aI 23 [cF,(c8+((-256)*cH))] fun z46=>bW fun cm=>(wj [[(z40+
 (-1))],[z46],[(cR+1)],[cm]]/\DV [[(z40+(-1))],[z46],[(cR+1)],[cm]]<DV [[z40],[cF],[cR],[dD]])) (∃(wk:List (List Int)->Prop) (DW:List
 (List Int)->Nat),wk [[7],[cF],[cR],[dD]]/\(en (-1) 7 fun cH=>c9 fun z46=>fe fun cm=>bW fun dE=>wk [[cH],[z46],[cm],[dE]]->(aC (decide (0
 <=cH)) (bB fun z49=>z49=(List.getD aj 6 0)/2^((8*cH)).toNat->aG 0 72057594037927935 z49 256 fun cS=>ab 31 [z46,cm]/\ab 23 [z46,1]/\aI
 23 [z46,(z49+((-256)*cS))] fun z51=>bW fun dh=>(wk [[(cH+(-1))],[z51],[(cm+1)],[dh]]/\DW [[(cH+(-1))],[z51],[(cm+1)],[dh]]<DW
 [[cH],[z46],[cm],[dE]])) (∃(wm:List (List Int)->Prop) (DX:List (List Int)->Nat),wm [[7],[z46],[cm],[dE]]/\(en (-1) 7 fun cS=>c9 fun z51=>
 fe fun dh=>bW fun z53=>wm [[cS],[z51],[dh],[z53]]->(aC (decide (0<=cS)) (bB fun eI=>eI=(List.getD aj 7 0)/2^((8*cS)).toNat->aG 0
 72057594037927935 eI 256 fun eY=>ab 31 [z51,dh]/\ab 23 [z51,1]/\aI 23 [z51,(eI+((-256)*eY))] fun dF=>bW fun dO=>(wm [[(cS+
 (-1))],[dF],[(dh+1)],[dO]]/\DX [[(cS+(-1))],[dF],[(dh+1)],[dO]]<DX [[cS],[z51],[dh],[z53]])) (ab 22 [z51,0,dh]/\aI 22 [z51,0,dh] fun
 eI=>K [[z0]] [[eI]]))))))))))))))))))))))))))))
theorem asB (f:Int->Int->Int) {r t:List Int} (h:r.length=8) (h':t.length=8):List.zipWith f r t=[f (r.getD 0 0) (t.getD 0 0),f (r.getD 1 0) (t.getD 1 0),f (r.getD 2 0) (t.getD 2 0),f (r.getD 3 0) (t.getD 3 0),f (r.getD 4 0) (t.getD 4 0),f (r.getD 5 0) (t.getD 5 0),f (r.getD 6 0) (t.getD 6 0),f (r.getD 7 0) (t.getD 7 0)]:=by
 match r,t,h,h' with
 |[_,_,_,_,_,_,_,_],[_,_,_,_,_,_,_,_],_,_=>rfl
theorem an8 (i:Nat) (x:Int) {r:List Int} (hr:r.length=8):sQ cD i x r=(let t:=md cD (r.getD 7 0+td cD (r.getD 4 0)+wE cD (r.getD 4 0) (r.getD 5 0) (r.getD 6 0)+x3 cD i+x);let u:=md cD (tc cD (r.getD 0 0)+C5 cD (r.getD 0 0) (r.getD 1 0) (r.getD 2 0));[md cD (t+u),r.getD 0 0,r.getD 1 0,r.getD 2 0,md cD (r.getD 3 0+t),r.getD 4 0,r.getD 5 0,r.getD 6 0]):=by
 match r,hr with
 |[_,_,_,_,_,_,_,_],_=>rfl
theorem zQ (x:Int):md cD x=x% 18446744073709551616:=by
 show x% (2:Int)^64=_
 rw[show(2:Int)^64=18446744073709551616 by decide]
theorem aaJ:pw cD=[7640891576956012808,13503953896175478587,4354685564936845355,11912009170470909681,5840696475078001361,11170449401992604703,2270897969802886507,6620516959819538809]:=by decide+kernel
set_option maxHeartbeats 4000000 in
theorem ale:Of SB (dJ SB [vz] 465):=by
 intro z0 a0 a1 hp ag b0 z2 c0 c1 z3 d0 d1 h3
 have hp:128∣(aa z0).length/\(aa z0).length<=1000001000:=hp
 have h3:z3=((aa z0).length:Int):=h3
 obtain⟨⟨q,hq⟩,vj⟩:=hp
 have aB:(cl z0).length=128*q:=by rw[rQ,hq]
 have BT:z3=128*(q:Int):=by rw[h3,hq];simp
 refine⟨⟨(q:Int),BT⟩,fun l=>∃(i:Nat),i<=q/\l=[wB cD (cl z0) i (pw cD),[(i:Int)]],fun l=>((q:Int)-(l.getD 1 []).getD 0 0).toNat,⟨0,Nat.zero_le _,by
  show _=[pw cD,[(0:Int)]]
  rw[aaJ]⟩,?_⟩
 intro aj KW ae bD e1 ⟨i,hi,hI⟩
 simp only[List.cons.injEq,and_true]at hI
 obtain⟨u6,afa⟩:=hI
 obtain⟨tP,b5⟩:=CR 8 aj KW
 have xc:((aa z0).length:Int)=128*(q:Int):=by rw[<-h3,BT]
 refine⟨fun h=>?_,fun h=>?_⟩
 ·have h:=of_decide_eq_true h
  have Cn:i<q:=by omega
  have ar:∀k:Int,0<=k->k<128->ab 21 [z0,128*ae+k]:=fun k h1 h2=>⟨by omega,by rw[xc];omega⟩
  have ID:ab 21 [z0,128*ae]:=⟨by omega,by rw[xc];omega⟩
  refine⟨ID,?_⟩
  intro ah f0 g0 t0
  refine⟨ar 1 (by decide) (by decide),?_⟩
  intro aD f1 g1 t1
  refine⟨ar 2 (by decide) (by decide),?_⟩
  intro aP f2 g2 t2
  refine⟨ar 3 (by decide) (by decide),?_⟩
  intro bd f3 g3 t3
  refine⟨ar 4 (by decide) (by decide),?_⟩
  intro aM f4 g4 t4
  refine⟨ar 5 (by decide) (by decide),?_⟩
  intro a8 f5 g5 t5
  refine⟨ar 6 (by decide) (by decide),?_⟩
  intro z20 f6 g6 t6
  refine⟨ar 7 (by decide) (by decide),?_⟩
  intro z21 f7 g7 t7
  refine⟨ar 8 (by decide) (by decide),?_⟩
  intro z22 f8 g8 t8
  refine⟨ar 9 (by decide) (by decide),?_⟩
  intro bH f9 g9 t9
  refine⟨ar 10 (by decide) (by decide),?_⟩
  intro z24 f10 g10 t10
  refine⟨ar 11 (by decide) (by decide),?_⟩
  intro bn f11 g11 t11
  refine⟨ar 12 (by decide) (by decide),?_⟩
  intro z26 f12 g12 t12
  refine⟨ar 13 (by decide) (by decide),?_⟩
  intro bO f13 g13 t13
  refine⟨ar 14 (by decide) (by decide),?_⟩
  intro z28 f14 g14 t14
  refine⟨ar 15 (by decide) (by decide),?_⟩
  intro cx f15 g15 t15
  refine⟨ar 16 (by decide) (by decide),?_⟩
  intro bZ f16 g16 t16
  refine⟨ar 17 (by decide) (by decide),?_⟩
  intro z31 f17 g17 t17
  refine⟨ar 18 (by decide) (by decide),?_⟩
  intro cu f18 g18 t18
  refine⟨ar 19 (by decide) (by decide),?_⟩
  intro cM f19 g19 t19
  refine⟨ar 20 (by decide) (by decide),?_⟩
  intro cb f20 g20 t20
  refine⟨ar 21 (by decide) (by decide),?_⟩
  intro b7 f21 g21 t21
  refine⟨ar 22 (by decide) (by decide),?_⟩
  intro cj f22 g22 t22
  refine⟨ar 23 (by decide) (by decide),?_⟩
  intro z37 f23 g23 t23
  refine⟨ar 24 (by decide) (by decide),?_⟩
  intro cQ f24 g24 t24
  refine⟨ar 25 (by decide) (by decide),?_⟩
  intro c6 f25 adf t25
  refine⟨ar 26 (by decide) (by decide),?_⟩
  intro z40 f26 adg t26
  refine⟨ar 27 (by decide) (by decide),?_⟩
  intro cF f27 adh t27
  refine⟨ar 28 (by decide) (by decide),?_⟩
  intro cR f28 adi t28
  refine⟨ar 29 (by decide) (by decide),?_⟩
  intro dD f29 adj t29
  refine⟨ar 30 (by decide) (by decide),?_⟩
  intro c8 f30 adn t30
  refine⟨ar 31 (by decide) (by decide),?_⟩
  intro cH f31 ado t31
  refine⟨ar 32 (by decide) (by decide),?_⟩
  intro z46 f32 adp t32
  refine⟨ar 33 (by decide) (by decide),?_⟩
  intro cm f33 adq t33
  refine⟨ar 34 (by decide) (by decide),?_⟩
  intro dE f34 adr t34
  refine⟨ar 35 (by decide) (by decide),?_⟩
  intro z49 f35 ads t35
  refine⟨ar 36 (by decide) (by decide),?_⟩
  intro cS f36 adt t36
  refine⟨ar 37 (by decide) (by decide),?_⟩
  intro z51 f37 adu t37
  refine⟨ar 38 (by decide) (by decide),?_⟩
  intro dh f38 adv t38
  refine⟨ar 39 (by decide) (by decide),?_⟩
  intro z53 f39 adw t39
  refine⟨ar 40 (by decide) (by decide),?_⟩
  intro eI f40 adz t40
  refine⟨ar 41 (by decide) (by decide),?_⟩
  intro eY f41 adA t41
  refine⟨ar 42 (by decide) (by decide),?_⟩
  intro dF f42 adB t42
  refine⟨ar 43 (by decide) (by decide),?_⟩
  intro dO f43 adC t43
  refine⟨ar 44 (by decide) (by decide),?_⟩
  intro eB f44 adD t44
  refine⟨ar 45 (by decide) (by decide),?_⟩
  intro z59 f45 adE t45
  refine⟨ar 46 (by decide) (by decide),?_⟩
  intro eJ f46 adF t46
  refine⟨ar 47 (by decide) (by decide),?_⟩
  intro hO f47 adG t47
  refine⟨ar 48 (by decide) (by decide),?_⟩
  intro fO f48 adH t48
  refine⟨ar 49 (by decide) (by decide),?_⟩
  intro dP f49 adI t49
  refine⟨ar 50 (by decide) (by decide),?_⟩
  intro fi f50 adL t50
  refine⟨ar 51 (by decide) (by decide),?_⟩
  intro eQ f51 adM t51
  refine⟨ar 52 (by decide) (by decide),?_⟩
  intro eC f52 adN t52
  refine⟨ar 53 (by decide) (by decide),?_⟩
  intro gC f53 adO t53
  refine⟨ar 54 (by decide) (by decide),?_⟩
  intro iB f54 adP t54
  refine⟨ar 55 (by decide) (by decide),?_⟩
  intro fj f55 adQ t55
  refine⟨ar 56 (by decide) (by decide),?_⟩
  intro z70 f56 adR t56
  refine⟨ar 57 (by decide) (by decide),?_⟩
  intro fB f57 adS t57
  refine⟨ar 58 (by decide) (by decide),?_⟩
  intro z72 f58 adT t58
  refine⟨ar 59 (by decide) (by decide),?_⟩
  intro eo f59 adU t59
  refine⟨ar 60 (by decide) (by decide),?_⟩
  intro iC f60 adX t60
  refine⟨ar 61 (by decide) (by decide),?_⟩
  intro z75 f61 adY t61
  refine⟨ar 62 (by decide) (by decide),?_⟩
  intro z76 f62 adZ t62
  refine⟨ar 63 (by decide) (by decide),?_⟩
  intro e6 f63 ad0 t63
  refine⟨ar 64 (by decide) (by decide),?_⟩
  intro fk f64 ax8 t64
  refine⟨ar 65 (by decide) (by decide),?_⟩
  intro jj f65 ax9 t65
  refine⟨ar 66 (by decide) (by decide),?_⟩
  intro iP f66 aya t66
  refine⟨ar 67 (by decide) (by decide),?_⟩
  intro gD f67 ayb t67
  refine⟨ar 68 (by decide) (by decide),?_⟩
  intro gO f68 ayc t68
  refine⟨ar 69 (by decide) (by decide),?_⟩
  intro hP f69 ayd t69
  refine⟨ar 70 (by decide) (by decide),?_⟩
  intro jx f70 aye t70
  refine⟨ar 71 (by decide) (by decide),?_⟩
  intro z85 f71 ayf t71
  refine⟨ar 72 (by decide) (by decide),?_⟩
  intro kO f72 ayg t72
  refine⟨ar 73 (by decide) (by decide),?_⟩
  intro z87 f73 ayh t73
  refine⟨ar 74 (by decide) (by decide),?_⟩
  intro gj f74 ayi t74
  refine⟨ar 75 (by decide) (by decide),?_⟩
  intro hQ f75 ayj t75
  refine⟨ar 76 (by decide) (by decide),?_⟩
  intro gP f76 ayk t76
  refine⟨ar 77 (by decide) (by decide),?_⟩
  intro z91 f77 ayl t77
  refine⟨ar 78 (by decide) (by decide),?_⟩
  intro gk f78 aym t78
  refine⟨ar 79 (by decide) (by decide),?_⟩
  intro z93 f79 ayn t79
  refine⟨ar 80 (by decide) (by decide),?_⟩
  intro iQ f80 ayo t80
  refine⟨ar 81 (by decide) (by decide),?_⟩
  intro gm f81 ayp t81
  refine⟨ar 82 (by decide) (by decide),?_⟩
  intro gQ f82 ayq t82
  refine⟨ar 83 (by decide) (by decide),?_⟩
  intro jV f83 ayr t83
  refine⟨ar 84 (by decide) (by decide),?_⟩
  intro dS f84 ays t84
  refine⟨ar 85 (by decide) (by decide),?_⟩
  intro fP f85 ayt t85
  refine⟨ar 86 (by decide) (by decide),?_⟩
  intro hJ f86 ayu t86
  refine⟨ar 87 (by decide) (by decide),?_⟩
  intro iz f87 ayv t87
  refine⟨ar 88 (by decide) (by decide),?_⟩
  intro ic f88 ayw t88
  refine⟨ar 89 (by decide) (by decide),?_⟩
  intro jg f89 ayx t89
  refine⟨ar 90 (by decide) (by decide),?_⟩
  intro gh f90 ayy t90
  refine⟨ar 91 (by decide) (by decide),?_⟩
  intro z105 f91 ayz t91
  refine⟨ar 92 (by decide) (by decide),?_⟩
  intro jw f92 ayA t92
  refine⟨ar 93 (by decide) (by decide),?_⟩
  intro z107 f93 ayB t93
  refine⟨ar 94 (by decide) (by decide),?_⟩
  intro kj f94 ayC t94
  refine⟨ar 95 (by decide) (by decide),?_⟩
  intro z109 f95 ayD t95
  refine⟨ar 96 (by decide) (by decide),?_⟩
  intro pj f96 ayE t96
  refine⟨ar 97 (by decide) (by decide),?_⟩
  intro ey f97 ayF t97
  refine⟨ar 98 (by decide) (by decide),?_⟩
  intro fA f98 ayG t98
  refine⟨ar 99 (by decide) (by decide),?_⟩
  intro fN f99 ayH t99
  refine⟨ar 100 (by decide) (by decide),?_⟩
  intro eP f100 axG t100
  refine⟨ar 101 (by decide) (by decide),?_⟩
  intro gz f101 axH t101
  refine⟨ar 102 (by decide) (by decide),?_⟩
  intro z116 f102 axI t102
  refine⟨ar 103 (by decide) (by decide),?_⟩
  intro z117 f103 axJ t103
  refine⟨ar 104 (by decide) (by decide),?_⟩
  intro eU f104 axK t104
  refine⟨ar 105 (by decide) (by decide),?_⟩
  intro z119 f105 axL t105
  refine⟨ar 106 (by decide) (by decide),?_⟩
  intro jT f106 axM t106
  refine⟨ar 107 (by decide) (by decide),?_⟩
  intro gA f107 axN t107
  refine⟨ar 108 (by decide) (by decide),?_⟩
  intro hL f108 axO t108
  refine⟨ar 109 (by decide) (by decide),?_⟩
  intro jU f109 axP t109
  refine⟨ar 110 (by decide) (by decide),?_⟩
  intro z124 f110 axQ t110
  refine⟨ar 111 (by decide) (by decide),?_⟩
  intro jh f111 axR t111
  refine⟨ar 112 (by decide) (by decide),?_⟩
  intro nA f112 axS t112
  refine⟨ar 113 (by decide) (by decide),?_⟩
  intro z127 f113 axT t113
  refine⟨ar 114 (by decide) (by decide),?_⟩
  intro iA f114 axU t114
  refine⟨ar 115 (by decide) (by decide),?_⟩
  intro ji f115 axV t115
  refine⟨ar 116 (by decide) (by decide),?_⟩
  intro z130 f116 axW t116
  refine⟨ar 117 (by decide) (by decide),?_⟩
  intro z131 f117 axX t117
  refine⟨ar 118 (by decide) (by decide),?_⟩
  intro sW f118 axY t118
  refine⟨ar 119 (by decide) (by decide),?_⟩
  intro sX f119 axZ t119
  refine⟨ar 120 (by decide) (by decide),?_⟩
  intro mr f120 ax0 t120
  refine⟨ar 121 (by decide) (by decide),?_⟩
  intro nB f121 ax1 t121
  refine⟨ar 122 (by decide) (by decide),?_⟩
  intro nC f122 ax2 t122
  refine⟨ar 123 (by decide) (by decide),?_⟩
  intro uA f123 ax3 t123
  refine⟨ar 124 (by decide) (by decide),?_⟩
  intro z138 f124 ax4 t124
  refine⟨ar 125 (by decide) (by decide),?_⟩
  intro z139 f125 ax5 t125
  refine⟨ar 126 (by decide) (by decide),?_⟩
  intro sY f126 ax6 t126
  refine⟨ar 127 (by decide) (by decide),?_⟩
  intro z141 f127 ax7 t127
  obtain⟨bl,oM⟩:∃l,((cl z0).drop (128*i)).take 128=l:=⟨_,rfl⟩
  have Iu:bl.length=128:=by rw[<-oM,List.length_take,List.length_drop,aB];omega
  have aF:∀(k:Nat) (y z:Int),k<128->y=(k:Int)->z=aA 21 [z0,128*ae+y,0]->z=bl.getD k 0:=fun k y z hk hy hz=>by
   rw[bM hz,<-oM,Rq _ _ _ _ hk]
   congr 1;omega
  have hB:[ah,aD,aP,bd,aM,a8,z20,z21,z22,bH,z24,bn,z26,bO,z28,cx,bZ,z31,cu,cM,cb,b7,cj,z37,cQ,c6,z40,cF,cR,dD,c8,cH,z46,cm,dE,z49,cS,z51,dh,z53,eI,eY,dF,dO,eB,z59,eJ,hO,fO,dP,fi,eQ,eC,gC,iB,fj,z70,fB,z72,eo,iC,z75,z76,e6,fk,jj,iP,gD,gO,hP,jx,z85,kO,z87,gj,hQ,gP,z91,gk,z93,iQ,gm,gQ,jV,dS,fP,hJ,iz,ic,jg,gh,z105,jw,z107,kj,z109,pj,ey,fA,fN,eP,gz,z116,z117,eU,z119,jT,gA,hL,jU,z124,jh,nA,z127,iA,ji,z130,z131,sW,sX,mr,nB,nC,uA,z138,z139,sY,z141]=bl:=by
   rw[aF 0 0 ah (by decide) rfl (by rw[Int.add_zero];exact t0),aF 1 1 aD (by decide) rfl t1,aF 2 2 aP (by decide) rfl t2,aF 3 3 bd (by decide) rfl t3,aF 4 4 aM (by decide) rfl t4,aF 5 5 a8 (by decide) rfl t5,aF 6 6 z20 (by decide) rfl t6,aF 7 7 z21 (by decide) rfl t7,aF 8 8 z22 (by decide) rfl t8,aF 9 9 bH (by decide) rfl t9,aF 10 10 z24 (by decide) rfl t10,aF 11 11 bn (by decide) rfl t11,aF 12 12 z26 (by decide) rfl t12,aF 13 13 bO (by decide) rfl t13,aF 14 14 z28 (by decide) rfl t14,aF 15 15 cx (by decide) rfl t15,aF 16 16 bZ (by decide) rfl t16,aF 17 17 z31 (by decide) rfl t17,aF 18 18 cu (by decide) rfl t18,aF 19 19 cM (by decide) rfl t19,aF 20 20 cb (by decide) rfl t20,aF 21 21 b7 (by decide) rfl t21,aF 22 22 cj (by decide) rfl t22,aF 23 23 z37 (by decide) rfl t23,aF 24 24 cQ (by decide) rfl t24,aF 25 25 c6 (by decide) rfl t25,aF 26 26 z40 (by decide) rfl t26,aF 27 27 cF (by decide) rfl t27,aF 28 28 cR (by decide) rfl t28,aF 29 29 dD (by decide) rfl t29,aF 30 30 c8 (by decide) rfl t30,aF 31 31 cH (by decide) rfl t31,aF 32 32 z46 (by decide) rfl t32,aF 33 33 cm (by decide) rfl t33,aF 34 34 dE (by decide) rfl t34,aF 35 35 z49 (by decide) rfl t35,aF 36 36 cS (by decide) rfl t36,aF 37 37 z51 (by decide) rfl t37,aF 38 38 dh (by decide) rfl t38,aF 39 39 z53 (by decide) rfl t39,aF 40 40 eI (by decide) rfl t40,aF 41 41 eY (by decide) rfl t41,aF 42 42 dF (by decide) rfl t42,aF 43 43 dO (by decide) rfl t43,aF 44 44 eB (by decide) rfl t44,aF 45 45 z59 (by decide) rfl t45,aF 46 46 eJ (by decide) rfl t46,aF 47 47 hO (by decide) rfl t47,aF 48 48 fO (by decide) rfl t48,aF 49 49 dP (by decide) rfl t49,aF 50 50 fi (by decide) rfl t50,aF 51 51 eQ (by decide) rfl t51,aF 52 52 eC (by decide) rfl t52,aF 53 53 gC (by decide) rfl t53,aF 54 54 iB (by decide) rfl t54,aF 55 55 fj (by decide) rfl t55,aF 56 56 z70 (by decide) rfl t56,aF 57 57 fB (by decide) rfl t57,aF 58 58 z72 (by decide) rfl t58,aF 59 59 eo (by decide) rfl t59,aF 60 60 iC (by decide) rfl t60,aF 61 61 z75 (by decide) rfl t61,aF 62 62 z76 (by decide) rfl t62,aF 63 63 e6 (by decide) rfl t63,aF 64 64 fk (by decide) rfl t64,aF 65 65 jj (by decide) rfl t65,aF 66 66 iP (by decide) rfl t66,aF 67 67 gD (by decide) rfl t67,aF 68 68 gO (by decide) rfl t68,aF 69 69 hP (by decide) rfl t69,aF 70 70 jx (by decide) rfl t70,aF 71 71 z85 (by decide) rfl t71,aF 72 72 kO (by decide) rfl t72,aF 73 73 z87 (by decide) rfl t73,aF 74 74 gj (by decide) rfl t74,aF 75 75 hQ (by decide) rfl t75,aF 76 76 gP (by decide) rfl t76,aF 77 77 z91 (by decide) rfl t77,aF 78 78 gk (by decide) rfl t78,aF 79 79 z93 (by decide) rfl t79,aF 80 80 iQ (by decide) rfl t80,aF 81 81 gm (by decide) rfl t81,aF 82 82 gQ (by decide) rfl t82,aF 83 83 jV (by decide) rfl t83,aF 84 84 dS (by decide) rfl t84,aF 85 85 fP (by decide) rfl t85,aF 86 86 hJ (by decide) rfl t86,aF 87 87 iz (by decide) rfl t87,aF 88 88 ic (by decide) rfl t88,aF 89 89 jg (by decide) rfl t89,aF 90 90 gh (by decide) rfl t90,aF 91 91 z105 (by decide) rfl t91,aF 92 92 jw (by decide) rfl t92,aF 93 93 z107 (by decide) rfl t93,aF 94 94 kj (by decide) rfl t94,aF 95 95 z109 (by decide) rfl t95,aF 96 96 pj (by decide) rfl t96,aF 97 97 ey (by decide) rfl t97,aF 98 98 fA (by decide) rfl t98,aF 99 99 fN (by decide) rfl t99,aF 100 100 eP (by decide) rfl t100,aF 101 101 gz (by decide) rfl t101,aF 102 102 z116 (by decide) rfl t102,aF 103 103 z117 (by decide) rfl t103,aF 104 104 eU (by decide) rfl t104,aF 105 105 z119 (by decide) rfl t105,aF 106 106 jT (by decide) rfl t106,aF 107 107 gA (by decide) rfl t107,aF 108 108 hL (by decide) rfl t108,aF 109 109 jU (by decide) rfl t109,aF 110 110 z124 (by decide) rfl t110,aF 111 111 jh (by decide) rfl t111,aF 112 112 nA (by decide) rfl t112,aF 113 113 z127 (by decide) rfl t113,aF 114 114 iA (by decide) rfl t114,aF 115 115 ji (by decide) rfl t115,aF 116 116 z130 (by decide) rfl t116,aF 117 117 z131 (by decide) rfl t117,aF 118 118 sW (by decide) rfl t118,aF 119 119 sX (by decide) rfl t119,aF 120 120 mr (by decide) rfl t120,aF 121 121 nB (by decide) rfl t121,aF 122 122 nC (by decide) rfl t122,aF 123 123 uA (by decide) rfl t123,aF 124 124 z138 (by decide) rfl t124,aF 125 125 z139 (by decide) rfl t125,aF 126 126 sY (by decide) rfl t126,aF 127 127 z141 (by decide) rfl t127]
   exact(BJ bl 128 Iu).symm
  have qA:uv cD bl=[((72057594037927936*ah)+((281474976710656*aD)+((1099511627776*aP)+((4294967296*bd)+((16777216*aM)+((65536*a8)+((256*z20)+z21))))))),((72057594037927936*z22)+((281474976710656*bH)+((1099511627776*z24)+((4294967296*bn)+((16777216*z26)+((65536*bO)+((256*z28)+cx))))))),((72057594037927936*bZ)+((281474976710656*z31)+((1099511627776*cu)+((4294967296*cM)+((16777216*cb)+((65536*b7)+((256*cj)+z37))))))),((72057594037927936*cQ)+((281474976710656*c6)+((1099511627776*z40)+((4294967296*cF)+((16777216*cR)+((65536*dD)+((256*c8)+cH))))))),((72057594037927936*z46)+((281474976710656*cm)+((1099511627776*dE)+((4294967296*z49)+((16777216*cS)+((65536*z51)+((256*dh)+z53))))))),((72057594037927936*eI)+((281474976710656*eY)+((1099511627776*dF)+((4294967296*dO)+((16777216*eB)+((65536*z59)+((256*eJ)+hO))))))),((72057594037927936*fO)+((281474976710656*dP)+((1099511627776*fi)+((4294967296*eQ)+((16777216*eC)+((65536*gC)+((256*iB)+fj))))))),((72057594037927936*z70)+((281474976710656*fB)+((1099511627776*z72)+((4294967296*eo)+((16777216*iC)+((65536*z75)+((256*z76)+e6))))))),((72057594037927936*fk)+((281474976710656*jj)+((1099511627776*iP)+((4294967296*gD)+((16777216*gO)+((65536*hP)+((256*jx)+z85))))))),((72057594037927936*kO)+((281474976710656*z87)+((1099511627776*gj)+((4294967296*hQ)+((16777216*gP)+((65536*z91)+((256*gk)+z93))))))),((72057594037927936*iQ)+((281474976710656*gm)+((1099511627776*gQ)+((4294967296*jV)+((16777216*dS)+((65536*fP)+((256*hJ)+iz))))))),((72057594037927936*ic)+((281474976710656*jg)+((1099511627776*gh)+((4294967296*z105)+((16777216*jw)+((65536*z107)+((256*kj)+z109))))))),((72057594037927936*pj)+((281474976710656*ey)+((1099511627776*fA)+((4294967296*fN)+((16777216*eP)+((65536*gz)+((256*z116)+z117))))))),((72057594037927936*eU)+((281474976710656*z119)+((1099511627776*jT)+((4294967296*gA)+((16777216*hL)+((65536*jU)+((256*z124)+jh))))))),((72057594037927936*nA)+((281474976710656*z127)+((1099511627776*iA)+((4294967296*ji)+((16777216*z130)+((65536*z131)+((256*sW)+sX))))))),((72057594037927936*mr)+((281474976710656*nB)+((1099511627776*nC)+((4294967296*uA)+((16777216*z138)+((65536*z139)+((256*sY)+z141)))))))]:=by
   rw[<-hB]
   show [((((((((0*256+ah)*256+aD)*256+aP)*256+bd)*256+aM)*256+a8)*256+z20)*256+z21),((((((((0*256+z22)*256+bH)*256+z24)*256+bn)*256+z26)*256+bO)*256+z28)*256+cx),((((((((0*256+bZ)*256+z31)*256+cu)*256+cM)*256+cb)*256+b7)*256+cj)*256+z37),((((((((0*256+cQ)*256+c6)*256+z40)*256+cF)*256+cR)*256+dD)*256+c8)*256+cH),((((((((0*256+z46)*256+cm)*256+dE)*256+z49)*256+cS)*256+z51)*256+dh)*256+z53),((((((((0*256+eI)*256+eY)*256+dF)*256+dO)*256+eB)*256+z59)*256+eJ)*256+hO),((((((((0*256+fO)*256+dP)*256+fi)*256+eQ)*256+eC)*256+gC)*256+iB)*256+fj),((((((((0*256+z70)*256+fB)*256+z72)*256+eo)*256+iC)*256+z75)*256+z76)*256+e6),((((((((0*256+fk)*256+jj)*256+iP)*256+gD)*256+gO)*256+hP)*256+jx)*256+z85),((((((((0*256+kO)*256+z87)*256+gj)*256+hQ)*256+gP)*256+z91)*256+gk)*256+z93),((((((((0*256+iQ)*256+gm)*256+gQ)*256+jV)*256+dS)*256+fP)*256+hJ)*256+iz),((((((((0*256+ic)*256+jg)*256+gh)*256+z105)*256+jw)*256+z107)*256+kj)*256+z109),((((((((0*256+pj)*256+ey)*256+fA)*256+fN)*256+eP)*256+gz)*256+z116)*256+z117),((((((((0*256+eU)*256+z119)*256+jT)*256+gA)*256+hL)*256+jU)*256+z124)*256+jh),((((((((0*256+nA)*256+z127)*256+iA)*256+ji)*256+z130)*256+z131)*256+sW)*256+sX),((((((((0*256+mr)*256+nB)*256+nC)*256+uA)*256+z138)*256+z139)*256+sY)*256+z141)]=_
   simp only[List.cons.injEq,and_true]
   refine⟨by omega,by omega,by omega,by omega,by omega,by omega,by omega,by omega,by omega,by omega,by omega,by omega,by omega,by omega,by omega,by omega⟩
  obtain⟨ws,xn⟩:∃l,uv cD bl=l:=⟨_,rfl⟩
  intro rG x0 y0 u0 z143 x1 y1 nz DM x2 y2 rC z145 fg yr sT z146 eX AA DH AH e5 AB Nq z148 fh AD Nr rH ib AE Ns rI jd AF u8 DN je AG Nu z152 jv Ax Nj AI eH yq Nk z154 fy Ay Nl pk iN Az Nn z156 rD DK No z157 rE DL Np
  have v0:=fa (l:=[]) u0 fL
  have v1:=fa nz v0
  have v2:=fa rC v1
  have v3:=fa sT v2
  have v4:=fa DH v3
  have v5:=fa Nq v4
  have v6:=fa Nr v5
  have Nz:=fa Ns v6
  have NB:=fa u8 Nz
  have v9:=fa Nu NB
  have v10:=fa Nj v9
  have v11:=fa Nk v10
  have v12:=fa Nl v11
  have Nw:=fa Nn v12
  have Nx:=fa No Nw
  have Ny:=fa Np Nx
  have hr:aa z157=rws ws:=by
   rw[<-xn,qA];exact Ny
  have wl:ws.length=16:=by rw[<-xn];simp[uv]
  refine⟨by show(aa z157).length<=1000000;rw[hr,lT,wl];decide,?_⟩
  intro sZ i0 i1 fZ z159 kc k1 z160 m0 iw n0
  have fZ:aa sZ=aa z157:=fZ
  rw[hr]at fZ
  have n0:z160=((aa sZ).length:Int):=n0
  rw[fZ,lT,wl]at n0
  refine⟨fun l=>∃(j:Nat) (c k:Int),j<=64/\l=[[((16+j:Nat):Int)],[c],[((16+j:Nat):Int)],[k]]/\aa c=rws (pF cD j ws),fun l=>(80-(l.getD 0 []).getD 0 0).toNat,⟨0,sZ,z159,Nat.zero_le _,by rw[n0];rfl,fZ⟩,?_⟩
  intro z162 zV o1 hM p0 p1 z164 kg bo qd af r1 ⟨j,c,bk,hj,hl,hc⟩
  simp only[List.cons.injEq,and_true]at hl
  obtain⟨nS,mF,Ct,agr⟩:=hl
  subst mF
  obtain⟨ba,iI⟩:∃l,pF cD j ws=l:=⟨_,rfl⟩
  rw[iI]at hc
  have C7:ba.length=16+j:=by rw[<-iI,Jl,wl]
  have qt:((aa hM).length:Int)=16+(j:Int):=by rw[hc,lT,C7];omega
  refine⟨fun hlt=>?_,fun hge=>?_⟩
  ·have hlt:=of_decide_eq_true hlt
   refine⟨⟨by omega,by omega⟩,⟨by omega,by rw[qt];omega⟩,fun s0 eb s1 s2=>⟨⟨by omega,by omega⟩,⟨by omega,by rw[qt];omega⟩,fun z167 aoJ aoL Nd z168 aoW aoX ur qe aq5 aq6 aq7 aq8=>⟨⟨by omega,by omega⟩,⟨by omega,by rw[qt];omega⟩,fun qf w0 w1 w2 z171 arW arX arn aro=>⟨⟨by omega,by omega⟩,⟨by omega,by rw[qt];omega⟩,fun vV asu asv NL z173 A3 A4 mY qg Iq Ir qp aaF=>⟨by show z164=((aa hM).length:Int);omega,by show((aa hM).length:Int)+1<=1073741824;omega,fun z175 IK IL wD gB I2 I3=>?_⟩⟩⟩⟩⟩
   have ur:[[z168]]=[[yc cD z167]]:=ur
   have mY:[[z173]]=[[yd cD vV]]:=mY
   simp only[List.cons.injEq,and_true]at ur mY
   have e1:=rY s2 hc
   have e2:=rY Nd hc
   have bu:=rY w2 hc
   have eK:=rY NL hc
   have KJ:s0+(z168+((-18446744073709551616)*qe+(qf+((-18446744073709551616)*z171+(z173+(-18446744073709551616)*qg)))))=vw cD ba:=by
    unfold vw
    rw[zQ,C7,show 16+j-16=(z162+-16).toNat by omega,show 16+j-15=(z162+-15).toNat by omega,show 16+j-7=(z162+-7).toNat by omega,show 16+j-2=(z162+-2).toNat by omega,<-e1,<-e2,<-bu,<-eK,<-ur,<-mY]
    omega
   have fH:=fa wD hc
   rw[KJ]at fH
   refine⟨⟨j+1,z175,gB,by omega,by rw[show z162+1=((16+(j+1):Nat):Int) by omega,show z164+1=((16+(j+1):Nat):Int) by omega],by rw[Jm,iI];exact fH⟩,?_⟩
   show(80-(z162+1)).toNat<(80-z162).toNat
   omega
  ·have hge:=of_decide_eq_false hge
   have Kw:j=64:=by omega
   have K2:sched cD ws=ba:=by rw[<-iI,Kw];rfl
   refine⟨fun l=>∃(t:Nat),t<=80/\l=[uh cD 0 (ba.take t) aj,[(t:Int)]],fun l=>(80-(l.getD 1 []).getD 0 0).toNat,⟨0,Nat.zero_le _,rfl⟩,?_⟩
   intro ei KX z175 eb s1 ⟨t,ht,hl⟩
   simp only[List.cons.injEq,and_true]at hl
   obtain⟨hv,ahB⟩:=hl
   obtain⟨tQ,Qn⟩:=CR 8 ei KX
   refine⟨fun hlt=>?_,fun Cj=>?_⟩
   ·have hlt:=of_decide_eq_true hlt
    refine⟨⟨by omega,by omega⟩,⟨by omega,by rw[qt];omega⟩,?_⟩
    intro gB A3 A4 mY gi Iq Ir qp iO IK IL wD IM mU I2 I3 I4 pn acM acN Jg ie acZ ac0 Jo z182 ad2 ad3 JC JD
    refine⟨⟨by omega,by omega⟩,?_⟩
    intro z183 Ck af9 qM nD ahK ahL Ln Lo mV ahS ahT Lu Lv lA ail aim tO rJ aiY aiZ LN rK ajq ajr LX ys ajA ajB L2 uB akV akW Mb oo amM amN Mm nE amX amY amZ am0 z193 ano anp DA DB z194 an4 an5 M4 M5 nF aoK aoM aoN aoO
    have CH:t<80:=by omega
    have I9:nF=0:=by omega
    have ex:=rY mY hc
    rw[show z175.toNat=t by omega]at ex
    have qp:[[gi]]=[[td cD (ei.getD 4 0)]]:=qp
    have qM:[[z183]]=[[x3 cD z175.toNat]]:=qM
    have tO:[[lA]]=[[tc cD (ei.getD 0 0)]]:=tO
    simp only[List.cons.injEq,and_true]at qp qM tO
    rw[show z175.toNat=t by omega]at qM
    have iW:ie=wE cD (ei.getD 4 0) (ei.getD 5 0) (ei.getD 6 0):=by
     rw[Jo,I4,Jg]
     unfold wE
     rw[show(2:Int)^cD.w-1-ei.getD 4 0=-1*ei.getD 4 0+18446744073709551615 by rw[show(2:Int)^cD.w=18446744073709551616 by decide];omega]
     rfl
    have KG:oo=C5 cD (ei.getD 0 0) (ei.getD 1 0) (ei.getD 2 0):=by
     rw[Mm,L2,LX,LN,Mb];rfl
    obtain⟨A,hA⟩:∃A,ei.getD 0 0=A:=⟨_,rfl⟩
    obtain⟨D,hD⟩:∃A,ei.getD 3 0=A:=⟨_,rfl⟩
    obtain⟨H,BX⟩:∃A,ei.getD 7 0=A:=⟨_,rfl⟩
    rw[BX]at wD IM JC JD Ln Lo Lu Lv DA DB M4 M5⊢
    rw[hD]at DA DB⊢
    have xk:=an8 t gB tQ
    rw[BX,hD,<-qp,<-iW,<-qM,<-tO,<-KG]at xk
    have bm:md cD (H+gi+ie+z183+gB)=H+(gB+(gi+((-18446744073709551616)*iO+(ie+((-18446744073709551616)*z182+(z183+((-18446744073709551616)*nD+(-18446744073709551616)*mV))))))):=by
     rw[zQ];omega
    have JT:md cD (lA+oo)=lA+(oo+(-18446744073709551616)*nE):=by
     rw[zQ];omega
    simp only[bm,JT]at xk
    refine⟨⟨by omega,by omega⟩,⟨t+1,by omega,?_⟩,?_⟩
    ·rw[WK ba t (by omega),MK,<-hv,show 0+(ba.take t).length=t by rw[List.length_take];omega,<-ex,xk,I9]
     simp only[List.cons.injEq,and_true]
     refine⟨⟨?_,trivial,trivial,trivial,?_⟩,?_⟩
     ·rw[zQ];exact Gc (k:=z194) (by omega) (by omega) (by omega)
     ·rw[zQ];exact Gc (k:=z193) (by omega) (by omega) (by omega)
     ·omega
    ·show(80-(z175+-18446744073709551616*nF+1)).toNat<(80-z175).toNat
     omega
   ·have Cj:=of_decide_eq_false Cj
    intro gB A3 YT Y1 Za gi A4 YU Y2 Zb iO mY YV Y3 Zc mU YO YW Y4 Zd pn YP YX Y5 Ze ie YQ YY Y6 Zf z182 YR YZ Y7 Zg z183 YS Y0 Y8 Zh
    have CH:t=80:=by omega
    have Kf:ba.take t=ba:=List.take_of_length_le (by omega)
    rw[Kf]at hv
    have lL:uo cD aj ws=[aj.getD 0 0+(ei.getD 0 0+(-18446744073709551616)*gB),aj.getD 1 0+(ei.getD 1 0+(-18446744073709551616)*gi),aj.getD 2 0+(ei.getD 2 0+(-18446744073709551616)*iO),aj.getD 3 0+(ei.getD 3 0+(-18446744073709551616)*mU),aj.getD 4 0+(ei.getD 4 0+(-18446744073709551616)*pn),aj.getD 5 0+(ei.getD 5 0+(-18446744073709551616)*ie),aj.getD 6 0+(ei.getD 6 0+(-18446744073709551616)*z182),aj.getD 7 0+(ei.getD 7 0+(-18446744073709551616)*z183)]:=by
     unfold uo
     rw[K2,<-hv,asB _ tP tQ]
     simp only[zQ,List.cons.injEq,and_true]
     refine⟨by omega,by omega,by omega,by omega,by omega,by omega,by omega,by omega⟩
    refine⟨⟨i+1,by omega,?_⟩,?_⟩
    ·rw[<-lL,u6]
     show _=[uo cD (wB cD (cl z0) i (pw cD)) (uv cD (((cl z0).drop (128*i)).take 128)),_]
     rw[oM,xn,show ae+1=((i+1:Nat):Int) by omega]
    ·show((q:Int)-(ae+1)).toNat<((q:Int)-ae).toNat
     omega
 ·have h:=of_decide_eq_false h
  have Cn:i=q:=by omega
  have hall:oy cD (cl z0)=sw cD aj:=by
   unfold oy
   rw[aB,show 2*cD.w=128 from rfl,Nat.mul_div_cancel_left q (by decide),<-Cn,<-u6]
  have gr:sw cD aj=((((((([]++(List.range 8).map (j4 cD (aj.getD 0 0)))++(List.range 8).map (j4 cD (aj.getD 1 0)))++(List.range 8).map (j4 cD (aj.getD 2 0)))++(List.range 8).map (j4 cD (aj.getD 3 0)))++(List.range 8).map (j4 cD (aj.getD 4 0)))++(List.range 8).map (j4 cD (aj.getD 5 0)))++(List.range 8).map (j4 cD (aj.getD 6 0)))++(List.range 8).map (j4 cD (aj.getD 7 0)):=by
   conv=>lhs;rw[Ut tP]
   rfl
  refine vS (pre:=[]) fL rfl (by simp) fun aaZ ait ahU p0 p1 h0 I8=>?_
  refine vS h0 (by rw[I8];simp) (by simp) fun aa0 Lz ahV p2 p3 h1 yV=>?_
  refine vS h1 (by rw[yV];simp) (by simp) fun aa1 LA ahW dx dy h2 Bu=>?_
  refine vS h2 (by rw[Bu];simp) (by simp) fun Bi aiw ahX fc lp h3 Bv=>?_
  refine vS h3 (by rw[Bv];simp) (by simp) fun aba aix ahZ ru Mh h4 Jc=>?_
  refine vS h4 (by rw[Jc];simp) (by simp) fun abg aiA ah0 Mg ak6 h5 Bw=>?_
  refine vS h5 (by rw[Bw];simp) (by simp) fun abl aiB ah1 ak7 ak8 h6 Bx=>?_
  refine vS h6 (by rw[Bx];simp) (by simp) fun Bj LB ah3 ak9 ala h7 Je=>?_
  have Cu:aa Bj=rws (sw cD aj):=by rw[h7,gr]
  have LM:LB=((aa Bj).length:Int):=by rw[h7,lT,Je];simp
  refine⟨⟨Int.le_refl _,by omega,by omega⟩,fun N7 x0 x1 x2=>⟨⟨x0,x1,trivial⟩,?_⟩⟩
  have hf:=mQ x2 LM
  show cl N7=oy cD (cl z0)
  rw[hall]
  exact Be (by rw[hf,Cu])
end Go.ck

set_option maxRecDepth 100000
set_option linter.unusedVariables false
set_option linter.unusedSimpArgs false
namespace Go.ck
open Go Go.bj
def Og (S:Nat->List (List Int)->List (List Int)->Prop) (K:List (List Int)->List (List Int)->Prop):Prop:=
 ∀af:List Int,av (a7 0 18446744073709551615 5) af->aG 0 8191 (List.getD af 0 0) 2251799813685248 fun z5=>aG 0 8191 (List.getD af 0 0) 2251799813685248
 fun ao=>bg ((List.getD af 1 0)+z5) 18446744073709551616 fun z7=>aG 0 8191 ((List.getD af 1 0)+(z5+((-18446744073709551616)*z7))) 2251799813685248 fun
 au=>aG 0 8191 ((List.getD af 1 0)+(z5+((-18446744073709551616)*z7))) 2251799813685248 fun z9=>bg ((List.getD af 2 0)+au) 18446744073709551616 fun ay
 =>aG 0 8191 ((List.getD af 2 0)+(au+((-18446744073709551616)*ay))) 2251799813685248 fun aS=>aG 0 8191 ((List.getD af 2 0)+(au+
 ((-18446744073709551616)*ay))) 2251799813685248 fun z12=>bg ((List.getD af 3 0)+aS) 18446744073709551616 fun ae=>aG 0 8191 ((List.getD af 3 0)+(aS
 +((-18446744073709551616)*ae))) 2251799813685248 fun ah=>aG 0 8191 ((List.getD af 3 0)+(aS+((-18446744073709551616)*ae))) 2251799813685248 fun aD
 =>bg ((List.getD af 4 0)+ah) 18446744073709551616 fun aP=>aG 0 8191 ((List.getD af 4 0)+(ah+((-18446744073709551616)*aP))) 2251799813685248 fun
 bd=>aG 0 8191 ((List.getD af 4 0)+(ah+((-18446744073709551616)*aP))) 2251799813685248 fun aM=>bg ((List.getD af 0 0)+(((-2251799813685248)*ao)
 +(19*bd))) 2251799813685248 fun a8=>bg ((List.getD af 0 0)+(((-2251799813685248)*ao)+(19*bd))) 2251799813685248 fun z20=>bg ((List.getD af 1 0)
 +(z5+(((-18446744073709551616)*z7)+(((-2251799813685248)*z9)+a8)))) 2251799813685248 fun z21=>bg ((List.getD af 1 0)+(z5+
 (((-18446744073709551616)*z7)+(((-2251799813685248)*z9)+a8)))) 2251799813685248 fun z22=>bg ((List.getD af 2 0)+(au+(((-18446744073709551616)*
 ay)+(((-2251799813685248)*z12)+z21)))) 2251799813685248 fun bH=>bg ((List.getD af 2 0)+(au+(((-18446744073709551616)*ay)+(((-2251799813685248)
 *z12)+z21)))) 2251799813685248 fun z24=>bg ((List.getD af 3 0)+(aS+(((-18446744073709551616)*ae)+(((-2251799813685248)*aD)+bH))))
 2251799813685248 fun bn=>bg ((List.getD af 3 0)+(aS+(((-18446744073709551616)*ae)+(((-2251799813685248)*aD)+bH)))) 2251799813685248 fun z26=>
 bg ((List.getD af 4 0)+(ah+(((-18446744073709551616)*aP)+(((-2251799813685248)*aM)+bn)))) 2251799813685248 fun bO=>bg ((List.getD af 4 0)+
 (ah+(((-18446744073709551616)*aP)+(((-2251799813685248)*aM)+bn)))) 2251799813685248 fun z28=>K [af] [[((List.getD af 0 0)+(((-2251799813685248)
 *ao)+((19*bd)+(((-2251799813685248)*z20)+(19*bO))))),((List.getD af 1 0)+(z5+(((-18446744073709551616)*z7)+(((-2251799813685248)*z9)+
 (a8+((-2251799813685248)*z22)))))),((List.getD af 2 0)+(au+(((-18446744073709551616)*ay)+(((-2251799813685248)*z12)+(z21+((-2251799813685248)
 *z24)))))),((List.getD af 3 0)+(aS+(((-18446744073709551616)*ae)+(((-2251799813685248)*aD)+(bH+((-2251799813685248)*z26)))))),((List.getD af
 4 0)+(ah+(((-18446744073709551616)*aP)+(((-2251799813685248)*aM)+(bn+((-2251799813685248)*z28))))))]]
def OB (S:Nat->List (List Int)->List (List Int)->Prop) (K:List (List Int)->List (List Int)->Prop):Prop:=
 ∀af:List Int,av (a7 0 18446744073709551615 5) af->∀aj:List Int,av (a7 0 18446744073709551615 5) aj->bg ((List.getD af 0 0)+(List.getD aj 0 0))
 18446744073709551616 fun ay=>bg ((List.getD af 1 0)+(List.getD aj 1 0)) 18446744073709551616 fun aS=>bg ((List.getD af 2 0)+(List.getD aj 2 0))
 18446744073709551616 fun z12=>bg ((List.getD af 3 0)+(List.getD aj 3 0)) 18446744073709551616 fun ae=>bg ((List.getD af 4 0)+(List.getD aj 4 0))
 18446744073709551616 fun ah=>∀jN:List Int,av (a7 0 18446744073709551615 5) jN->S 640 [[((List.getD af 0 0)+((List.getD aj 0 0)+
 ((-18446744073709551616)*ay))),((List.getD af 1 0)+((List.getD aj 1 0)+((-18446744073709551616)*aS))),((List.getD af 2 0)+((List.getD aj 2 0)+
 ((-18446744073709551616)*z12))),((List.getD af 3 0)+((List.getD aj 3 0)+((-18446744073709551616)*ae))),((List.getD af 4 0)+((List.getD aj 4 0)+
 ((-18446744073709551616)*ah)))]] [jN]->K [af,aj] [jN]
def OA (S:Nat->List (List Int)->List (List Int)->Prop) (K:List (List Int)->List (List Int)->Prop):Prop:=
 ∀af:List Int,av (a7 0 18446744073709551615 5) af->∀aj:List Int,av (a7 0 18446744073709551615 5) aj->bg ((List.getD af 0 0)+9007199254740988)
 18446744073709551616 fun ay=>aG (-1) 0 (((List.getD af 0 0)+(((-1)*(List.getD aj 0 0))+((-18446744073709551616)*ay)))+9007199254740988)
 18446744073709551616 fun aS=>bg ((List.getD af 1 0)+9007199254740988) 18446744073709551616 fun z12=>aG (-1) 0 (((List.getD af 1 0)+(((-1)*(List.getD
 aj 1 0))+((-18446744073709551616)*z12)))+9007199254740988) 18446744073709551616 fun ae=>bg ((List.getD af 2 0)+9007199254740988) 18446744073709551616
 fun ah=>aG (-1) 0 (((List.getD af 2 0)+(((-1)*(List.getD aj 2 0))+((-18446744073709551616)*ah)))+9007199254740988) 18446744073709551616 fun aD=>
 bg ((List.getD af 3 0)+9007199254740988) 18446744073709551616 fun aP=>aG (-1) 0 (((List.getD af 3 0)+(((-1)*(List.getD aj 3 0))+
 ((-18446744073709551616)*aP)))+9007199254740988) 18446744073709551616 fun bd=>bg ((List.getD af 4 0)+9007199254740988) 18446744073709551616 fun aM=>
 aG (-1) 0 (((List.getD af 4 0)+(((-1)*(List.getD aj 4 0))+((-18446744073709551616)*aM)))+9007199254740988) 18446744073709551616 fun a8=>aG (-1) 0
 (((List.getD af 0 0)+(((-1)*(List.getD aj 0 0))+(((-18446744073709551616)*ay)+((-18446744073709551616)*aS))))+9007199254740916)
 18446744073709551616 fun z20=>∀GI:List Int,av (a7 0 18446744073709551615 5) GI->S 640 [[(((List.getD af 0 0)+(((-1)*(List.getD aj 0 0))+
 (((-18446744073709551616)*ay)+(((-18446744073709551616)*aS)+((-18446744073709551616)*z20)))))+9007199254740916),(((List.getD af 1 0)+(((-1)*
 (List.getD aj 1 0))+(((-18446744073709551616)*z12)+((-18446744073709551616)*ae))))+9007199254740988),(((List.getD af 2 0)+(((-1)*(List.getD aj 2
 0))+(((-18446744073709551616)*ah)+((-18446744073709551616)*aD))))+9007199254740988),(((List.getD af 3 0)+(((-1)*(List.getD aj 3 0))+
 (((-18446744073709551616)*aP)+((-18446744073709551616)*bd))))+9007199254740988),(((List.getD af 4 0)+(((-1)*(List.getD aj 4 0))+
 (((-18446744073709551616)*aM)+((-18446744073709551616)*a8))))+9007199254740988)]] [GI]->K [af,aj] [GI]
def OC (S:Nat->List (List Int)->List (List Int)->Prop) (K:List (List Int)->List (List Int)->Prop):Prop:=
 ∀af:List Int,av (a7 0 18446744073709551615 5) af->∀aj:List Int,av (a7 0 18446744073709551615 5) aj->bB fun ay=>bB fun aS=>S 662
 [[(List.getD af 0 0)],[(List.getD aj 0 0)]] [[ay],[aS]]->bB fun z12=>bR fun ae=>S 663 [[0],[aS],[0]] [[z12],[ae]]->bg (ay+ae)
 18446744073709551616 fun ah=>bB fun aD=>bB fun aP=>S 662 [[(List.getD af 0 0)],[(List.getD aj 1 0)]] [[aD],[aP]]->bB fun bd=>bR fun aM=>S 663
 [[0],[aP],[0]] [[bd],[aM]]->bg (aD+aM) 18446744073709551616 fun a8=>bB fun z20=>bB fun z21=>S 662 [[(List.getD af 0 0)],[(List.getD aj 2 0)]]
 [[z20],[z21]]->bB fun z22=>bR fun bH=>S 663 [[0],[z21],[0]] [[z22],[bH]]->bg (z20+bH) 18446744073709551616 fun z24=>bB fun bn=>bB fun z26=>S
 662 [[(List.getD af 0 0)],[(List.getD aj 3 0)]] [[bn],[z26]]->bB fun bO=>bR fun z28=>S 663 [[0],[z26],[0]] [[bO],[z28]]->bg (bn+z28)
 18446744073709551616 fun cx=>bB fun bZ=>bB fun z31=>S 662 [[(List.getD af 0 0)],[(List.getD aj 4 0)]] [[bZ],[z31]]->bB fun cu=>bR fun cM=>S 663
 [[0],[z31],[0]] [[cu],[cM]]->bg (bZ+cM) 18446744073709551616 fun cb=>bB fun b7=>bB fun cj=>S 662 [[(List.getD af 1 0)],[(List.getD aj 0 0)]]
 [[b7],[cj]]->bB fun z37=>bR fun cQ=>S 663 [[bd],[cj],[0]] [[z37],[cQ]]->bg (b7+cQ) 18446744073709551616 fun c6=>bg (aD+(aM+
 (((-18446744073709551616)*a8)+(b7+(cQ+((-18446744073709551616)*c6)))))) 18446744073709551616 fun z40=>bB fun cF=>bB fun cR=>S 662
 [[(List.getD af 1 0)],[(List.getD aj 1 0)]] [[cF],[cR]]->bB fun dD=>bR fun c8=>S 663 [[z22],[cR],[0]] [[dD],[c8]]->bg (cF+c8)
 18446744073709551616 fun cH=>bg (z20+(bH+(((-18446744073709551616)*z24)+(cF+(c8+((-18446744073709551616)*cH)))))) 18446744073709551616 fun
 z46=>bB fun cm=>bB fun dE=>S 662 [[(List.getD af 1 0)],[(List.getD aj 2 0)]] [[cm],[dE]]->bB fun z49=>bR fun cS=>S 663 [[bO],[dE],[0]]
 [[z49],[cS]]->bg (cm+cS) 18446744073709551616 fun z51=>bg (bn+(z28+(((-18446744073709551616)*cx)+(cm+(cS+((-18446744073709551616)*
 z51)))))) 18446744073709551616 fun dh=>bB fun z53=>bB fun eI=>S 662 [[(List.getD af 1 0)],[(List.getD aj 3 0)]] [[z53],[eI]]->bB fun eY=>bR fun dF
 =>S 663 [[cu],[eI],[0]] [[eY],[dF]]->bg (z53+dF) 18446744073709551616 fun dO=>bg (bZ+(cM+(((-18446744073709551616)*cb)+(z53+(dF+
 ((-18446744073709551616)*dO)))))) 18446744073709551616 fun eB=>aG 0 18 (19*(List.getD aj 4 0)) 18446744073709551616 fun z59=>bB fun eJ=>bB fun hO
 =>S 662 [[(List.getD af 1 0)],[((19*(List.getD aj 4 0))+((-18446744073709551616)*z59))]] [[eJ],[hO]]->bB fun fO=>bR fun dP=>S 663
 [[z12],[hO],[0]] [[fO],[dP]]->bg (eJ+dP) 18446744073709551616 fun fi=>bg (ay+(ae+(((-18446744073709551616)*ah)+(eJ+(dP+
 ((-18446744073709551616)*fi)))))) 18446744073709551616 fun eQ=>bB fun eC=>bB fun gC=>S 662 [[(List.getD af 2 0)],[(List.getD aj 0 0)]] [[eC],[gC]]
 ->bB fun iB=>bR fun fj=>S 663 [[dD],[gC],[0]] [[iB],[fj]]->bg (eC+fj) 18446744073709551616 fun z70=>bR fun fB=>0<=(z20+(bH+
 (((-18446744073709551616)*z24)+(cF+(c8+(((-18446744073709551616)*cH)+(((-18446744073709551616)*z46)+(eC+(fj+((-18446744073709551616)*
 z70))))))))))-18446744073709551616*fB->(z20+(bH+(((-18446744073709551616)*z24)+(cF+(c8+(((-18446744073709551616)*cH)+
 (((-18446744073709551616)*z46)+(eC+(fj+((-18446744073709551616)*z70))))))))))-18446744073709551616*fB<18446744073709551616->bB fun z72=>bB
 fun eo=>S 662 [[(List.getD af 2 0)],[(List.getD aj 1 0)]] [[z72],[eo]]->bB fun iC=>bR fun z75=>S 663 [[z49],[eo],[0]] [[iC],[z75]]->bg (z72+z75)
 18446744073709551616 fun z76=>bR fun e6=>0<=(bn+(z28+(((-18446744073709551616)*cx)+(cm+(cS+(((-18446744073709551616)*z51)+
 (((-18446744073709551616)*dh)+(z72+(z75+((-18446744073709551616)*z76))))))))))-18446744073709551616*e6->(bn+(z28+(((-18446744073709551616)
 *cx)+(cm+(cS+(((-18446744073709551616)*z51)+(((-18446744073709551616)*dh)+(z72+(z75+((-18446744073709551616)*z76))))))))))-
 18446744073709551616*e6<18446744073709551616->bB fun fk=>bB fun jj=>S 662 [[(List.getD af 2 0)],[(List.getD aj 2 0)]] [[fk],[jj]]->bB fun iP=>
 bR fun gD=>S 663 [[eY],[jj],[0]] [[iP],[gD]]->bg (fk+gD) 18446744073709551616 fun gO=>bR fun hP=>0<=(bZ+(cM+(((-18446744073709551616)*
 cb)+(z53+(dF+(((-18446744073709551616)*dO)+(((-18446744073709551616)*eB)+(fk+(gD+((-18446744073709551616)*gO))))))))))-
 18446744073709551616*hP->(bZ+(cM+(((-18446744073709551616)*cb)+(z53+(dF+(((-18446744073709551616)*dO)+(((-18446744073709551616)*eB)
 +(fk+(gD+((-18446744073709551616)*gO))))))))))-18446744073709551616*hP<18446744073709551616->aG 0 18 (19*(List.getD aj 3 0))
 18446744073709551616 fun jx=>bB fun z85=>bB fun kO=>S 662 [[(List.getD af 2 0)],[((19*(List.getD aj 3 0))+((-18446744073709551616)*jx))]]
 [[z85],[kO]]->bB fun z87=>bR fun gj=>S 663 [[fO],[kO],[0]] [[z87],[gj]]->bg (z85+gj) 18446744073709551616 fun hQ=>bR fun gP=>0<=(ay+
 (ae+(((-18446744073709551616)*ah)+(eJ+(dP+(((-18446744073709551616)*fi)+(((-18446744073709551616)*eQ)+(z85+(gj+
 ((-18446744073709551616)*hQ))))))))))-18446744073709551616*gP->(ay+(ae+(((-18446744073709551616)*ah)+(eJ+(dP+(((-18446744073709551616)
 *fi)+(((-18446744073709551616)*eQ)+(z85+(gj+((-18446744073709551616)*hQ))))))))))-18446744073709551616*gP<18446744073709551616->aG 0 18
 (19*(List.getD aj 4 0)) 18446744073709551616 fun z91=>bB fun gk=>bB fun z93=>S 662 [[(List.getD af 2 0)],[((19*(List.getD aj 4 0))+
 ((-18446744073709551616)*z91))]] [[gk],[z93]]->bB fun iQ=>bR fun gm=>S 663 [[z37],[z93],[0]] [[iQ],[gm]]->bg (gk+gm) 18446744073709551616 fun
 gQ=>bR fun jV=>0<=(aD+(aM+(((-18446744073709551616)*a8)+(b7+(cQ+(((-18446744073709551616)*c6)+(((-18446744073709551616)*z40)+
 (gk+(gm+((-18446744073709551616)*gQ))))))))))-18446744073709551616*jV->(aD+(aM+(((-18446744073709551616)*a8)+(b7+(cQ+
 (((-18446744073709551616)*c6)+(((-18446744073709551616)*z40)+(gk+(gm+((-18446744073709551616)*gQ))))))))))-18446744073709551616*jV<
 18446744073709551616->bB fun dS=>bB fun fP=>S 662 [[(List.getD af 3 0)],[(List.getD aj 0 0)]] [[dS],[fP]]->bB fun hJ=>bR fun iz=>S 663
 [[iC],[fP],[0]] [[hJ],[iz]]->bg (dS+iz) 18446744073709551616 fun ic=>bR fun jg=>0<=(bn+(z28+(((-18446744073709551616)*cx)+(cm+
 (cS+(((-18446744073709551616)*z51)+(((-18446744073709551616)*dh)+(z72+(z75+(((-18446744073709551616)*z76)+(((-18446744073709551616)*e6)+
 (dS+(iz+((-18446744073709551616)*ic))))))))))))))-18446744073709551616*jg->(bn+(z28+(((-18446744073709551616)*cx)+(cm+(cS+
 (((-18446744073709551616)*z51)+(((-18446744073709551616)*dh)+(z72+(z75+(((-18446744073709551616)*z76)+(((-18446744073709551616)*e6)+(dS+
 (iz+((-18446744073709551616)*ic))))))))))))))-18446744073709551616*jg<18446744073709551616->bB fun gh=>bB fun z105=>S 662 [[(List.getD af
 3 0)],[(List.getD aj 1 0)]] [[gh],[z105]]->bB fun jw=>bR fun z107=>S 663 [[iP],[z105],[0]] [[jw],[z107]]->bg (gh+z107) 18446744073709551616
 fun kj=>bR fun z109=>0<=(bZ+(cM+(((-18446744073709551616)*cb)+(z53+(dF+(((-18446744073709551616)*dO)+(((-18446744073709551616)*eB)
 +(fk+(gD+(((-18446744073709551616)*gO)+(((-18446744073709551616)*hP)+(gh+(z107+((-18446744073709551616)*kj))))))))))))))-
 18446744073709551616*z109->(bZ+(cM+(((-18446744073709551616)*cb)+(z53+(dF+(((-18446744073709551616)*dO)+(((-18446744073709551616)*eB)
 +(fk+(gD+(((-18446744073709551616)*gO)+(((-18446744073709551616)*hP)+(gh+(z107+((-18446744073709551616)*kj))))))))))))))-
 18446744073709551616*z109<18446744073709551616->aG 0 18 (19*(List.getD aj 2 0)) 18446744073709551616 fun pj=>bB fun ey=>bB fun fA=>S 662
 [[(List.getD af 3 0)],[((19*(List.getD aj 2 0))+((-18446744073709551616)*pj))]] [[ey],[fA]]->bB fun fN=>bR fun eP=>S 663 [[z87],[fA],[0]]
 [[fN],[eP]]->bg (ey+eP) 18446744073709551616 fun gz=>bR fun z116=>0<=(ay+(ae+(((-18446744073709551616)*ah)+(eJ+(dP+
 (((-18446744073709551616)*fi)+(((-18446744073709551616)*eQ)+(z85+(gj+(((-18446744073709551616)*hQ)+(((-18446744073709551616)*gP)+(ey+
 (eP+((-18446744073709551616)*gz))))))))))))))-18446744073709551616*z116->(ay+(ae+(((-18446744073709551616)*ah)+(eJ+(dP+
 (((-18446744073709551616)*fi)+(((-18446744073709551616)*eQ)+(z85+(gj+(((-18446744073709551616)*hQ)+(((-18446744073709551616)*gP)+(ey+
 (eP+((-18446744073709551616)*gz))))))))))))))-18446744073709551616*z116<18446744073709551616->aG 0 18 (19*(List.getD aj 3 0))
 18446744073709551616 fun z117=>bB fun eU=>bB fun z119=>S 662 [[(List.getD af 3 0)],[((19*(List.getD aj 3 0))+((-18446744073709551616)*z117))]]
 [[eU],[z119]]->bB fun jT=>bR fun gA=>S 663 [[iQ],[z119],[0]] [[jT],[gA]]->bg (eU+gA) 18446744073709551616 fun hL=>bR fun jU=>0<=
 (aD+(aM+(((-18446744073709551616)*a8)+(b7+(cQ+(((-18446744073709551616)*c6)+(((-18446744073709551616)*z40)+(gk+(gm+
 (((-18446744073709551616)*gQ)+(((-18446744073709551616)*jV)+(eU+(gA+((-18446744073709551616)*hL))))))))))))))-18446744073709551616*jU
 ->(aD+(aM+(((-18446744073709551616)*a8)+(b7+(cQ+(((-18446744073709551616)*c6)+(((-18446744073709551616)*z40)+(gk+(gm+
 (((-18446744073709551616)*gQ)+(((-18446744073709551616)*jV)+(eU+(gA+((-18446744073709551616)*hL))))))))))))))-18446744073709551616*jU
 <18446744073709551616->aG 0 18 (19*(List.getD aj 4 0)) 18446744073709551616 fun z124=>bB fun jh=>bB fun nA=>S 662 [[(List.getD af 3 0)],[((19*
 (List.getD aj 4 0))+((-18446744073709551616)*z124))]] [[jh],[nA]]->bB fun z127=>bR fun iA=>S 663 [[iB],[nA],[0]] [[z127],[iA]]->bg (jh+
 iA) 18446744073709551616 fun ji=>bR fun z130=>0<=(z20+(bH+(((-18446744073709551616)*z24)+(cF+(c8+(((-18446744073709551616)*cH)+
 (((-18446744073709551616)*z46)+(eC+(fj+(((-18446744073709551616)*z70)+(((-18446744073709551616)*fB)+(jh+(iA+((-18446744073709551616)*
 ji))))))))))))))-18446744073709551616*z130->(z20+(bH+(((-18446744073709551616)*z24)+(cF+(c8+(((-18446744073709551616)*cH)+
 (((-18446744073709551616)*z46)+(eC+(fj+(((-18446744073709551616)*z70)+(((-18446744073709551616)*fB)+(jh+(iA+((-18446744073709551616)*
 ji))))))))))))))-18446744073709551616*z130<18446744073709551616->bB fun z131=>bB fun sW=>S 662 [[(List.getD af 4 0)],[(List.getD aj 0 0)]]
 [[z131],[sW]]->bB fun sX=>bR fun mr=>S 663 [[jw],[sW],[0]] [[sX],[mr]]->bg (z131+mr) 18446744073709551616 fun nB=>bR fun nC=>0
 <=(bZ+(cM+(((-18446744073709551616)*cb)+(z53+(dF+(((-18446744073709551616)*dO)+(((-18446744073709551616)*eB)+(fk+(gD+
 (((-18446744073709551616)*gO)+(((-18446744073709551616)*hP)+(gh+(z107+(((-18446744073709551616)*kj)+(((-18446744073709551616)*z109)+
 (z131+(mr+((-18446744073709551616)*nB))))))))))))))))))-18446744073709551616*nC->(bZ+(cM+(((-18446744073709551616)*cb)+(z53+(dF+
 (((-18446744073709551616)*dO)+(((-18446744073709551616)*eB)+(fk+(gD+(((-18446744073709551616)*gO)+(((-18446744073709551616)*hP)+(gh+
 (z107+(((-18446744073709551616)*kj)+(((-18446744073709551616)*z109)+(z131+(mr+((-18446744073709551616)*nB))))))))))))))))))-
 18446744073709551616*nC<18446744073709551616->aG 0 18 (19*(List.getD aj 1 0)) 18446744073709551616 fun uA=>bB fun z138=>bB fun z139=>S 662
 [[(List.getD af 4 0)],[((19*(List.getD aj 1 0))+((-18446744073709551616)*uA))]] [[z138],[z139]]->bB fun sY=>bR fun z141=>S 663
 [[fN],[z139],[0]] [[sY],[z141]]->bg (z138+z141) 18446744073709551616 fun rG=>bR fun z143=>0<=(ay+(ae+(((-18446744073709551616)*ah)+(eJ
 +(dP+(((-18446744073709551616)*fi)+(((-18446744073709551616)*eQ)+(z85+(gj+(((-18446744073709551616)*hQ)+(((-18446744073709551616)*gP)
 +(ey+(eP+(((-18446744073709551616)*gz)+(((-18446744073709551616)*z116)+(z138+(z141+((-18446744073709551616)*rG))))))))))))))))))-
 18446744073709551616*z143->(ay+(ae+(((-18446744073709551616)*ah)+(eJ+(dP+(((-18446744073709551616)*fi)+(((-18446744073709551616)*eQ)
 +(z85+(gj+(((-18446744073709551616)*hQ)+(((-18446744073709551616)*gP)+(ey+(eP+(((-18446744073709551616)*gz)+
 (((-18446744073709551616)*z116)+(z138+(z141+((-18446744073709551616)*rG))))))))))))))))))-18446744073709551616*z143<18446744073709551616->aG
 0 18 (19*(List.getD aj 2 0)) 18446744073709551616 fun DM=>bB fun z145=>bB fun z146=>S 662 [[(List.getD af 4 0)],[((19*(List.getD aj 2 0))+
 ((-18446744073709551616)*DM))]] [[z145],[z146]]->bB fun AH=>bR fun z148=>S 663 [[jT],[z146],[0]] [[AH],[z148]]->bg (z145+z148)
 18446744073709551616 fun rH=>bR fun rI=>0<=(aD+(aM+(((-18446744073709551616)*a8)+(b7+(cQ+(((-18446744073709551616)*c6)+
 (((-18446744073709551616)*z40)+(gk+(gm+(((-18446744073709551616)*gQ)+(((-18446744073709551616)*jV)+(eU+(gA+(((-18446744073709551616)
 *hL)+(((-18446744073709551616)*jU)+(z145+(z148+((-18446744073709551616)*rH))))))))))))))))))-18446744073709551616*rI->(aD+(aM+
 (((-18446744073709551616)*a8)+(b7+(cQ+(((-18446744073709551616)*c6)+(((-18446744073709551616)*z40)+(gk+(gm+(((-18446744073709551616)*
 gQ)+(((-18446744073709551616)*jV)+(eU+(gA+(((-18446744073709551616)*hL)+(((-18446744073709551616)*jU)+(z145+(z148+
 ((-18446744073709551616)*rH))))))))))))))))))-18446744073709551616*rI<18446744073709551616->aG 0 18 (19*(List.getD aj 3 0)) 18446744073709551616
 fun DN=>bB fun z152=>bB fun AI=>S 662 [[(List.getD af 4 0)],[((19*(List.getD aj 3 0))+((-18446744073709551616)*DN))]] [[z152],[AI]]->bB fun
 z154=>bR fun pk=>S 663 [[z127],[AI],[0]] [[z154],[pk]]->bg (z152+pk) 18446744073709551616 fun z156=>bR fun z157=>0<=(z20+(bH+
 (((-18446744073709551616)*z24)+(cF+(c8+(((-18446744073709551616)*cH)+(((-18446744073709551616)*z46)+(eC+(fj+(((-18446744073709551616)*
 z70)+(((-18446744073709551616)*fB)+(jh+(iA+(((-18446744073709551616)*ji)+(((-18446744073709551616)*z130)+(z152+(pk+
 ((-18446744073709551616)*z156))))))))))))))))))-18446744073709551616*z157->(z20+(bH+(((-18446744073709551616)*z24)+(cF+(c8+
 (((-18446744073709551616)*cH)+(((-18446744073709551616)*z46)+(eC+(fj+(((-18446744073709551616)*z70)+(((-18446744073709551616)*fB)+(jh+
 (iA+(((-18446744073709551616)*ji)+(((-18446744073709551616)*z130)+(z152+(pk+((-18446744073709551616)*z156))))))))))))))))))-
 18446744073709551616*z157<18446744073709551616->aG 0 18 (19*(List.getD aj 4 0)) 18446744073709551616 fun sZ=>bB fun z159=>bB fun z160=>S 662
 [[(List.getD af 4 0)],[((19*(List.getD aj 4 0))+((-18446744073709551616)*sZ))]] [[z159],[z160]]->bB fun N1=>bR fun z162=>S 663
 [[hJ],[z160],[0]] [[N1],[z162]]->bg (z159+z162) 18446744073709551616 fun hM=>bR fun z164=>0<=(bn+(z28+(((-18446744073709551616)*cx)+(cm
 +(cS+(((-18446744073709551616)*z51)+(((-18446744073709551616)*dh)+(z72+(z75+(((-18446744073709551616)*z76)+(((-18446744073709551616)*e6)
 +(dS+(iz+(((-18446744073709551616)*ic)+(((-18446744073709551616)*jg)+(z159+(z162+((-18446744073709551616)*hM))))))))))))))))))-
 18446744073709551616*z164->(bn+(z28+(((-18446744073709551616)*cx)+(cm+(cS+(((-18446744073709551616)*z51)+(((-18446744073709551616)*dh)
 +(z72+(z75+(((-18446744073709551616)*z76)+(((-18446744073709551616)*e6)+(dS+(iz+(((-18446744073709551616)*ic)+
 (((-18446744073709551616)*jg)+(z159+(z162+((-18446744073709551616)*hM))))))))))))))))))-18446744073709551616*z164<18446744073709551616->bB
 fun qd=>bB fun s0=>S 662 [[0],[1]] [[qd],[s0]]->bB fun z167=>bR fun z168=>S 663 [[sY],[s0],[0]] [[z167],[z168]]->bg (qd+z168)
 18446744073709551616 fun qe=>bR fun qf=>0<=(ay+(ae+(((-18446744073709551616)*ah)+(eJ+(dP+(((-18446744073709551616)*fi)+
 (((-18446744073709551616)*eQ)+(z85+(gj+(((-18446744073709551616)*hQ)+(((-18446744073709551616)*gP)+(ey+(eP+(((-18446744073709551616)
 *gz)+(((-18446744073709551616)*z116)+(z138+(z141+(((-18446744073709551616)*rG)+(((-18446744073709551616)*z143)+(qd+(z168+
 ((-18446744073709551616)*qe))))))))))))))))))))))-18446744073709551616*qf->(ay+(ae+(((-18446744073709551616)*ah)+(eJ+(dP+
 (((-18446744073709551616)*fi)+(((-18446744073709551616)*eQ)+(z85+(gj+(((-18446744073709551616)*hQ)+(((-18446744073709551616)*gP)+(ey+
 (eP+(((-18446744073709551616)*gz)+(((-18446744073709551616)*z116)+(z138+(z141+(((-18446744073709551616)*rG)+(((-18446744073709551616)*
 z143)+(qd+(z168+((-18446744073709551616)*qe))))))))))))))))))))))-18446744073709551616*qf<18446744073709551616->aG 0 8191 z167
 2251799813685248 fun z171=>en 0 8191 fun vV=>0<=((8192*ay)+((8192*ae)+(((-151115727451828646838272)*ah)+((8192*eJ)+((8192*dP)+
 (((-151115727451828646838272)*fi)+(((-151115727451828646838272)*eQ)+((8192*z85)+((8192*gj)+(((-151115727451828646838272)*hQ)+
 (((-151115727451828646838272)*gP)+((8192*ey)+((8192*eP)+(((-151115727451828646838272)*gz)+(((-151115727451828646838272)*z116)+((8192*
 z138)+((8192*z141)+(((-151115727451828646838272)*rG)+(((-151115727451828646838272)*z143)+((8192*qd)+((8192*z168)+
 (((-151115727451828646838272)*qe)+((-151115727451828646838272)*qf)))))))))))))))))))))))-18446744073709551616*vV->((8192*ay)+((8192*ae)
 +(((-151115727451828646838272)*ah)+((8192*eJ)+((8192*dP)+(((-151115727451828646838272)*fi)+(((-151115727451828646838272)*eQ)+((8192*
 z85)+((8192*gj)+(((-151115727451828646838272)*hQ)+(((-151115727451828646838272)*gP)+((8192*ey)+((8192*eP)+
 (((-151115727451828646838272)*gz)+(((-151115727451828646838272)*z116)+((8192*z138)+((8192*z141)+(((-151115727451828646838272)*rG)+
 (((-151115727451828646838272)*z143)+((8192*qd)+((8192*z168)+(((-151115727451828646838272)*qe)+((-151115727451828646838272)*
 qf)))))))))))))))))))))))-18446744073709551616*vV<18446744073709551616->aG 0 8191 z167 2251799813685248 fun z173=>bB fun qg=>bB fun z175=>S
 662 [[((8192*ay)+((8192*ae)+(((-151115727451828646838272)*ah)+((8192*eJ)+((8192*dP)+(((-151115727451828646838272)*fi)+
 (((-151115727451828646838272)*eQ)+((8192*z85)+((8192*gj)+(((-151115727451828646838272)*hQ)+(((-151115727451828646838272)*gP)+((8192*
 ey)+((8192*eP)+(((-151115727451828646838272)*gz)+(((-151115727451828646838272)*z116)+((8192*z138)+((8192*z141)+
 (((-151115727451828646838272)*rG)+(((-151115727451828646838272)*z143)+((8192*qd)+((8192*z168)+(((-151115727451828646838272)*qe)+
 (((-151115727451828646838272)*qf)+(((-18446744073709551616)*vV)+z173))))))))))))))))))))))))],[1]] [[qg],[z175]]->bB fun gB=>bR fun gi=>S
 663 [[AH],[z175],[0]] [[gB],[gi]]->bg (qg+gi) 18446744073709551616 fun iO=>bR fun mU=>0<=(aD+(aM+(((-18446744073709551616)*a8)+
 (b7+(cQ+(((-18446744073709551616)*c6)+(((-18446744073709551616)*z40)+(gk+(gm+(((-18446744073709551616)*gQ)+(((-18446744073709551616)*
 jV)+(eU+(gA+(((-18446744073709551616)*hL)+(((-18446744073709551616)*jU)+(z145+(z148+(((-18446744073709551616)*rH)+
 (((-18446744073709551616)*rI)+(qg+(gi+((-18446744073709551616)*iO))))))))))))))))))))))-18446744073709551616*mU->(aD+(aM+
 (((-18446744073709551616)*a8)+(b7+(cQ+(((-18446744073709551616)*c6)+(((-18446744073709551616)*z40)+(gk+(gm+(((-18446744073709551616)*
 gQ)+(((-18446744073709551616)*jV)+(eU+(gA+(((-18446744073709551616)*hL)+(((-18446744073709551616)*jU)+(z145+(z148+
 (((-18446744073709551616)*rH)+(((-18446744073709551616)*rI)+(qg+(gi+((-18446744073709551616)*iO))))))))))))))))))))))-
 18446744073709551616*mU<18446744073709551616->aG 0 8191 gB 2251799813685248 fun pn=>en 0 8191 fun ie=>0<=((8192*aD)+((8192*aM)+
 (((-151115727451828646838272)*a8)+((8192*b7)+((8192*cQ)+(((-151115727451828646838272)*c6)+(((-151115727451828646838272)*z40)+((8192*
 gk)+((8192*gm)+(((-151115727451828646838272)*gQ)+(((-151115727451828646838272)*jV)+((8192*eU)+((8192*gA)+
 (((-151115727451828646838272)*hL)+(((-151115727451828646838272)*jU)+((8192*z145)+((8192*z148)+(((-151115727451828646838272)*rH)+
 (((-151115727451828646838272)*rI)+((8192*qg)+((8192*gi)+(((-151115727451828646838272)*iO)+((-151115727451828646838272)*
 mU)))))))))))))))))))))))-18446744073709551616*ie->((8192*aD)+((8192*aM)+(((-151115727451828646838272)*a8)+((8192*b7)+((8192*cQ)
 +(((-151115727451828646838272)*c6)+(((-151115727451828646838272)*z40)+((8192*gk)+((8192*gm)+(((-151115727451828646838272)*gQ)+
 (((-151115727451828646838272)*jV)+((8192*eU)+((8192*gA)+(((-151115727451828646838272)*hL)+(((-151115727451828646838272)*jU)+((8192*
 z145)+((8192*z148)+(((-151115727451828646838272)*rH)+(((-151115727451828646838272)*rI)+((8192*qg)+((8192*gi)+
 (((-151115727451828646838272)*iO)+((-151115727451828646838272)*mU)))))))))))))))))))))))-18446744073709551616*ie<18446744073709551616->aG 0
 8191 gB 2251799813685248 fun z182=>bB fun z183=>bB fun nD=>S 662 [[((8192*aD)+((8192*aM)+(((-151115727451828646838272)*a8)+((8192*b7)
 +((8192*cQ)+(((-151115727451828646838272)*c6)+(((-151115727451828646838272)*z40)+((8192*gk)+((8192*gm)+(((-151115727451828646838272)*
 gQ)+(((-151115727451828646838272)*jV)+((8192*eU)+((8192*gA)+(((-151115727451828646838272)*hL)+(((-151115727451828646838272)*jU)+
 ((8192*z145)+((8192*z148)+(((-151115727451828646838272)*rH)+(((-151115727451828646838272)*rI)+((8192*qg)+((8192*gi)+
 (((-151115727451828646838272)*iO)+(((-151115727451828646838272)*mU)+(((-18446744073709551616)*ie)+z182))))))))))))))))))))))))],[1]]
 [[z183],[nD]]->bB fun mV=>bR fun lA=>S 663 [[z154],[nD],[0]] [[mV],[lA]]->bg (z183+lA) 18446744073709551616 fun rJ=>bR fun rK=>0
 <=(z20+(bH+(((-18446744073709551616)*z24)+(cF+(c8+(((-18446744073709551616)*cH)+(((-18446744073709551616)*z46)+(eC+(fj+
 (((-18446744073709551616)*z70)+(((-18446744073709551616)*fB)+(jh+(iA+(((-18446744073709551616)*ji)+(((-18446744073709551616)*z130)+
 (z152+(pk+(((-18446744073709551616)*z156)+(((-18446744073709551616)*z157)+(z183+(lA+((-18446744073709551616)*rJ))))))))))))))))))))))-
 18446744073709551616*rK->(z20+(bH+(((-18446744073709551616)*z24)+(cF+(c8+(((-18446744073709551616)*cH)+(((-18446744073709551616)*z46)
 +(eC+(fj+(((-18446744073709551616)*z70)+(((-18446744073709551616)*fB)+(jh+(iA+(((-18446744073709551616)*ji)+
 (((-18446744073709551616)*z130)+(z152+(pk+(((-18446744073709551616)*z156)+(((-18446744073709551616)*z157)+(z183+(lA+
 ((-18446744073709551616)*rJ))))))))))))))))))))))-18446744073709551616*rK<18446744073709551616->aG 0 8191 mV 2251799813685248 fun ys=>en 0
 8191 fun uB=>0<=((8192*z20)+((8192*bH)+(((-151115727451828646838272)*z24)+((8192*cF)+((8192*c8)+(((-151115727451828646838272)*cH)
 +(((-151115727451828646838272)*z46)+((8192*eC)+((8192*fj)+(((-151115727451828646838272)*z70)+(((-151115727451828646838272)*fB)+((8192*
 jh)+((8192*iA)+(((-151115727451828646838272)*ji)+(((-151115727451828646838272)*z130)+((8192*z152)+((8192*pk)+
 (((-151115727451828646838272)*z156)+(((-151115727451828646838272)*z157)+((8192*z183)+((8192*lA)+(((-151115727451828646838272)*rJ)+
 ((-151115727451828646838272)*rK)))))))))))))))))))))))-18446744073709551616*uB->((8192*z20)+((8192*bH)+(((-151115727451828646838272)*z24)
 +((8192*cF)+((8192*c8)+(((-151115727451828646838272)*cH)+(((-151115727451828646838272)*z46)+((8192*eC)+((8192*fj)+
 (((-151115727451828646838272)*z70)+(((-151115727451828646838272)*fB)+((8192*jh)+((8192*iA)+(((-151115727451828646838272)*ji)+
 (((-151115727451828646838272)*z130)+((8192*z152)+((8192*pk)+(((-151115727451828646838272)*z156)+(((-151115727451828646838272)*z157)+((8192
 *z183)+((8192*lA)+(((-151115727451828646838272)*rJ)+((-151115727451828646838272)*rK)))))))))))))))))))))))-18446744073709551616*uB<
 18446744073709551616->aG 0 8191 mV 2251799813685248 fun oo=>bB fun nE=>bB fun z193=>S 662 [[((8192*z20)+((8192*bH)+
 (((-151115727451828646838272)*z24)+((8192*cF)+((8192*c8)+(((-151115727451828646838272)*cH)+(((-151115727451828646838272)*z46)+((8192*
 eC)+((8192*fj)+(((-151115727451828646838272)*z70)+(((-151115727451828646838272)*fB)+((8192*jh)+((8192*iA)+
 (((-151115727451828646838272)*ji)+(((-151115727451828646838272)*z130)+((8192*z152)+((8192*pk)+(((-151115727451828646838272)*z156)+
 (((-151115727451828646838272)*z157)+((8192*z183)+((8192*lA)+(((-151115727451828646838272)*rJ)+(((-151115727451828646838272)*rK)+
 (((-18446744073709551616)*uB)+oo))))))))))))))))))))))))],[1]] [[nE],[z193]]->bB fun z194=>bR fun nF=>S 663 [[N1],[z193],[0]] [[z194],[nF]]
 ->bg (nE+nF) 18446744073709551616 fun z196=>bR fun AJ=>0<=(bn+(z28+(((-18446744073709551616)*cx)+(cm+(cS+(((-18446744073709551616)
 *z51)+(((-18446744073709551616)*dh)+(z72+(z75+(((-18446744073709551616)*z76)+(((-18446744073709551616)*e6)+(dS+(iz+
 (((-18446744073709551616)*ic)+(((-18446744073709551616)*jg)+(z159+(z162+(((-18446744073709551616)*hM)+(((-18446744073709551616)*z164)+
 (nE+(nF+((-18446744073709551616)*z196))))))))))))))))))))))-18446744073709551616*AJ->(bn+(z28+(((-18446744073709551616)*cx)+(cm+
 (cS+(((-18446744073709551616)*z51)+(((-18446744073709551616)*dh)+(z72+(z75+(((-18446744073709551616)*z76)+(((-18446744073709551616)*e6)+
 (dS+(iz+(((-18446744073709551616)*ic)+(((-18446744073709551616)*jg)+(z159+(z162+(((-18446744073709551616)*hM)+
 (((-18446744073709551616)*z164)+(nE+(nF+((-18446744073709551616)*z196))))))))))))))))))))))-18446744073709551616*AJ<18446744073709551616->
 aG 0 8191 z194 2251799813685248 fun z198=>en 0 8191 fun Hm=>0<=((8192*bn)+((8192*z28)+(((-151115727451828646838272)*cx)+((8192*cm)+
 ((8192*cS)+(((-151115727451828646838272)*z51)+(((-151115727451828646838272)*dh)+((8192*z72)+((8192*z75)+(((-151115727451828646838272)*
 z76)+(((-151115727451828646838272)*e6)+((8192*dS)+((8192*iz)+(((-151115727451828646838272)*ic)+(((-151115727451828646838272)*jg)+
 ((8192*z159)+((8192*z162)+(((-151115727451828646838272)*hM)+(((-151115727451828646838272)*z164)+((8192*nE)+((8192*nF)+
 (((-151115727451828646838272)*z196)+((-151115727451828646838272)*AJ)))))))))))))))))))))))-18446744073709551616*Hm->((8192*bn)+((8192*z28)
 +(((-151115727451828646838272)*cx)+((8192*cm)+((8192*cS)+(((-151115727451828646838272)*z51)+(((-151115727451828646838272)*dh)+((8192*
 z72)+((8192*z75)+(((-151115727451828646838272)*z76)+(((-151115727451828646838272)*e6)+((8192*dS)+((8192*iz)+
 (((-151115727451828646838272)*ic)+(((-151115727451828646838272)*jg)+((8192*z159)+((8192*z162)+(((-151115727451828646838272)*hM)+
 (((-151115727451828646838272)*z164)+((8192*nE)+((8192*nF)+(((-151115727451828646838272)*z196)+((-151115727451828646838272)*
 AJ)))))))))))))))))))))))-18446744073709551616*Hm<18446744073709551616->aG 0 8191 z194 2251799813685248 fun W7=>bB fun z201=>bB fun N2=>S
 662 [[((8192*bn)+((8192*z28)+(((-151115727451828646838272)*cx)+((8192*cm)+((8192*cS)+(((-151115727451828646838272)*z51)+
 (((-151115727451828646838272)*dh)+((8192*z72)+((8192*z75)+(((-151115727451828646838272)*z76)+(((-151115727451828646838272)*e6)+((8192*
 dS)+((8192*iz)+(((-151115727451828646838272)*ic)+(((-151115727451828646838272)*jg)+((8192*z159)+((8192*z162)+
 (((-151115727451828646838272)*hM)+(((-151115727451828646838272)*z164)+((8192*nE)+((8192*nF)+(((-151115727451828646838272)*z196)+
 (((-151115727451828646838272)*AJ)+(((-18446744073709551616)*Hm)+W7))))))))))))))))))))))))],[1]] [[z201],[N2]]->bB fun z203=>bR fun vW=>S
 663 [[sX],[N2],[0]] [[z203],[vW]]->bg (z201+vW) 18446744073709551616 fun AK=>bR fun z206=>0<=(bZ+(cM+(((-18446744073709551616)*cb)+
 (z53+(dF+(((-18446744073709551616)*dO)+(((-18446744073709551616)*eB)+(fk+(gD+(((-18446744073709551616)*gO)+(((-18446744073709551616)*
 hP)+(gh+(z107+(((-18446744073709551616)*kj)+(((-18446744073709551616)*z109)+(z131+(mr+(((-18446744073709551616)*nB)+
 (((-18446744073709551616)*nC)+(z201+(vW+((-18446744073709551616)*AK))))))))))))))))))))))-18446744073709551616*z206->(bZ+(cM+
 (((-18446744073709551616)*cb)+(z53+(dF+(((-18446744073709551616)*dO)+(((-18446744073709551616)*eB)+(fk+(gD+(((-18446744073709551616)*
 gO)+(((-18446744073709551616)*hP)+(gh+(z107+(((-18446744073709551616)*kj)+(((-18446744073709551616)*z109)+(z131+(mr+
 (((-18446744073709551616)*nB)+(((-18446744073709551616)*nC)+(z201+(vW+((-18446744073709551616)*AK))))))))))))))))))))))-
 18446744073709551616*z206<18446744073709551616->aG 0 8191 z203 2251799813685248 fun W8=>en 0 8191 fun z208=>0<=((8192*bZ)+((8192*cM)+
 (((-151115727451828646838272)*cb)+((8192*z53)+((8192*dF)+(((-151115727451828646838272)*dO)+(((-151115727451828646838272)*eB)+((8192*
 fk)+((8192*gD)+(((-151115727451828646838272)*gO)+(((-151115727451828646838272)*hP)+((8192*gh)+((8192*z107)+
 (((-151115727451828646838272)*kj)+(((-151115727451828646838272)*z109)+((8192*z131)+((8192*mr)+(((-151115727451828646838272)*nB)+
 (((-151115727451828646838272)*nC)+((8192*z201)+((8192*vW)+(((-151115727451828646838272)*AK)+((-151115727451828646838272)*
 z206)))))))))))))))))))))))-18446744073709551616*z208->((8192*bZ)+((8192*cM)+(((-151115727451828646838272)*cb)+((8192*z53)+((8192*dF)
 +(((-151115727451828646838272)*dO)+(((-151115727451828646838272)*eB)+((8192*fk)+((8192*gD)+(((-151115727451828646838272)*gO)+
 (((-151115727451828646838272)*hP)+((8192*gh)+((8192*z107)+(((-151115727451828646838272)*kj)+(((-151115727451828646838272)*z109)+((8192*
 z131)+((8192*mr)+(((-151115727451828646838272)*nB)+(((-151115727451828646838272)*nC)+((8192*z201)+((8192*vW)+
 (((-151115727451828646838272)*AK)+((-151115727451828646838272)*z206)))))))))))))))))))))))-18446744073709551616*z208<18446744073709551616->aG 0
 8191 z203 2251799813685248 fun W9=>bB fun z210=>bB fun DO=>S 662 [[((8192*bZ)+((8192*cM)+(((-151115727451828646838272)*cb)+((8192*z53)
 +((8192*dF)+(((-151115727451828646838272)*dO)+(((-151115727451828646838272)*eB)+((8192*fk)+((8192*gD)+(((-151115727451828646838272)*
 gO)+(((-151115727451828646838272)*hP)+((8192*gh)+((8192*z107)+(((-151115727451828646838272)*kj)+(((-151115727451828646838272)*z109)+
 ((8192*z131)+((8192*mr)+(((-151115727451828646838272)*nB)+(((-151115727451828646838272)*nC)+((8192*z201)+((8192*vW)+
 (((-151115727451828646838272)*AK)+(((-151115727451828646838272)*z206)+(((-18446744073709551616)*z208)+W9))))))))))))))))))))))))],[19]]
 [[z210],[DO]]->aG 0 8191 DO 2251799813685248 fun z212=>aG 0 8191 (8192*z210) 18446744073709551616 fun z213=>aG 0 8191 DO 2251799813685248 fun N3
 =>bg (gB+(((-2251799813685248)*pn)+((8192*z210)+(((-18446744073709551616)*z213)+N3)))) 18446744073709551616 fun Xa=>∀GJ:List
 Int,av (a7 0 18446744073709551615 5) GJ->S 640 [[(z167+(((-2251799813685248)*z171)+(DO+((-2251799813685248)*z212)))),(gB+
 (((-2251799813685248)*pn)+((8192*z210)+(((-18446744073709551616)*z213)+(N3+((-18446744073709551616)*Xa)))))),(mV+((-2251799813685248)*
 ys)),(z194+((-2251799813685248)*z198)),(z203+((-2251799813685248)*W8))]] [GJ]->K [af,aj] [GJ]
def Pk (S:Nat->List (List Int)->List (List Int)->Prop) (K:List (List Int)->List (List Int)->Prop):Prop:=
 ∀af:List Int,av (a7 0 18446744073709551615 5) af->∀aj:List Int,av (a7 0 18446744073709551615 5) aj->S 643 [af,af] [aj]->K [af] [aj]
def Px (S:Nat->List (List Int)->List (List Int)->Prop) (K:List (List Int)->List (List Int)->Prop):Prop:=
 ∀af:List Int,av (a7 0 18446744073709551615 5) af->S 641
 [[929955233495203,466365720129213,1662059464998953,2033849074728123,1442794654840575],[929955233495203,466365720129213,1662059464998953,2033849074728123,1442794654840575]]
 [af]->K [] [af]
def Oy (S:Nat->List (List Int)->List (List Int)->Prop) (K:List (List Int)->List (List Int)->Prop):Prop:=
 ∀af:List Int,av (a7 0 18446744073709551615 5) af->∀aj:List Int,av (a7 0 18446744073709551615 5) aj->S 640 [af] [aj]->bg ((List.getD aj 0 0)+
 19) 18446744073709551616 fun ay=>aG 0 8191 (((List.getD aj 0 0)+((-18446744073709551616)*ay))+19) 2251799813685248 fun aS=>bg ((List.getD aj 1 0)+
 aS) 18446744073709551616 fun z12=>aG 0 8191 ((List.getD aj 1 0)+(aS+((-18446744073709551616)*z12))) 2251799813685248 fun ae=>bg ((List.getD aj 2 0)
 +ae) 18446744073709551616 fun ah=>aG 0 8191 ((List.getD aj 2 0)+(ae+((-18446744073709551616)*ah))) 2251799813685248 fun aD=>bg ((List.getD aj 3
 0)+aD) 18446744073709551616 fun aP=>aG 0 8191 ((List.getD aj 3 0)+(aD+((-18446744073709551616)*aP))) 2251799813685248 fun bd=>bg ((List.getD aj
 4 0)+bd) 18446744073709551616 fun aM=>aG 0 8191 ((List.getD aj 4 0)+(bd+((-18446744073709551616)*aM))) 2251799813685248 fun a8=>bg ((List.getD
 aj 0 0)+(19*a8)) 18446744073709551616 fun z20=>aG 0 8191 ((List.getD aj 0 0)+((19*a8)+((-18446744073709551616)*z20))) 2251799813685248 fun z21=>
 aG 0 8191 ((List.getD aj 0 0)+((19*a8)+((-18446744073709551616)*z20))) 2251799813685248 fun z22=>bg ((List.getD aj 1 0)+z21) 18446744073709551616
 fun bH=>aG 0 8191 ((List.getD aj 1 0)+(z21+((-18446744073709551616)*bH))) 2251799813685248 fun z24=>aG 0 8191 ((List.getD aj 1 0)+(z21+
 ((-18446744073709551616)*bH))) 2251799813685248 fun bn=>bg ((List.getD aj 2 0)+z24) 18446744073709551616 fun z26=>aG 0 8191 ((List.getD aj 2 0)+(z24
 +((-18446744073709551616)*z26))) 2251799813685248 fun bO=>aG 0 8191 ((List.getD aj 2 0)+(z24+((-18446744073709551616)*z26))) 2251799813685248 fun z28
 =>bg ((List.getD aj 3 0)+bO) 18446744073709551616 fun cx=>aG 0 8191 ((List.getD aj 3 0)+(bO+((-18446744073709551616)*cx))) 2251799813685248 fun
 bZ=>aG 0 8191 ((List.getD aj 3 0)+(bO+((-18446744073709551616)*cx))) 2251799813685248 fun z31=>bg ((List.getD aj 4 0)+bZ) 18446744073709551616
 fun cu=>aG 0 8191 ((List.getD aj 4 0)+(bZ+((-18446744073709551616)*cu))) 2251799813685248 fun cM=>aG 0 8191 ((List.getD aj 4 0)+(bZ+
 ((-18446744073709551616)*cu))) 2251799813685248 fun cb=>aG 0 8796093022207 ((List.getD aj 0 0)+((19*a8)+(((-18446744073709551616)*z20)+
 ((-2251799813685248)*z22)))) 256 fun b7=>aG 0 8796093022207 ((List.getD aj 0 0)+((19*a8)+(((-18446744073709551616)*z20)+((-2251799813685248)*
 z22)))) 256 fun cj=>aG 0 34359738367 cj 256 fun z37=>aG 0 34359738367 ((List.getD aj 0 0)+((19*a8)+(((-18446744073709551616)*z20)+
 ((-2251799813685248)*z22)))) 65536 fun cQ=>aG 0 134217727 cQ 256 fun c6=>aG 0 134217727 ((List.getD aj 0 0)+((19*a8)+(((-18446744073709551616)*
 z20)+((-2251799813685248)*z22)))) 16777216 fun z40=>aG 0 524287 z40 256 fun cF=>aG 0 524287 ((List.getD aj 0 0)+((19*a8)+
 (((-18446744073709551616)*z20)+((-2251799813685248)*z22)))) 4294967296 fun cR=>aG 0 2047 cR 256 fun dD=>aG 0 2047 ((List.getD aj 0 0)+((19*a8)
 +(((-18446744073709551616)*z20)+((-2251799813685248)*z22)))) 1099511627776 fun c8=>aG 0 7 c8 256 fun cH=>aG 0 7 ((List.getD aj 0 0)+((19*a8)+
 (((-18446744073709551616)*z20)+((-2251799813685248)*z22)))) 281474976710656 fun z46=>aG 0 70368744177663 ((8*(List.getD aj 1 0))+((8*z21)+
 (((-147573952589676412928)*bH)+((-18014398509481984)*bn)))) 256 fun cm=>aG 0 70368744177663 ((List.getD aj 1 0)+(z21+(((-18446744073709551616)*
 bH)+((-2251799813685248)*bn)))) 32 fun dE=>aG 0 274877906943 dE 256 fun z49=>aG 0 274877906943 ((List.getD aj 1 0)+(z21+(((-18446744073709551616)
 *bH)+((-2251799813685248)*bn)))) 8192 fun cS=>aG 0 1073741823 cS 256 fun z51=>aG 0 1073741823 ((List.getD aj 1 0)+(z21+(((-18446744073709551616)
 *bH)+((-2251799813685248)*bn)))) 2097152 fun dh=>aG 0 4194303 dh 256 fun z53=>aG 0 4194303 ((List.getD aj 1 0)+(z21+(((-18446744073709551616)*
 bH)+((-2251799813685248)*bn)))) 536870912 fun eI=>aG 0 16383 eI 256 fun eY=>aG 0 16383 ((List.getD aj 1 0)+(z21+(((-18446744073709551616)*bH)
 +((-2251799813685248)*bn)))) 137438953472 fun dF=>aG 0 63 dF 256 fun dO=>aG 0 63 ((List.getD aj 1 0)+(z21+(((-18446744073709551616)*bH)+
 ((-2251799813685248)*bn)))) 35184372088832 fun eB=>aG 0 562949953421311 ((64*(List.getD aj 2 0))+((64*z24)+(((-1180591620717411303424)*z26)+
 ((-144115188075855872)*z28)))) 256 fun z59=>aG 0 562949953421311 ((List.getD aj 2 0)+(z24+(((-18446744073709551616)*z26)+((-2251799813685248)*
 z28)))) 4 fun eJ=>aG 0 2199023255551 eJ 256 fun hO=>aG 0 2199023255551 ((List.getD aj 2 0)+(z24+(((-18446744073709551616)*z26)+
 ((-2251799813685248)*z28)))) 1024 fun fO=>aG 0 8589934591 fO 256 fun dP=>aG 0 8589934591 ((List.getD aj 2 0)+(z24+(((-18446744073709551616)*z26)+
 ((-2251799813685248)*z28)))) 262144 fun fi=>aG 0 33554431 fi 256 fun eQ=>aG 0 33554431 ((List.getD aj 2 0)+(z24+(((-18446744073709551616)*z26)+
 ((-2251799813685248)*z28)))) 67108864 fun eC=>aG 0 131071 eC 256 fun gC=>aG 0 131071 ((List.getD aj 2 0)+(z24+(((-18446744073709551616)*z26)+
 ((-2251799813685248)*z28)))) 17179869184 fun iB=>aG 0 511 iB 256 fun fj=>aG 0 511 ((List.getD aj 2 0)+(z24+(((-18446744073709551616)*z26)+
 ((-2251799813685248)*z28)))) 4398046511104 fun z70=>bg z70 256 fun fB=>bg ((List.getD aj 2 0)+(z24+(((-18446744073709551616)*z26)+
 ((-2251799813685248)*z28)))) 1125899906842624 fun z72=>aG 0 17592186044415 ((2*(List.getD aj 3 0))+((2*bO)+(((-36893488147419103232)*cx)+
 ((-4503599627370496)*z31)))) 256 fun eo=>aG 0 17592186044415 ((List.getD aj 3 0)+(bO+(((-18446744073709551616)*cx)+((-2251799813685248)*z31))))
 128 fun iC=>aG 0 68719476735 iC 256 fun z75=>aG 0 68719476735 ((List.getD aj 3 0)+(bO+(((-18446744073709551616)*cx)+((-2251799813685248)*
 z31)))) 32768 fun z76=>aG 0 268435455 z76 256 fun e6=>aG 0 268435455 ((List.getD aj 3 0)+(bO+(((-18446744073709551616)*cx)+((-2251799813685248)*
 z31)))) 8388608 fun fk=>aG 0 1048575 fk 256 fun jj=>aG 0 1048575 ((List.getD aj 3 0)+(bO+(((-18446744073709551616)*cx)+((-2251799813685248)*
 z31)))) 2147483648 fun iP=>aG 0 4095 iP 256 fun gD=>aG 0 4095 ((List.getD aj 3 0)+(bO+(((-18446744073709551616)*cx)+((-2251799813685248)*
 z31)))) 549755813888 fun gO=>aG 0 15 gO 256 fun hP=>aG 0 15 ((List.getD aj 3 0)+(bO+(((-18446744073709551616)*cx)+((-2251799813685248)*z31))))
 140737488355328 fun jx=>aG 0 140737488355327 ((16*(List.getD aj 4 0))+((16*bZ)+(((-295147905179352825856)*cu)+((-36028797018963968)*cb))))
 256 fun z85=>aG 0 140737488355327 ((List.getD aj 4 0)+(bZ+(((-18446744073709551616)*cu)+((-2251799813685248)*cb)))) 16 fun kO=>aG 0
 549755813887 kO 256 fun z87=>aG 0 549755813887 ((List.getD aj 4 0)+(bZ+(((-18446744073709551616)*cu)+((-2251799813685248)*cb)))) 4096 fun gj=>
 aG 0 2147483647 gj 256 fun hQ=>aG 0 2147483647 ((List.getD aj 4 0)+(bZ+(((-18446744073709551616)*cu)+((-2251799813685248)*cb)))) 1048576 fun gP
 =>aG 0 8388607 gP 256 fun z91=>aG 0 8388607 ((List.getD aj 4 0)+(bZ+(((-18446744073709551616)*cu)+((-2251799813685248)*cb)))) 268435456 fun gk
 =>aG 0 32767 gk 256 fun z93=>aG 0 32767 ((List.getD aj 4 0)+(bZ+(((-18446744073709551616)*cu)+((-2251799813685248)*cb)))) 68719476736 fun iQ=>
 aG 0 127 iQ 256 fun gm=>aG 0 127 ((List.getD aj 4 0)+(bZ+(((-18446744073709551616)*cu)+((-2251799813685248)*cb)))) 17592186044416 fun gQ=>K
 [af] [[((List.getD aj 0 0)+((19*a8)+(((-18446744073709551616)*z20)+(((-2251799813685248)*z22)+((-256)*b7))))),(cj+((-256)*z37)),(cQ+
 ((-256)*c6)),(z40+((-256)*cF)),(cR+((-256)*dD)),(c8+((-256)*cH)),((8*(List.getD aj 1 0))+((8*z21)+(((-147573952589676412928)*bH)+
 (((-18014398509481984)*bn)+(z46+((-256)*cm)))))),(dE+((-256)*z49)),(cS+((-256)*z51)),(dh+((-256)*z53)),(eI+((-256)*eY)),(dF+
 ((-256)*dO)),((64*(List.getD aj 2 0))+((64*z24)+(((-1180591620717411303424)*z26)+(((-144115188075855872)*z28)+(eB+((-256)*z59)))))),(eJ
 +((-256)*hO)),(fO+((-256)*dP)),(fi+((-256)*eQ)),(eC+((-256)*gC)),(iB+((-256)*fj)),(z70+((-256)*fB)),((2*(List.getD aj 3 0))+
 ((2*bO)+(((-36893488147419103232)*cx)+(((-4503599627370496)*z31)+(z72+((-256)*eo)))))),(iC+((-256)*z75)),(z76+((-256)*e6)),(fk+
 ((-256)*jj)),(iP+((-256)*gD)),(gO+((-256)*hP)),((16*(List.getD aj 4 0))+((16*bZ)+(((-295147905179352825856)*cu)+
 (((-36028797018963968)*cb)+(jx+((-256)*z85)))))),(kO+((-256)*z87)),(gj+((-256)*hQ)),(gP+((-256)*z91)),(gk+((-256)*z93)),(iQ+
 ((-256)*gm)),gQ]]
def OO (S:Nat->List (List Int)->List (List Int)->Prop) (K:List (List Int)->List (List Int)->Prop):Prop:=
 ∀af:List Int,av (a7 0 18446744073709551615 5) af->∀aj:List Int,av (a7 0 18446744073709551615 5) aj->S 645
 [af,[18446744073709551595,18446744073709551615,18446744073709551615,9223372036854775807]] [aj]->K [af] [aj]
def OV (S:Nat->List (List Int)->List (List Int)->Prop) (K:List (List Int)->List (List Int)->Prop):Prop:=
 ∀af:List Int,av (a7 0 18446744073709551615 5) af->∀aj:List Int,av (a7 0 255 32) aj->S 644 [af] [aj]->aG 0 127 (List.getD aj 0 0) 2 fun z37=>K
 [af] [[(cond (decide (((List.getD aj 0 0)+((-2)*z37))=1)) 1 0)]]
def Oz (S:Nat->List (List Int)->List (List Int)->Prop) (K:List (List Int)->List (List Int)->Prop):Prop:=
 ∀af:List Int,av (a7 0 18446744073709551615 5) af->∀aj:List Int,av (a7 0 18446744073709551615 5) aj->∀sA:List Int,av (a7 0
 18446744073709551615 5) sA->S 643 [af,aj] [sA]->K [af,aj] [af,aj,[1,0,0,0,0],sA]
def Oh (S:Nat->List (List Int)->List (List Int)->Prop) (K:List (List Int)->List (List Int)->Prop):Prop:=
 ∀af:List Int,av (a7 0 18446744073709551615 20) af->S 646
 [[1738742601995546,1146398526822698,2070867633025821,562264141797630,587772402128613],[1801439850948184,1351079888211148,450359962737049,900719925474099,1801439850948198]]
 [af]->K [] [[(List.getD af 0 0),(List.getD af 1 0),(List.getD af 2 0),(List.getD af 3 0),(List.getD af 4 0)],[(List.getD af 5 0),(List.getD af 6 0),(List.getD
 af 7 0),(List.getD af 8 0),(List.getD af 9 0)],[(List.getD af 10 0),(List.getD af 11 0),(List.getD af 12 0),(List.getD af 13 0),(List.getD af 14 0)],[(List.getD
 af 15 0),(List.getD af 16 0),(List.getD af 17 0),(List.getD af 18 0),(List.getD af 19 0)]]
def Ov (S:Nat->List (List Int)->List (List Int)->Prop) (K:List (List Int)->List (List Int)->Prop):Prop:=
 ∀af:List Int,av (a7 0 18446744073709551615 20) af->S 646 [[0,0,0,0,0],[1,0,0,0,0]] [af]->K [] [[(List.getD af 0 0),(List.getD af 1 0),(List.getD af 2
 0),(List.getD af 3 0),(List.getD af 4 0)],[(List.getD af 5 0),(List.getD af 6 0),(List.getD af 7 0),(List.getD af 8 0),(List.getD af 9 0)],[(List.getD af 10
 0),(List.getD af 11 0),(List.getD af 12 0),(List.getD af 13 0),(List.getD af 14 0)],[(List.getD af 15 0),(List.getD af 16 0),(List.getD af 17 0),(List.getD af 18
 0),(List.getD af 19 0)]]
def On (S:Nat->List (List Int)->List (List Int)->Prop) (K:List (List Int)->List (List Int)->Prop):Prop:=
 ∀af:List Int,av (a7 0 18446744073709551615 5) af->∀aj:List Int,av (a7 0 18446744073709551615 5) aj->∀sA:List Int,av (a7 0
 18446744073709551615 5) sA->∀jN:List Int,av (a7 0 18446744073709551615 5) jN->∀dn:List Int,av (a7 0 18446744073709551615 5) dn->S 643
 [af,aj] [dn]->∀dW:List Int,av (a7 0 18446744073709551615 5) dW->S 643 [sA,jN] [dW]->∀ua:List Int,av (a7 0 18446744073709551615 5) ua->
 S 643 [aj,sA] [ua]->∀sD:List Int,av (a7 0 18446744073709551615 5) sD->S 643 [af,jN] [sD]->K [af,aj,sA,jN] [dn,dW,ua,sD]
def Oo (S:Nat->List (List Int)->List (List Int)->Prop) (K:List (List Int)->List (List Int)->Prop):Prop:=
 ∀af:List Int,av (a7 0 18446744073709551615 20) af->∀dn:List Int,av (a7 0 18446744073709551615 20) dn->∀ub:List Int,av (a7 0
 18446744073709551615 5) ub->S 642 [[(List.getD af 5 0),(List.getD af 6 0),(List.getD af 7 0),(List.getD af 8 0),(List.getD af 9 0)],[(List.getD af 0
 0),(List.getD af 1 0),(List.getD af 2 0),(List.getD af 3 0),(List.getD af 4 0)]] [ub]->∀uc:List Int,av (a7 0 18446744073709551615 5) uc->S 642
 [[(List.getD dn 5 0),(List.getD dn 6 0),(List.getD dn 7 0),(List.getD dn 8 0),(List.getD dn 9 0)],[(List.getD dn 0 0),(List.getD dn 1 0),(List.getD dn 2
 0),(List.getD dn 3 0),(List.getD dn 4 0)]] [uc]->∀sE:List Int,av (a7 0 18446744073709551615 5) sE->S 643 [ub,uc] [sE]->∀sF:List Int,av
 (a7 0 18446744073709551615 5) sF->S 641 [[(List.getD af 5 0),(List.getD af 6 0),(List.getD af 7 0),(List.getD af 8 0),(List.getD af 9 0)],[(List.getD af 0
 0),(List.getD af 1 0),(List.getD af 2 0),(List.getD af 3 0),(List.getD af 4 0)]] [sF]->∀ud:List Int,av (a7 0 18446744073709551615 5) ud->S 641
 [[(List.getD dn 5 0),(List.getD dn 6 0),(List.getD dn 7 0),(List.getD dn 8 0),(List.getD dn 9 0)],[(List.getD dn 0 0),(List.getD dn 1 0),(List.getD dn 2
 0),(List.getD dn 3 0),(List.getD dn 4 0)]] [ud]->∀gN:List Int,av (a7 0 18446744073709551615 5) gN->S 643 [sF,ud] [gN]->∀GL:List Int,av
 (a7 0 18446744073709551615 5) GL->S 643 [[(List.getD af 15 0),(List.getD af 16 0),(List.getD af 17 0),(List.getD af 18 0),(List.getD af 19 0)],[(List.getD
 dn 15 0),(List.getD dn 16 0),(List.getD dn 17 0),(List.getD dn 18 0),(List.getD dn 19 0)]] [GL]->∀GM:List Int,av (a7 0 18446744073709551615 5) GM
 ->S 665 [] [GM]->∀Dp:List Int,av (a7 0 18446744073709551615 5) Dp->S 643 [GL,GM] [Dp]->∀Dq:List Int,av (a7 0 18446744073709551615 5)
 Dq->S 643 [[(List.getD af 10 0),(List.getD af 11 0),(List.getD af 12 0),(List.getD af 13 0),(List.getD af 14 0)],[(List.getD dn 10 0),(List.getD dn 11
 0),(List.getD dn 12 0),(List.getD dn 13 0),(List.getD dn 14 0)]] [Dq]->∀Dr:List Int,av (a7 0 18446744073709551615 5) Dr->S 641 [Dq,Dq] [Dr]->
 ∀GN:List Int,av (a7 0 18446744073709551615 5) GN->S 642 [gN,sE] [GN]->∀GD:List Int,av (a7 0 18446744073709551615 5) GD->S 642
 [Dr,Dp] [GD]->∀GF:List Int,av (a7 0 18446744073709551615 5) GF->S 641 [Dr,Dp] [GF]->∀GG:List Int,av (a7 0 18446744073709551615 5)
 GG->S 641 [gN,sE] [GG]->∀jr:List Int,av (a7 0 18446744073709551615 20) jr->S 649 [GN,GD,GF,GG] [jr]->K [af,dn] [[(List.getD
 jr 0 0),(List.getD jr 1 0),(List.getD jr 2 0),(List.getD jr 3 0),(List.getD jr 4 0)],[(List.getD jr 5 0),(List.getD jr 6 0),(List.getD jr 7
 0),(List.getD jr 8 0),(List.getD jr 9 0)],[(List.getD jr 10 0),(List.getD jr 11 0),(List.getD jr 12 0),(List.getD jr 13 0),(List.getD jr 14
 0)],[(List.getD jr 15 0),(List.getD jr 16 0),(List.getD jr 17 0),(List.getD jr 18 0),(List.getD jr 19 0)]]
def Ow (S:Nat->List (List Int)->List (List Int)->Prop) (K:List (List Int)->List (List Int)->Prop):Prop:=
 ∀af:List Int,av (a7 0 18446744073709551615 15) af->∀jN:List Int,av (a7 0 18446744073709551615 5) jN->S 664 [[(List.getD af 0 0),(List.getD af 1
 0),(List.getD af 2 0),(List.getD af 3 0),(List.getD af 4 0)]] [jN]->∀dn:List Int,av (a7 0 18446744073709551615 5) dn->S 664 [[(List.getD af 5
 0),(List.getD af 6 0),(List.getD af 7 0),(List.getD af 8 0),(List.getD af 9 0)]] [dn]->∀dW:List Int,av (a7 0 18446744073709551615 5) dW->S 664
 [[(List.getD af 10 0),(List.getD af 11 0),(List.getD af 12 0),(List.getD af 13 0),(List.getD af 14 0)]] [dW]->∀ua:List Int,av (a7 0
 18446744073709551615 5) ua->S 641 [dW,dW] [ua]->∀sD:List Int,av (a7 0 18446744073709551615 5) sD->S 641 [jN,dn] [sD]->∀ub:List Int,av
 (a7 0 18446744073709551615 5) ub->S 641 [[(List.getD af 0 0),(List.getD af 1 0),(List.getD af 2 0),(List.getD af 3 0),(List.getD af 4 0)],[(List.getD af 5
 0),(List.getD af 6 0),(List.getD af 7 0),(List.getD af 8 0),(List.getD af 9 0)]] [ub]->∀uc:List Int,av (a7 0 18446744073709551615 5) uc->S 664 [ub]
 [uc]->∀sE:List Int,av (a7 0 18446744073709551615 5) sE->S 642 [sD,uc] [sE]->∀sF:List Int,av (a7 0 18446744073709551615 5) sF->S 642
 [jN,dn] [sF]->∀ud:List Int,av (a7 0 18446744073709551615 5) ud->S 641 [ua,sF] [ud]->∀gN:List Int,av (a7 0 18446744073709551615 20) gN
 ->S 649 [sE,ud,sF,sD] [gN]->K [af] [[(List.getD gN 0 0),(List.getD gN 1 0),(List.getD gN 2 0),(List.getD gN 3 0),(List.getD gN 4 0)],[(List.getD gN
 5 0),(List.getD gN 6 0),(List.getD gN 7 0),(List.getD gN 8 0),(List.getD gN 9 0)],[(List.getD gN 10 0),(List.getD gN 11 0),(List.getD gN 12 0),(List.getD
 gN 13 0),(List.getD gN 14 0)],[(List.getD gN 15 0),(List.getD gN 16 0),(List.getD gN 17 0),(List.getD gN 18 0),(List.getD gN 19 0)]]
def Om (S:Nat->List (List Int)->List (List Int)->Prop) (K:List (List Int)->List (List Int)->Prop):Prop:=
 ∀af:List Int,av (a7 0 255 32) af->aG 0 31 (List.getD af 0 0) 8 fun cu=>aG 0 3 (List.getD af 31 0) 64 fun cM=>K [af] [[(8*cu),(List.getD af 1
 0),(List.getD af 2 0),(List.getD af 3 0),(List.getD af 4 0),(List.getD af 5 0),(List.getD af 6 0),(List.getD af 7 0),(List.getD af 8 0),(List.getD af 9
 0),(List.getD af 10 0),(List.getD af 11 0),(List.getD af 12 0),(List.getD af 13 0),(List.getD af 14 0),(List.getD af 15 0),(List.getD af 16 0),(List.getD af 17
 0),(List.getD af 18 0),(List.getD af 19 0),(List.getD af 20 0),(List.getD af 21 0),(List.getD af 22 0),(List.getD af 23 0),(List.getD af 24 0),(List.getD af 25
 0),(List.getD af 26 0),(List.getD af 27 0),(List.getD af 28 0),(List.getD af 29 0),(List.getD af 30 0),(((List.getD af 31 0)+((-64)*cM))+64)]]
def Oi (S:Nat->List (List Int)->List (List Int)->Prop) (K:List (List Int)->List (List Int)->Prop):Prop:=
 ∀af:List Int,av (a7 0 18446744073709551615 15) af->∀jN:List Int,av (a7 0 18446744073709551615 5) jN->S 666 [[(List.getD af 10 0),(List.getD af
 11 0),(List.getD af 12 0),(List.getD af 13 0),(List.getD af 14 0)]] [jN]->∀dn:List Int,av (a7 0 18446744073709551615 5) dn->S 643 [[(List.getD af 5
 0),(List.getD af 6 0),(List.getD af 7 0),(List.getD af 8 0),(List.getD af 9 0)],jN] [dn]->∀dW:List Int,av (a7 0 255 32) dW->S 644 [dn] [dW]->∀
 GK:List Int,av (a7 0 18446744073709551615 5) GK->S 643 [[(List.getD af 0 0),(List.getD af 1 0),(List.getD af 2 0),(List.getD af 3 0),(List.getD af 4
 0)],jN] [GK]->bR fun fO=>S 667 [GK] [[fO]]->(aC (decide (fO=1)) (cK fun dP=>dP<=IntKind.max .u8->dP=cc .or .u8 (List.getD dW 31 0) 128
 ->K [af] [[(List.getD dW 0 0),(List.getD dW 1 0),(List.getD dW 2 0),(List.getD dW 3 0),(List.getD dW 4 0),(List.getD dW 5 0),(List.getD dW 6
 0),(List.getD dW 7 0),(List.getD dW 8 0),(List.getD dW 9 0),(List.getD dW 10 0),(List.getD dW 11 0),(List.getD dW 12 0),(List.getD dW 13 0),(List.getD dW
 14 0),(List.getD dW 15 0),(List.getD dW 16 0),(List.getD dW 17 0),(List.getD dW 18 0),(List.getD dW 19 0),(List.getD dW 20 0),(List.getD dW 21
 0),(List.getD dW 22 0),(List.getD dW 23 0),(List.getD dW 24 0),(List.getD dW 25 0),(List.getD dW 26 0),(List.getD dW 27 0),(List.getD dW 28 0),(List.getD
 dW 29 0),(List.getD dW 30 0),dP]]) (K [af] [dW]))
def Pc (S:Nat->List (List Int)->List (List Int)->Prop) (K:List (List Int)->List (List Int)->Prop):Prop:=
 ∀af:List Int,av (a7 0 18446744073709551615 5) af->∀aj:List Int,av (a7 0 18446744073709551615 4) aj->∃(D4:List (List Int)->Prop) (Hq:List
 (List Int)->Nat),D4 [[255],[1,0,0,0,0]]/\(en (-1) 255 fun ay=>∀lr:List Int,av (a7 0 18446744073709551615 5) lr->D4 [[ay],lr]->(aC (decide (0
 <=ay)) (∀sB:List Int,av (a7 0 18446744073709551615 5) sB->S 664 [lr] [sB]->aG 0 3 ay 64 fun z21=>bB fun z22=>z22=List.getD aj (z21).toNat 0
 ->aG 0 3 ay 64 fun bH=>bB fun z24=>z24=z22/2^((ay+((-64)*bH))).toNat->aG 0 9223372036854775807 z24 2 fun bn=>(aC (decide ((z24+((-2)*
 bn))=1)) (∀sC:List Int,av (a7 0 18446744073709551615 5) sC->S 643 [sB,af] [sC]->(D4 [[(ay+(-1))],sC]/\Hq [[(ay+(-1))],sC]<Hq
 [[ay],lr])) ((D4 [[(ay+(-1))],sB]/\Hq [[(ay+(-1))],sB]<Hq [[ay],lr])))) (K [af,aj] [lr])))
/-! ### The curve:what is handed back is within its bounds-/
abbrev ST:Nat->List (List Int)->List (List Int)->Prop:=fun _ _ _=>True
theorem y3 {a b:Int} {r:List Int} (h:av (a7 a b 20) r):[[List.getD r 0 0,List.getD r 1 0,List.getD r 2 0,List.getD r 3 0,List.getD r 4 0],[List.getD r 5 0,List.getD r 6 0,List.getD r 7 0,List.getD r 8 0,List.getD r 9 0],[List.getD r 10 0,List.getD r 11 0,List.getD r 12 0,List.getD r 13 0,List.getD r 14 0],[List.getD r 15 0,List.getD r 16 0,List.getD r 17 0,List.getD r 18 0,List.getD r 19 0]].flatten=r:=by
 match r,h with
 |[x0,x1,x2,fg,eX,e5,fh,ib,jd,je,jv,eH,fy,iN,rD,rE,uw,ux,uy,uz],_=>rfl
theorem h9 {e:Int} (h:e<256):e<=255:=by omega
theorem xD {r:List Int} (h:av (a7 0 18446744073709551615 5) r):av (bG [f5]) [r].flatten:=by rw[List.flatten_cons,List.flatten_nil,List.append_nil];exact h
theorem RW {x y z t:List Int} (hx:av (a7 0 18446744073709551615 5) x) (hy:av (a7 0 18446744073709551615 5) y) (hz:av (a7 0 18446744073709551615 5) z) (ht:av (a7 0 18446744073709551615 5) t):av (bG [lS]) [x,y,z,t].flatten:=by
 have:=nV hx (nV hy (nV hz ht))
 simp only[List.flatten_cons,List.flatten_nil,List.append_nil]
 exact this
theorem anQ {r:List Int} {z:Int} (h:av (a7 0 255 32) r) (h0:0<=z) (h1:z<=255):av (a7 0 255 32) [List.getD r 0 0,List.getD r 1 0,List.getD r 2 0,List.getD r 3 0,List.getD r 4 0,List.getD r 5 0,List.getD r 6 0,List.getD r 7 0,List.getD r 8 0,List.getD r 9 0,List.getD r 10 0,List.getD r 11 0,List.getD r 12 0,List.getD r 13 0,List.getD r 14 0,List.getD r 15 0,List.getD r 16 0,List.getD r 17 0,List.getD r 18 0,List.getD r 19 0,List.getD r 20 0,List.getD r 21 0,List.getD r 22 0,List.getD r 23 0,List.getD r 24 0,List.getD r 25 0,List.getD r 26 0,List.getD r 27 0,List.getD r 28 0,List.getD r 29 0,List.getD r 30 0,z]:=by
 have hs:∀(n:Nat) (l:List Int) (i:Nat),av (a7 0 255 n) l->i<n->av (a7 0 255 n) (l.set i z):=fun n=>by
  induction n with
  |zero=>intro l i _ hi;omega
  |succ n ih=>
   intro l i hl hi
   match l,hl with
   |x::l,hl=>
    cases i with
    |zero=>exact⟨h0,h1,hl.2.2⟩
    |succ i=>exact⟨hl.1,hl.2.1,ih l i hl.2.2 (by omega)⟩
 have:=hs 32 r 31 h (by decide)
 match r,h with
 |[x0,x1,x2,fg,eX,e5,fh,ib,jd,je,jv,eH,fy,iN,rD,rE,uw,ux,uy,uz,yf,yg,yh,yi,yj,yk,yl,ym,yn,yo,yp,rF],_=>exact this
theorem alf (G):Og (hT G) (bt ST [f5] 640):=by
 intro af i0 z5 a5 b5 c5 d5 ao yz yG fU d6 z7 atY avZ l6 d7 au atZ av0 lG d8 z9 a9 Qn oE d9 ay A1 A7 qs d10 aS D9 En Bf d11 z12 a12 Eo Bg d12 ae Ea Ep IB d13 ah Eb Er EF d14 aD HS Ic QE d15 aP HT Ie
 intro QF d16 bd HU Ig QG d17 aM HV Ih QH d18 a8 HW Ii IC d19 z20 a20 Ij QI d20 z21 a21 Es ar d21 z22 a22 Qc aa2 d22 bH Ec Et wC d23 z24 a24 Qd QJ d24 bn PV Qe Bh d25 z26 a26 Qf aa3 d26 bO PW Qg aa4 d27 z28 a28 Qh
 intro aa5 d28
 refine⟨⟨?_,?_,?_,?_,?_,?_,?_,?_,?_,?_,trivial⟩,trivial⟩
 all_goals omega
theorem alz (G):OB (hT G) (bt ST [f5] 641):=by
 intro af i0 aj i5 ay A1 A7 qs d10 aS D9 En Bf d11 z12 a12 Eo Bg d12 ae Ea Ep IB d13 ah Eb Er EF d14 jN i15 eb
 exact⟨xD i15,trivial⟩
theorem aly (G):OA (hT G) (bt ST [f5] 642):=by
 intro af i0 aj i5 ay A1 A7 qs d10 aS D9 En Bf d11 z12 a12 Eo Bg d12 ae Ea Ep IB d13 ah Eb Er EF d14 aD HS Ic QE d15 aP HT Ie QF d16 bd HU Ig QG d17 aM HV Ih QH d18 a8 HW Ii IC d19 z20 a20 Ij QI d20 GI
 intro i21 eb
 exact⟨xD i21,trivial⟩
theorem alA (G):OC (hT G) (bt ST [f5] 643):=by
 intro af i0 aj i5 ay A1 A7 aS D9 En eb z12 a12 Eo ae Ea Ep s1 ah Eb Er EF d14 aD HS Ic aP HT Ie s2 bd HU Ig aM HV Ih ew a8 HW Ii IC d19 z20 a20 Ij z21 a21 Es kK z22 a22 Qc bH Ec Et lx z24 a24 Qd QJ
 intro d24 bn PV Qe z26 a26 Qf x8 bO PW Qg z28 a28 Qh rz cx X7 ZF aa6 d29 bZ X8 ZG z31 a31 ZH rA cu l3 Qi cM PX Qj Am cb X9 ZI aa8 d34 b7 Ya ZJ cj Yb ZK MN z37 a37 Qk cQ Yc ZL x7 c6 Yd ZM QL d39 z40 a40
 intro ZN abb d40 cF Ye ZO cR Yf ZP anC dD Yg ZQ c8 Yh ZR anD cH Yi ZS QM d45 z46 a46 Ik abe d46 cm Yj ZT dE Yk ZU anE z49 a49 ZV cS Yl ZW anF z51 a51 ZX QO d51 dh Ym ZY abh d52 z53 a53 ZZ eI Yn Z0 azk eY Yo
 intro Z1 dF Yp Z2 azl dO Yq Z3 QP d57 eB HX Il abk d58 z59 a59 Z4 IG d59 eJ Yr Z5 hO Ys Z6 azm fO PY Ql dP HY Im azn fi Ed Z7 abo d64 eQ Yt Z8 QQ d65 eC Yu Z9 gC Yv aaa azo iB Yw aab fj Yx aac azp z70 a70
 intro aad abr d70 fB Yy aae QR d71 z72 a72 Io eo PZ Qm azq iC Yz aaf z75 a75 aag azr z76 a76 aah abu d76 e6 YA aai QT d77 fk YB aaj jj YC aak azs iP YD aal gD YE aam azt gO YF aan abx d82 hP YG aao QU d83 jx HZ Ip aby
 intro d84 z85 a85 aap kO YH aaq azu z87 a87 aar gj YI aas azv hQ YJ aat QW d89 gP YK aau abA d90 z91 a91 aav QX d91 gk YL aaw z93 a93 aax azw iQ YM aay gm YN aaz azx gQ P0 Qo abD d96 jV at0 av1 axl d97 dS at1 av2 fP at2 av3
 intro azy hJ asM at4 iz asN at5 azz ic asO at6 av5 d102 jg asP at7 av6 d103 gh asQ aua z105 a105 aub azA jw asR auc z107 a107 aud azB kj asS aue av7 d108 z109 a109 auf av8 d109 pj asT aug av9 d110 ey asU auh fA asV aui azC fN asW auj eP asX auk
 intro azD gz asY aul awa d115 z116 a116 aum awb d116 z117 a117 aun awc d117 eU asZ auo z119 a119 aup azE jT as0 auq gA as1 aur azF hL as2 aus awd d122 jU as3 aut awe d123 z124 a124 auu awf d124 jh as4 auv nA as5 auw azG z127 a127 auy iA as6 auz azH ji
 intro as7 auA awg d129 z130 a130 auB awh d130 z131 a131 auC sW as8 auD azI sX as9 auE mr ata auF azJ nB atb auG awi d135 nC atc auH awj d136 uA atd auI awk d137 z138 a138 auJ z139 a139 auK azK sY ate auL z141 a141 auM azL rG atf auN awl d142 z143 a143 auO
 intro awm d143 DM atg auP awn d144 z145 a145 auQ z146 a146 auR azM AH ath auS z148 a148 auT azN rH ati auU awo d149 rI atj auV awp d150 DN atk auW awq d151 z152 a152 auX AI atl auY azO z154 a154 auZ pk atm au0 azP z156 a156 au1 awr d156 z157 a157 au2 aws d157
 intro sZ atn au3 awt d158 z159 a159 au4 z160 a160 au5 azQ N1 ato au6 z162 a162 au7 azR hM atp au8 awu d163 z164 a164 au9 awv d164 qd atq ava s0 atr avb azS z167 a167 avc z168 a168 avd azT qe ats ave aww d169 qf att avf awx d170 z171 a171 avg awy d171 vV atu
 intro avh awz d172 z173 a173 avi awA d173 qg atv avj z175 a175 avk azU gB atw avl gi atx avm azV iO aty avn awB d178 mU atz avo awC d179 pn atA avp awD d180 ie atB avq awE d181 z182 a182 avr awF d182 z183 a183 avs nD atC avt azW mV atD avu lA atE avv
 intro azX rJ atF avw awG d187 rK atG avx awH d188 ys atH avy awI d189 uB atI avz awJ d190 oo atJ avA awK d191 nE atK avB z193 a193 avC azY z194 a194 avD nF atL avE azZ z196 a196 avF awL d196 AJ atM avG awM d197 z198 a198 avH awN d198 Hm atN avI awO d199
 intro W7 atO avJ awP d200 z201 a201 avK N2 atP avL az0 z203 a203 avM vW atQ avN az1 AK atS avO awQ d205 z206 a206 avP awR d206 W8 atT avQ awS d207 z208 a208 avR awT d208 W9 atU avS awU d209 z210 a210 avT DO atV avU az2 z212 a212 avV awV d212 z213 a213 avW awW
 intro d213 N3 atW avX awX d214 Xa atX avY awY d215 GJ ahE az3
 exact⟨xD ahE,trivial⟩
theorem amh (G):Pk (hT G) (bt ST [f5] 664):=by
 intro af i0 aj i5 eb
 exact⟨xD i5,trivial⟩
theorem amu (G):Px (hT G) (bt ST [f5] 665):=by
 intro af i0 eb
 exact⟨xD i0,trivial⟩
theorem Ry {aj:List Int} {z21 bH bn z46 cm:Int} (c:0<=((8*(List.getD aj 1 0))+((8*z21)+(((-147573952589676412928)*bH)+((-18014398509481984)*bn))))-256*cm) (d:((8*(List.getD aj 1 0))+((8*z21)+(((-147573952589676412928)*bH)+((-18014398509481984)*bn))))-256*cm<256) (a:0<=z46) (b:z46<=7):0<=((8*(List.getD aj 1 0))+((8*z21)+(((-147573952589676412928)*bH)+(((-18014398509481984)*bn)+(z46+((-256)*cm))))))/\((8*(List.getD aj 1 0))+((8*z21)+(((-147573952589676412928)*bH)+(((-18014398509481984)*bn)+(z46+((-256)*cm))))))<=255:=by omega
theorem Rz {aj:List Int} {z24 z26 z28 eB z59:Int} (c:0<=((64*(List.getD aj 2 0))+((64*z24)+(((-1180591620717411303424)*z26)+((-144115188075855872)*z28))))-256*z59) (d:((64*(List.getD aj 2 0))+((64*z24)+(((-1180591620717411303424)*z26)+((-144115188075855872)*z28))))-256*z59<256) (a:0<=eB) (b:eB<=63):0<=((64*(List.getD aj 2 0))+((64*z24)+(((-1180591620717411303424)*z26)+(((-144115188075855872)*z28)+(eB+((-256)*z59))))))/\((64*(List.getD aj 2 0))+((64*z24)+(((-1180591620717411303424)*z26)+(((-144115188075855872)*z28)+(eB+((-256)*z59))))))<=255:=by omega
theorem RA {aj:List Int} {bO cx z31 z72 eo:Int} (c:0<=((2*(List.getD aj 3 0))+((2*bO)+(((-36893488147419103232)*cx)+((-4503599627370496)*z31))))-256*eo) (d:((2*(List.getD aj 3 0))+((2*bO)+(((-36893488147419103232)*cx)+((-4503599627370496)*z31))))-256*eo<256) (a:0<=z72) (b:z72<=1):0<=((2*(List.getD aj 3 0))+((2*bO)+(((-36893488147419103232)*cx)+(((-4503599627370496)*z31)+(z72+((-256)*eo))))))/\((2*(List.getD aj 3 0))+((2*bO)+(((-36893488147419103232)*cx)+(((-4503599627370496)*z31)+(z72+((-256)*eo))))))<=255:=by omega
theorem RB {aj:List Int} {bZ cu cb jx z85:Int} (c:0<=((16*(List.getD aj 4 0))+((16*bZ)+(((-295147905179352825856)*cu)+((-36028797018963968)*cb))))-256*z85) (d:((16*(List.getD aj 4 0))+((16*bZ)+(((-295147905179352825856)*cu)+((-36028797018963968)*cb))))-256*z85<256) (a:0<=jx) (b:jx<=15):0<=((16*(List.getD aj 4 0))+((16*bZ)+(((-295147905179352825856)*cu)+(((-36028797018963968)*cb)+(jx+((-256)*z85))))))/\((16*(List.getD aj 4 0))+((16*bZ)+(((-295147905179352825856)*cu)+(((-36028797018963968)*cb)+(jx+((-256)*z85))))))<=255:=by omega
theorem alw (G):Oy (hT G) (bt ST [l3] 644):=by
 intro af i0 aj i5 eb ay A1 A7 qs d10 aS D9 En Bf d11 z12 a12 Eo Bg d12 ae Ea Ep IB d13 ah Eb Er EF d14 aD HS Ic QE d15 aP HT Ie QF d16 bd HU Ig QG d17 aM HV Ih QH d18 a8 HW Ii IC d19 z20 a20 Ij QI d20
 intro z21 a21 Es ar d21 z22 a22 Qc aa2 d22 bH Ec Et wC d23 z24 a24 Qd QJ d24 bn PV Qe Bh d25 z26 a26 Qf aa3 d26 bO PW Qg aa4 d27 z28 a28 Qh aa5 d28 cx X7 ZF aa6 d29 bZ X8 ZG awZ d30 z31 a31 ZH aw0 d31 cu l3 Qi aa7 d32
 intro cM PX Qj IF d33 cb X9 ZI aa8 d34 b7 Ya ZJ aa9 d35 cj Yb ZK aw1 d36 z37 a37 Qk QK d37 cQ Yc ZL aw2 d38 c6 Yd ZM QL d39 z40 a40 ZN abb d40 cF Ye ZO abc d41 cR Yf ZP aw3 d42 dD Yg ZQ abd d43 c8 Yh ZR aw4 d44
 intro cH Yi ZS QM d45 z46 a46 Ik abe d46 cm Yj ZT QN d47 dE Yk ZU aw5 d48 z49 a49 ZV abf d49 cS Yl ZW aw6 d50 z51 a51 ZX QO d51 dh Ym ZY abh d52 z53 a53 ZZ abi d53 eI Yn Z0 aw7 d54 eY Yo Z1 abj d55 dF Yp Z2 aw8 d56
 intro dO Yq Z3 QP d57 eB HX Il abk d58 z59 a59 Z4 IG d59 eJ Yr Z5 aw9 d60 hO Ys Z6 abm d61 fO PY Ql axa d62 dP HY Im abn d63 fi Ed Z7 abo d64 eQ Yt Z8 QQ d65 eC Yu Z9 axb d66 gC Yv aaa abp d67 iB Yw aab axc d68
 intro fj Yx aac abq d69 z70 a70 aad abr d70 fB Yy aae QR d71 z72 a72 Io axd d72 eo PZ Qm QS d73 iC Yz aaf axe d74 z75 a75 aag abt d75 z76 a76 aah abu d76 e6 YA aai QT d77 fk YB aaj axf d78 jj YC aak abv d79 iP YD aal axg d80
 intro gD YE aam abw d81 gO YF aan abx d82 hP YG aao QU d83 jx HZ Ip aby d84 z85 a85 aap QV d85 kO YH aaq axh d86 z87 a87 aar abz d87 gj YI aas axi d88 hQ YJ aat QW d89 gP YK aau abA d90 z91 a91 aav QX d91 gk YL aaw axj d92
 intro z93 a93 aax abB d93 iQ YM aay axk d94 gm YN aaz abC d95 gQ P0 Qo abD d96
 refine⟨⟨by simpa only[Int.sub_eq_add_neg,Int.neg_mul,Int.add_assoc]using aa9,h9 (by simpa only[Int.sub_eq_add_neg,Int.neg_mul,Int.add_assoc]using d35),by simpa only[Int.sub_eq_add_neg,Int.neg_mul,Int.add_assoc]using QK,h9 (by simpa only[Int.sub_eq_add_neg,Int.neg_mul,Int.add_assoc]using d37),by simpa only[Int.sub_eq_add_neg,Int.neg_mul,Int.add_assoc]using QL,h9 (by simpa only[Int.sub_eq_add_neg,Int.neg_mul,Int.add_assoc]using d39),by simpa only[Int.sub_eq_add_neg,Int.neg_mul,Int.add_assoc]using abc,h9 (by simpa only[Int.sub_eq_add_neg,Int.neg_mul,Int.add_assoc]using d41),by simpa only[Int.sub_eq_add_neg,Int.neg_mul,Int.add_assoc]using abd,h9 (by simpa only[Int.sub_eq_add_neg,Int.neg_mul,Int.add_assoc]using d43),by simpa only[Int.sub_eq_add_neg,Int.neg_mul,Int.add_assoc]using QM,h9 (by simpa only[Int.sub_eq_add_neg,Int.neg_mul,Int.add_assoc]using d45),(Ry QN d47 a46 Ik).1,(Ry QN d47 a46 Ik).2,by simpa only[Int.sub_eq_add_neg,Int.neg_mul,Int.add_assoc]using abf,h9 (by simpa only[Int.sub_eq_add_neg,Int.neg_mul,Int.add_assoc]using d49),by simpa only[Int.sub_eq_add_neg,Int.neg_mul,Int.add_assoc]using QO,h9 (by simpa only[Int.sub_eq_add_neg,Int.neg_mul,Int.add_assoc]using d51),by simpa only[Int.sub_eq_add_neg,Int.neg_mul,Int.add_assoc]using abi,h9 (by simpa only[Int.sub_eq_add_neg,Int.neg_mul,Int.add_assoc]using d53),by simpa only[Int.sub_eq_add_neg,Int.neg_mul,Int.add_assoc]using abj,h9 (by simpa only[Int.sub_eq_add_neg,Int.neg_mul,Int.add_assoc]using d55),by simpa only[Int.sub_eq_add_neg,Int.neg_mul,Int.add_assoc]using QP,h9 (by simpa only[Int.sub_eq_add_neg,Int.neg_mul,Int.add_assoc]using d57),(Rz IG d59 HX Il).1,(Rz IG d59 HX Il).2,by simpa only[Int.sub_eq_add_neg,Int.neg_mul,Int.add_assoc]using abm,h9 (by simpa only[Int.sub_eq_add_neg,Int.neg_mul,Int.add_assoc]using d61),by simpa only[Int.sub_eq_add_neg,Int.neg_mul,Int.add_assoc]using abn,h9 (by simpa only[Int.sub_eq_add_neg,Int.neg_mul,Int.add_assoc]using d63),by simpa only[Int.sub_eq_add_neg,Int.neg_mul,Int.add_assoc]using QQ,h9 (by simpa only[Int.sub_eq_add_neg,Int.neg_mul,Int.add_assoc]using d65),by simpa only[Int.sub_eq_add_neg,Int.neg_mul,Int.add_assoc]using abp,h9 (by simpa only[Int.sub_eq_add_neg,Int.neg_mul,Int.add_assoc]using d67),by simpa only[Int.sub_eq_add_neg,Int.neg_mul,Int.add_assoc]using abq,h9 (by simpa only[Int.sub_eq_add_neg,Int.neg_mul,Int.add_assoc]using d69),by simpa only[Int.sub_eq_add_neg,Int.neg_mul,Int.add_assoc]using QR,h9 (by simpa only[Int.sub_eq_add_neg,Int.neg_mul,Int.add_assoc]using d71),(RA QS d73 a72 Io).1,(RA QS d73 a72 Io).2,by simpa only[Int.sub_eq_add_neg,Int.neg_mul,Int.add_assoc]using abt,h9 (by simpa only[Int.sub_eq_add_neg,Int.neg_mul,Int.add_assoc]using d75),by simpa only[Int.sub_eq_add_neg,Int.neg_mul,Int.add_assoc]using QT,h9 (by simpa only[Int.sub_eq_add_neg,Int.neg_mul,Int.add_assoc]using d77),by simpa only[Int.sub_eq_add_neg,Int.neg_mul,Int.add_assoc]using abv,h9 (by simpa only[Int.sub_eq_add_neg,Int.neg_mul,Int.add_assoc]using d79),by simpa only[Int.sub_eq_add_neg,Int.neg_mul,Int.add_assoc]using abw,h9 (by simpa only[Int.sub_eq_add_neg,Int.neg_mul,Int.add_assoc]using d81),by simpa only[Int.sub_eq_add_neg,Int.neg_mul,Int.add_assoc]using QU,h9 (by simpa only[Int.sub_eq_add_neg,Int.neg_mul,Int.add_assoc]using d83),(RB QV d85 HZ Ip).1,(RB QV d85 HZ Ip).2,by simpa only[Int.sub_eq_add_neg,Int.neg_mul,Int.add_assoc]using abz,h9 (by simpa only[Int.sub_eq_add_neg,Int.neg_mul,Int.add_assoc]using d87),by simpa only[Int.sub_eq_add_neg,Int.neg_mul,Int.add_assoc]using QW,h9 (by simpa only[Int.sub_eq_add_neg,Int.neg_mul,Int.add_assoc]using d89),by simpa only[Int.sub_eq_add_neg,Int.neg_mul,Int.add_assoc]using QX,h9 (by simpa only[Int.sub_eq_add_neg,Int.neg_mul,Int.add_assoc]using d91),by simpa only[Int.sub_eq_add_neg,Int.neg_mul,Int.add_assoc]using abB,h9 (by simpa only[Int.sub_eq_add_neg,Int.neg_mul,Int.add_assoc]using d93),by simpa only[Int.sub_eq_add_neg,Int.neg_mul,Int.add_assoc]using abC,h9 (by simpa only[Int.sub_eq_add_neg,Int.neg_mul,Int.add_assoc]using d95),P0,Int.le_trans Qo (by decide),trivial⟩,trivial⟩
theorem alM (G):OO (hT G) (bt ST [f5] 666):=by
 intro af i0 aj i5 eb
 exact⟨xD i5,trivial⟩
theorem alT (G):OV (hT G) (bt ST [.bool] 667):=by
 intro af i0 aj i5 eb z37 a37 Qk QK d37
 have hb:∀b:Bool,av (bG [D.bool]) [[cond b 1 0]].flatten:=fun b=>by cases b<;>exact⟨by decide,by decide,trivial⟩
 exact⟨hb _,trivial⟩
theorem alx (G):Oz (hT G) (bt ST [lS] 646):=by
 intro af i0 aj i5 sA i10 eb
 exact⟨RW i0 i5 ⟨by decide,by decide,by decide,by decide,by decide,by decide,by decide,by decide,by decide,by decide,trivial⟩ i10,trivial⟩
theorem alg (G):Oh (hT G) (bt ST [lS] 647):=by
 intro af i0 eb
 exact⟨by rw[y3 i0];exact i0,trivial⟩
theorem als (G):Ov (hT G) (bt ST [lS] 648):=by
 intro af i0 eb
 exact⟨by rw[y3 i0];exact i0,trivial⟩
theorem aln (G):On (hT G) (bt ST [lS] 649):=by
 intro af i0 aj i5 sA i10 jN i15 dn i20 eb dW i25 s1 ua i30 s2 sD i35 ew
 exact⟨RW i20 i25 i30 i35,trivial⟩
theorem alo (G):Oo (hT G) (bt ST [lS] 650):=by
 intro af i0 dn i20 ub i40 eb uc i45 s1 sE i50 s2 sF i55 ew ud i60 kK gN i65 lx GL i70 x8 GM i75 rz Dp i80 rA Dq i85 Am Dr i90 MN GN i95 x7 GD i100 anC GF i105 anD GG i110 anE jr i115 anF
 exact⟨by rw[y3 i115];exact i115,trivial⟩
theorem alu (G):Ow (hT G) (bt ST [lS] 651):=by
 intro af i0 jN i15 eb dn i20 s1 dW i25 s2 ua i30 ew sD i35 kK ub i40 lx uc i45 x8 sE i50 rz sF i55 rA ud i60 Am gN i65 MN
 exact⟨by rw[y3 i65];exact i65,trivial⟩
theorem alm (G):Om (hT G) (bt ST [l3] 654):=by
 intro af i0 cu l3 Qi aa7 d32 cM PX Qj IF d33
 match af,i0 with
 |[x0,x1,x2,fg,eX,e5,fh,ib,jd,je,jv,eH,fy,iN,rD,rE,uw,ux,uy,uz,yf,yg,yh,yi,yj,yk,yl,ym,yn,yo,yp,rF],i0=>
  refine⟨⟨by omega,by omega,i0.2.2.1,i0.2.2.2.1,?_⟩,trivial⟩
  have h:=i0.2.2.2.2
  have hs:∀(n:Nat) (l:List Int) (y z:Int),av (a7 0 255 (n+1)) (l++[y])->0<=z->z<=255->av (a7 0 255 (n+1)) (l++[z]):=fun n=>by
   induction n with
   |zero=>
    intro l y z h h0 h1
    match l,h with
    |[],h=>exact⟨h0,h1,trivial⟩
    |_::[],h=>exact h.2.2.elim
    |_::_::_,h=>exact h.2.2.elim
   |succ n ih=>
    intro l y z h h0 h1
    match l,h with
    |[],h=>exact h.2.2.elim
    |x::l,h=>exact⟨h.1,h.2.1,ih l y z h.2.2 h0 h1⟩
  have IF:0<=rF-64*cM:=IF
  have d33:rF-64*cM<64:=d33
  exact hs 29 [x2,fg,eX,e5,fh,ib,jd,je,jv,eH,fy,iN,rD,rE,uw,ux,uy,uz,yf,yg,yh,yi,yj,yk,yl,ym,yn,yo,yp] rF _ h (by show 0<=rF+-64*cM+64;omega) (by show rF+-64*cM+64<=255;omega)
theorem alh (G):Oi (hT G) (bt ST [l3] 653):=by
 intro af i0 jN i15 eb dn i20 s1 dW i25 s2 GK i57 ew fO PY Ql kK
 have one:∀{r:List Int},av (a7 0 255 32) r->av (bG [l3]) [r].flatten:=fun h=>by rw[List.flatten_cons,List.flatten_nil,List.append_nil];exact h
 exact⟨fun h dP HY Im axy=>⟨one (anQ i25 HY Im),trivial⟩,fun h=>⟨one i25,trivial⟩⟩
theorem Qu {w:Nat} (hw:w=8∨w=64) {r:List Int} {i:Nat} {q v q' u b:Int} (h0:0<=(i:Int)-w*q) (h1:(i:Int)-w*q<w) (hq:0<=q) (hv:v=List.getD r q.toNat 0) (h2:0<=(i:Int)-w*q') (h3:(i:Int)-w*q'<w) (hu:u=v/2^((i:Int)+((-w)*q')).toNat) (h4:0<=u-2*b) (h5:u-2*b<2):decide (u+(-2)*b=1)=Ew w r i:=by
 have e1:q=((i/w:Nat):Int):=by rcases hw with rfl|rfl<;>omega
 have e2:q'=q:=by rcases hw with rfl|rfl<;>omega
 have bu:((i:Int)+((-w)*q')).toNat=i% w:=by rw[e2,e1];rcases hw with rfl|rfl<;>omega
 rw[bu]at hu
 rw[e1,Int.toNat_natCast]at hv
 unfold Ew
 rw[<-hv,<-hu]
 have:u% 2=u+(-2)*b:=by omega
 rw[this]
theorem mD (r:List Int):[r].flatten=r:=by rw[List.flatten_cons,List.flatten_nil,List.append_nil]
theorem uU (r s:List Int):[r,s].flatten=r++s:=by rw[List.flatten_cons,mD]
def XW (G:Nat->List Int->List Int) (e n:List Int) (bl:List (List Int)):Prop:=∃(k:Nat) (r:List Int),bl=[[255-(k:Int)],r]/\k<=256/\r=xT G e n k
def yy (bl:List (List Int)):Nat:=((bl.getD 0 []).getD 0 0+1).toNat
theorem ama (G):Pc (hT G) (bt (hT G) [f5] 645):=by
 intro af i0 aj i5
 refine⟨XW G af aj,yy,⟨0,_,rfl,by decide,rfl⟩,?_⟩
 rintro ay A1 A7 lr i11 ⟨k,r,e,hk,hr⟩
 obtain⟨rfl,rfl⟩:ay=255-(k:Int)/\lr=r:=by simpa using e
 refine⟨fun h sB i16 eb z21 a21 Es ar d21 z22 _ _ rZ bH Ec Et wC d23 z24 _ _ r3 bn _ _ Bh d25=>?_,fun h=>?_⟩
 ·have h:=of_decide_eq_true h
  obtain⟨i,hi⟩:∃i:Nat,(255:Int)-k=i:=⟨255-k,by omega⟩
  rw[hi]at ar d21 wC d23 r3⊢
  have hb:=Qu (w:=64) (.inr rfl) (r:=aj) (i:=i) ar d21 a21 rZ wC d23 r3 Bh d25
  have eb:sB=G 664 (xT G af aj k):=by
   have eb:[sB].flatten=G 664 [lr].flatten:=eb
   rwa [mD,mD,hr]at eb
  have cE:i=255-k:=by omega
  have hm:∀x y:List Int,yy [[(i:Int)+(-1)],x]<yy [[(i:Int)],y]:=fun x y=>by show((i:Int)+(-1)+1).toNat<((i:Int)+1).toNat;omega
  have hn:(i:Int)+(-1)=255-((k+1:Nat):Int):=by omega
  refine⟨fun hq sC i26 s1=>⟨⟨k+1,sC,by rw[hn],by omega,?_⟩,hm _ _⟩,fun hq=>⟨⟨k+1,sB,by rw[hn],by omega,?_⟩,hm _ _⟩⟩
  ·have s1:[sC].flatten=G 643 [sB,af].flatten:=s1
   rw[mD,uU]at s1
   unfold xT
   rw[<-eb,<-cE,<-hb,hq,s1];rfl
  ·unfold xT
   rw[<-eb,<-cE,<-hb,hq];rfl
 ·have h:=of_decide_eq_false h
  have hk:k=256:=by omega
  subst hk
  refine⟨xD i11,?_⟩
  show [lr].flatten=xT G ([af,aj].flatten.take 5) ([af,aj].flatten.drop 5) 256
  have ct:af.length=5:=lP i0
  rw[mD,uU,List.take_left' ct,List.drop_left' ct,hr]
end Go.ck

set_option maxRecDepth 100000
set_option linter.unusedVariables false
set_option linter.unusedSimpArgs false
namespace Go.ck
open Go Go.bj
def OU (S:Nat->List (List Int)->List (List Int)->Prop) (K:List (List Int)->List (List Int)->Prop):Prop:=
 ∀af:List Int,av (a7 0 18446744073709551615 20) af->∀dn:List Int,av (a7 0 255 32) dn->∀Dn:List Int,av (a7 0 18446744073709551615 20) Dn
 ->S 648 [] [Dn]->∃(D3:List (List Int)->Prop) (Hp:List (List Int)->Nat),D3 [[255],Dn]/\(en (-1) 255 fun eo=>∀eG:List Int,av (a7 0
 18446744073709551615 20) eG->D3 [[eo],eG]->(aC (decide (0<=eo)) (∀sG:List Int,av (a7 0 18446744073709551615 20) sG->S 651 [[(List.getD eG 0
 0),(List.getD eG 1 0),(List.getD eG 2 0),(List.getD eG 3 0),(List.getD eG 4 0),(List.getD eG 5 0),(List.getD eG 6 0),(List.getD eG 7 0),(List.getD eG 8
 0),(List.getD eG 9 0),(List.getD eG 10 0),(List.getD eG 11 0),(List.getD eG 12 0),(List.getD eG 13 0),(List.getD eG 14 0)]] [sG]->aG 0 31 eo 8 fun eP
 =>Gz fun gz=>gz=List.getD dn (eP).toNat 0->aG 0 31 eo 8 fun z116=>Gz fun z117=>z117=gz/2^((eo+((-8)*z116))).toNat->aG 0 127
 z117 2 fun eU=>(aC (decide ((z117+((-2)*eU))=1)) (∀GH:List Int,av (a7 0 18446744073709551615 20) GH->S 650 [sG,af] [GH]->(D3 [[(eo
 +(-1))],GH]/\Hp [[(eo+(-1))],GH]<Hp [[eo],eG])) ((D3 [[(eo+(-1))],sG]/\Hp [[(eo+(-1))],sG]<Hp [[eo],eG])))) (K [af,dn]
 [[(List.getD eG 0 0),(List.getD eG 1 0),(List.getD eG 2 0),(List.getD eG 3 0),(List.getD eG 4 0)],[(List.getD eG 5 0),(List.getD eG 6 0),(List.getD eG 7
 0),(List.getD eG 8 0),(List.getD eG 9 0)],[(List.getD eG 10 0),(List.getD eG 11 0),(List.getD eG 12 0),(List.getD eG 13 0),(List.getD eG 14
 0)],[(List.getD eG 15 0),(List.getD eG 16 0),(List.getD eG 17 0),(List.getD eG 18 0),(List.getD eG 19 0)]])))
def Pa (S:Nat->List (List Int)->List (List Int)->Prop) (K:List (List Int)->List (List Int)->Prop):Prop:=
 ∀af:List Int,av (a7 0 255 32) af->aI 23 [0,(List.getD af 0 0)] fun cu=>aI 23 [cu,(List.getD af 1 0)] fun cM=>aI 23 [cM,(List.getD af 2 0)] fun
 cb=>aI 23 [cb,(List.getD af 3 0)] fun b7=>aI 23 [b7,(List.getD af 4 0)] fun cj=>aI 23 [cj,(List.getD af 5 0)] fun z37=>aI 23 [z37,(List.getD af
 6 0)] fun cQ=>aI 23 [cQ,(List.getD af 7 0)] fun c6=>aI 23 [c6,(List.getD af 8 0)] fun z40=>aI 23 [z40,(List.getD af 9 0)] fun cF=>aI 23
 [cF,(List.getD af 10 0)] fun cR=>aI 23 [cR,(List.getD af 11 0)] fun dD=>aI 23 [dD,(List.getD af 12 0)] fun c8=>aI 23 [c8,(List.getD af 13 0)] fun
 cH=>aI 23 [cH,(List.getD af 14 0)] fun z46=>aI 23 [z46,(List.getD af 15 0)] fun cm=>aI 23 [cm,(List.getD af 16 0)] fun dE=>aI 23 [dE,(List.getD
 af 17 0)] fun z49=>aI 23 [z49,(List.getD af 18 0)] fun cS=>aI 23 [cS,(List.getD af 19 0)] fun z51=>aI 23 [z51,(List.getD af 20 0)] fun dh=>aI 23
 [dh,(List.getD af 21 0)] fun z53=>aI 23 [z53,(List.getD af 22 0)] fun eI=>aI 23 [eI,(List.getD af 23 0)] fun eY=>aI 23 [eY,(List.getD af 24 0)] fun
 dF=>aI 23 [dF,(List.getD af 25 0)] fun dO=>aI 23 [dO,(List.getD af 26 0)] fun eB=>aI 23 [eB,(List.getD af 27 0)] fun z59=>aI 23 [z59,(List.getD
 af 28 0)] fun eJ=>aI 23 [eJ,(List.getD af 29 0)] fun hO=>aI 23 [hO,(List.getD af 30 0)] fun fO=>aI 23 [fO,(List.getD af 31 0)] fun dP=>ab 71
 [dP]/\∀e3:List Int,av (a7 0 255 64) e3->S 453 [[dP]] [e3]->∀xS:List Int,av (a7 0 255 32) xS->S 654 [[(List.getD e3 0 0),(List.getD
 e3 1 0),(List.getD e3 2 0),(List.getD e3 3 0),(List.getD e3 4 0),(List.getD e3 5 0),(List.getD e3 6 0),(List.getD e3 7 0),(List.getD e3 8 0),(List.getD
 e3 9 0),(List.getD e3 10 0),(List.getD e3 11 0),(List.getD e3 12 0),(List.getD e3 13 0),(List.getD e3 14 0),(List.getD e3 15 0),(List.getD e3 16
 0),(List.getD e3 17 0),(List.getD e3 18 0),(List.getD e3 19 0),(List.getD e3 20 0),(List.getD e3 21 0),(List.getD e3 22 0),(List.getD e3 23 0),(List.getD
 e3 24 0),(List.getD e3 25 0),(List.getD e3 26 0),(List.getD e3 27 0),(List.getD e3 28 0),(List.getD e3 29 0),(List.getD e3 30 0),(List.getD e3 31 0)]]
 [xS]->∀vI:List Int,av (a7 0 18446744073709551615 20) vI->S 647 [] [vI]->∀lu:List Int,av (a7 0 18446744073709551615 20) lu->S 652
 [vI,xS] [lu]->∀Ac:List Int,av (a7 0 255 32) Ac->S 653 [[(List.getD lu 0 0),(List.getD lu 1 0),(List.getD lu 2 0),(List.getD lu 3
 0),(List.getD lu 4 0),(List.getD lu 5 0),(List.getD lu 6 0),(List.getD lu 7 0),(List.getD lu 8 0),(List.getD lu 9 0),(List.getD lu 10 0),(List.getD
 lu 11 0),(List.getD lu 12 0),(List.getD lu 13 0),(List.getD lu 14 0)]] [Ac]->K [af] [Ac]
def OX (S:Nat->List (List Int)->List (List Int)->Prop) (K:List (List Int)->List (List Int)->Prop):Prop:=
 ∀af:List Int,av (a7 0 cy 7) af->(ab 81 [(List.getD af 0 0),(List.getD af 1 0),(List.getD af 2 0),(List.getD af 3 0),(List.getD af 4 0),(List.getD af 5
 0),(List.getD af 6 0)]->aI 27 [(List.getD af 5 0)] fun z7=>bp 0 [(List.getD af 5 0)] fun au=>bW fun z9=>ab 22 [z7,0,au]/\aI 22 [z7,0,au] fun ay
 =>ab 71 [ay]/\∀lr:List Int,av (a7 0 255 32) lr->S 452 [[ay]] [lr]->∀eT:List Int,av (a7 0 255 32) eT->S 655 [lr] [eT]->aI 23
 [0,(List.getD eT 0 0)] fun z75=>aI 23 [z75,(List.getD eT 1 0)] fun z76=>aI 23 [z76,(List.getD eT 2 0)] fun e6=>aI 23 [e6,(List.getD eT 3 0)] fun
 fk=>aI 23 [fk,(List.getD eT 4 0)] fun jj=>aI 23 [jj,(List.getD eT 5 0)] fun iP=>aI 23 [iP,(List.getD eT 6 0)] fun gD=>aI 23 [gD,(List.getD
 eT 7 0)] fun gO=>aI 23 [gO,(List.getD eT 8 0)] fun hP=>aI 23 [hP,(List.getD eT 9 0)] fun jx=>aI 23 [jx,(List.getD eT 10 0)] fun z85=>aI 23
 [z85,(List.getD eT 11 0)] fun kO=>aI 23 [kO,(List.getD eT 12 0)] fun z87=>aI 23 [z87,(List.getD eT 13 0)] fun gj=>aI 23 [gj,(List.getD eT 14 0)]
 fun hQ=>aI 23 [hQ,(List.getD eT 15 0)] fun gP=>aI 23 [gP,(List.getD eT 16 0)] fun z91=>aI 23 [z91,(List.getD eT 17 0)] fun gk=>aI 23
 [gk,(List.getD eT 18 0)] fun z93=>aI 23 [z93,(List.getD eT 19 0)] fun iQ=>aI 23 [iQ,(List.getD eT 20 0)] fun gm=>aI 23 [gm,(List.getD eT 21 0)]
 fun gQ=>aI 23 [gQ,(List.getD eT 22 0)] fun jV=>aI 23 [jV,(List.getD eT 23 0)] fun dS=>aI 23 [dS,(List.getD eT 24 0)] fun fP=>aI 23
 [fP,(List.getD eT 25 0)] fun hJ=>aI 23 [hJ,(List.getD eT 26 0)] fun iz=>aI 23 [iz,(List.getD eT 27 0)] fun ic=>aI 23 [ic,(List.getD eT
 28 0)] fun jg=>aI 23 [jg,(List.getD eT 29 0)] fun gh=>aI 23 [gh,(List.getD eT 30 0)] fun z105=>aI 23 [z105,(List.getD eT 31 0)] fun jw=>
 ab 48 [jw]/\cw fun z107=>S 618 [[jw]] [[z107]]->K [af] [[z107]])
def O1 (S:Nat->List (List Int)->List (List Int)->Prop) (K:List (List Int)->List (List Int)->Prop):Prop:=
 c9 fun z0=>cw fun ag=>cK fun z2=>bW fun z3=>bp 20 [z0] fun z4=>ab 22 [z0,0,z4]/\aI 22 [z0,0,z4] fun z5=>bR fun ao=>S 602 [[z5]] [[ao]]->(aC
 (decide (ao=1)) (∃(D2:List (List Int)->Prop) (Ho:List (List Int)->Nat),D2 [[0]]/\(fe fun au=>D2 [[au]]->(aC (decide (au<z4)) (ab 30 [au,z4]
 /\ab 21 [z0,au]/\bz 21 [z0,au,0] fun z9=>bz 21 [z0,au,1] fun ay=>bz 21 [z0,au,2] fun aS=>bz 21 [z0,au,3] fun z12=>bz 21 [z0,au,4] fun ae=>
 bz 21 [z0,au,5] fun ah=>bz 21 [z0,au,6] fun aD=>ch 4 [aD,0] fun aP=>(aC (decide (aP=1)) (ab 81 [z9,ay,aS,z12,ae,ah,aD]/\cw fun bd=>S
 656 [[z9,ay,aS,z12,ae,ah,aD]] [[bd]]->ch 4 [bd,ag] fun aM=>(aC (decide (aM=1)) (K [[z0],[ag]] [[(cond (true) 1 0)]]) (bg (au+
 9223372036854775809) 18446744073709551616 fun a8=>ab 39 [((au+((-18446744073709551616)*a8))+1),0,9223372036854775807]/\(D2 [[((au+
 ((-18446744073709551616)*a8))+1)]]/\Ho [[((au+((-18446744073709551616)*a8))+1)]]<Ho [[au]])))) (bg (au+9223372036854775809)
 18446744073709551616 fun bd=>ab 39 [((au+((-18446744073709551616)*bd))+1),0,9223372036854775807]/\(D2 [[((au+((-18446744073709551616)*bd))+
 1)]]/\Ho [[((au+((-18446744073709551616)*bd))+1)]]<Ho [[au]])))) (K [[z0],[ag]] [[(cond (false) 1 0)]])))) (K [[z0],[ag]] [[(cond (false) 1 0)]]))
/-! ### asI taken many times-/
theorem t15 {a b:Int} {r:List Int} (h:av (a7 a b 20) r):[[List.getD r 0 0,List.getD r 1 0,List.getD r 2 0,List.getD r 3 0,List.getD r 4 0,List.getD r 5 0,List.getD r 6 0,List.getD r 7 0,List.getD r 8 0,List.getD r 9 0,List.getD r 10 0,List.getD r 11 0,List.getD r 12 0,List.getD r 13 0,List.getD r 14 0]].flatten=r.take 15:=by
 match r,h with
 |[x0,x1,x2,fg,eX,e5,fh,ib,jd,je,jv,eH,fy,iN,rD,rE,uw,ux,uy,uz],_=>rfl
theorem Zn {a b:Int} {r:List Int} (h:av (a7 a b 32) r):[List.getD r 0 0,List.getD r 1 0,List.getD r 2 0,List.getD r 3 0,List.getD r 4 0,List.getD r 5 0,List.getD r 6 0,List.getD r 7 0,List.getD r 8 0,List.getD r 9 0,List.getD r 10 0,List.getD r 11 0,List.getD r 12 0,List.getD r 13 0,List.getD r 14 0,List.getD r 15 0,List.getD r 16 0,List.getD r 17 0,List.getD r 18 0,List.getD r 19 0,List.getD r 20 0,List.getD r 21 0,List.getD r 22 0,List.getD r 23 0,List.getD r 24 0,List.getD r 25 0,List.getD r 26 0,List.getD r 27 0,List.getD r 28 0,List.getD r 29 0,List.getD r 30 0,List.getD r 31 0]=r:=by
 match r,h with
 |[x0,x1,x2,fg,eX,e5,fh,ib,jd,je,jv,eH,fy,iN,rD,rE,uw,ux,uy,uz,yf,yg,yh,yi,yj,yk,yl,ym,yn,yo,yp,rF],_=>rfl
theorem t32 {a b:Int} {r:List Int} (h:av (a7 a b 64) r):[[List.getD r 0 0,List.getD r 1 0,List.getD r 2 0,List.getD r 3 0,List.getD r 4 0,List.getD r 5 0,List.getD r 6 0,List.getD r 7 0,List.getD r 8 0,List.getD r 9 0,List.getD r 10 0,List.getD r 11 0,List.getD r 12 0,List.getD r 13 0,List.getD r 14 0,List.getD r 15 0,List.getD r 16 0,List.getD r 17 0,List.getD r 18 0,List.getD r 19 0,List.getD r 20 0,List.getD r 21 0,List.getD r 22 0,List.getD r 23 0,List.getD r 24 0,List.getD r 25 0,List.getD r 26 0,List.getD r 27 0,List.getD r 28 0,List.getD r 29 0,List.getD r 30 0,List.getD r 31 0]].flatten=r.take 32:=by
 have ht:av (a7 a b 32) (r.take 32):=by
  have hs:∀(n k:Nat) (l:List Int),av (a7 a b (n+k)) l->av (a7 a b n) (l.take n):=fun n=>by
   induction n with
   |zero=>intro k l _;exact trivial
   |succ n ih=>
    intro k l hl
    rw[Nat.succ_add]at hl
    match l,hl with
    |x::l,hl=>exact⟨hl.1,hl.2.1,ih k l hl.2.2⟩
  exact hs 32 32 r h
 rw[List.flatten_cons,List.flatten_nil,List.append_nil,<-Zn ht]
 simp[List.getD,List.getElem?_take]
def XJ (G:Nat->List Int->List Int) (p n:List Int) (bl:List (List Int)):Prop:=∃(k:Nat) (r:List Int),bl=[[255-(k:Int)],r]/\k<=256/\r=tS G p n k
theorem alS (G):OU (hT G) (bt (hT G) [lS] 652):=by
 intro af i0 dn i20 Dn i52 eb
 have eb:[Dn].flatten=G 648 []:=eb
 rw[mD]at eb
 refine⟨XJ G af dn,yy,⟨0,_,rfl,by decide,eb⟩,?_⟩
 rintro eo PZ Qm eG i74 ⟨k,r,e,hk,hr⟩
 obtain⟨rfl,rfl⟩:eo=255-(k:Int)/\eG=r:=by simpa using e
 refine⟨fun h sG i94 s1 z21 a21 Es ar d21 z22 _ _ rZ bH Ec Et wC d23 z24 _ _ r3 bn _ _ Bh d25=>?_,fun h=>?_⟩
 ·have h:=of_decide_eq_true h
  obtain⟨i,hi⟩:∃i:Nat,(255:Int)-k=i:=⟨255-k,by omega⟩
  rw[hi]at ar d21 wC d23 r3⊢
  have hb:=Qu (w:=8) (.inl rfl) (r:=dn) (i:=i) ar d21 a21 rZ wC d23 r3 Bh d25
  have s1:sG=G 651 ((tS G af dn k).take 15):=by
   have s1:[sG].flatten=G 651 _:=s1
   rwa [mD,t15 i74,hr]at s1
  have cE:i=255-k:=by omega
  have hm:∀x y:List Int,yy [[(i:Int)+(-1)],x]<yy [[(i:Int)],y]:=fun x y=>by show((i:Int)+(-1)+1).toNat<((i:Int)+1).toNat;omega
  have hn:(i:Int)+(-1)=255-((k+1:Nat):Int):=by omega
  refine⟨fun hq sC i26 s2=>⟨⟨k+1,sC,by rw[hn],by omega,?_⟩,hm _ _⟩,fun hq=>⟨⟨k+1,sG,by rw[hn],by omega,?_⟩,hm _ _⟩⟩
  ·have s2:[sC].flatten=G 650 [sG,af].flatten:=s2
   rw[mD,uU]at s2
   unfold tS
   rw[<-s1,<-cE,<-hb,hq,s2];rfl
  ·unfold tS
   rw[<-s1,<-cE,<-hb,hq];rfl
 ·have h:=of_decide_eq_false h
  have hk:k=256:=by omega
  subst hk
  have ct:af.length=20:=lP i0
  refine⟨by rw[y3 i74];exact i74,?_⟩
  show _=tS G ([af,dn].flatten.take 20) ([af,dn].flatten.drop 20) 256
  rw[y3 i74,uU,List.take_left' ct,List.drop_left' ct,hr]
theorem pu {c y x:Int} (h:y=aA 23 [c,x]):aa y=aa c++[[x]]:=by rw[h];simp only[aA,dN]
theorem bY {r:List Int} {c y:Int} (k:Nat) (hl:r.length=32) (hk:k<32) (hc:aa c=(r.take k).map fun x=>[x]) (h:y=aA 23 [c,List.getD r k 0]):aa y=(r.take (k+1)).map fun x=>[x]:=by
 rw[pu h,hc,List.take_add_one,List.getElem?_eq_getElem (by omega),List.map_append]
 simp[List.getD,show k<r.length by omega]
theorem V7 {r:List Int} {z:Int} (h:aa z=r.map fun x=>[x]):cl z=r/\gF z=r.map fun x=>UInt8.ofNat x.toNat:=by
 refine⟨by unfold cl;rw[h,List.map_map];exact List.map_id r,by unfold gF;rw[h,List.map_map];rfl⟩
theorem al8 (G):Pa (gp G) (dJ (gp G) [.d l3] 655):=by
 intro af i0 cu _ _ wN cM _ _ zf cb _ _ oJ b7 _ _ r5 cj _ _ nO z37 _ _ u1 cQ _ _ u2 c6 _ _ u3 z40 _ _ u4 cF _ _ tk cR _ _ pG dD _ _ nP c8 _ _ tl cH _ _ pH z46 _ _ pI cm _ _ r6 dE _ _ qy z49 _ _ zg cS _ _ Sa z51 _ _ E9 dh _ _ Sb z53 _ _ Sc eI _ _ Sd eY _ _ Se dF _ _ BU dO _ _ Sf eB _ _ aey z59 _ _ aez eJ _ _ Fa hO _ _ aeA fO _ _ aeB dP _ _ aeC
 have ct:af.length=32:=lP i0
 have hrow:aa dP=af.map fun x=>[x]:=by
  have h:=bY 31 ct (by decide) (bY 30 ct (by decide) (bY 29 ct (by decide) (bY 28 ct (by decide) (bY 27 ct (by decide) (bY 26 ct (by decide) (bY 25 ct (by decide) (bY 24 ct (by decide) (bY 23 ct (by decide) (bY 22 ct (by decide) (bY 21 ct (by decide) (bY 20 ct (by decide) (bY 19 ct (by decide) (bY 18 ct (by decide) (bY 17 ct (by decide) (bY 16 ct (by decide) (bY 15 ct (by decide) (bY 14 ct (by decide) (bY 13 ct (by decide) (bY 12 ct (by decide) (bY 11 ct (by decide) (bY 10 ct (by decide) (bY 9 ct (by decide) (bY 8 ct (by decide) (bY 7 ct (by decide) (bY 6 ct (by decide) (bY 5 ct (by decide) (bY 4 ct (by decide) (bY 3 ct (by decide) (bY 2 ct (by decide) (bY 1 ct (by decide) (bY 0 ct (by decide) (by rw[Go.bj.fL];rfl) wN) zf) oJ) r5) nO) u1) u2) u3) u4) tk) pG) nP) tl) pH) pI) r6) qy) zg) Sa) E9) Sb) Sc) Sd) Se) BU) Sf) aey) aez) Fa) aeA) aeB) aeC
  rwa [List.take_of_length_le (by omega)]at h
 refine⟨by show(aa dP).length<=_;rw[hrow,List.length_map,ct];decide,fun e3 i64 s1 xS i128 s2 vI i160 ew lu i180 kK Ac i200 lx=>⟨by rw[mD];exact i200,?_⟩⟩
 show [Ac]=[Dj G af]
 have s1:[e3]=[p8 cD (cl dP)]:=s1
 rw[(V7 hrow).1]at s1
 have s1:e3=p8 cD af:=by simpa using s1
 have s2:[xS].flatten=G 654 _:=s2
 have ew:[vI].flatten=G 647 []:=ew
 have kK:[lu].flatten=tS G ([vI,xS].flatten.take 20) ([vI,xS].flatten.drop 20) 256:=kK
 have lx:[Ac].flatten=G 653 _:=lx
 have l1:vI.length=20:=lP i160
 rw[mD,t32 i64,s1]at s2
 rw[mD]at ew
 rw[mD,uU,List.take_left' l1,List.drop_left' l1,s2,ew]at kK
 rw[mD,t15 i180,kK]at lx
 rw[lx];rfl
theorem alV (G):OX (gp G) (dJ (gp G) [.d .str] 656):=by
 intro af i0 hl z7 _ _ h7 au _ _ cv z9 _ _
 have hl:(U (af.getD 5 0)).length<=1000000000:=hl
 have h7:aa z7=(U (af.getD 5 0)).map fun b=>[(b.toNat:Int)]:=by rw[h7];exact aaW _
 have cv:au=((U (af.getD 5 0)).length:Int):=cv
 have cv:au=((aa z7).length:Int):=by rw[cv,h7,List.length_map]
 refine⟨(iM (y:=0) cv).1,fun ay _ _ dc=>?_⟩
 have dc:=(iM (y:=ay) cv).2 dc
 rw[h7]at dc
 refine⟨?_,fun lr i11 s1 eT i43 s2 z75 _ _ aeD z76 _ _ aeE e6 _ _ aeF fk _ _ aeG jj _ _ aeH iP _ _ aeI gD _ _ aeJ gO _ _ aeK hP _ _ aeL jx _ _ aeM z85 _ _ aeN kO _ _ aeO z87 _ _ aeP gj _ _ aeQ hQ _ _ aeR gP _ _ aeS z91 _ _ aeT gk _ _ aeU z93 _ _ aeV iQ _ _ aeW gm _ _ aeX gQ _ _ aeY jV _ _ aeZ dS _ _ ae0 fP _ _ ae1 hJ _ _ aeq iz _ _ aer ic _ _ aes jg _ _ aet gh _ _ aeu z105 _ _ aev jw _ _ aew=>?_⟩
 ·show(aa ay).length<=_;rw[dc,List.length_map];exact hl
 have ct:eT.length=32:=lP i43
 have hrow:aa jw=eT.map fun x=>[x]:=by
  have h:=bY 31 ct (by decide) (bY 30 ct (by decide) (bY 29 ct (by decide) (bY 28 ct (by decide) (bY 27 ct (by decide) (bY 26 ct (by decide) (bY 25 ct (by decide) (bY 24 ct (by decide) (bY 23 ct (by decide) (bY 22 ct (by decide) (bY 21 ct (by decide) (bY 20 ct (by decide) (bY 19 ct (by decide) (bY 18 ct (by decide) (bY 17 ct (by decide) (bY 16 ct (by decide) (bY 15 ct (by decide) (bY 14 ct (by decide) (bY 13 ct (by decide) (bY 12 ct (by decide) (bY 11 ct (by decide) (bY 10 ct (by decide) (bY 9 ct (by decide) (bY 8 ct (by decide) (bY 7 ct (by decide) (bY 6 ct (by decide) (bY 5 ct (by decide) (bY 4 ct (by decide) (bY 3 ct (by decide) (bY 2 ct (by decide) (bY 1 ct (by decide) (bY 0 ct (by decide) (by rw[Go.bj.fL];rfl) aeD) aeE) aeF) aeG) aeH) aeI) aeJ) aeK) aeL) aeM) aeN) aeO) aeP) aeQ) aeR) aeS) aeT) aeU) aeV) aeW) aeX) aeY) aeZ) ae0) ae1) aeq) aer) aes) aet) aeu) aev) aew
  rwa [List.take_of_length_le (by omega)]at h
 refine⟨by show(aa jw).length<=_;rw[hrow,List.length_map,ct];decide,fun z107 g0 g1 ew=>⟨⟨g0,g1,trivial⟩,?_⟩⟩
 have s1:[lr]=[p8 cC (cl ay)]:=s1
 have s1:lr=p8 cC (cl ay):=by simpa using s1
 have rV:cl ay=(U (af.getD 5 0)).map fun b=>(b.toNat:Int):=by unfold cl;rw[dc,List.map_map];rfl
 have s2:[eT]=[Dj G lr]:=s2
 have s2:eT=Dj G lr:=by simpa using s2
 have ew:U z107=gv (gF jw):=ew
 show U z107=mL G (U (af.getD 5 0))
 rw[ew,(V7 hrow).2,s2,s1,rV];rfl
def PT (key:az->az) (z0:Int) (k:az) (bl:List (List Int)):Prop:=∃i:Nat,bl=[[(i:Int)]]/\i<=(aZ z0).length/\∀j,j<i->(((aZ z0).getD j cp).lE.isEmpty&&decide (key ((aZ z0).getD j cp).sM=k))=false
theorem Zz {l:List dA} {p:dA->Bool} {i:Nat} (hi:i<l.length) (h:p (l.getD i cp)=true):l.any p=true:=List.any_eq_true.2 ⟨l.getD i cp,by simp[List.getD,hi],h⟩
theorem ZA {l:List dA} {p:dA->Bool} (h:∀j,j<l.length->p (l.getD j cp)=false):l.any p=false:=by
 rw[List.any_eq_false]
 intro b hb
 obtain⟨j,hj,rfl⟩:=List.mem_iff_getElem.1 hb
 have:=h j hj
 simpa [List.getD,hj]using this
theorem alZ (G):O1 (gp G) (dJ (gp G) [.d .bool] 657):=by
 intro z0 a0 a1 ag _ _ z2 _ z3 _ _ z4 b0 b1 h4
 have h4:z4=((aa z0).length:Int):=h4
 have hlen:=lR z0
 have W:=fun y=>iM (z:=z0) (y:=y) h4
 have bk:∀b:Bool,qb (mL G) (aZ z0) (U ag)=b->dJ (gp G) [.d .bool] 657 [[z0],[ag]] [[cond b 1 0]]:=fun b h=>⟨by cases b<;>exact⟨by decide,by decide,trivial⟩,by show cond b (1:Int) 0=bf (qb (mL G) (aZ z0) (U ag));rw[h];rfl⟩
 refine⟨(W 0).1,fun z5 _ _ h5 ao _ _ h6=>?_⟩
 have h6:=il (show ao=bf (jO (aZ z5)) from h6)
 rw[jK ((W z5).2 h5)]at h6
 refine⟨fun hr=>?_,fun hr=>bk false (by unfold qb;rw[<-h6,hr];rfl)⟩
 have hr:=h6.symm.trans hr
 refine⟨PT (mL G) z0 (U ag),AZ z0,⟨0,rfl,Nat.zero_le _,fun j h=>absurd h (Nat.not_lt_zero j)⟩,?_⟩
 rintro au c0 c1 ⟨i,e,hi,hI⟩
 obtain rfl:au=i:=by simpa using e
 refine⟨fun hlt=>?_,fun hge=>bk false (by
  have hge:=of_decide_eq_false hge
  unfold qb;rw[ZA (fun j hj=>hI j (by omega)),Bool.and_false])⟩
 have hlt:=of_decide_eq_true hlt
 have dk:i<(aa z0).length:=by omega
 have step:(((aZ z0).getD i cp).lE.isEmpty&&decide (mL G ((aZ z0).getD i cp).sM=U ag))=false->∀z:Int,0<=z->z<=1->0<=((i:Int)+9223372036854775809)-18446744073709551616*z->((i:Int)+9223372036854775809)-18446744073709551616*z<18446744073709551616->ab 39 [((i:Int)+(-18446744073709551616)*z)+1,0,9223372036854775807]/\PT (mL G) z0 (U ag) [[((i:Int)+(-18446744073709551616)*z)+1]]/\AZ z0 [[((i:Int)+(-18446744073709551616)*z)+1]]<AZ z0 [[(i:Int)]]:=fun hf z _ _ d2 d3=>by
  rw[Ve (by omega) d2 d3]
  refine⟨⟨by omega,by omega⟩,⟨i+1,rfl,by omega,fun j hj=>?_⟩,by show(aZ z0).length-(((i+1:Nat):Int)).toNat<(aZ z0).length-((i:Int)).toNat;omega⟩
  rcases Nat.lt_or_ge j i with h|h
  ·exact hI j h
  ·obtain rfl:j=i:=by omega
   exact hf
 refine⟨⟨by omega,by omega⟩,⟨by omega,by omega⟩,fun z9 _ _ bX ay _ _ dc aS _ _ eF z12 _ _ fo ae _ _ fW ah _ _ eh aD _ _ iG aP _ _ iU=>?_⟩
 have hrow:=ug (k:=i) rfl bX dc eF fo fW eh iG dk
 have hb:=BB iU
 rw[ME (k:=i) rfl iG dk]at hb
 refine⟨fun hq=>⟨?_,fun bd _ _ j7=>?_⟩,fun hq=>step (by rw[<-hb,hq];rfl)⟩
 ·show(U ah).length<=1000000000
  have hok:=((Dx _).1 hr).2 i (by omega)
  have hs:=(Bool.and_eq_true _ _▸(Bool.and_eq_true _ _▸hok.1).2).1
  have:U ah=((aZ z0).getD i cp).sM:=by rw[<-hrow];rfl
  rw[this]
  unfold lU at hs
  simp only[Bool.and_eq_true]at hs
  have:=Nat.le_of_ble_eq_true hs.2.1
  omega
 have j7:U bd=mL G (gw [z9,ay,aS,z12,ae,ah,aD]).sM:=j7
 rw[hrow]at j7
 refine fun aM _ _ kt=>?_
 have hd:=m5 kt
 rw[j7]at hd
 refine⟨fun nT=>bk true ?_,fun nT=>step (by rw[<-hb,hq,<-hd,nT];rfl)⟩
 unfold qb
 rw[hr,Zz (p:=fun p=>p.lE.isEmpty&&decide (mL G p.sM=U ag)) (i:=i) (by omega) (by rw[<-hb,hq,<-hd,nT];rfl)];rfl
end Go.ck

set_option maxRecDepth 100000
set_option linter.unusedVariables false
set_option linter.unusedSimpArgs false
namespace Go.ck
open Go Go.bj
def O2 (S:Nat->List (List Int)->List (List Int)->Prop) (K:List (List Int)->List (List Int)->Prop):Prop:=
 ∀af:List Int,av (a7 0 cy 7) af->S 608 [] [af]->c9 fun z7=>en 0 21 fun au=>S 606 [[0],af] [[z7],[au]]->cK fun z9=>bW fun ay=>bp 20 [z7] fun
 aS=>∀Ab:List Int,av (a7 0 cy 7) Ab->S 608 [] [Ab]->ab 22 [z7,0,aS]/\aI 22 [z7,0,aS] fun a8=>c9 fun z20=>c9 fun z21=>en 0 21 fun z22
 =>S 607 [[a8],[(List.getD Ab 1 0),(List.getD Ab 2 0)],[1786254407]] [[z20],[z21],[z22]]->cK fun bH=>bW fun z24=>bp 20 [z20] fun bn=>cK fun z26=>
 bW fun bO=>bp 20 [z21] fun z28=>∀Ad:List Int,av (a7 0 cy 7) Ad->S 608 [] [Ad]->ab 22 [z20,0,bn]/\aI 22 [z20,0,bn] fun cj=>c9 fun z37
 =>c9 fun cQ=>en 0 21 fun c6=>S 607 [[cj],[(List.getD Ad 1 0),(List.getD Ad 2 0)],[1786254664]] [[z37],[cQ],[c6]]->cK fun z40=>bW fun cF=>bp
 20 [z37] fun cR=>cK fun dD=>bW fun c8=>bp 20 [cQ] fun cH=>(aC (decide (au=0)) ((aC (decide (z22=0)) ((aC (decide (c6=0)) ((aC (decide (z28=
 1)) ((aC (decide (cH=0)) ((aC (decide (cR=1)) (ab 30 [0,cR]/\ab 21 [z37,0]/\bz 21 [z37,0,6] fun z46=>ch 4 [z46,1786254407] fun cm=>(aC
 (decide (cm=1)) (∀p6:List Int,av (a7 0 cy 7) p6->S 608 [] [p6]->ab 81 [(List.getD p6 0 0),(List.getD p6 1 0),(List.getD p6 2 0),(List.getD
 p6 3 0),(List.getD p6 4 0),(List.getD p6 5 0),(List.getD p6 6 0)]/\cw fun eY=>S 656 [p6] [[eY]]->ab 22 [z7,0,aS]/\aI 22 [z7,0,aS] fun dF=>
 bR fun dO=>S 657 [[dF],[eY]] [[dO]]->(aC (decide (dO=1)) (∀p7:List Int,av (a7 0 cy 7) p7->S 608 [] [p7]->ab 81 [(List.getD p7 0
 0),(List.getD p7 1 0),(List.getD p7 2 0),(List.getD p7 3 0),(List.getD p7 4 0),(List.getD p7 5 0),(List.getD p7 6 0)]/\cw fun eQ=>S 656 [p7] [[eQ]]
 ->ab 22 [z20,0,bn]/\aI 22 [z20,0,bn] fun eC=>bR fun gC=>S 657 [[eC],[eQ]] [[gC]]->K [] [[(cond ((!(decide (gC=1)))) 1 0)]]) (K [] [[(cond
 (false) 1 0)]]))) (K [] [[(cond (false) 1 0)]]))) (K [] [[(cond (false) 1 0)]]))) (K [] [[(cond (false) 1 0)]]))) (K [] [[(cond (false) 1 0)]]))) (K [] [[(cond
 (false) 1 0)]]))) (K [] [[(cond (false) 1 0)]]))) (K [] [[(cond (false) 1 0)]]))
/-! ### The fixed fact-/
def o9:dA:=⟨[116],([101,109,97,105,108],[97,64,98,46,99]),[33,114,58,104],[64,115,58,104],[115,101,101,100],[]⟩
def zZ:dA:={o9 with lE:=[64,97,58,104]}
theorem Gj:gw oa=o9:=by decide+kernel
theorem an6:p9 [] o9=([o9],0):=by decide+kernel
theorem anI:mo [o9] o9.cT [64,97,58,104]=([zZ],[zZ],0):=by decide+kernel
theorem anJ:mo [zZ] o9.cT [64,98,58,104]=([zZ],[],0):=by decide+kernel
theorem anb:jO [o9]=true:=by decide+kernel
theorem WJ:U 1786254407=[64,97,58,104]:=by decide+kernel
theorem aov:U 1786254664=[64,98,58,104]:=by decide+kernel
theorem al0 (G):O2 (gp G) (dJ (gp G) [.d .bool] 658):=by
 intro af _ eb z7 _ _ au _ _ s1 z9 _ ay _ _ aS _ _ eF Ab _ s2
 have eb:af=oa:=eb
 have s2:Ab=oa:=s2
 subst eb
 subst s2
 have s1:(aZ z7,au)=p9 (aZ 0) (gw oa):=s1
 rw[Gw,Gj,an6]at s1
 simp only[Prod.mk.injEq]at s1
 have eF:aS=((aa z7).length:Int):=eF
 have bk:dJ (gp G) [.d .bool] 658 [] [[cond true 1 0]]:=⟨⟨by decide,by decide,trivial⟩,(rfl:(1:Int)=1)⟩
 refine⟨(iM (y:=0) eF).1,fun a8 _ _ oI z20 _ _ z21 _ _ z22 _ _ ew bH _ z24 _ _ bn _ _ ku z26 _ bO _ _ z28 _ _ r4 Ad _ kK=>?_⟩
 have oI:=jK ((iM (y:=a8) eF).2 oI)
 have kK:Ad=oa:=kK
 subst kK
 have ew:(aZ z20,aZ z21,z22)=mo (aZ a8) o9.cT (U 1786254407):=by
  have ew:(aZ z20,aZ z21,z22)=mo (aZ a8) (gw oa).cT (U 1786254407):=ew
  rwa [Gj]at ew
 rw[oI,s1.1,WJ,anI]at ew
 simp only[Prod.mk.injEq]at ew
 have ku:bn=((aa z20).length:Int):=ku
 have r4:z28=((aa z21).length:Int):=r4
 refine⟨(iM (y:=0) ku).1,fun cj _ _ nO z37 _ _ cQ _ _ c6 _ _ lx z40 _ cF _ _ cR _ _ pG dD _ c8 _ _ cH _ _ pH=>?_⟩
 have nO:=jK ((iM (y:=cj) ku).2 nO)
 have lx:(aZ z37,aZ cQ,c6)=mo (aZ cj) o9.cT (U 1786254664):=by
  have lx:(aZ z37,aZ cQ,c6)=mo (aZ cj) (gw oa).cT (U 1786254664):=lx
  rwa [Gj]at lx
 rw[nO,ew.1,aov,anJ]at lx
 simp only[Prod.mk.injEq]at lx
 have pG:cR=((aa z37).length:Int):=pG
 have pH:cH=((aa cQ).length:Int):=pH
 have aiv:z28=1:=by rw[r4,<-lR,ew.2.1];rfl
 have aiy:cR=1:=by rw[pG,<-lR,lx.1];rfl
 have aiz:cH=0:=by rw[pH,<-lR,lx.2.1];rfl
 have no:∀{z v:Int} {P:Prop},z=v->decide (z=v)=false->P:=fun h h2=>absurd h (of_decide_eq_false h2)
 refine⟨fun _=>⟨fun _=>⟨fun _=>⟨fun _=>⟨fun _=>⟨fun _=>?_,no aiy⟩,no aiz⟩,no aiv⟩,no lx.2.2⟩,no ew.2.2⟩,no s1.2⟩
 have agq:0<(aa z37).length:=by omega
 refine⟨⟨by decide,by omega⟩,⟨by decide,by omega⟩,fun z46 _ _ pI cm _ _ r6=>?_⟩
 have hd:=m5 r6
 rw[ME (k:=0) rfl pI agq,lx.1,WJ]at hd
 have hd:decide (cm=1)=true:=hd
 have ajC:∀{b:Bool} {P:Prop},b=true->b=false->P:=fun h h2=>by rw[h]at h2;cases h2
 refine⟨fun _ p6 _ x8=>?_,ajC hd⟩
 have x8:p6=oa:=x8
 subst x8
 have hk:(U (oa.getD 5 0)).length<=1000000000:=by decide+kernel
 refine⟨hk,fun eY _ _ rz=>⟨(iM (y:=0) eF).1,fun dF _ _ BU dO _ _ rA=>?_⟩⟩
 have rz:U eY=mL G (gw oa).sM:=rz
 rw[Gj]at rz
 have BU:=jK ((iM (y:=dF) eF).2 BU)
 have rA:dO=bf (qb (mL G) (aZ dF) (U eY)):=rA
 rw[BU,s1.1,rz]at rA
 have qv:qb (mL G) [o9] (mL G o9.sM)=true:=by
  unfold qb
  rw[anb,Bool.true_and,List.any_cons,show o9.lE.isEmpty=true from rfl,decide_eq_true rfl];rfl
 rw[qv]at rA
 refine⟨fun _ p7 _ Am=>?_,no rA⟩
 have Am:p7=oa:=Am
 subst Am
 refine⟨hk,fun eQ _ _ MN=>⟨(iM (y:=0) ku).1,fun eC _ _ JG gC _ _ x7=>?_⟩⟩
 have JG:=jK ((iM (y:=eC) ku).2 JG)
 have x7:gC=bf (qb (mL G) (aZ eC) (U eQ)):=x7
 rw[JG,ew.1]at x7
 have acx:qb (mL G) [zZ] (U eQ)=false:=by
  unfold qb
  rw[List.any_cons,show zZ.lE.isEmpty=false from rfl,Bool.false_and,Bool.false_or,List.any_nil,Bool.and_false]
 rw[acx]at x7
 rw[x7]
 exact bk
end Go.ck

set_option maxRecDepth 100000
set_option linter.unusedVariables false
set_option linter.unusedSimpArgs false
namespace Go.ck
open Go Go.bj
def OS (S:Nat->List (List Int)->List (List Int)->Prop) (K:List (List Int)->List (List Int)->Prop):Prop:=
 c9 fun z0=>∀r1:List Int,av (a7 0 cy 2) r1->∀cX:List Int,av (a7 0 cy 2) cX->cK fun z5=>bW fun ao=>bp 20 [z0] fun z7=>bR fun au=>S 658
 [] [[au]]->(aC ((!(decide (au=1)))) (K [[z0],r1,cX] [[(cond (false) 1 0)]]) ((aC (decide (60<z7)) (K [[z0],r1,cX] [[(cond (true) 1 0)]]) (bp 0 [(List.getD
 r1 1 0)] fun z9=>(aC (decide (1000<z9)) (K [[z0],r1,cX] [[(cond (true) 1 0)]]) (bp 0 [(List.getD cX 0 0)] fun ay=>(aC (decide (1000<ay)) (K
 [[z0],r1,cX] [[(cond (true) 1 0)]]) (bp 0 [(List.getD cX 1 0)] fun aS=>(aC (decide (1000<aS)) (K [[z0],r1,cX] [[(cond (true) 1 0)]]) (ab 22 [z0,0,z7]/\
 aI 22 [z0,0,z7] fun z12=>c9 fun ae=>c9 fun ah=>en 0 21 fun aD=>S 607 [[z12],r1,[(List.getD cX 0 0)]] [[ae],[ah],[aD]]->cK fun aP=>bW fun bd
 =>bp 20 [ae] fun aM=>cK fun a8=>bW fun z20=>bp 20 [ah] fun z21=>(aC ((!(decide (aD=0)))) (K [[z0],r1,cX] [[(cond (decide (z21=0)) 1 0)]]) (∃
 (AS:List (List Int)->Prop) (AN:List (List Int)->Nat),AS [[0],[0]]/\(fe fun bH=>fe fun z24=>AS [[bH],[z24]]->(aC (decide (z24<z7)) ((aC
 (decide (aM=z7)) (ab 30 [z24,z7]/\ab 21 [z0,z24]/\bz 21 [z0,z24,0] fun bn=>bz 21 [z0,z24,1] fun z26=>bz 21 [z0,z24,2] fun bO=>bz 21
 [z0,z24,3] fun z28=>bz 21 [z0,z24,4] fun cx=>bz 21 [z0,z24,5] fun bZ=>bz 21 [z0,z24,6] fun z31=>ch 4 [z26,(List.getD r1 0 0)] fun cu=>ch 4
 [bO,(List.getD r1 1 0)] fun cM=>(aC (decide ([cu,cM]=[1,1])) (ch 4 [z31,0] fun cb=>(aC (decide (cb=1)) (bg (bH+9223372036854775809)
 18446744073709551616 fun b7=>ab 30 [z24,aM]/\ab 21 [ae,z24]/\bz 21 [ae,z24,0] fun cj=>bz 21 [ae,z24,1] fun z37=>bz 21 [ae,z24,2] fun cQ
 =>bz 21 [ae,z24,3] fun c6=>bz 21 [ae,z24,4] fun z40=>bz 21 [ae,z24,5] fun cF=>bz 21 [ae,z24,6] fun cR=>ch 4 [cj,bn] fun dD=>ch 4
 [z37,z26] fun c8=>ch 4 [cQ,bO] fun cH=>ch 4 [c6,z28] fun z46=>ch 4 [z40,cx] fun cm=>ch 4 [cF,bZ] fun dE=>ch 4 [cR,(List.getD cX 0 0)]
 fun z49=>(aC ((!(((decide (dD=1))&&(((decide ([c8,cH]=[1,1]))&&(decide ([z46,cm,dE,z49]=[1,1,1,1])))))))) (K [[z0],r1,cX] [[(cond (false) 1
 0)]]) (bg (z24+9223372036854775809) 18446744073709551616 fun cS=>ab 39 [((bH+((-18446744073709551616)*b7))+1),0,9223372036854775807]/\ab 39
 [((z24+((-18446744073709551616)*cS))+1),0,9223372036854775807]/\(AS [[((bH+((-18446744073709551616)*b7))+1)],[((z24+((-18446744073709551616)
 *cS))+1)]]/\AN [[((bH+((-18446744073709551616)*b7))+1)],[((z24+((-18446744073709551616)*cS))+1)]]<AN [[bH],[z24]])))) (ab 30
 [z24,aM]/\ab 21 [ae,z24]/\bz 21 [ae,z24,0] fun b7=>bz 21 [ae,z24,1] fun cj=>bz 21 [ae,z24,2] fun z37=>bz 21 [ae,z24,3] fun cQ=>bz 21
 [ae,z24,4] fun c6=>bz 21 [ae,z24,5] fun z40=>bz 21 [ae,z24,6] fun cF=>ch 4 [b7,bn] fun cR=>ch 4 [cj,z26] fun dD=>ch 4 [z37,bO] fun c8
 =>ch 4 [cQ,z28] fun cH=>ch 4 [c6,cx] fun z46=>ch 4 [z40,bZ] fun cm=>ch 4 [cF,z31] fun dE=>(aC ((!(((decide (cR=1))&&(((decide
 ([dD,c8]=[1,1]))&&(decide ([cH,z46,cm,dE]=[1,1,1,1])))))))) (K [[z0],r1,cX] [[(cond (false) 1 0)]]) (bg (z24+9223372036854775809)
 18446744073709551616 fun z49=>ab 39 [((z24+((-18446744073709551616)*z49))+1),0,9223372036854775807]/\(AS [[bH],[((z24+((-18446744073709551616)*
 z49))+1)]]/\AN [[bH],[((z24+((-18446744073709551616)*z49))+1)]]<AN [[bH],[z24]])))))) (ab 30 [z24,aM]/\ab 21 [ae,z24]/\bz 21
 [ae,z24,0] fun cb=>bz 21 [ae,z24,1] fun b7=>bz 21 [ae,z24,2] fun cj=>bz 21 [ae,z24,3] fun z37=>bz 21 [ae,z24,4] fun cQ=>bz 21 [ae,z24,5]
 fun c6=>bz 21 [ae,z24,6] fun z40=>ch 4 [cb,bn] fun cF=>ch 4 [b7,z26] fun cR=>ch 4 [cj,bO] fun dD=>ch 4 [z37,z28] fun c8=>ch 4
 [cQ,cx] fun cH=>ch 4 [c6,bZ] fun z46=>ch 4 [z40,z31] fun cm=>(aC ((!(((decide (cF=1))&&(((decide ([cR,dD]=[1,1]))&&(decide
 ([c8,cH,z46,cm]=[1,1,1,1])))))))) (K [[z0],r1,cX] [[(cond (false) 1 0)]]) (bg (z24+9223372036854775809) 18446744073709551616 fun dE=>ab 39 [((z24+
 ((-18446744073709551616)*dE))+1),0,9223372036854775807]/\(AS [[bH],[((z24+((-18446744073709551616)*dE))+1)]]/\AN [[bH],[((z24+
 ((-18446744073709551616)*dE))+1)]]<AN [[bH],[z24]])))))) (ab 22 [ae,0,aM]/\aI 22 [ae,0,aM] fun bn=>c9 fun z26=>c9 fun bO=>en 0 21 fun
 z28=>S 607 [[bn],r1,[(List.getD cX 1 0)]] [[z26],[bO],[z28]]->cK fun cx=>bW fun bZ=>bp 20 [z26] fun z31=>cK fun cu=>bW fun cM=>bp 20 [bO]
 fun cb=>(aC (decide (aM=z7)) ((aC (decide (bH=z21)) ((aC (decide (cb=0)) ((aC ((!(decide (z28=0)))) (K [[z0],r1,cX] [[(cond (true) 1 0)]]) (ab 22
 [z26,0,z31]/\aI 22 [z26,0,z31] fun b7=>ab 22 [ae,0,aM]/\aI 22 [ae,0,aM] fun cj=>bR fun z37=>S 617 [[b7],[cj]] [[z37]]->K [[z0],r1,cX]
 [[(cond (decide (z37=1)) 1 0)]]))) (K [[z0],r1,cX] [[(cond (false) 1 0)]]))) (K [[z0],r1,cX] [[(cond (false) 1 0)]]))) (K [[z0],r1,cX] [[(cond (false) 1
 0)]]))))) (ab 22 [ae,0,aM]/\aI 22 [ae,0,aM] fun bn=>c9 fun z26=>c9 fun bO=>en 0 21 fun z28=>S 607 [[bn],r1,[(List.getD cX 1 0)]]
 [[z26],[bO],[z28]]->cK fun cx=>bW fun bZ=>bp 20 [z26] fun z31=>cK fun cu=>bW fun cM=>bp 20 [bO] fun cb=>(aC (decide (aM=z7)) ((aC
 (decide (bH=z21)) ((aC (decide (cb=0)) ((aC ((!(decide (z28=0)))) (K [[z0],r1,cX] [[(cond (true) 1 0)]]) (ab 22 [z26,0,z31]/\aI 22 [z26,0,z31] fun
 b7=>ab 22 [ae,0,aM]/\aI 22 [ae,0,aM] fun cj=>bR fun z37=>S 617 [[b7],[cj]] [[z37]]->K [[z0],r1,cX] [[(cond (decide (z37=1)) 1 0)]]))) (K
 [[z0],r1,cX] [[(cond (false) 1 0)]]))) (K [[z0],r1,cX] [[(cond (false) 1 0)]]))) (K [[z0],r1,cX] [[(cond (false) 1 0)]])))))))))))))))))
/-! ### PledgeSettled-/
theorem aqo {t:az} (h:ly t=true):t.isEmpty=false:=by
 cases t with
 |nil=>exact absurd h (by decide)
 |cons _ _=>rfl
theorem ajE {l:List dA} {cT:az×az} {br:az} (hu:ly br=true):(l.map (mn cT br)).filter (ju cT)=[]:=by
 rw[List.filter_eq_nil_iff]
 intro p hp
 obtain⟨q,_,rfl⟩:=List.mem_map.1 hp
 unfold mn
 cases h:ju cT q with
 |true=>
  have:ju cT (uj br q)=(decide (q.cT=cT)&&br.isEmpty):=rfl
  rw[cond_true,this,aqo hu,Bool.and_false];decide
 |false=>rw[cond_false,h];decide
theorem map_none {l:List dA} {cT:az×az} {br:az} (h:l.filter (ju cT)=[]):l.map (mn cT br)=l:=by
 refine(List.map_congr_left fun p hp=>?_).trans (List.map_id l)
 have:=List.filter_eq_nil_iff.1 h p hp
 unfold mn
 cases hw:ju cT p with
 |true=>exact absurd hw this
 |false=>rfl
theorem Wp {l a d:List dA} {cT:az×az} {br:az} {e:Int} (h:(a,d,e)=mo l cT br):(e=0/\ly br=true/\jO l=true/\a=l.map (mn cT br)/\d=(l.filter (ju cT)).map (uj br))∨(e=1/\a=l/\d=[]):=by
 cases hu:ly br&&jO l with
 |true=>
  obtain⟨h1,h2⟩:=(Bool.and_eq_true _ _).mp hu
  rw[Wo h1 h2]at h
  simp only[Prod.mk.injEq]at h
  exact .inl ⟨h.2.2,h1,h2,h.1,h.2.1⟩
 |false=>
  unfold mo at h
  rw[hu]at h
  simp only[cond_false,Prod.mk.injEq]at h
  exact .inr ⟨h.2.2,h.1,h.2.1⟩
def PK (l:List dA) (cT:az×az) (bl:List (List Int)):Prop:=∃(n i:Nat),bl=[[(n:Int)],[(i:Int)]]/\i<=l.length/\n=((l.take i).filter (ju cT)).length
def AU (l:List dA) (bl:List (List Int)):Nat:=l.length-((bl.getD 1 []).getD 0 0).toNat
theorem alQ (G):OS (gp G) (dJ (gp G) [.d .bool] 659):=by
 intro z0 a0 a1 r1 er cX ay3 z5 _ ao _ _ z7 b0 b1 h7 au _ _ eb
 have h7:z7=((aa z0).length:Int):=h7
 have hlen:=lR z0
 have eb:au=1:=eb
 have C0:∀b:Bool,b=true->dJ (gp G) [.d .bool] 659 [[z0],r1,cX] [[cond b 1 0]]:=fun b h=>by rw[h];exact⟨⟨by decide,by decide,trivial⟩,(rfl:(1:Int)=1)⟩
 have bk:=C0 true rfl
 refine⟨fun h=>(by rw[eb]at h;cases h),fun _=>⟨fun _=>bk,fun Fa z9 _ _ _=>⟨fun _=>bk,fun _ ay _ _ _=>⟨fun _=>bk,fun _ aS _ _ _=>⟨fun _=>bk,fun _=>?_⟩⟩⟩⟩⟩
 have Fa:=of_decide_eq_false Fa
 have W:=fun y=>iM (z:=z0) (y:=y) h7
 refine⟨(W 0).1,fun z12 _ _ fo ae _ _ ah _ _ aD _ _ s1 aP _ bd _ _ aM _ _ kt a8 _ z20 _ _ z21 _ _ m7=>?_⟩
 have s1:(aZ ae,aZ ah,aD)=mo (aZ z12) (kN r1) (U (cX.getD 0 0)):=s1
 rw[jK ((W z12).2 fo)]at s1
 have kt:aM=((aa ae).length:Int):=kt
 have m7:z21=((aa ah).length:Int):=m7
 generalize FK:kN r1=cT at s1
 rcases Wp s1 with⟨he,hu,hr,hm,hd⟩|⟨he,_,hd⟩
 rotate_left
 ·have aiu:z21=0:=by rw[m7,<-lR,hd];rfl
  exact⟨fun _=>C0 _ (decide_eq_true aiu),fun h=>by rw[he]at h;cases h⟩
 refine⟨fun h=>(by rw[he]at h;cases h),fun _=>?_⟩
 have yW:aM=z7:=by rw[kt,<-lR,hm,List.length_map,hlen,h7]
 have no:∀{z v:Int} {P:Prop},z=v->decide (z=v)=false->P:=fun h h2=>absurd h (of_decide_eq_false h2)
 have vg:(aZ ae).filter (ju cT)=[]:=by rw[hm];exact ajE hu
 have Xm:∀n:Int,n=z21->ab 22 [ae,0,aM]/\
  ∀bn:Int,0<=bn->bn<=b8->bn=aA 22 [ae,0,aM]->
  ∀z26:Int,0<=z26->z26<=b8->∀bO:Int,0<=bO->bO<=b8->∀z28:Int,0<=z28->z28<=21->gp G 607 [[bn],r1,[(List.getD cX 1 0)]] [[z26],[bO],[z28]]->
  ∀cx:Int,0<=cx->
  ∀bZ:Int,(-1)<=bZ->bZ<=9223372036854775807->
  ∀z31:Int,0<=z31->z31<=9223372036854775807->z31=aA 20 [z26]->
  ∀cu:Int,0<=cu->
  ∀cM:Int,(-1)<=cM->cM<=9223372036854775807->
  ∀cb:Int,0<=cb->cb<=9223372036854775807->cb=aA 20 [bO]->
  (((decide (aM=z7))=true->
   (((decide (n=z21))=true->
    (((decide (cb=0))=true->
     ((((!(decide (z28=0))))=true->
      dJ (gp G) [.d .bool] 659 [[z0],r1,cX] [[(cond (true) 1 0)]]
     )/\(((!(decide (z28=0))))=false->
      ab 22 [z26,0,z31]/\
      ∀b7:Int,0<=b7->b7<=b8->b7=aA 22 [z26,0,z31]->
      ab 22 [ae,0,aM]/\
      ∀cj:Int,0<=cj->cj<=b8->cj=aA 22 [ae,0,aM]->
      ∀z37:Int,0<=z37->z37<=1->gp G 617 [[b7],[cj]] [[z37]]->
      dJ (gp G) [.d .bool] 659 [[z0],r1,cX] [[(cond (decide (z37=1)) 1 0)]]
     ))
    )/\((decide (cb=0))=false->
     dJ (gp G) [.d .bool] 659 [[z0],r1,cX] [[(cond (false) 1 0)]]
    ))
   )/\((decide (n=z21))=false->
    dJ (gp G) [.d .bool] 659 [[z0],r1,cX] [[(cond (false) 1 0)]]
   ))
  )/\((decide (aM=z7))=false->
   dJ (gp G) [.d .bool] 659 [[z0],r1,cX] [[(cond (false) 1 0)]]
  )):=by
  intro n hn
  have uH:=fun y=>iM (z:=ae) (y:=y) kt
  refine⟨(uH 0).1,fun bn _ _ ku z26 _ _ bO _ _ z28 _ _ s2 cx _ bZ _ _ z31 _ _ tj cu _ cM _ _ cb _ _ oJ=>?_⟩
  have s2:(aZ z26,aZ bO,z28)=mo (aZ bn) (kN r1) (U (cX.getD 1 0)):=s2
  rw[jK ((uH bn).2 ku),FK]at s2
  have tj:z31=((aa z26).length:Int):=tj
  have oJ:cb=((aa bO).length:Int):=oJ
  have c:=Wp s2
  have acA:cb=0:=by
   rcases c with⟨_,_,_,_,hd⟩|⟨_,_,hd⟩
   ·rw[oJ,<-lR,hd,vg];rfl
   ·rw[oJ,<-lR,hd];rfl
  have acz:aZ z26=aZ ae:=by
   rcases c with⟨_,_,_,vf,_⟩|⟨_,vf,_⟩
   ·rw[vf,map_none vg]
   ·exact vf
  refine⟨fun _=>⟨fun _=>⟨fun _=>⟨fun _=>bk,fun _=>⟨(iM (y:=0) tj).1,fun b7 _ _ r5=>⟨(uH 0).1,fun cj _ _ nO z37 _ _ ew=>C0 _ (decide_eq_true ?_)⟩⟩⟩,no acA⟩,no hn⟩,no yW⟩
  have ew:z37=bf (decide (aZ b7=aZ cj)):=ew
  rw[ew,jK ((iM (y:=b7) tj).2 r5),jK ((uH cj).2 nO),acz,decide_eq_true rfl];rfl
 generalize cI:aZ z0=L at hr hm hd hlen
 refine⟨PK L cT,AU L,⟨0,0,rfl,Nat.zero_le _,rfl⟩,?_⟩
 rintro bH c0 c1 z24 d0 d1 ⟨n,i,e,hi,hn⟩
 obtain⟨rfl,rfl⟩:bH=n/\z24=i:=by simpa using e
 have hnl:n<=i:=by rw[hn];exact Nat.le_trans (List.length_filter_le _ _) (by rw[List.length_take];exact Nat.min_le_left _ _)
 refine⟨fun hlt=>⟨fun _=>?_,no yW⟩,fun hge=>Xm n ?_⟩
 rotate_left
 ·have hge:=of_decide_eq_false hge
  have Kn:i=L.length:=by omega
  rw[m7,<-lR,hd,List.length_map,hn,Kn,List.take_length]
 have hlt:=of_decide_eq_true hlt
 have dk:i<L.length:=by omega
 have Fv:(aa ae).length=L.length:=by rw[<-lR,hm,List.length_map]
 have ab3:ab 30 [(i:Int),z7]:=⟨by omega,by omega⟩
 have ab4:ab 21 [z0,(i:Int)]:=⟨by omega,by omega⟩
 have IU:ab 30 [(i:Int),aM]:=⟨by omega,by omega⟩
 have IV:ab 21 [ae,(i:Int)]:=⟨by omega,by omega⟩
 have KF:(aZ ae).getD i cp=mn cT (U (cX.getD 0 0)) (L.getD i cp):=by
  rw[hm];simp[List.getD,dk]
 have S9:∀(x y:Int) (z:Int),0<=((i:Int)+9223372036854775809)-18446744073709551616*z->((i:Int)+9223372036854775809)-18446744073709551616*z<18446744073709551616->AU L [[x],[((i:Int)+(-18446744073709551616)*z)+1]]<AU L [[y],[(i:Int)]]:=fun x y z k2 k3=>by
  rw[xC dk (by omega) k2 k3]
  show L.length-(((i+1:Nat):Int)).toNat<L.length-((i:Int)).toNat;omega
 have stay:ju cT (L.getD i cp)=false->∀z:Int,0<=((i:Int)+9223372036854775809)-18446744073709551616*z->((i:Int)+9223372036854775809)-18446744073709551616*z<18446744073709551616->ab 39 [((i:Int)+(-18446744073709551616)*z)+1,0,9223372036854775807]/\PK L cT [[(n:Int)],[((i:Int)+(-18446744073709551616)*z)+1]]/\AU L [[(n:Int)],[((i:Int)+(-18446744073709551616)*z)+1]]<AU L [[(n:Int)],[(i:Int)]]:=fun mH z k2 k3=>by
  refine⟨by rw[xC dk (by omega) k2 k3];exact⟨by omega,by omega⟩,⟨n,i+1,by rw[xC dk (by omega) k2 k3],by omega,?_⟩,S9 _ _ z k2 k3⟩
  rw[hn,At dk,List.filter_append,List.filter_cons_of_neg (by rw[mH];decide),List.filter_nil,List.append_nil]
 have nb:∀{b:Bool} {P:Prop},b=true->(!b)=true->P:=fun h h2=>by rw[h]at h2;cases h2
 refine⟨ab3,ab4,fun bn _ _ ku z26 _ _ qx bO _ _ zc z28 _ _ r4 cx _ _ zd bZ _ _ ze z31 _ _ tj cu _ _ wN cM _ _ zf=>?_⟩
 have hrow:=ug (k:=i) rfl ku qx zc r4 zd ze tj (by omega)
 rw[cI]at hrow
 have KT:gw [bn,z26,bO,z28,cx,bZ,cX.getD 0 0]=uj (U (cX.getD 0 0)) (L.getD i cp):=by rw[<-hrow];rfl
 have hw:=VB wN zf
 have La:decide (U z26=U (r1.getD 0 0)/\U bO=U (r1.getD 1 0))=decide ((L.getD i cp).cT=cT):=by
  rw[<-hrow,<-FK]
  show _=decide ((U z26,U bO)=kN r1)
  unfold kN
  simp only[Prod.mk.injEq]
 rw[La]at hw
 refine⟨fun hq cb _ _ oJ=>?_,fun hq=>⟨IU,IV,fun cb _ _ oJ b7 _ _ r5 cj _ _ nO z37 _ _ u1 cQ _ _ u2 c6 _ _ u3 z40 _ _ u4 cF _ _ tk cR _ _ pG dD _ _ nP c8 _ _ tl cH _ _ pH z46 _ _ pI cm _ _ r6=>?_⟩⟩
 ·have hb:=BB oJ
  have zF:ju cT (L.getD i cp)=decide (cb=1):=by unfold ju;rw[hw.symm.trans hq,hb,<-hrow];rfl
  refine⟨fun hy b7 _ _ k2 k3=>⟨IU,IV,fun cj _ _ nO z37 _ _ u1 cQ _ _ u2 c6 _ _ u3 z40 _ _ u4 cF _ _ tk cR _ _ pG dD _ _ nP c8 _ _ tl cH _ _ pH z46 _ _ pI cm _ _ r6 dE _ _ qy z49 _ _ zg=>?_⟩,fun hy=>⟨IU,IV,fun cj _ _ nO z37 _ _ u1 cQ _ _ u2 c6 _ _ u3 z40 _ _ u4 cF _ _ tk cR _ _ pG dD _ _ nP c8 _ _ tl cH _ _ pH z46 _ _ pI cm _ _ r6 dE _ _ qy z49 _ _ zg=>?_⟩⟩
  ·have xo:=zF.trans hy
   have hd:=Gv nP tl pH pI r6 qy zg
   rw[ug (k:=i) rfl nO u1 u2 u3 u4 tk pG (by omega),KF,KT]at hd
   unfold mn at hd
   rw[xo,cond_true,decide_eq_true rfl]at hd
   refine⟨nb hd,fun _ cS _ _ l2 nq=>⟨by rw[show((n:Int)+(-18446744073709551616)*b7)+1=((n+1:Nat):Int) by omega];exact⟨by omega,by omega⟩,by rw[xC dk (by omega) l2 nq];exact⟨by omega,by omega⟩,⟨n+1,i+1,by rw[xC dk (by omega) l2 nq,show((n:Int)+(-18446744073709551616)*b7)+1=((n+1:Nat):Int) by omega],by omega,?_⟩,S9 _ _ cS l2 nq⟩⟩
   rw[hn,At dk,List.filter_append,List.filter_cons_of_pos xo,List.length_append];rfl
  ·have mH:=zF.trans hy
   have hd:=Gv nP tl pH pI r6 qy zg
   rw[ug (k:=i) rfl nO u1 u2 u3 u4 tk pG (by omega),KF,hrow]at hd
   unfold mn at hd
   rw[mH,cond_false,decide_eq_true rfl]at hd
   exact⟨nb hd,fun _ cS _ _ l2 nq=>stay mH cS l2 nq⟩
 ·have mH:ju cT (L.getD i cp)=false:=by unfold ju;rw[hw.symm.trans hq];rfl
  have hd:=Gv tk pG nP tl pH pI r6
  rw[ug (k:=i) rfl oJ r5 nO u1 u2 u3 u4 (by omega),KF,hrow]at hd
  unfold mn at hd
  rw[mH,cond_false,decide_eq_true rfl]at hd
  exact⟨nb hd,fun _ cS _ _ l2 nq=>stay mH cS l2 nq⟩
end Go.ck

set_option maxRecDepth 100000
set_option linter.unusedVariables false
namespace Go.ck
open Go Go.bj
def bE:FuncId->Nat->Option dj:=fun _ _=>none
def bF:Nat->List Nat:=fun _=>[]
def jq:aR:=⟨163,73,[.str,I7],[acq]⟩
def n6:aR:=⟨118,36,[.str,I7],[.str]⟩
def Un:FuncId->Nat->Option dj:=fun f r=>match f,r with
 |118,1=>some ⟨[1],[(0,0,0)],[],[],[],[],[]⟩
 |_,_=>none
def UR:Nat->List Nat:=fun n=>[1]
def n7:aR:=⟨119,37,[.str,I7],[.str]⟩
def Uo:FuncId->Nat->Option dj:=fun f r=>match f,r with
 |119,1=>some ⟨[1],[(0,0,0)],[],[],[],[],[]⟩
 |_,_=>none
def US:Nat->List Nat:=fun n=>[1]
def rl:aR:=⟨85,120,[.str,TX],[.str]⟩
def rh:aR:=⟨85,121,[.str,TU],[.str]⟩
def qX:aR:=⟨59,127,[.str,TU],[.bool]⟩
def rf:aR:=⟨85,122,[.str,aii],[.str]⟩
def Ul:FuncId->Nat->Option dj:=fun f r=>match f,r with
 |121,1=>some ⟨[1],[(0,0,0)],[],[],[],[],[]⟩
 |122,1=>some ⟨[1],[(0,0,0)],[],[],[],[],[]⟩
 |_,_=>none
def UP:Nat->List Nat:=fun n=>[1]
def qZ:aR:=⟨54,125,[.str,aid],[.str,.str,.bool]⟩
def me:aR:=⟨54,126,[.str,aie],[.str,.str,.bool]⟩
def q5:aR:=⟨157,44,[.str,.str],[.bool]⟩
def Ua:FuncId->Nat->Option dj:=fun f r=>match f,r with
 |157,2=>some ⟨[0,1,7],[(8,0,9223372036854775807)],[],[],[],[],[]⟩
 |_,_=>none
def UE:Nat->List Nat:=fun n=>[1]
def kB:aR:=⟨86,65,[.str,.str],[.bool]⟩
def T6:FuncId->Nat->Option dj:=fun f r=>match f,r with
 |86,2=>some ⟨[0,1,7],[(8,0,9223372036854775807)],[],[],[],[],[]⟩
 |_,_=>none
def UA:Nat->List Nat:=fun n=>[1]
def q3:aR:=⟨128,28,[.str],[.str]⟩
def T7:FuncId->Nat->Option dj:=fun f r=>match f,r with
 |128,3=>some ⟨[3,8,9],[(10,0,9223372036854775807)],[(0,0,0,0)],[],[],[],[]⟩
 |_,_=>none
def UB:Nat->List Nat:=fun n=>[1,1]
def aia:aR:=⟨59,128,[.str,aif],[.bool]⟩
def vG:kl:=⟨aia,41⟩
def ri:aR:=⟨85,123,[.str,aik],[.str]⟩
def Um:FuncId->Nat->Option dj:=fun f r=>match f,r with
 |121,1=>some ⟨[1],[(0,0,0)],[],[],[],[],[]⟩
 |122,1=>some ⟨[1],[(0,0,0)],[],[],[],[],[]⟩
 |_,_=>none
def UQ:Nat->List Nat:=fun n=>[1]
def re:aR:=⟨85,124,[.str,aih],[.str]⟩
def Uk:FuncId->Nat->Option dj:=fun f r=>match f,r with
 |121,1=>some ⟨[1],[(0,0,0)],[],[],[],[],[]⟩
 |122,1=>some ⟨[1],[(0,0,0)],[],[],[],[],[]⟩
 |_,_=>none
def UO:Nat->List Nat:=fun n=>[1]
def q1:aR:=⟨87,47,[.str],[.bool]⟩
def mf:aR:=⟨57,27,[.str],[.bool]⟩
def q2:aR:=⟨126,24,[.str],[.bool]⟩
def q0:aR:=⟨89,10,[.str],[.str,Br]⟩
def CX:aR:=⟨129,32,[.str],[A2,.bool]⟩
def CV:aR:=⟨130,33,[.str],[.str,.bool,.bool]⟩
def rj:aR:=⟨131,34,[.str,.str],[.str]⟩
def zI:aR:=⟨90,12,[.str,.str],[.str,Br]⟩
def vH:kl:=⟨zI,44⟩
def q4:aR:=⟨60,15,[.str,.str],[A2,Br]⟩
def ra:aR:=⟨35,16,[A2],[.bool]⟩
def rm:aR:=⟨85,202,[.str,aiq],[.str]⟩
def Uq:FuncId->Nat->Option dj:=fun f r=>match f,r with
 |121,1=>some ⟨[1],[(0,0,0)],[],[],[],[],[]⟩
 |122,1=>some ⟨[1],[(0,0,0)],[],[],[],[],[]⟩
 |_,_=>none
def UU:Nat->List Nat:=fun n=>[1]
def rk:aR:=⟨85,203,[.str,aip],[.str]⟩
def Up:FuncId->Nat->Option dj:=fun f r=>match f,r with
 |121,1=>some ⟨[1],[(0,0,0)],[],[],[],[],[]⟩
 |122,1=>some ⟨[1],[(0,0,0)],[],[],[],[],[]⟩
 |_,_=>none
def UT:Nat->List Nat:=fun n=>[1]
def n9:aR:=⟨21,200,[.str],[.bool]⟩
def rb:aR:=⟨36,201,[.str],[.bool]⟩
def q7:aR:=⟨58,400,[.str],[.bool]⟩
def Uf:FuncId->Nat->Option dj:=fun f r=>match f,r with
 |58,2=>some ⟨[0,5],[(6,0,9223372036854775807)],[],[],[],[],[]⟩
 |_,_=>none
def UJ:Nat->List Nat:=fun n=>[1]
def CW:aR:=⟨91,510,[.str,.str],[acn]⟩
def qY:aR:=⟨59,501,[.str,TX],[.bool]⟩
def q8:aR:=⟨34,600,[.str],[.bool]⟩
def n4:aR:=⟨23,601,[pp],[.bool]⟩
def np:db:=⟨16,602,[o8],[.d .bool],0⟩
def Ub:FuncId->Nat->Option dj:=fun f r=>match f,r with
 |16,4=>some ⟨[0,8,9],[(10,0,9223372036854775807)],[],[],[],[],[]⟩
 |_,_=>none
def UF:Nat->List Nat:=fun n=>[1]
def tJ:db:=⟨24,603,[o8,.d .str],[.d Ro,.d .bool],0⟩
def Ue:FuncId->Nat->Option dj:=fun f r=>match f,r with
 |37,3=>some ⟨[0,1,2,8],[(9,0,9223372036854775807),(10,0,9223372036854775807)],[],[],[],[],[]⟩
 |_,_=>none
def UI:Nat->List Nat:=fun n=>[1,1]
def dV:kk:=⟨25,605,[.str,.str,.str,.str,.str,.str,.str],32,[.d Ro,o8],51⟩
def pW:db:=⟨22,619,[o8],[akY],66⟩
def tH:db:=⟨11,606,[o8,.d pp],[o8,.d Br],0⟩
def o6:db:=⟨8,607,[o8,.d A2,.d .str],[o8,o8,.d Br],0⟩
def Uc:FuncId->Nat->Option dj:=fun f r=>match f,r with
 |8,6=>some ⟨[0,2,4,24],[(25,0,9223372036854775807)],[(2,0,0,0)],[],[(9,[.str,.str,.str,.str,.str,.str,.str],32)],[],[]⟩
 |_,_=>none
def UG:Nat->List Nat:=fun n=>[1,1,1,1,1]
def q6:aR:=⟨18,608,[],[pp]⟩
def sn:db:=⟨9,617,[o8,o8],[.d .bool],0⟩
def Ug:FuncId->Nat->Option dj:=fun f r=>match f,r with
 |9,4=>some ⟨[0,1],[(5,0,9223372036854775807)],[],[],[],[],[]⟩
 |_,_=>none
def UK:Nat->List Nat:=fun n=>[1]
def CY:db:=⟨52,618,[.d air,rn],[.d .str],48⟩
def n5:aR:=⟨114,440,[yU,yU],[yU]⟩
def oU:aR:=⟨73,444,[nL],[nL]⟩
def oW:aR:=⟨75,445,[nL],[nL]⟩
def oY:aR:=⟨76,446,[nL],[nL]⟩
def o0:aR:=⟨77,447,[nL],[nL]⟩
def oV:aR:=⟨105,448,[j6],[j6]⟩
def oX:aR:=⟨107,449,[j6],[j6]⟩
def oZ:aR:=⟨108,450,[j6],[j6]⟩
def o3:aR:=⟨109,451,[j6],[j6]⟩
def tL:db:=⟨79,442,[rn,.d ahY],[vz],71⟩
def Ui:FuncId->Nat->Option dj:=fun f r=>match f,r with
 |79,6=>some ⟨[0,1,5],[(6,0,18446744073709551615),(7,-1,9223372036854775807)],[(1,0,0,0)],[],[],[],[]⟩
 |_,_=>none
def UM:Nat->List Nat:=fun n=>[1,1,1]
def tM:db:=⟨79,443,[rn,.d ah2],[vz],71⟩
def Uj:FuncId->Nat->Option dj:=fun f r=>match f,r with
 |79,6=>some ⟨[0,1,5],[(6,0,18446744073709551615),(7,-1,9223372036854775807)],[(1,0,0,0)],[],[],[],[]⟩
 |_,_=>none
def UN:Nat->List Nat:=fun n=>[1,1,1]
def aib:db:=⟨80,460,[rn],[rn],71⟩
def Df:hS:=⟨aib,60,true⟩
def aic:db:=⟨80,461,[rn],[rn],71⟩
def Dg:hS:=⟨aic,60,true⟩
def o4:aR:=⟨72,466,[Rm],[nL]⟩
def o5:aR:=⟨104,467,[Rm],[j6]⟩
def tF:db:=⟨148,462,[aja],[Gp],66⟩
def tG:db:=⟨162,463,[ajb],[Gq],66⟩
def FV:db:=⟨78,464,[rn],[vz],72⟩
def vJ:km:=⟨FV,[.int .u32 1779033703,.int .u32 3144134277,.int .u32 1013904242,.int .u32 2773480762,.int .u32 1359893119,.int .u32 2600822924,.int .u32 528734635,.int .u32 1541459225,.int .i64 64,.fn 72,.fn 73,.fn 75,.fn 76,.fn 77],106,[.int .i64 4]⟩
def F3:FuncId->Nat->Option dj:=fun f r=>match f,r with
 |113,3=>some ⟨[0],[(5,16,9223372036854775807)],[],[],[(4,[.int .u32 0 4294967295],99)],[],[]⟩
 |113,8=>some ⟨[0,106,107],[(108,0,9223372036854775807),(6,0,4294967295),(7,0,4294967295),(8,0,4294967295),(9,0,4294967295),(10,0,4294967295),(11,0,4294967295),(12,0,4294967295),(13,0,4294967295)],[],[],[],[],[]⟩
 |78,15=>some ⟨[3,5,13,47,48],[(14,-1,3)],[],[],[(11,[.int .u8 0 255],5)],[],[]⟩
 |_,_=>none
def Uy:Nat->List Nat:=fun n=>cond (Nat.beq n 4) [8,1] (cond (Nat.beq n 102) [8,1] [1,1,1,1])
def FW:db:=⟨110,465,[rn],[vz],73⟩
def vK:km:=⟨FW,[.int .u64 7640891576956012808,.int .u64 13503953896175478587,.int .u64 4354685564936845355,.int .u64 11912009170470909681,.int .u64 5840696475078001361,.int .u64 11170449401992604703,.int .u64 2270897969802886507,.int .u64 6620516959819538809,.int .i64 80,.fn 104,.fn 105,.fn 107,.fn 108,.fn 109],132,[.int .i64 8]⟩
def F4:FuncId->Nat->Option dj:=fun f r=>match f,r with
 |146,3=>some ⟨[0],[(5,16,9223372036854775807)],[],[],[(4,[.int .u64 0 18446744073709551615],85)],[],[]⟩
 |146,8=>some ⟨[0,106,107],[(108,0,9223372036854775807),(6,0,18446744073709551615),(7,0,18446744073709551615),(8,0,18446744073709551615),(9,0,18446744073709551615),(10,0,18446744073709551615),(11,0,18446744073709551615),(12,0,18446744073709551615),(13,0,18446744073709551615)],[],[],[],[],[]⟩
 |110,15=>some ⟨[3,5,13,47,48],[(14,-1,7)],[],[],[(11,[.int .u8 0 255],5)],[],[]⟩
 |_,_=>none
def Uz:Nat->List Nat:=fun n=>cond (Nat.beq n 4) [8,1] (cond (Nat.beq n 166) [8,1] [1,1,1,1])
def FX:db:=⟨51,452,[rn],[.d l3],71⟩
def vC:hS:=⟨FX,60,false⟩
def FY:db:=⟨70,453,[rn],[.d Ed],71⟩
def vD:hS:=⟨FY,60,false⟩
def sk:aR:=⟨143,662,[j6,j6],[j6,j6]⟩
def si:aR:=⟨161,663,[j6,j6,c1],[j6,c1]⟩
def gL:aR:=⟨144,640,[f5],[f5]⟩
def iZ:aR:=⟨137,641,[f5,f5],[f5]⟩
def lh:aR:=⟨138,642,[f5,f5],[f5]⟩
def eM:aR:=⟨101,643,[f5,f5],[f5]⟩
def kC:aR:=⟨136,664,[f5],[f5]⟩
def n8:aR:=⟨140,665,[],[f5]⟩
def lf:aR:=⟨102,644,[f5],[l3]⟩
def q9:aR:=⟨141,645,[f5,f4],[f5]⟩
def Uh:FuncId->Nat->Option dj:=fun f r=>match f,r with
 |141,3=>some ⟨[2,3,4,5],[(6,-1,255)],[(3,0,0,18446744073709551615),(3,1,0,18446744073709551615),(3,2,0,18446744073709551615),(3,3,0,18446744073709551615),(3,4,0,18446744073709551615)],[],[],[],[]⟩
 |_,_=>none
def UL:Nat->List Nat:=fun n=>[1,5]
def n2:aR:=⟨100,666,[f5],[f5]⟩
def n3:aR:=⟨103,667,[f5],[.bool]⟩
def lg:aR:=⟨96,646,[f5,f5],[lS]⟩
def pS:aR:=⟨67,647,[],[lS]⟩
def nY:aR:=⟨97,648,[],[lS]⟩
def ld:aR:=⟨139,649,[f5,f5,f5,f5],[lS]⟩
def nX:aR:=⟨99,650,[lS,lS],[lS]⟩
def nZ:aR:=⟨98,651,[VJ],[lS]⟩
def sj:aR:=⟨68,652,[lS,l3],[lS]⟩
def T9:FuncId->Nat->Option dj:=fun f r=>match f,r with
 |68,3=>some ⟨[2,3,4,5],[(6,-1,255)],[(3,0,0,18446744073709551615),(3,1,0,18446744073709551615),(3,2,0,18446744073709551615),(3,3,0,18446744073709551615),(3,4,0,18446744073709551615),(3,5,0,18446744073709551615),(3,6,0,18446744073709551615),(3,7,0,18446744073709551615),(3,8,0,18446744073709551615),(3,9,0,18446744073709551615),(3,10,0,18446744073709551615),(3,11,0,18446744073709551615),(3,12,0,18446744073709551615),(3,13,0,18446744073709551615),(3,14,0,18446744073709551615),(3,15,0,18446744073709551615),(3,16,0,18446744073709551615),(3,17,0,18446744073709551615),(3,18,0,18446744073709551615),(3,19,0,18446744073709551615)],[],[],[],[]⟩
 |_,_=>none
def UD:Nat->List Nat:=fun n=>[1,20]
def pT:aR:=⟨69,653,[VJ],[l3]⟩
def pU:aR:=⟨71,654,[l3],[l3]⟩
def tK:db:=⟨30,655,[.d l3],[.d l3],0⟩
def pV:db:=⟨20,656,[.d pp],[.d .str],81⟩
def tI:db:=⟨19,657,[o8,.d .str],[.d .bool],0⟩
def Ud:FuncId->Nat->Option dj:=fun f r=>match f,r with
 |48,2=>some ⟨[0,1,7],[(8,0,9223372036854775807)],[],[],[],[],[]⟩
 |_,_=>none
def UH:Nat->List Nat:=fun n=>[1]
def sm:db:=⟨6,658,[],[.d .bool],0⟩
def zH:db:=⟨3,659,[o8,.d A2,.d two],[.d .bool],0⟩
def T8:FuncId->Nat->Option dj:=fun f r=>match f,r with
 |3,10=>some ⟨[0,4,5,7,8],[(10,0,9223372036854775807),(11,0,9223372036854775807)],[],[],[],[],[]⟩
 |_,_=>none
def UC:Nat->List Nat:=fun n=>[1,1]
def sh:Nat->List Nat×List Nat
 |73=>([1,1],[1])
 |36=>([1,1],[1])
 |37=>([1,1],[1])
 |120=>([1],[1])
 |121=>([1],[1])
 |127=>([1],[1])
 |122=>([1],[1])
 |125=>([1],[1,1,1])
 |126=>([1],[1,1,1])
 |44=>([1,1],[1])
 |65=>([1,1],[1])
 |28=>([1],[1])
 |128=>([1],[1])
 |123=>([1],[1])
 |124=>([1],[1])
 |47=>([1],[1])
 |27=>([1],[1])
 |24=>([1],[1])
 |10=>([1],[1,1])
 |32=>([1],[2,1])
 |33=>([1],[1,1,1])
 |34=>([1,1],[1])
 |12=>([1,1],[1,1])
 |15=>([1,1],[2,1])
 |16=>([2],[1])
 |202=>([1],[1])
 |203=>([1],[1])
 |200=>([1],[1])
 |201=>([1],[1])
 |400=>([1],[1])
 |510=>([1,1],[1])
 |501=>([1],[1])
 |600=>([1],[1])
 |601=>([7],[1])
 |602=>([1],[1])
 |603=>([1,1],[1,1])
 |605=>([1,1,1],[1])
 |619=>([1],[1])
 |606=>([1,7],[1,1])
 |607=>([1,2,1],[1,1,1])
 |608=>([],[7])
 |617=>([1,1],[1])
 |618=>([1],[1])
 |440=>([1,1],[1])
 |444=>([1],[1])
 |445=>([1],[1])
 |446=>([1],[1])
 |447=>([1],[1])
 |448=>([1],[1])
 |449=>([1],[1])
 |450=>([1],[1])
 |451=>([1],[1])
 |442=>([1],[1])
 |443=>([1],[1])
 |460=>([1],[1])
 |461=>([1],[1])
 |466=>([1],[1])
 |467=>([1],[1])
 |462=>([1],[1])
 |463=>([1],[1])
 |464=>([1],[1])
 |465=>([1],[1])
 |452=>([1],[32])
 |453=>([1],[64])
 |662=>([1,1],[1,1])
 |663=>([1,1,1],[1,1])
 |640=>([5],[5])
 |641=>([5,5],[5])
 |642=>([5,5],[5])
 |643=>([5,5],[5])
 |664=>([5],[5])
 |665=>([],[5])
 |644=>([5],[32])
 |645=>([5,4],[5])
 |666=>([5],[5])
 |667=>([5],[1])
 |646=>([5,5],[20])
 |647=>([],[20])
 |648=>([],[20])
 |649=>([5,5,5,5],[20])
 |650=>([20,20],[20])
 |651=>([15],[20])
 |652=>([20,32],[20])
 |653=>([15],[32])
 |654=>([32],[32])
 |655=>([32],[32])
 |656=>([7],[1])
 |657=>([1,1],[1])
 |658=>([],[1])
 |659=>([1,2,2],[1])
 |_=>([],[])
end Go.ck

set_option maxRecDepth 100000
namespace Go.ck
open Go Go.bj Go.Proofs
theorem aqe (S K):cY sh UR S K [1,1] (bG n6.args) n6.res (n6.tree Tryz.prog aU (aO [] []) Un 600 6)=Pr S K:=by kernel_rfl
theorem aqg (S K):cY sh US S K [1,1] (bG n7.args) n7.res (n7.tree Tryz.prog aU (aO [] []) Uo 600 6)=Pt S K:=by kernel_rfl
theorem aqi (S K):cY sh bF S K [1] (bG rl.args) rl.res (rl.tree Tryz.prog aU (aO [] [n6,n7]) bE 600 6)=Pv S K:=by kernel_rfl
theorem aqc (S K):cY sh bF S K [1] (bG rh.args) rh.res (rh.tree Tryz.prog aU (aO [] [n6,n7]) bE 600 6)=Pp S K:=by kernel_rfl
theorem ao9 (S K):cY sh bF S K [1] (bG qX.args) qX.res (qX.tree Tryz.prog aU (aO [] [jq]) bE 600 6)=Oj S K:=by kernel_rfl
theorem aqb (S K):cY sh UP S K [1] (bG rf.args) rf.res (rf.tree Tryz.prog aU (aO [] []) Ul 600 6)=Po S K:=by kernel_rfl
theorem apg (S K):cY sh bF S K [1] (bG qZ.args) qZ.res (qZ.tree Tryz.prog aU (aO [] [jq]) bE 600 6)=Ot S K:=by kernel_rfl
theorem aph (S K):cY sh bF S K [1] (bG me.args) me.res (me.tree Tryz.prog aU (aO [] [jq]) bE 600 6)=Ou S K:=by kernel_rfl
theorem apK (S K):cY sh UE S K [1,1] (bG q5.args) q5.res (q5.tree Tryz.prog aU (aO [] [jq]) Ua 600 6)=OW S K:=by kernel_rfl
theorem apD (S K):cY sh UA S K [1,1] (bG kB.args) kB.res (kB.tree Tryz.prog aU (aO [] [jq]) T6 600 6)=OP S K:=by kernel_rfl
theorem apF (S K):cY sh UB S K [1] (bG q3.args) q3.res (q3.tree Tryz.prog aU (aO [] []) T7 600 6)=OR S K:=by kernel_rfl
theorem aqd (S K):cY sh UQ S K [1] (bG ri.args) ri.res (ri.tree Tryz.prog aU (aO [] []) Um 600 6)=Pq S K:=by kernel_rfl
theorem aqa (S K):cY sh UO S K [1] (bG re.args) re.res (re.tree Tryz.prog aU (aO [] []) Uk 600 6)=Pn S K:=by kernel_rfl
theorem apB (S K):cY sh bF S K [1] (bG q1.args) q1.res (q1.tree Tryz.prog aU (aO [vG] [ri,rf,kB]) bE 600 6)=ON S K:=by kernel_rfl
theorem ap3 (S K):cY sh bF S K [1] (bG mf.args) mf.res (mf.tree Tryz.prog aU (aO [] [me,q1,re,kB]) bE 600 6)=Pf S K:=by kernel_rfl
theorem apE (S K):cY sh bF S K [1] (bG q2.args) q2.res (q2.tree Tryz.prog aU (aO [vG] [q5,rh]) bE 600 6)=OQ S K:=by kernel_rfl
theorem apk (S K):cY sh bF S K [1] (bG q0.args) q0.res (q0.tree Tryz.prog aU (aO [] [rl,qZ,q2,qX,mf,q3,jq]) bE 600 6)=Ox S K:=by kernel_rfl
theorem aqf (S K):cY sh bF S K [1,1] (bG rj.args) rj.res (rj.tree Tryz.prog aU (aO [] []) bE 600 6)=Ps S K:=by kernel_rfl
theorem apS (S K):cY sh bF S K [1,1] (bG zI.args) zI.res (vH.tree Tryz.prog aU (aO [] [CX,CV,rj]) bE 600 6)=O4 S K:=by kernel_rfl
theorem apH (S K):cY sh bF S K [1,1] (bG q4.args) q4.res (q4.tree Tryz.prog aU (aO [vH] [q0]) bE 600 6)=OT S K:=by kernel_rfl
theorem ap1 (S K):cY sh bF S K [2] (bG ra.args) ra.res (ra.tree Tryz.prog aU (aO [] [q4]) bE 600 6)=Pd S K:=by kernel_rfl
theorem aqj (S K):cY sh UU S K [1] (bG rm.args) rm.res (rm.tree Tryz.prog aU (aO [] []) Uq 600 6)=Pw S K:=by kernel_rfl
theorem aqh (S K):cY sh UT S K [1] (bG rk.args) rk.res (rk.tree Tryz.prog aU (aO [] []) Up 600 6)=Pu S K:=by kernel_rfl
theorem aql (S K):cY sh bF S K [1] (bG n9.args) n9.res (n9.tree Tryz.prog aU (aO [] [me,rm,kB,mf]) bE 600 6)=Py S K:=by kernel_rfl
theorem ap2 (S K):cY sh bF S K [1] (bG rb.args) rb.res (rb.tree Tryz.prog aU (aO [] [me,rk,kB,mf]) bE 600 6)=Pe S K:=by kernel_rfl
theorem apW (S K):cY sh UJ S K [1] (bG q7.args) q7.res (q7.tree Tryz.prog aU (aO [] []) Uf 600 6)=O8 S K:=by kernel_rfl
theorem apf (S K):cY sh bF S K [1] (bG qY.args) qY.res (qY.tree Tryz.prog aU (aO [] [jq]) bE 600 6)=Oq S K:=by kernel_rfl
theorem apX (S K):cY sh bF S K [1] (bG q8.args) q8.res (q8.tree Tryz.prog aU (aO [] [q7,qY]) bE 600 6)=O9 S K:=by kernel_rfl
theorem apV (S K):cY sh bF S K [7] (bG n4.args) n4.res (n4.tree Tryz.prog aU (aO [] [q8,ra,n9,rb]) bE 600 6)=O7 S K:=by kernel_rfl
theorem apM (S K):iT sh UF S K [1] (cG np.args) np.res (np.tree (fT []) Tryz.prog aU (aO [] [n4]) Ub 600 6)=OY S K:=by kernel_rfl
theorem apU (S K):iT sh UI S K [1,1] (cG tJ.args) tJ.res (tJ.tree (fT []) Tryz.prog aU (aO [] [CW]) Ue 600 6)=O6 S K:=by kernel_rfl
theorem apR (S K):iT sh bF S K [1] (cG pW.args) pW.res (pW.tree (fT []) Tryz.prog aU (aO [] []) bE 600 6)=O3 S K:=by kernel_rfl
theorem apO (S K):iT sh bF S K [1,7] (cG tH.args) tH.res (tH.tree (CP [dV] (fT [np,tJ,pW])) Tryz.prog aU (aO [] [n4]) bE 600 6)=O0 S K:=by kernel_rfl
theorem apN (S K):iT sh UG S K [1,2,1] (cG o6.args) o6.res (o6.tree (fT [np,pW]) Tryz.prog aU (aO [] [n9]) Uc 600 6)=OZ S K:=by kernel_rfl
theorem apT (S K):cY sh bF S K [] (bG q6.args) q6.res (q6.tree Tryz.prog aU (aO [] []) bE 600 6)=O5 S K:=by kernel_rfl
theorem apZ (S K):iT sh UK S K [1,1] (cG sn.args) sn.res (sn.tree (fT []) Tryz.prog aU (aO [] []) Ug 600 6)=Pb S K:=by kernel_rfl
end Go.ck

set_option maxRecDepth 100000
namespace Go.ck
open Go Go.bj Go.Proofs
theorem ap4 (S K):cY sh bF S K [1,1] (bG n5.args) n5.res (n5.tree Tryz.prog aU (aO [] []) bE 600 6)=Pg S K:=by kernel_rfl
theorem apr (S K):cY sh bF S K [1] (bG oU.args) oU.res (oU.tree Tryz.prog aU (aO [] []) bE 600 6)=OD S K:=by kernel_rfl
theorem apt (S K):cY sh bF S K [1] (bG oW.args) oW.res (oW.tree Tryz.prog aU (aO [] []) bE 600 6)=OF S K:=by kernel_rfl
theorem apv (S K):cY sh bF S K [1] (bG oY.args) oY.res (oY.tree Tryz.prog aU (aO [] []) bE 600 6)=OH S K:=by kernel_rfl
theorem apx (S K):cY sh bF S K [1] (bG o0.args) o0.res (o0.tree Tryz.prog aU (aO [] []) bE 600 6)=OJ S K:=by kernel_rfl
theorem aps (S K):cY sh bF S K [1] (bG oV.args) oV.res (oV.tree Tryz.prog aU (aO [] []) bE 600 6)=OE S K:=by kernel_rfl
theorem apu (S K):cY sh bF S K [1] (bG oX.args) oX.res (oX.tree Tryz.prog aU (aO [] []) bE 600 6)=OG S K:=by kernel_rfl
theorem apw (S K):cY sh bF S K [1] (bG oZ.args) oZ.res (oZ.tree Tryz.prog aU (aO [] []) bE 600 6)=OI S K:=by kernel_rfl
theorem apy (S K):cY sh bF S K [1] (bG o3.args) o3.res (o3.tree Tryz.prog aU (aO [] []) bE 600 6)=OK S K:=by kernel_rfl
theorem ap5 (S K):iT sh UM S K [1] (cG tL.args) tL.res (tL.tree (fT []) Tryz.prog aU (aO [] [n5]) Ui 600 6)=Ph S K:=by kernel_rfl
theorem ap6 (S K):iT sh UN S K [1] (cG tM.args) tM.res (tM.tree (fT []) Tryz.prog aU (aO [] [n5]) Uj 600 6)=Pj S K:=by kernel_rfl
theorem apz (S K):cY sh bF S K [1] (bG o4.args) o4.res (o4.tree Tryz.prog aU (aO [] []) bE 600 6)=OL S K:=by kernel_rfl
theorem apA (S K):cY sh bF S K [1] (bG o5.args) o5.res (o5.tree Tryz.prog aU (aO [] []) bE 600 6)=OM S K:=by kernel_rfl
theorem apa (S K):iT sh bF S K [1] (cG tF.args) tF.res (tF.tree (fT []) Tryz.prog aU (aO [] []) bE 600 6)=Ok S K:=by kernel_rfl
theorem apb (S K):iT sh bF S K [1] (cG tG.args) tG.res (tG.tree (fT []) Tryz.prog aU (aO [] []) bE 600 6)=Ol S K:=by kernel_rfl
theorem ap8 (S K):iT sh bF S K [1] (cG FX.args) FX.res (vC.tree (xU [vJ] (od [Df] (fT [tL]))) Tryz.prog aU (aO [] []) bE 600 6)=Pl S K:=by kernel_rfl
theorem ap9 (S K):iT sh bF S K [1] (cG FY.args) FY.res (vD.tree (xU [vK] (od [Dg] (fT [tM]))) Tryz.prog aU (aO [] []) bE 600 6)=Pm S K:=by kernel_rfl
end Go.ck

set_option maxRecDepth 100000
namespace Go.ck
open Go Go.bj Go.Proofs
theorem ao4 (S K):iT sh Uy S K [1] (cG FV.args) FV.res (vJ.tree (yM Tryz.prog aU (aO [] [o4,oU,oW,oY,o0]) (uN (fT [tF]) Tryz.prog aU (aO [] [o4,oU,oW,oY,o0]) F3 600 6) F3 600 [(1,0,0,4294967295),(1,1,0,4294967295),(1,2,0,4294967295),(1,3,0,4294967295),(1,4,0,4294967295),(1,5,0,4294967295),(1,6,0,4294967295),(1,7,0,4294967295)] 147))=Oe S K:=by kernel_rfl
end Go.ck

set_option maxRecDepth 100000
namespace Go.ck
open Go Go.bj Go.Proofs
theorem ao5 (S K):iT sh Uz S K [1] (cG FW.args) FW.res (vK.tree (yM Tryz.prog aU (aO [] [o5,oV,oX,oZ,o3]) (uN (fT [tG]) Tryz.prog aU (aO [] [o5,oV,oX,oZ,o3]) F4 600 6) F4 600 [(1,0,0,18446744073709551615),(1,1,0,18446744073709551615),(1,2,0,18446744073709551615),(1,3,0,18446744073709551615),(1,4,0,18446744073709551615),(1,5,0,18446744073709551615),(1,6,0,18446744073709551615),(1,7,0,18446744073709551615)] 147))=Of S K:=by kernel_rfl
end Go.ck

set_option maxRecDepth 100000
namespace Go.ck
open Go Go.bj Go.Proofs
theorem ao6 (S K):cY sh bF S K [5] (bG gL.args) gL.res (gL.tree Tryz.prog aU (aO [] []) bE 600 6)=Og S K:=by kernel_rfl
theorem apo (S K):cY sh bF S K [5,5] (bG iZ.args) iZ.res (iZ.tree Tryz.prog aU (aO [] [gL]) bE 600 6)=OB S K:=by kernel_rfl
theorem apn (S K):cY sh bF S K [5,5] (bG lh.args) lh.res (lh.tree Tryz.prog aU (aO [] [gL]) bE 600 6)=OA S K:=by kernel_rfl
theorem ap7 (S K):cY sh bF S K [5] (bG kC.args) kC.res (kC.tree Tryz.prog aU (aO [] [eM]) bE 600 6)=Pk S K:=by kernel_rfl
theorem aqk (S K):cY sh bF S K [] (bG n8.args) n8.res (n8.tree Tryz.prog aU (aO [] [iZ]) bE 600 6)=Px S K:=by kernel_rfl
theorem apC (S K):cY sh bF S K [5] (bG n2.args) n2.res (n2.tree Tryz.prog aU (aO [] [q9]) bE 600 6)=OO S K:=by kernel_rfl
theorem apJ (S K):cY sh bF S K [5] (bG n3.args) n3.res (n3.tree Tryz.prog aU (aO [] [lf]) bE 600 6)=OV S K:=by kernel_rfl
theorem apm (S K):cY sh bF S K [5,5] (bG lg.args) lg.res (lg.tree Tryz.prog aU (aO [] [eM]) bE 600 6)=Oz S K:=by kernel_rfl
theorem ao7 (S K):cY sh bF S K [] (bG pS.args) pS.res (pS.tree Tryz.prog aU (aO [] [lg]) bE 600 6)=Oh S K:=by kernel_rfl
theorem api (S K):cY sh bF S K [] (bG nY.args) nY.res (nY.tree Tryz.prog aU (aO [] [lg]) bE 600 6)=Ov S K:=by kernel_rfl
theorem apd (S K):cY sh bF S K [5,5,5,5] (bG ld.args) ld.res (ld.tree Tryz.prog aU (aO [] [eM]) bE 600 6)=On S K:=by kernel_rfl
theorem ape (S K):cY sh bF S K [20,20] (bG nX.args) nX.res (nX.tree Tryz.prog aU (aO [] [lh,eM,iZ,ld,n8]) bE 600 6)=Oo S K:=by kernel_rfl
theorem apj (S K):cY sh bF S K [15] (bG nZ.args) nZ.res (nZ.tree Tryz.prog aU (aO [] [kC,iZ,lh,ld]) bE 600 6)=Ow S K:=by kernel_rfl
theorem ao8 (S K):cY sh bF S K [15] (bG pT.args) pT.res (pT.tree Tryz.prog aU (aO [] [n2,eM,lf,n3]) bE 600 6)=Oi S K:=by kernel_rfl
theorem apc (S K):cY sh bF S K [32] (bG pU.args) pU.res (pU.tree Tryz.prog aU (aO [] []) bE 600 6)=Om S K:=by kernel_rfl
theorem ap0 (S K):cY sh UL S K [5,4] (bG q9.args) q9.res (q9.tree Tryz.prog aU (aO [] [kC,eM]) Uh 600 6)=Pc S K:=by kernel_rfl
theorem apq (S K):cY sh bF S K [5,5] (bG eM.args) eM.res (eM.tree Tryz.prog aU (aO [] [gL,sk,si]) bE 600 6)=OC S K:=by kernel_rfl
theorem apl (S K):cY sh bF S K [5] (bG lf.args) lf.res (lf.tree Tryz.prog aU (aO [] [gL]) bE 600 6)=Oy S K:=by kernel_rfl
end Go.ck

set_option maxRecDepth 100000
namespace Go.ck
open Go Go.bj Go.Proofs
theorem apI (S K):cY sh UD S K [20,32] (bG sj.args) sj.res (sj.tree Tryz.prog aU (aO [] [nY,nZ,nX]) T9 600 6)=OU S K:=by kernel_rfl
theorem apY (S K):iT sh bF S K [32] (cG tK.args) tK.res (tK.tree (od [vD] (fT [])) Tryz.prog aU (aO [] [pU,pS,sj,pT]) bE 600 6)=Pa S K:=by kernel_rfl
theorem apL (S K):iT sh bF S K [7] (cG pV.args) pV.res (pV.tree (od [vC] (fT [tK,CY])) Tryz.prog aU (aO [] []) bE 600 6)=OX S K:=by kernel_rfl
theorem apP (S K):iT sh UH S K [1,1] (cG tI.args) tI.res (tI.tree (fT [np,pV]) Tryz.prog aU (aO [] []) Ud 600 6)=O1 S K:=by kernel_rfl
theorem apQ (S K):iT sh bF S K [] (cG sm.args) sm.res (sm.tree (fT [tH,o6,tI,pV]) Tryz.prog aU (aO [] [q6]) bE 600 6)=O2 S K:=by kernel_rfl
theorem apG (S K):iT sh UC S K [1,2,2] (cG zH.args) zH.res (zH.tree (fT [sm,o6,sn]) Tryz.prog aU (aO [] []) T8 600 6)=OS S K:=by kernel_rfl
end Go.ck
