/- Pae: a part of the proof of statements of this seat. -/
import Derived.Test.YtiljgcomigmidaaGreatDoorPad
import Derived.Test.YtiljgcomigmidaaGreatDoorPac
import Derived.Test.YtiljgcomigmidaaGreatDoorProg
import Derived.KernelRfl
open BitVec renaming ofInt->lW
open Go.IntKind renaming max->cV
open Int renaming le_refl->bO,toNat_natCast->ek,eq_ofNat_of_zero_le->oI,le_trans->oJ,le_of_lt->rk
open List renaming getD->ar,range->cD,length_append->c8,length_cons->dj,replicate->eh,append_assoc->eG,length_nil->fe,map_append->fl,nil_append->gv,map_congr_left->gw,getElem?_eq_getElem->gF,map_map->jf,length->jg,mem_cons->kg,getD_eq_getElem?_getD->kH,take_of_length_le->lu,length_take->ly,getElem?_append_left->pE,take_succ_cons->vK,drop_zero->CU,drop_eq_getElem_cons->G0,range_succ->adJ
open List.cons renaming injEq->gY
open Nat renaming two_pow_pos->tY,pow_add->vN,div_lt_iff_lt_mul->acX
open UInt8 renaming ofNat->jV
set_option maxRecDepth 100000
set_option linter.unusedVariables false
set_option linter.unusedSimpArgs false
namespace Go.aX
open Go Go.aW
theorem pN {c z x:Int} (h:z=aB 23 [c,x]):ba z=ba c++[x]:=by
 rw[h];show(ab (rc (ab c++[[x]]))).map _=_;rw[di,fl];rfl
theorem UE {c i z v:Int} (h:z=aB 42 [c,i,0,v]):ba z=(ba c).set i.toNat v:=by
 rw[h];show(ab (rc ((ab c).set i.toNat _))).map (λr=>r.getD 0 0)=((ab c).map λr=>r.getD 0 0).set i.toNat v;rw[di,List.map_set];rfl
theorem Ie {r:List Int} {k:Int->Prop}:∀(n o:Nat) (c:Int),o+n<=r.length->(∀z,ba z=ba c++(r.drop o).take n->k z)->Dv r o n c k
 |0,o,c,_,h=>h c (by simp)
 |n+1,o,c,hl,h=>λz _ _ hz=>Ie n (o+1) z (by omega) λy hy=>h y (by
  have ho:o<r.length:=by omega
  rw[hy,pN hz,eG,G0 ho,vK];simp[ar,ho])
theorem At:ba 0=[]:=by unfold ba;rw[eV];rfl
theorem r8 {c l:Int} (h:l=((ba c).length:Int)):ah 31 [c,l]:=by show l=((ab c).length:Int);rw[h,l9]
theorem r7 {c:Int} (h:(ba c).length<=1000001000):ah 23 [c,1]:=by show((ab c).length:Int)+1<=1073741824;rw[<-l9];omega
theorem wU {c i:Int} (h0:0<=i) (h1:i<((ba c).length:Int)):ah 21 [c,i]:=⟨h0,by rw[<-l9];exact h1⟩
theorem atM {f g:Nat->Int} {n x:Nat} {v:Int} (hx:x<n) (hv:g x=v) (h:∀j,j<n->j≠x->g j=f j):((cD n).map f).set x v=(cD n).map g:=by
 apply List.ext_getElem (by simp);intro j h1 h2;have hj:j<n:=by simpa using h2
 rw[List.getElem_set];simp only[List.getElem_map,List.getElem_range];split
 ·rename_i e;rw[<-e,hv]
 ·rename_i e;exact(h j hj (λk=>e k.symm)).symm
theorem afd {c z s:Int} (h:z=aB 24 [c,s]):ba z=ba c++ba s:=by
 rw[h];show(ab (rc (ab c++ab s))).map _=_;rw[di,fl];rfl
end Go.aX
namespace Go.aX
open Go Go.aW
def Tr (S:zzS) (K:zzK):Prop:=dg λz0=>bQ 0 4294967295 z0 4294967296 λaf=>K [[z0]] [[(z0+((-4294967296)*af))]]
def TE (S:zzS) (K:zzK):Prop:=dg λz0=>bm 2 2 λaf=>(ah 82 [z0,af]->bQ 0 0x3fffffffffffffff z0 4 λz2=>bQ 0 1073741823 (1073741824*z0) 0x10000000000000000 λz3=>bC λ z4=>z4<=cV .u64->z4=aZ .or .u64 z2 ((1073741824*z0)+((-0x10000000000000000)*z3))->dg λz5=>S 483 [[z4]] [[z5]]->K [[z0],[af]] [[z5]])
def TH (S:zzS) (K:zzK):Prop:=dg λz0=>bm 3 3 λaf=>(ah 82 [z0,af]->bQ 0 0x1fffffffffffffff z0 8 λz2=>bQ 0 536870911 (536870912*z0) 0x10000000000000000 λz3=>bC λ z4=>z4<=cV .u64->z4=aZ .or .u64 z2 ((536870912*z0)+((-0x10000000000000000)*z3))->dg λz5=>S 483 [[z4]] [[z5]]->K [[z0],[af]] [[z5]])
def TI (S:zzS) (K:zzK):Prop:=dg λz0=>bm 6 6 λaf=>(ah 82 [z0,af]->bQ 0 0x3ffffffffffffff z0 64 λz2=>bQ 0 67108863 (67108864*z0) 0x10000000000000000 λz3=>bC λz4=>z4<=cV .u64->z4=aZ .or .u64 z2 ((67108864*z0)+((-0x10000000000000000)*z3))->dg λz5=>S 483 [[z4]] [[z5]]->K [[z0],[af]] [[z5]])
def TJ (S:zzS) (K:zzK):Prop:=dg λz0=>bm 7 7 λaf=>(ah 82 [z0,af]->bQ 0 0x1ffffffffffffff z0 128 λz2=>bQ 0 33554431 (33554432*z0) 0x10000000000000000 λz3=>bC λz4=>z4<=cV .u64->z4=aZ .or .u64 z2 ((33554432*z0)+((-0x10000000000000000)*z3))->dg λz5=>S 483 [[z4]] [[z5]]->K [[z0],[af]] [[z5]])
def Ty (S:zzS) (K:zzK):Prop:=dg λz0=>bm 10 10 λaf=>(ah 82 [z0,af]->bQ 0 0x3fffffffffffff z0 1024 λz2=>bQ 0 4194303 (4194304*z0) 0x10000000000000000 λz3=>bC λz4=>z4<=cV .u64->z4=aZ .or .u64 z2 ((4194304*z0)+((-0x10000000000000000)*z3))->dg λz5=>S 483 [[z4]] [[z5]]->K [[z0],[af]] [[z5]])
def Tz (S:zzS) (K:zzK):Prop:=dg λz0=>bm 11 11 λaf=>(ah 82 [z0,af]->bQ 0 9007199254740991 z0 2048 λz2=>bQ 0 2097151 (2097152*z0) 0x10000000000000000 λz3=>bC λz4=>z4<=cV .u64->z4=aZ .or .u64 z2 ((2097152*z0)+((-0x10000000000000000)*z3))->dg λz5=>S 483 [[z4]] [[z5]]->K [[z0],[af]] [[z5]])
def TA (S:zzS) (K:zzK):Prop:=dg λz0=>bm 13 13 λaf=>(ah 82 [z0,af]->bQ 0 0x7ffffffffffff z0 8192 λz2=>bQ 0 524287 (524288*z0) 0x10000000000000000 λz3=>bC λz4=>z4<=cV .u64->z4=aZ .or .u64 z2 ((524288*z0)+((-0x10000000000000000)*z3))->dg λz5=>S 483 [[z4]] [[z5]]->K [[z0],[af]] [[z5]])
def TB (S:zzS) (K:zzK):Prop:=dg λz0=>bm 17 17 λaf=>(ah 82 [z0,af]->bQ 0 0x7fffffffffff z0 131072 λz2=>bQ 0 32767 (32768*z0) 0x10000000000000000 λz3=>bC λz4=>z4<=cV .u64->z4=aZ .or .u64 z2 ((32768*z0)+((-0x10000000000000000)*z3))->dg λz5=>S 483 [[z4]] [[z5]]->K [[z0],[af]] [[z5]])
def TC (S:zzS) (K:zzK):Prop:=dg λz0=>bm 18 18 λaf=>(ah 82 [z0,af]->bQ 0 70368744177663 z0 262144 λz2=>bQ 0 16383 (16384*z0) 0x10000000000000000 λz3=>bC λz4=>z4<=cV .u64->z4=aZ .or .u64 z2 ((16384*z0)+((-0x10000000000000000)*z3))->dg λz5=>S 483 [[z4]] [[z5]]->K [[z0],[af]] [[z5]])
def TD (S:zzS) (K:zzK):Prop:=dg λz0=>bm 19 19 λaf=>(ah 82 [z0,af]->bQ 0 35184372088831 z0 524288 λz2=>bQ 0 8191 (8192*z0) 0x10000000000000000 λz3=>bC λz4=>z4<=cV .u64->z4=aZ .or .u64 z2 ((8192*z0)+((-0x10000000000000000)*z3))->dg λz5=>S 483 [[z4]] [[z5]]->K [[z0],[af]] [[z5]])
def TF (S:zzS) (K:zzK):Prop:=dg λz0=>bm 22 22 λaf=>(ah 82 [z0,af]->bQ 0 4398046511103 z0 4194304 λz2=>bQ 0 1023 (1024*z0) 0x10000000000000000 λz3=>bC λz4=>z4<=cV .u64->z4=aZ .or .u64 z2 ((1024*z0)+((-0x10000000000000000)*z3))->dg λz5=>S 483 [[z4]] [[z5]]->K [[z0],[af]] [[z5]])
def TG (S:zzS) (K:zzK):Prop:=dg λz0=>bm 25 25 λaf=>(ah 82 [z0,af]->bQ 0 549755813887 z0 33554432 λz2=>bQ 0 127 (128*z0) 0x10000000000000000 λz3=>bC λz4=>z4<=cV .u64->z4=aZ .or .u64 z2 ((128*z0)+((-0x10000000000000000)*z3))->dg λz5=>S 483 [[z4]] [[z5]]->K [[z0],[af]] [[z5]])
def Tu (S:zzS) (K:zzK):Prop:=dg λz0=>∀r1:List Int,bd [(2,2),(13,13),(22,22)] r1->dT λz4=>(ah 82 [z0,(ar r1 0 0),(ar r1 1 0),(ar r1 2 0),z4]->ah 82 [z0,(ar r1 2 0)]/\dg λz5=>S 822 [[z0],[(ar r1 2 0)]] [[z5]]->(aE (decide (z4=1)) (bQ 0 4398046511103 z0 4194304 λaq=>ah 82 [z0,(ar r1 0 0)]/\dg λz7=>S 802 [[z0],[(ar r1 0 0)]] [[z7]]->ah 82 [z0,(ar r1 1 0)]/\dg λak=>S 813 [[z0],[(ar r1 1 0)]] [[ak]]->bC λz9=>z9<=cV .u64->z9=aZ .xor .u64 z7 ak->bC λaC=>aC<=cV .u64->aC=aZ .xor .u64 z9 aq->K [[z0],r1,[z4]] [[aC]]) (ah 82 [z0,(ar r1 0 0)]/\dg λaq=>S 802 [[z0],[(ar r1 0 0)]] [[aq]]->ah 82 [z0,(ar r1 1 0)]/\dg λz7=>S 813 [[z0],[(ar r1 1 0)]] [[z7]]->bC λak=>ak<=cV .u64->ak=aZ .xor .u64 aq z7->bC λz9=>z9<=cV .u64->z9=aZ .xor .u64 ak z5->K [[z0],r1,[z4]] [[z9]])))
def Tv (S:zzS) (K:zzK):Prop:=dg λz0=>∀r1:List Int,bd [(6,6),(11,11),(25,25)] r1->dT λz4=>(ah 82 [z0,(ar r1 0 0),(ar r1 1 0),(ar r1 2 0),z4]->ah 82 [z0,(ar r1 2 0)]/\dg λz5=>S 825 [[z0],[(ar r1 2 0)]] [[z5]]->(aE (decide (z4=1)) (bQ 0 549755813887 z0 33554432 λaq=>ah 82 [z0,(ar r1 0 0)]/\dg λz7=>S 806 [[z0],[(ar r1 0 0)]] [[z7]]->ah 82 [z0,(ar r1 1 0)]/\dg λak=>S 811 [[z0],[(ar r1 1 0)]] [[ak]]->bC λz9=>z9<=cV .u64->z9=aZ .xor .u64 z7 ak->bC λaC=>aC<=cV .u64->aC=aZ .xor .u64 z9 aq->K [[z0],r1,[z4]] [[aC]]) (ah 82 [z0,(ar r1 0 0)]/\dg λaq=>S 806 [[z0],[(ar r1 0 0)]] [[aq]]->ah 82 [z0,(ar r1 1 0)]/\dg λz7=>S 811 [[z0],[(ar r1 1 0)]] [[z7]]->bC λak=>ak<=cV .u64->ak=aZ .xor .u64 aq z7->bC λz9=>z9<=cV .u64->z9=aZ .xor .u64 ak z5->K [[z0],r1,[z4]] [[z9]])))
def Tw (S:zzS) (K:zzK):Prop:=dg λz0=>∀r1:List Int,bd [(7,7),(18,18),(3,3)] r1->dT λz4=>(ah 82 [z0,(ar r1 0 0),(ar r1 1 0),(ar r1 2 0),z4]->ah 82 [z0,(ar r1 2 0)]/\dg λz5=>S 803 [[z0],[(ar r1 2 0)]] [[z5]]->(aE (decide (z4=1)) (bQ 0 0x1fffffffffffffff z0 8 λaq=>ah 82 [z0,(ar r1 0 0)]/\dg λz7=>S 807 [[z0],[(ar r1 0 0)]] [[z7]]->ah 82 [z0,(ar r1 1 0)]/\dg λak=>S 818 [[z0],[(ar r1 1 0)]] [[ak]]->bC λz9=>z9<=cV .u64->z9=aZ .xor .u64 z7 ak->bC λaC=>aC<=cV .u64->aC=aZ .xor .u64 z9 aq->K [[z0],r1,[z4]] [[aC]]) (ah 82 [z0,(ar r1 0 0)]/\dg λaq=>S 807 [[z0],[(ar r1 0 0)]] [[aq]]->ah 82 [z0,(ar r1 1 0)]/\dg λz7=>S 818 [[z0],[(ar r1 1 0)]] [[z7]]->bC λak=>ak<=cV .u64->ak=aZ .xor .u64 aq z7->bC λz9=>z9<=cV .u64->z9=aZ .xor .u64 ak z5->K [[z0],r1,[z4]] [[z9]])))
def Tx (S:zzS) (K:zzK):Prop:=dg λz0=>∀r1:List Int,bd [(17,17),(19,19),(10,10)] r1->dT λz4=>(ah 82 [z0,(ar r1 0 0),(ar r1 1 0),(ar r1 2 0),z4]->ah 82 [z0,(ar r1 2 0)]/\dg λz5=>S 810 [[z0],[(ar r1 2 0)]] [[z5]]->(aE (decide (z4=1)) (bQ 0 0x3fffffffffffff z0 1024 λaq=>ah 82 [z0,(ar r1 0 0)]/\dg λz7=>S 817 [[z0],[(ar r1 0 0)]] [[z7]]->ah 82 [z0,(ar r1 1 0)]/\dg λak=>S 819 [[z0],[(ar r1 1 0)]] [[ak]]->bC λz9=>z9<=cV .u64->z9=aZ .xor .u64 z7 ak->bC λaC=>aC<=cV .u64->aC=aZ .xor .u64 z9 aq->K [[z0],r1,[z4]] [[aC]]) (ah 82 [z0,(ar r1 0 0)]/\dg λaq=>S 817 [[z0],[(ar r1 0 0)]] [[aq]]->ah 82 [z0,(ar r1 1 0)]/\dg λz7=>S 819 [[z0],[(ar r1 1 0)]] [[z7]]->bC λak=>ak<=cV .u64->ak=aZ .xor .u64 aq z7->bC λz9=>z9<=cV .u64->z9=aZ .xor .u64 ak z5->K [[z0],r1,[z4]] [[z9]])))
def Tq (S:zzS) (K:zzK):Prop:=cQ λz0=>(ah 71 [z0]->bC λaf=>bm (-2) 0x7fffffffffffffff λz2=>bj 20 [z0] λz3=>ah 22 [z0,0,z3]/\a8 22 [z0,0,z3] λz4=>ah 71 [z4]/\cQ λz5=>S 488 [[z4]] [[z5]]->bm (-2) 0x7fffffffffffffff λaq=>bj 20 [z5] λz7=>Nc z5 z7 32 0 [] λzI=>K [[z0]] [zI])
theorem amA {r:List Int} (h:bd (jb 0 255 32) r):bd (jb 0 255 32++[]) [r].flatten:=by simpa using h
theorem ax3 {y:Int} (h0:0<=y) (h1:y<=0xffffffffffffffff):aZ .xor .u64 0 y=y:=by
 obtain⟨Y,rfl⟩:=oI h0;show IntKind.u64.wrap (((lW 64 0^^^lW 64 (Y:Int)).toNat:Nat):Int)=_;have e:lW 64 0^^^lW 64 (Y:Int)=lW 64 (Y:Int):=by simp
 rw[e,BitVec.toNat_ofInt];have h2:(Y:Int)% ((2^64:Nat):Int)=Y:=Int.emod_eq_of_lt (by omega) (by omega);rw[h2,ek];exact Lm (by omega) (by show(Y:Int)<0x10000000000000000;omega)
theorem Vd {c l:Int} {k:List Int->Prop} (hl:l=((ba c).length:Int)):∀(n i:Nat) (acc:List Int),i+n<=(ba c).length->(∀q:List Int,q.length=n->(∀x∈q,0<=x/\x<=255)->q=((ba c).drop i).take n->k (acc++q))->Nc c l n i acc k
 |0,i,acc,_,h=>by
  have:=h [] rfl (by simp) (by simp);show k acc;simpa using this
 |n+1,i,acc,hn,h=>⟨⟨by omega,by omega⟩,wU (by omega) (by omega),λy kU eb hy=>Vd hl n (i+1) (acc++[y]) (by omega) λq h1 h2 h3=>by
  have hb:i<(ba c).length:=by omega
  have e:y=(ba c)[i]:=by rw[eQ hy,ek,kH,gF hb];rfl
  have:=h (y::q) (by simp[h1]) (λx hx=>by
   rcases List.mem_cons.1 hx with rfl|hx
   ·exact⟨kU,eb⟩
   ·exact h2 x hx) (by rw[G0 hb,vK,<-e,<-h3])
  simpa using this⟩
theorem aro:Tr SB (bS SB [dN] 483):=by
 intro z0 a0 a1 af b0 b1 b2 b3;refine⟨⟨by omega,by omega,trivial⟩,?_⟩;show [[z0+-4294967296*af]]=[[z0% 4294967296]];rw[show z0+-4294967296*af=z0% 4294967296 by omega]
theorem aqE (n:Nat) (h0:0<n) (hn:n<32) {x a b:Int} (hx:0<=x) (hx2:x<=4294967295) (ha:a=x/2^n) (hb:b=x*2^(32-n)):(aZ .or .u64 a b)% 4294967296=dU 32 n x:=by
 obtain⟨X,rfl⟩:=oI hx;have hX:X<2^32:=by omega
 have AH:a=((X/2^n:Nat):Int):=by rw[ha];simp
 have oY:b=((X*2^(32-n):Nat):Int):=by rw[hb];simp
 have p1:X/2^n<2^(32-n):=by
  rw[acX (tY n),<-vN,show 32-n+n=32 by omega];exact hX
 have aJ:(2:Nat)^(32-n)<=2^31:=Nat.pow_le_pow_right (by decide) (by omega);have bb:X*2^(32-n)<2^63:=by
  calc X*2^(32-n)<=X*2^31:=Nat.mul_le_mul_left _ aJ
   _<2^63:=by omega
 obtain⟨A,hA⟩:∃A,A=X/2^n:=⟨_,rfl⟩;obtain⟨B,hB⟩:∃B,B=X*2^(32-n):=⟨_,rfl⟩;rw[<-hA]at AH p1;rw[<-hB]at oY bb;rw[AH,oY,Dj (by omega) (by omega) (by rw[BP];omega) (by rw[BP];omega)];simp only[ek];have e1:(X/2^n|||X*2^(32-n))% 2^32=X/2^n+X% 2^n*2^(32-n):=by
  rw[Nat.or_mod_two_pow];have q1:X/2^n% 2^32=X/2^n:=Nat.mod_eq_of_lt (by omega);have q2:X*2^(32-n)% 2^32=X% 2^n*2^(32-n):=by
   rw[show(2:Nat)^32=2^n*2^(32-n) by rw[<-vN];congr 1;omega,Nat.mul_mod_mul_right]
  rw[<-hA]at q1⊢;rw[q1,q2,Nat.or_comm,Nat.mul_comm (X% 2^n),Nat.add_comm,Nat.two_pow_add_eq_or_of_lt p1]
 rw[<-hA,<-hB]at e1;have e2:(((A|||B:Nat):Int)% 4294967296)=(((A|||B)% 2^32:Nat):Int):=by omega
 rw[e2,e1,hA];unfold dU;simp
theorem Q8 (n:Nat) (hn:n<=32) {x:Int} (hx:0<=x) (hx2:x<=4294967295):0<=dU 32 n x/\dU 32 n x<=4294967295:=by
 obtain⟨X,rfl⟩:=oI hx;have hX:X<2^32:=by omega
 have p1:X/2^n<2^(32-n):=by
  rw[acX (tY n),<-vN,show 32-n+n=32 by omega];exact hX
 have aJ:X% 2^n<2^n:=Nat.mod_lt _ (tY n);have e:dU 32 n (X:Int)=((X/2^n+X% 2^n*2^(32-n):Nat):Int):=by unfold dU;simp
 have bb:(X% 2^n+1)*2^(32-n)<=2^n*2^(32-n):=Nat.mul_le_mul_right _ aJ;rw[<-vN,show n+(32-n)=32 by omega,Nat.add_mul]at bb;have b7:X/2^n+X% 2^n*2^(32-n)<2^32:=by omega
 obtain⟨Y,hY⟩:∃Y,Y=X/2^n+X% 2^n*2^(32-n):=⟨_,rfl⟩;rw[<-hY]at e b7;rw[e];omega
theorem ax4 {y:Int} (h0:0<=y) (h1:y<=4294967295):aZ .xor .u32 0 y=y:=by
 rw[<-(CC (x:=0) (y:=y) (by decide) (by decide) h0 (by omega)).1];exact ax3 h0 (by omega)
theorem VK {K z q:Int} (hp:0<K) (p1:0<=z-K*q) (aJ:z-K*q<K):q=z/K:=
 ((Int.ediv_emod_unique hp).2 ⟨show z-K*q+K*q=z by omega,p1,aJ⟩).1.symm
theorem qZ (n:Nat) (h0:0<n) (hn:n<32) {K N z0 z2 z3 z4 z5:Int} (hK:(2:Int)^n=K) (hN:(2:Int)^(32-n)=N) (gb:0<K) (Oc:N<=2147483648) (p1:0<=z0-K*z2) (aJ:z0-K*z2<K) (q1:0<=N*z0-0x10000000000000000*z3) (q2:N*z0-0x10000000000000000*z3<0x10000000000000000) (h4:z4=aZ .or .u64 z2 (N*z0+-0x10000000000000000*z3)) (h5:[[z5]]=[[z4% 4294967296]]):(0<=z0->z0<=4294967295->z5=dU 32 n z0)/\z5=jv n z0:=by
 have e2:=VK gb p1 aJ;have e3:N*z0+-0x10000000000000000*z3=z0*N% 0x10000000000000000:=by
  rw[Int.mul_comm z0 N];generalize N*z0=t at q1 q2⊢;omega
 have h5:z5=z4% 4294967296:=by simpa using h5
 rw[e3,e2]at h4;refine⟨λhx hx2=>?_,?_⟩
 ·rw[h5,h4];refine aqE n h0 hn hx hx2 (by rw[hK]) ?_;rw[hN];have h1:z0*N<=4294967295*2147483648:=oJ (Int.mul_le_mul_of_nonneg_left Oc hx) (Int.mul_le_mul_of_nonneg_right hx2 (by decide));have h2:0<=z0*N:=Int.mul_nonneg hx (by rw[<-hN];exact rk (Int.pow_pos (by decide)));generalize z0*N=t at h1 h2⊢;omega
 ·show z5=aZ .or .u64 (z0/2^n) (z0*2^(32-n)% 0x10000000000000000)% 4294967296;rw[h5,h4,hK,hN]
theorem xc (a b c:Nat) (ha:a<=32) (hb:b<=32) (hc:c<=32) {z0 s x y u v r:Int} (h7:(0<=z0->z0<=4294967295->x=dU 32 a z0)/\x=jv a z0) (h8:(0<=z0->z0<=4294967295->y=dU 32 b z0)/\y=jv b z0) (hu:(0<=z0->z0<=4294967295->u=if s=1 then z0/2^c else dU 32 c z0)/\u=if s=1 then z0/2^c else jv c z0) (bE:v=aZ .xor .u64 x y) (cW:r=aZ .xor .u64 v u):(0<=z0->z0<=4294967295->r=FF a b c s z0)/\r=vj a b c s z0:=by
 refine⟨λhx hx2=>?_,?_⟩
 ·have UG:=Q8 a ha hx hx2;have uu:=Q8 b hb hx hx2;have bc:=Q8 c hc hx hx2;have h7:=h7.1 hx hx2;have h8:=h8.1 hx hx2;have hu:=hu.1 hx hx2;have alo:0<=u/\u<=4294967295:=by
   rw[hu];split
   ·exact⟨Int.ediv_nonneg hx (rk (Int.pow_pos (by decide))),oJ (Int.ediv_le_self _ hx) hx2⟩
   ·exact bc
  have x1:=CC (x:=x) (y:=y) (by rw[h7];omega) (by rw[h7];omega) (by rw[h8];omega) (by rw[h8];omega);have x2:=CC (x:=aZ .xor .u32 x y) (y:=u) x1.2.1 x1.2.2 alo.1 (by omega);show r=aZ .xor .u32 (aZ .xor .u32 (aZ .xor .u32 0 (dU 32 a z0)) (dU 32 b z0)) (if s=1 then z0/2^c else dU 32 c z0);rw[cW,bE,x1.1,x2.1,<-h8,<-hu,ax4 UG.1 UG.2,<-h7]
 ·show r=aZ .xor .u64 (aZ .xor .u64 (jv a z0) (jv b z0)) (if s=1 then z0/2^c else jv c z0);rw[cW,bE,<-hu.2,<-h7.2,<-h8.2]
theorem K3 (c:Nat) {s z0 aq K:Int} (h:decide (s=1)=true) (hK:(2:Int)^c=K) (h0:0<K) (p1:0<=z0-K*aq) (aJ:z0-K*aq<K):(0<=z0->z0<=4294967295->aq=if s=1 then z0/2^c else dU 32 c z0)/\aq=if s=1 then z0/2^c else jv c z0:=by
 have e:=VK h0 p1 aJ;rw[if_pos (of_decide_eq_true h),if_pos (of_decide_eq_true h),hK];exact⟨λ_ _=>e,e⟩
theorem KS {c:Nat} {s z0 aq:Int} (h:decide (s=1)=false) (h6:(0<=z0->z0<=4294967295->aq=dU 32 c z0)/\aq=jv c z0):(0<=z0->z0<=4294967295->aq=if s=1 then z0/2^c else dU 32 c z0)/\aq=if s=1 then z0/2^c else jv c z0:=by
 rw[if_neg (of_decide_eq_false h),if_neg (of_decide_eq_false h)];exact h6
theorem arF:TE SB (bS SB [dN] 802):=
 λ_ _ _ _ _ _ _ _ _ _ p1 aJ _ _ _ q1 q2 _ _ _ h4 _ f0 f1 h5=>⟨⟨f0,f1,trivial⟩,qZ 2 (by decide) (by decide) (by decide) (by decide) (by decide) (by decide) p1 aJ q1 q2 h4 h5⟩
theorem arI:TH SB (bS SB [dN] 803):=
 λ_ _ _ _ _ _ _ _ _ _ p1 aJ _ _ _ q1 q2 _ _ _ h4 _ f0 f1 h5=>⟨⟨f0,f1,trivial⟩,qZ 3 (by decide) (by decide) (by decide) (by decide) (by decide) (by decide) p1 aJ q1 q2 h4 h5⟩
theorem arJ:TI SB (bS SB [dN] 806):=
 λ_ _ _ _ _ _ _ _ _ _ p1 aJ _ _ _ q1 q2 _ _ _ h4 _ f0 f1 h5=>⟨⟨f0,f1,trivial⟩,qZ 6 (by decide) (by decide) (by decide) (by decide) (by decide) (by decide) p1 aJ q1 q2 h4 h5⟩
theorem arK:TJ SB (bS SB [dN] 807):=
 λ_ _ _ _ _ _ _ _ _ _ p1 aJ _ _ _ q1 q2 _ _ _ h4 _ f0 f1 h5=>⟨⟨f0,f1,trivial⟩,qZ 7 (by decide) (by decide) (by decide) (by decide) (by decide) (by decide) p1 aJ q1 q2 h4 h5⟩
theorem arz:Ty SB (bS SB [dN] 810):=
 λ_ _ _ _ _ _ _ _ _ _ p1 aJ _ _ _ q1 q2 _ _ _ h4 _ f0 f1 h5=>⟨⟨f0,f1,trivial⟩,qZ 10 (by decide) (by decide) (by decide) (by decide) (by decide) (by decide) p1 aJ q1 q2 h4 h5⟩
theorem arA:Tz SB (bS SB [dN] 811):=
 λ_ _ _ _ _ _ _ _ _ _ p1 aJ _ _ _ q1 q2 _ _ _ h4 _ f0 f1 h5=>⟨⟨f0,f1,trivial⟩,qZ 11 (by decide) (by decide) (by decide) (by decide) (by decide) (by decide) p1 aJ q1 q2 h4 h5⟩
theorem arB:TA SB (bS SB [dN] 813):=
 λ_ _ _ _ _ _ _ _ _ _ p1 aJ _ _ _ q1 q2 _ _ _ h4 _ f0 f1 h5=>⟨⟨f0,f1,trivial⟩,qZ 13 (by decide) (by decide) (by decide) (by decide) (by decide) (by decide) p1 aJ q1 q2 h4 h5⟩
theorem arC:TB SB (bS SB [dN] 817):=
 λ_ _ _ _ _ _ _ _ _ _ p1 aJ _ _ _ q1 q2 _ _ _ h4 _ f0 f1 h5=>⟨⟨f0,f1,trivial⟩,qZ 17 (by decide) (by decide) (by decide) (by decide) (by decide) (by decide) p1 aJ q1 q2 h4 h5⟩
theorem arD:TC SB (bS SB [dN] 818):=
 λ_ _ _ _ _ _ _ _ _ _ p1 aJ _ _ _ q1 q2 _ _ _ h4 _ f0 f1 h5=>⟨⟨f0,f1,trivial⟩,qZ 18 (by decide) (by decide) (by decide) (by decide) (by decide) (by decide) p1 aJ q1 q2 h4 h5⟩
theorem arE:TD SB (bS SB [dN] 819):=
 λ_ _ _ _ _ _ _ _ _ _ p1 aJ _ _ _ q1 q2 _ _ _ h4 _ f0 f1 h5=>⟨⟨f0,f1,trivial⟩,qZ 19 (by decide) (by decide) (by decide) (by decide) (by decide) (by decide) p1 aJ q1 q2 h4 h5⟩
theorem arG:TF SB (bS SB [dN] 822):=
 λ_ _ _ _ _ _ _ _ _ _ p1 aJ _ _ _ q1 q2 _ _ _ h4 _ f0 f1 h5=>⟨⟨f0,f1,trivial⟩,qZ 22 (by decide) (by decide) (by decide) (by decide) (by decide) (by decide) p1 aJ q1 q2 h4 h5⟩
theorem arH:TG SB (bS SB [dN] 825):=
 λ_ _ _ _ _ _ _ _ _ _ p1 aJ _ _ _ q1 q2 _ _ _ h4 _ f0 f1 h5=>⟨⟨f0,f1,trivial⟩,qZ 25 (by decide) (by decide) (by decide) (by decide) (by decide) (by decide) p1 aJ q1 q2 h4 h5⟩
theorem art:Tu SB (bS SB [dN] 484):=
 λ_ _ _ _ _ _ _ _ _=>⟨trivial,λ_ _ _ h5=>⟨λh _ _ _ d2 d3=>⟨trivial,λ_ _ _ h7=>⟨trivial,λ_ _ _ h8 _ _ _ bE _ e9 cm cW=>⟨⟨e9,cm,trivial⟩,xc 2 13 22 (by decide) (by decide) (by decide) h7 h8 (K3 22 h (by decide) (by decide) d2 d3) bE cW⟩⟩⟩,λh=>⟨trivial,λ_ _ _ h7=>⟨trivial,λ_ _ _ h8 _ _ _ bE _ e9 cm cW=>⟨⟨e9,cm,trivial⟩,xc 2 13 22 (by decide) (by decide) (by decide) h7 h8 (KS h h5) bE cW⟩⟩⟩⟩⟩
theorem aru:Tv SB (bS SB [dN] 485):=
 λ_ _ _ _ _ _ _ _ _=>⟨trivial,λ_ _ _ h5=>⟨λh _ _ _ d2 d3=>⟨trivial,λ_ _ _ h7=>⟨trivial,λ_ _ _ h8 _ _ _ bE _ e9 cm cW=>⟨⟨e9,cm,trivial⟩,xc 6 11 25 (by decide) (by decide) (by decide) h7 h8 (K3 25 h (by decide) (by decide) d2 d3) bE cW⟩⟩⟩,λh=>⟨trivial,λ_ _ _ h7=>⟨trivial,λ_ _ _ h8 _ _ _ bE _ e9 cm cW=>⟨⟨e9,cm,trivial⟩,xc 6 11 25 (by decide) (by decide) (by decide) h7 h8 (KS h h5) bE cW⟩⟩⟩⟩⟩
theorem arv:Tw SB (bS SB [dN] 486):=
 λ_ _ _ _ _ _ _ _ _=>⟨trivial,λ_ _ _ h5=>⟨λh _ _ _ d2 d3=>⟨trivial,λ_ _ _ h7=>⟨trivial,λ_ _ _ h8 _ _ _ bE _ e9 cm cW=>⟨⟨e9,cm,trivial⟩,xc 7 18 3 (by decide) (by decide) (by decide) h7 h8 (K3 3 h (by decide) (by decide) d2 d3) bE cW⟩⟩⟩,λh=>⟨trivial,λ_ _ _ h7=>⟨trivial,λ_ _ _ h8 _ _ _ bE _ e9 cm cW=>⟨⟨e9,cm,trivial⟩,xc 7 18 3 (by decide) (by decide) (by decide) h7 h8 (KS h h5) bE cW⟩⟩⟩⟩⟩
theorem arw:Tx SB (bS SB [dN] 487):=
 λ_ _ _ _ _ _ _ _ _=>⟨trivial,λ_ _ _ h5=>⟨λh _ _ _ d2 d3=>⟨trivial,λ_ _ _ h7=>⟨trivial,λ_ _ _ h8 _ _ _ bE _ e9 cm cW=>⟨⟨e9,cm,trivial⟩,xc 17 19 10 (by decide) (by decide) (by decide) h7 h8 (K3 10 h (by decide) (by decide) d2 d3) bE cW⟩⟩⟩,λh=>⟨trivial,λ_ _ _ h7=>⟨trivial,λ_ _ _ h8 _ _ _ bE _ e9 cm cW=>⟨⟨e9,cm,trivial⟩,xc 17 19 10 (by decide) (by decide) (by decide) h7 h8 (KS h h5) bE cW⟩⟩⟩⟩⟩
theorem arn:Tq SB (dS SB [.d HK] 489):=by
 intro z0 a0 a1 hp af b0 z2 bW c1 z3 d0 d1 h3;have hp:(ab z0).length<=1000000000:=hp;have h3:z3=((ab z0).length:Int):=h3;refine⟨⟨bO _,by omega,by rw[h3];exact bO _⟩,λz4 _ _ h4=>?_⟩;have h4:=oB h4 h3;refine⟨by show(ab z4).length<=1000000000;rw[h4];exact hp,λz5 _ _ h5 aq _ _ z7 _ _ h7=>?_⟩;have h5:ba z5=j9 aT (ba z4):=h5;rw[wk h4]at h5;have h7:z7=((ab z5).length:Int):=h7;have w7:(ba z5).length=32:=by rw[h5];unfold j9;rw[C9];rfl
 refine Vd (by rw[h7,l9]) 32 0 [] (by omega) λq h1 h2 h3=>?_;rw[CU,lu (by omega)]at h3;rw[gv];refine⟨amA (PH 32 q h1 h2),?_⟩;show [q]=[j9 aT (ba z0)];rw[h3,h5]
end Go.aX
namespace Go.aX
open Go Go.aW
def Mc (S:zzS) (K:zzK):Prop:=cQ λz0=>(ah 71 [z0]->bC λaf=>bm (-2) bT λz2=>bj 20 [z0] λz3=>ah 22 [z0,0,z3]/\ah 23 [0,z3]/\a8 22 [z0,0,z3] λz4=>a8 24 [0,z4] λz5=>(aE (decide (z3<=0)) (ah 23 [0,1]/\a8 23 [0,128] λaq=>bm (-2) bT λz7=>R6 S K z0 z3 aq 1 z7) (bm (-2) bT λaq=>ah 31 [z5,z3]/\ah 23 [z5,1]/\a8 23 [z5,128] λz7=>bm (-2) bT λak=>R6 S K z0 z3 z7 (z3+1) ak)))
theorem auS {K:List (List Int)->List (List Int)->Prop} {z0 g:Int} {h:List Int} (hg:ba g=h) (hl:h.length=8) (hb:∀x∈h,0<=x/\x<=4294967295) (hK:∀r,0<=r->r<=bV->ba r=qh aT h->K [[z0]] [[r]]):abU K z0 g:=by
 have ol:∀n,n<=8->(qh aT (h.take n)).length=4*n:=λn hn=>by rw[QE,ly,Nat.min_eq_left (by omega)];show n*4=4*n;omega
 refine⟨λs=>∃(i:Nat) (c l k:Int),s=[[(i:Int)],[c],[l],[k]]/\i<=8/\ba c=qh aT (h.take i)/\l=((4*i:Nat):Int),λs=>(8-(s.getD 0 []).getD 0 0).toNat,⟨0,0,0,-1,rfl,by decide,by rw[At];rfl,rfl⟩,?_⟩;intro i i0 i1 c bW c1 l l0 l1 k iG k1 ⟨n,c',bJ,k',e,hn,hc,yP⟩;simp only[gY,and_true]at e;obtain⟨rfl,rfl,rfl,rfl⟩:=e;have iW:(ba c).length=4*n:=by rw[hc,ol n hn]
 refine⟨λhi=>?_,λhi=>?_⟩
 ·have hi:=of_decide_eq_true hi;have hx:=hb (h.getD n 0) (by rw[kH,gF (by omega)];exact List.getElem_mem (by omega));refine⟨λs=>∃(q:Nat) (d e f:Int),s=[[24-8*(q:Int)],[d],[e],[f]]/\q<=4/\ba d=qh aT (h.take n)++(cD q).map (qG aT (h.getD n 0))/\e=((4*n+q:Nat):Int),λs=>((s.getD 0 []).getD 0 0+8).toNat,⟨0,c,l,k,rfl,by decide,by rw[hc];simp,yP⟩,?_⟩;intro s s0 s1 d d0 d1 e e0 e1 f f0 f1 ⟨q,d',pQ,k8,VL,hq,hd,he⟩;simp only[gY,and_true]at VL;obtain⟨rfl,rfl,rfl,rfl⟩:=VL;have I4:(ba d).length=4*n+q:=by rw[hd,c8,ol n hn];simp
  refine⟨λhs=>?_,λhs=>?_⟩
  ·have hs:=of_decide_eq_true hs;refine⟨⟨by omega,by omega⟩,wU (by omega) (by rw[hg];omega),λx _ _ h3 y kU eb hy u u0 fO lP oD=>⟨r8 (by rw[he,I4]),r7 (by omega),λd2 _ _ uN f2 _ _=>⟨⟨q+1,d2,e+1,f2,?_,by omega,?_,by omega⟩,?_⟩⟩⟩
   ·rw[show 24-8*(q:Int)+-8=24-8*((q+1:Nat):Int) by omega]
   ·rw[pN uN,hd,eG,adJ,fl]
    congr 2
    have h3:x=h.getD n 0:=by rw[eQ h3,hg,ek]
    show [y+-256*u]=[h.getD n 0/2^(32-8-8*q)% 256];rw[h3,show(24-8*(q:Int)).toNat=32-8-8*q by omega]at hy;rw[<-hy]
    congr 1;omega
   ·show(24-8*(q:Int)+-8+8).toNat<(24-8*(q:Int)+8).toNat;omega
  ·have hs:=of_decide_eq_false hs;have:q=4:=by omega
   subst this;refine⟨⟨n+1,d,e,f,by simp,by omega,?_,by rw[he];omega⟩,?_⟩
   ·rw[hd,Lb h n (by omega)];unfold qh;rw[List.flatMap_append]
    congr 1
   ·show(8-((n:Int)+1)).toNat<(8-(n:Int)).toNat;omega
 ·have hi:=of_decide_eq_false hi;have:n=8:=by omega
  subst this;refine⟨⟨bO _,by omega,by rw[<-l9,iW];omega⟩,λr r0 r1 hr=>hK r r0 r1 ?_⟩;rw[wk (oB hr (by rw[<-l9,iW,yP])),hc,lu (by omega)]
def l8 (b:List Int) (j k:Nat):Int:=(cD k).foldl (λy q=>y*256+b.getD (j*4+q) 0) 0
theorem UY (b:List Int) (j k:Nat):l8 b j (k+1)=l8 b j k*256+b.getD (j*4+k) 0:=by
 unfold l8;rw[adJ,List.foldl_append];rfl
theorem H6 {b:List Int} (j:Nat):∀k,(∀q,q<k->0<=b.getD (j*4+q) 0/\b.getD (j*4+q) 0<=255)->0<=l8 b j k/\l8 b j k<256^k
 |0,_=>⟨bO _,(by decide:(0:Int)<1)⟩
 |k+1,hb=>by
  have ih:=H6 j k λq hq=>hb q (by omega);have h:=hb k (by omega);rw[UY,Int.pow_succ];omega
theorem auR {c n a m0:Int} {P:Int->Prop} {B:List Int} {k:Nat} (hm:ba m0=eh 80 0) (hB:ba c=B) (hn:n=(B.length:Int)) (ha:a=((64*k:Nat):Int)) (hk:64*k+64<=B.length) (hl:B.length<=1000001000) (iC:∀m,ba m=ss aT ((B.drop (64*k)).take 64)++eh 64 0->(∀x∈ss aT ((B.drop (64*k)).take 64),0<=x/\x<=4294967295)->P m):abS c n a m0 P:=by
 obtain⟨b,uK⟩:∃b,b=(B.drop (64*k)).take 64:=⟨_,rfl⟩;obtain⟨W,hW⟩:∃W:Nat->List Int,W=λi=>(cD 80).map λj=>l8 b j (min 4 (i-4*j)):=⟨_,rfl⟩;have wl:∀i,(W i).length=80:=λi=>by rw[hW];simp
 refine⟨λs=>∃(i:Nat) (m:Int),s=[[(i:Int)],[m]]/\i<=64/\ba m=W i/\∀q,q<i->0<=b.getD q 0/\b.getD q 0<=255,λs=>(64-(s.getD 0 []).getD 0 0).toNat,⟨0,m0,rfl,by decide,by rw[hm,hW];rfl,λq hq=>absurd hq (Nat.not_lt_zero q)⟩,?_⟩;intro i i0 i1 m m0 dE ⟨p,m',e,hp,hw,dL⟩;simp only[gY,and_true]at e;obtain⟨rfl,rfl⟩:=e;have Ka:(ba m).length=80:=by rw[hw,wl]
 refine⟨λh x x0 x1 x2 x3 y kU eb gP kc=>?_,λh=>?_⟩
 ·have h:=of_decide_eq_true h;have ex:x=((p/4:Nat):Int):=by omega
  have NI:y=((p/4:Nat):Int):=by omega
  refine⟨⟨by omega,by omega⟩,wU (by omega) (by omega),λw w0 w1 uX u u0 fO lP oD t t0 t1 t2 t3=>?_⟩;have pS:t=0:=by omega
  subst pS;have Ny:a+((p:Int)+-0x10000000000000000*0)=((64*k+p:Nat):Int):=by omega
  dsimp only
  rw[Ny];refine⟨⟨by omega,by omega⟩,wU (by omega) (by rw[hB];omega),λz z0 af hz=>?_⟩;have YB:z=b.getD p 0:=by rw[eQ hz,hB,ek,uK,agD _ _ _ _ (by omega)]
  refine⟨⟨by omega,by omega⟩,wU (by omega) (by omega),λ_ m2 _ _ rU=>⟨⟨p+1,m2,rfl,by omega,?_,λq hq=>?_⟩,?_⟩⟩
  ·have alB:w=l8 b (p/4) (p% 4):=by
    rw[eQ uX,hw,hW,NI,ek,kH,List.getElem?_map,List.getElem?_range (by omega)];show l8 b (p/4) (min 4 (p-4*(p/4)))=_;rw[show min 4 (p-4*(p/4))=p% 4 by omega]
   have hlt:l8 b (p/4) (p% 4)<16777216:=by
    have h1:=(H6 (b:=b) (p/4) (p% 4) λq hq=>dL _ (by omega)).2;have h2:=(by decide:∀k,k<4->(256:Int)^k<=16777216) (p% 4) (by omega);omega
   have e8:=(H6 (b:=b) (p/4) (p% 4) λq hq=>dL _ (by omega)).1;have ag5:u=0:=by omega
   rw[UE rU,hw,ex,ek,hW];refine atM (by omega) ?_ λj hj hne=>?_
   ·show l8 b (p/4) (min 4 (p+1-4*(p/4)))=_;rw[show min 4 (p+1-4*(p/4))=p% 4+1 by omega,UY,show p/4*4+p% 4=p by omega,ag5,alB,YB];omega
   ·show l8 b j (min 4 (p+1-4*j))=l8 b j (min 4 (p-4*j));rw[show min 4 (p+1-4*j)=min 4 (p-4*j) by omega]
  ·rcases Nat.lt_or_ge q p with h1|h1
   ·exact dL q h1
   ·rw[show q=p by omega,<-YB];exact⟨z0,af⟩
  ·show(64-((p:Int)+1)).toNat<(64-(p:Int)).toNat;omega
 ·have h:=of_decide_eq_false h;have:p=64:=by omega
  subst this;refine iC m ?_ ?_
  rotate_left
  ·intro x hx;rw[<-uK]at hx;obtain⟨j,hj,rfl⟩:=List.mem_map.1 hx;have hj:=List.mem_range.1 hj;have h4:=H6 (b:=b) j 4 λq hq=>dL _ (by omega);have e4:(256:Int)^4=4294967296:=by decide
   rw[e4]at h4;have hw:vC aT b j=l8 b j 4:=rfl;rw[hw];omega
  have e1:(cD 80).map (λj=>l8 b j (min 4 (64-4*j)))=(cD 16).map (vC aT b)++eh 64 0:=by
   rw[show(80:Nat)=16+64 from rfl,List.range_add,fl,jf];have fO:(cD 16).map (λj=>l8 b j (min 4 (64-4*j)))=(cD 16).map (vC aT b):=gw λj hj=>by
    have hj:=List.mem_range.1 hj;show l8 b j (min 4 (64-4*j))=l8 b j 4;rw[show min 4 (64-4*j)=4 by omega]
   rw[fO];refine congrArg _ (List.eq_replicate_iff.2 ⟨by simp,λx hx=>?_⟩);obtain⟨j,_,rfl⟩:=List.mem_map.1 hx;show l8 b (16+j) (min 4 (64-4*(16+j)))=0;rw[show min 4 (64-4*(16+j))=0 by omega];rfl
  rw[hw,hW,<-uK];exact e1
theorem aoX (m:List Int):0<=qY aT m/\qY aT m<=4294967295:=by unfold qY;rw[pe];omega
theorem NC:∀(j:Nat) (m:List Int),(∀x∈m,0<=x/\x<=4294967295)->∀x∈mb aT j m,0<=x/\x<=4294967295
 |0,m,h=>h
 |j+1,m,h=>NC j (m++[qY aT m]) λx hx=>by
  rcases List.mem_append.1 hx with hx|hx
  ·exact h x hx
  ·rw[List.mem_singleton.1 hx];exact aoX m
theorem NX {l:List Int} (h:∀x∈l,0<=x/\x<=4294967295) (i:Nat):0<=l.getD i 0/\l.getD i 0<=4294967295:=by
 rw[kH];cases hi:l[i]? with
 |none=>exact⟨bO _,by decide⟩
 |some x=>exact h x (List.mem_of_getElem? hi)
theorem auU {m0:Int} {P:Int->Prop} {ws:List Int} (hm:ba m0=ws++eh 64 0) (hl:ws.length=16) (Bm:∀x∈ws,0<=x/\x<=4294967295) (iC:∀m,ba m=sched aT ws++eh 16 0->P m):abX SB m0 P:=by
 have el:∀j,(mb aT j ws).length=16+j:=λj=>by rw[Iv,hl]
 refine⟨λs=>∃(j:Nat) (m:Int),s=[[((16+j:Nat):Int)],[m]]/\j<=48/\ba m=mb aT j ws++eh (64-j) 0,λs=>(64-(s.getD 0 []).getD 0 0).toNat,⟨0,m0,rfl,by decide,hm⟩,?_⟩;intro i i0 i1 m m0 dE ⟨j,m',e,hj,hw⟩;simp only[gY,and_true]at e;obtain⟨rfl,rfl⟩:=e;have Ka:(ba m).length=80:=by rw[hw,c8,el,List.length_replicate];omega
 refine⟨λh=>?_,λh=>?_⟩
 ·have h:=of_decide_eq_true h;have rd:∀(d:Nat) (x y:Int),1<=d->d<=16->y=((16+j:Nat):Int)+-(d:Int)->x=aB 21 [m,y,0]->x=(mb aT j ws).getD ((mb aT j ws).length-d) 0:=λd x y h1 h2 hy hx=>by
   rw[eQ hx,hw,hy,show(((16+j:Nat):Int)+-(d:Int)).toNat=16+j-d by omega,el];rw[kH,kH,pE (by rw[el];omega)]
  have cf:∀d:Int,0<=d->d<=16->ah 30 [((16+j:Nat):Int)+-d,80]/\ah 21 [m,((16+j:Nat):Int)+-d]:=λd h1 h2=>⟨⟨by omega,by omega⟩,wU (by omega) (by omega)⟩;refine⟨(cf 16 (by decide) (by decide)).1,(cf 16 (by decide) (by decide)).2,λa a0 a1 ha=>⟨(cf 15 (by decide) (by decide)).1,(cf 15 (by decide) (by decide)).2,λb b0 b1 hb=>⟨trivial,λs s0 s1 hs o xe xf mq o3=>⟨(cf 7 (by decide) (by decide)).1,(cf 7 (by decide) (by decide)).2,λc bW c1 hc p p0 p1 aJ bb=>⟨(cf 2 (by decide) (by decide)).1,(cf 2 (by decide) (by decide)).2,λd d0 d1 hd=>⟨trivial,λt t0 t1 ht q q0 q1 q2 q3 x x0 x1 hx=>⟨⟨by omega,by omega⟩,wU (by omega) (by omega),λ_ m2 _ _ rU=>⟨⟨j+1,m2,by rw[show((16+(j+1):Nat):Int)=((16+j:Nat):Int)+1 by omega],by omega,?_⟩,?_⟩⟩⟩⟩⟩⟩⟩⟩
  ·have ha:=rd 16 a _ (by decide) (by decide) rfl ha;have hb:=rd 15 b _ (by decide) (by decide) rfl hb;have hc:=rd 7 c _ (by decide) (by decide) rfl hc;have hd:=rd 2 d _ (by decide) (by decide) rfl hd;have uu:=NX (NC j ws Bm) ((mb aT j ws).length-15);have dG:=NX (NC j ws Bm) ((mb aT j ws).length-2);rw[<-hb]at uu;rw[<-hd]at dG;have hs:0<=b->b<=4294967295->s=Cu aT b:=And.left (show _/\s=vj 7 18 3 1 b from hs);have ht:0<=d->d<=4294967295->t=Cv aT d:=And.left (show _/\t=vj 17 19 10 1 d from ht);have hs:=hs uu.1 uu.2;have ht:=ht dG.1 dG.2;have hx:[[x]]=[[(a+(s+(-0x10000000000000000*o+(c+(-0x10000000000000000*p+(t+-0x10000000000000000*q))))))% 4294967296]]:=hx;have hx:x=(a+(s+(-0x10000000000000000*o+(c+(-0x10000000000000000*p+(t+-0x10000000000000000*q))))))% 4294967296:=by simpa using hx
   have agX:x=qY aT (mb aT j ws):=by
    unfold qY;rw[pe,<-ha,<-hb,<-hc,<-hd,<-hs,<-ht,hx];omega
   rw[UE rU,hw,NF,<-agX,show 64-j=(64-(j+1))+1 by omega,List.replicate_succ,show((16+j:Nat):Int).toNat=16+j by omega,RD _ _ _ _ _ (el j),eG];rfl
  ·show(64-(((16+j:Nat):Int)+1)).toNat<(64-((16+j:Nat):Int)).toNat;omega
 ·have h:=of_decide_eq_false h;have:j=48:=by omega
  subst this;refine iC m ?_;rw[hw];rfl
theorem auT {m:Int} {h:List Int} {P:List Int->Prop} {ms:List Int} (hm:ba m=ms++eh 16 0) (hl:ms.length=64) (ag:h.length=8) (Xe:∀x∈h,0<=x/\x<=4294967295) (iC:bd (jb 0 0xffffffffffffffff 8) (pq aT 0 ms h)->(∀x∈pq aT 0 ms h,0<=x/\x<=4294967295)->P (pq aT 0 ms h)):abW SB m h P:=by
 refine⟨λs=>∃i:Nat,s=[[(i:Int)],pq aT 0 (ms.take i) h]/\i<=64/\∀x∈pq aT 0 (ms.take i) h,0<=x/\x<=4294967295,λs=>(64-(s.getD 0 []).getD 0 0).toNat,⟨0,rfl,by decide,Xe⟩,?_⟩;intro i i0 i1 v hv ⟨n,e,hn,Ju⟩;simp only[gY,and_true]at e;obtain⟨rfl,rfl⟩:=e;obtain⟨GD,vb⟩:=E4 8 _ hv;refine⟨λhi=>?_,λhi=>?_⟩
 ·have hi:=of_decide_eq_true hi;obtain⟨v,EM⟩:∃v,v=pq aT 0 (ms.take n) h:=⟨_,rfl⟩;rw[<-EM]at GD vb Ju⊢;have fZ:=λi=>NX Ju i;refine⟨trivial,λa a0 a1 ha o xe xf mq o3 b b0 b1 hb c bW c1 hc d d0 d1 hd p p0 p1 aJ bb=>⟨⟨by omega,by omega⟩,λe0 aAg aAh Xp e aAi aAj aAk aAl q q0 q1 q2 q3=>⟨⟨by omega,by omega⟩,wU (by omega) (by rw[hm,c8];omega),λx x0 x1 hx r r0 r1 r2 r3 t t0 t1 ht=>⟨trivial,λf f0 f1 hf g1 _ _ h1 g2 _ _ h2 g3 _ _ h3 g4 _ _ h4 g5 _ _ h5 ZY aBC xj xk aBI u u0 fO hu ZZ aB9 KA KB B5 y kU eb hy Z0 aCx aCy aCz aCA w w0 w1 hw=>⟨⟨n+1,?_,by omega,?_⟩,?_⟩⟩⟩⟩⟩
  rotate_left 1
  ·refineλx hx=>?_
   rw[show ms.take (n+1)=ms.take n++[ms.getD n 0] from Lb ms n (by omega),KT,<-EM,show 0+(ms.take n).length=n by rw[ly];omega,RP n _ GD]at hx;simp only[pe]at hx;simp only[kg,List.not_mem_nil,or_false]at hx;rcases hx with rfl|rfl|rfl|rfl|rfl|rfl|rfl|rfl
   ·exact⟨by omega,by omega⟩
   ·exact fZ 0
   ·exact fZ 1
   ·exact fZ 2
   ·exact⟨by omega,by omega⟩
   ·exact fZ 4
   ·exact fZ 5
   ·exact fZ 6
  rotate_left 1
  ·have ha:0<=v.getD 4 0->v.getD 4 0<=4294967295->a=wj aT (v.getD 4 0):=And.left (show _/\a=vj 6 11 25 0 (v.getD 4 0) from ha);have ha:=ha (fZ 4).1 (fZ 4).2;have hf:0<=v.getD 0 0->v.getD 0 0<=4294967295->f=wi aT (v.getD 0 0):=And.left (show _/\f=vj 2 13 22 0 (v.getD 0 0) from hf);have hf:=hf (fZ 0).1 (fZ 0).2;have hx:x=ms.getD n 0:=by
    rw[eQ hx,hm,ek,kH,kH,pE (by omega)]
   have he:e=zw aT n:=by
    rw[ek]at Xp;show _=si.getD n 0/2^(64-32);rw[<-Xp,show(2:Int)^(64-32)=4294967296 by decide];omega
   have ht:[[t]]=[[(v.getD 7 0+(a+(-0x10000000000000000*o+(d+(-0x10000000000000000*p+(e+(-0x10000000000000000*q+(x+-0x10000000000000000*r))))))))% 4294967296]]:=ht;have ht:t=(v.getD 7 0+(a+(-0x10000000000000000*o+(d+(-0x10000000000000000*p+(e+(-0x10000000000000000*q+(x+-0x10000000000000000*r))))))))% 4294967296:=by simpa using ht
   have hu:[[u]]=[[(f+(g5+-0x10000000000000000*ZY))% 4294967296]]:=hu;have hu:u=(f+(g5+-0x10000000000000000*ZY))% 4294967296:=by simpa using hu
   have hy:[[y]]=[[(t+(u+-0x10000000000000000*ZZ))% 4294967296]]:=hy;have hy:y=(t+(u+-0x10000000000000000*ZZ))% 4294967296:=by simpa using hy
   have hw:[[w]]=[[(v.getD 3 0+(t+-0x10000000000000000*Z0))% 4294967296]]:=hw;have hw:w=(v.getD 3 0+(t+-0x10000000000000000*Z0))% 4294967296:=by simpa using hw
   have af0:d=yg aT (v.getD 4 0) (v.getD 5 0) (v.getD 6 0):=by
    unfold yg;have x1:=Db (fZ 4).1 (by have:=(fZ 4).2;omega) (fZ 5).1 (by have:=(fZ 5).2;omega);have x2:=aoV (fZ 4).1 (by have:=(fZ 4).2;omega) (fZ 6).1 (by have:=(fZ 6).2;omega);have x3:=Db (x:=4294967295-v.getD 4 0) (by have:=(fZ 4).2;omega) (by have:=(fZ 4).1;omega) (fZ 6).1 (by have:=(fZ 6).2;omega);have hb:=hb.trans x1.1;have hc:=hc.trans x2;rw[hd,hb,hc,(CC x1.2.1 x1.2.2 x3.2.1 x3.2.2).1];show _=aZ .xor .u32 (aZ .and .u32 (v.getD 4 0) (v.getD 5 0)) (aZ .and .u32 ((2:Int)^32-1-v.getD 4 0) (v.getD 6 0));rw[show(2:Int)^32-1-v.getD 4 0=4294967295-v.getD 4 0 by rw[show(2:Int)^32=4294967296 by decide];omega]
   have aoG:g5=BS aT (v.getD 0 0) (v.getD 1 0) (v.getD 2 0):=by
    unfold BS;have x1:=Db (fZ 0).1 (by have:=(fZ 0).2;omega) (fZ 1).1 (by have:=(fZ 1).2;omega);have x2:=Db (fZ 0).1 (by have:=(fZ 0).2;omega) (fZ 2).1 (by have:=(fZ 2).2;omega);have bL:=Db (fZ 1).1 (by have:=(fZ 1).2;omega) (fZ 2).1 (by have:=(fZ 2).2;omega);have x3:=CC x1.2.1 x1.2.2 x2.2.1 x2.2.2;have h1:=h1.trans x1.1;have h2:=h2.trans x2.1;have h4:=h4.trans bL.1;have h3:g3=aZ .xor .u32 (aZ .and .u32 (v.getD 0 0) (v.getD 1 0)) (aZ .and .u32 (v.getD 0 0) (v.getD 2 0)):=by rw[h3,h1,h2];exact x3.1
    rw[h5,h3,h4];exact(CC x3.2.1 x3.2.2 bL.2.1 bL.2.2).1
   have t1:t=md aT (v.getD 7 0+wj aT (v.getD 4 0)+yg aT (v.getD 4 0) (v.getD 5 0) (v.getD 6 0)+zw aT n+ms.getD n 0):=by
    rw[pe,<-ha,<-af0,<-he,<-hx];omega
   have fO:u=md aT (wi aT (v.getD 0 0)+BS aT (v.getD 0 0) (v.getD 1 0) (v.getD 2 0)):=by
    rw[pe,<-hf,<-aoG];omega
   rw[Lb ms n (by omega),KT,<-EM,show 0+(ms.take n).length=n by rw[ly];omega,RP n _ GD,<-t1,<-fO];simp only[pe];rw[show(t+u)% 4294967296=y by omega,show(v.getD 3 0+t)% 4294967296=w by omega];rfl
  ·show(64-((n:Int)+1)).toNat<(64-(n:Int)).toNat;omega
 ·have hi:=of_decide_eq_false hi;have:n=64:=by omega
  subst this;rw[lu (by omega)]at hv Ju⊢;exact iC hv Ju
theorem abT {h v:List Int} {P:List Int->Prop}:∀(n i:Nat) (acc:List Int),P (acc++(cD n).map λj=>md aT (h.getD (i+j) 0+v.getD (i+j) 0))->R5 SB h v n i acc P
 |0,i,acc,iC=>by
  show P acc;simpa using iC
 |n+1,i,acc,iC=>λo xe xf mq o3 y kU eb hy=>abT n (i+1) (acc++[y]) (by
  have hy:[[y]]=[[(h.getD i 0+(v.getD i 0+-0x10000000000000000*o))% 4294967296]]:=hy;have hy:y=(h.getD i 0+(v.getD i 0+-0x10000000000000000*o))% 4294967296:=by simpa using hy
  have e:y=md aT (h.getD (i+0) 0+v.getD (i+0) 0):=by rw[pe,Nat.add_zero];omega
  rw[List.range_succ_eq_map,List.map_cons,<-e,jf]at iC;rw[eG];refine Eq.mp (congrArg (λl=>P (acc++([y]++l))) (gw λj _=>?_)) iC;show md aT (h.getD (i+(j+1)) 0+v.getD (i+(j+1)) 0)=_;rw[show i+(j+1)=i+1+j by omega])
theorem acS:∀(l m:List Int),∀x∈List.zipWith (λa b=>md aT (a+b)) l m,0<=x/\x<=4294967295
 |[],_,x,hx=>by simp at hx
 |_::_,[],x,hx=>by simp at hx
 |a::l,b::m,x,hx=>by
  rw[List.zipWith_cons_cons,kg]at hx;rcases hx with rfl|hx
  ·rw[pe];omega
  ·exact acS l m x hx
theorem auQ {K:List (List Int)->List (List Int)->Prop} {z0 c n:Int} {B:List Int} {q:Nat} (hB:ba c=B) (hn:n=(B.length:Int)) (hq:B.length=64*q) (hl:B.length<=1000001000) (hK:∀r,0<=r->r<=bV->ba r=rB aT B->K [[z0]] [[r]]):R4 SB K z0 c n:=by
 refine⟨λs=>∃k:Nat,s=[[((64*k:Nat):Int)],qE aT B k (mE aT)]/\k<=q/\∀x∈qE aT B k (mE aT),0<=x/\x<=4294967295,λs=>(n-(s.getD 0 []).getD 0 0).toNat,⟨0,by rw[show qE aT B 0 (mE aT)=mE aT from rfl,MR];rfl,Nat.zero_le _,by rw[show qE aT B 0 (mE aT)=mE aT from rfl,MR];decide⟩,?_⟩;intro a a0 a1 h ag ⟨k,e,hk,gK⟩;simp only[gY,and_true]at e;obtain⟨rfl,e⟩:=e;obtain⟨h8,dL⟩:=E4 8 _ ag;rw[<-e]at gK;refine⟨λhi=>?_,λhi=>?_⟩
 ·have hi:=of_decide_eq_true hi;refine Ie 80 0 0 (by decide) λm hm=>auR (k:=k) (by rw[hm,At];rfl) hB hn rfl (by omega) hl λm2 rU Yk=>auU rU (by unfold ss;simp) Yk λm3 tf=>auT tf ?_ h8 gK λ_ _=>abT 8 0 [] ?_
  ·unfold sched;rw[Iv];unfold ss;simp;rfl
  ·intro o xe xf mq o3;have:o=0:=by omega
   subst this;rw[show((64*k:Nat):Int)+-0x10000000000000000*0+64=((64*(k+1):Nat):Int) by omega];refine⟨⟨by omega,by omega⟩,⟨k+1,?_,by omega,?_⟩,?_⟩
   ·show _=[[((64*(k+1):Nat):Int)],tM aT (qE aT B k (mE aT)) (ss aT ((B.drop (64*k)).take 64))];rw[<-e];unfold tM;rw[acQ _ h8 (by rw[Rm _ _ _ _ h8])];rfl
   ·show ∀x∈tM aT (qE aT B k (mE aT)) (ss aT ((B.drop (64*k)).take 64)),_;unfold tM
    exactλx hx=>acS _ _ x hx
   ·show(n-((64*(k+1):Nat):Int)).toNat<(n-((64*k:Nat):Int)).toNat;omega
 ·have hi:=of_decide_eq_false hi;have:k=q:=by omega
  subst this;refine Ie 8 0 0 (by omega) λg hg=>auS (h:=h) (by rw[hg,At,gv,CU,lu (by omega)]) h8 gK λr r0 r1 hr=>hK r r0 r1 ?_;rw[hr,e];unfold rB;rw[hq];show _=qh aT (qE aT B (64*k/64) (mE aT));rw[Nat.mul_div_cancel_left _ (by decide)]
theorem auP {K:List (List Int)->List (List Int)->Prop} {z0 z3 c l:Int} {B:List Int} {N:Nat} (h3:z3=(N:Int)) (hN:N<=1000000000) (hB:ba c=B) (hl:l=(B.length:Int)) (hb:B.length<=1000000900) (iC:∀z,ba z=B++wh (8*N)->R4 SB K z0 z (l+8)):abR SB K z0 z3 c l:=by
 intro aw a0 a1 a2 a3 bF b0 b1 b2 b3;refine⟨r8 (by rw[hB,hl]),r7 (by rw[hB];omega),λbY _ _ iU aF _ _ dH d0 d1 d2 d3 z20 e0 e1 e2 e3=>?_⟩;have iU:ba bY=B++[bF]:=by rw[pN iU,hB]
 refine⟨r8 (by rw[iU];simp;omega),r7 (by rw[iU];simp;omega),λz21 _ _ sZ aI _ _ eB f0 f1 f2 f3 z24 g0 g1 g2 g3=>?_⟩;have sZ:=pN sZ;rw[iU,eG]at sZ;refine⟨r8 (by rw[sZ];simp;omega),r7 (by rw[sZ];simp;omega),λfB _ _ mK cq _ _ jT i0 i1 i2 i3 z28 e9 cm eT j6=>?_⟩;have mK:=pN mK;rw[sZ,eG]at mK;refine⟨r8 (by rw[mK];simp;omega),r7 (by rw[mK];simp;omega),λiw _ _ wD lr _ _ z31 iG k1 k2 k3 jU l0 l1 l2 l3=>?_⟩;have wD:=pN wD;rw[mK,eG]at wD;refine⟨r8 (by rw[wD];simp;omega),r7 (by rw[wD];simp;omega),λkV _ _ wE pz _ _ pA m0 dE m2 m3 qs n0 n1 n2 n3=>?_⟩;have wE:=pN wE;rw[wD,eG]at wE;refine⟨r8 (by rw[wE];simp;omega),r7 (by rw[wE];simp;omega),λz37 _ _ wF xD _ _ vE p0 p1 aJ bb z40 q0 q1 q2 q3=>?_⟩;have wF:=pN wF;rw[wE,eG]at wF;refine⟨r8 (by rw[wF];simp;omega),r7 (by rw[wF];simp;omega),λqt _ _ AV nP _ _ sw r0 r1 r2 r3=>?_⟩;have AV:=pN AV;rw[wF,eG]at AV;refine⟨r8 (by rw[AV];simp;omega),r7 (by rw[AV];simp;omega),λGM _ _ IQ eg _ _=>iC GM ?_⟩;have IQ:=pN IQ;rw[AV,eG]at IQ;rw[IQ]
 congr 1
 have t0:bF=((8*N/72057594037927936% 256:Nat):Int):=by omega
 have t1:dH+-256*z20=((8*N/281474976710656% 256:Nat):Int):=by omega
 have t2:eB+-256*z24=((8*N/1099511627776% 256:Nat):Int):=by omega
 have t3:jT+-256*z28=((8*N/4294967296% 256:Nat):Int):=by omega
 have t4:z31+-256*jU=((8*N/16777216% 256:Nat):Int):=by omega
 have t5:pA+-256*qs=((8*N/65536% 256:Nat):Int):=by omega
 have t6:vE+-256*z40=((8*N/256% 256:Nat):Int):=by omega
 have t7:8*z3+(-0x10000000000000000*aw+-256*sw)=((8*N/1% 256:Nat):Int):=by omega
 rw[t0,t1,t2,t3,t4,t5,t6,t7];rfl
theorem abV {K:List (List Int)->List (List Int)->Prop} {z0 z3 c l k:Int} {b:List Int} {N:Nat} (h3:z3=(N:Int)) (hN:N<=1000000000) (hb:b.length=N) (hc:ba c=b++[128]) (hl:l=(N:Int)+1) (hK:∀r,0<=r->r<=bV->ba r=j9 aT b->K [[z0]] [[r]]):R6 SB K z0 z3 c l k:=by
 obtain⟨q1,⟨q,q2⟩,q3⟩:=aao b;rw[hb]at q1 q2 q3;have e8:N+9<=mT 32 N:=by
  show N+9<=(N+1+32/4+(2*32-1))/(2*32)*(2*32);omega
 have XY:mr z3 32=((mT 32 N:Nat):Int):=by
  unfold mr;rw[if_neg (by omega),h3,ek];rfl
 obtain⟨M,hM⟩:∃M,M=mT 32 N:=⟨_,rfl⟩;rw[<-hM]at q1 q2 q3 e8 XY;refine⟨λs=>∃(j:Nat) (c l k:Int),s=[[c],[l],[k]]/\l=((N+1+j:Nat):Int)/\ba c=b++[128]++eh j 0/\N+1+j<=M-8,λs=>((M:Int)-(s.getD 1 []).getD 0 0).toNat,⟨0,c,l,k,rfl,by omega,by rw[hc];simp,by omega⟩,?_⟩;intro aC _ _ aD _ _ z12 _ _ ⟨j,c',bJ,k',e,h11,cW,hj⟩ aU _ _ hp aP xe xf mq o3;simp only[gY,and_true]at e;obtain⟨rfl,rfl,rfl⟩:=e;have hp:[[aU]]=[[mr z3 32]]:=hp;have hp:aU=(M:Int):=by rw[<-XY];simpa using hp
 have lc:(ba aC).length=N+1+j:=by rw[cW];simp;omega
 refine⟨λh=>?_,λh=>?_⟩
 ·have h:=of_decide_eq_true h;refine⟨r8 (by rw[lc,h11]),r7 (by omega),λaw _ _ jj bF _ _=>⟨⟨j+1,aw,aD+1,bF,rfl,by omega,?_,by omega⟩,?_⟩⟩
  ·rw[pN jj,cW,eG,List.replicate_succ']
  ·show((M:Int)-(aD+1)).toNat<((M:Int)-aD).toNat;omega
 ·have h:=of_decide_eq_false h;have agU:j=M-N-9:=by omega
  refine auP h3 hN cW (by rw[h11,<-lc,cW]) (by rw[<-cW,lc];omega) λz hz=>?_;have hz:ba z=sd aT b:=by
   rw[hz,agU,hM];unfold sd;rw[hb];rfl
  have yk:aD+8=((sd aT b).length:Int):=by rw[q1];omega
  exact auQ (q:=q) hz yk (by rw[q1,q2]) (by rw[q1];omega) hK
theorem ary:Mc SB (dS SB [zg] 488):=by
 delta Mc aE bm bC bj cQ a8 bT;dsimp only
 intro z0 a0 a1 hp af b0 z2 bW c1 z3 d0 d1 h3;have hp:(ab z0).length<=1000000000:=hp;have h3:z3=((ab z0).length:Int):=h3;refine⟨⟨bO _,by omega,by rw[h3];exact bO _⟩,by show((ab 0).length:Int)+z3<=1073741824;rw[eV];simp;omega,λz4 _ _ h4 z5 _ _ h5=>?_⟩;have h5:ba z5=ba z0:=by rw[afd h5,At,gv,wk (oB h4 h3)]
 have cf:∀r,0<=r->r<=bV->ba r=j9 aT (ba z0)->dS SB [zg] 488 [[z0]] [[r]]:=λr h0 h1 hr=>⟨⟨h0,h1,trivial⟩,hr⟩;exact⟨λh=>by
  have h:=of_decide_eq_true h;have hn:ba z0=[]:=List.eq_nil_of_length_eq_zero (by rw[l9];omega);refine⟨by show((ab 0).length:Int)+1<=1073741824;rw[eV];decide,λaq _ _ h6 z7 _ _=>?_⟩;exact abV h3 hp (l9 z0) (by rw[pN h6,At,hn]) (by omega) cf,λ_ aq _ _=>⟨r8 (by rw[h5,l9];exact h3),r7 (by rw[h5,l9];omega),λz7 _ _ h7 ak _ _=>abV h3 hp (l9 z0) (by rw[pN h7,h5]) (by omega) cf⟩⟩
end Go.aX
namespace Go.aX
open Go Go.aW
def Tt (S:zzS) (K:zzK):Prop:=cl λz0=>∀r1:List Int,bd (jb 0 b8 2) r1->(ah 90 [z0,(ar r1 0 0),(ar r1 1 0)]->ah 3 [(ar r1 1 0),33]/\cP 3 [(ar r1 1 0),33] λz3=>ah 3 [z3,(ar r1 0 0)]/\cP 3 [z3,(ar r1 0 0)] λz4=>ah 3 [z4,33]/\cP 3 [z4,33] λz5=>ah 3 [z5,z0]/\cP 3 [z5,z0] λaq=>a8 27 [aq] λz7=>bj 0 [aq] λak=>bm (-2) 0x7fffffffffffffff λz9=>ah 22 [z7,0,ak]/\a8 22 [z7,0,ak] λaC=>ah 71 [aC]/\∀zq:List Int,bd (jb 0 255 32) zq->S 489 [[aC]] [zq]->Dv zq 0 32 0 λqu=>ah 48 [qu]/\cl λz75=>S 222 [[qu]] [[z75]]->K [[z0],r1] [[z75]])
theorem ars:Tt SB (dS SB [.d .str] 771):=by
 intro z0 n0 n1 r1 hr h;have h:∀z∈([z0,r1.getD 0 0,r1.getD 1 0]:List Int),(aa z).length<=10000000:=by simpa only[ah,uz]using h
 have l0:=h z0 (by simp);have l1:=h (r1.getD 0 0) (by simp);have l2:=h (r1.getD 1 0) (by simp);clear h;have hsp:aa (33:Int)=[32]:=by decide
 have nw:dP=0x7ffffffff000:=rfl;refine⟨?_,λz3 _ _ h3=>?_⟩
 ·show(aa (r1.getD 1 0)).length+(aa 33).length<=dP;rw[hsp,nw];simp only[dj,fe];omega
 have h3:=Cm h3;rw[hsp]at h3;have q3:=congrArg jg h3;simp only[c8,dj,fe]at q3;refine⟨?_,λz4 _ _ h4=>?_⟩
 ·show(aa z3).length+(aa (r1.getD 0 0)).length<=dP;rw[nw];omega
 have h4:=Cm h4;have dr:=congrArg jg h4;rw[c8]at dr;refine⟨?_,λz5 _ _ h5=>?_⟩
 ·show(aa z4).length+(aa 33).length<=dP;rw[hsp,nw];simp only[dj,fe];omega
 have h5:=Cm h5;rw[hsp]at h5;have kA:=congrArg jg h5;simp only[c8,dj,fe]at kA;refine⟨?_,λaq _ _ h6 z7 _ _ h7 ak _ _ h8 z9 _ _=>?_⟩
 ·show(aa z5).length+(aa z0).length<=dP;rw[nw];omega
 have h6:=Cm h6;have ox:=congrArg jg h6;rw[c8]at ox;have h7:=MZ h7;have t7:(ab z7).length=(aa aq).length:=by rw[h7];simp[mY]
 have h8:ak=((ab z7).length:Int):=by rw[t7];exact h8
 refine⟨⟨bO _,by omega,by omega⟩,λaC _ _ cW=>?_⟩;have cW:=whole h8 cW;refine⟨by show(ab aC).length<=1000000000;rw[cW,t7];omega,λzq aAX hs=>?_⟩;have hs:[zq]=[j9 aT (ba aC)]:=hs;simp only[gY,and_true]at hs;have ae9:ba aC=mY (aa aq):=by rw[wk cW];exact M0 h7
 rw[ae9]at hs;have hlen:zq.length=32:=by rw[hs];exact C9 _ _
 refine Ie 32 0 0 (by omega) λqu Nw=>?_;rw[At,gv,CU,lu (by omega)]at Nw;have aAP:(ab qu).length=32:=by rw[<-l9,Nw,hlen]
 refine⟨by show(ab qu).length<=1099511627776;omega,λz75 p0 p1 DW=>⟨⟨p0,p1,trivial⟩,?_⟩⟩;have DW:aa z75=eU (cK qu):=DW;show aa z75=qJ (aa z0) (kE r1);have oY:cK qu=zq.map λz=>jV z.toNat:=by
  rw[<-Nw];unfold cK ba;rw[jf];rfl
 have gh:aa aq=ju (kE r1)++([32]++aa z0):=by
  rw[h6,h5,h4,h3];unfold ju kE;simp
 rw[DW,oY,hs,gh];show _=eU ((j9 aT (mY (ju (kE r1))++([32]++mY (aa z0)))).map λz=>jV z.toNat);unfold mY;simp
end Go.aX
namespace Go.aX
open Go Go.aW Go.Proofs
theorem awz:gH Tryz.prog b6 wZ (cn [] []) anA aoj [1,1] TO:=λ_ _=>by kernel_rfl
theorem awA:gH Tryz.prog b6 w5 (cn [] []) anB aok [1,1] TP:=λ_ _=>by kernel_rfl
theorem awB:gH Tryz.prog b6 BM (cn [] [wZ,w5]) dB dC [1] TQ:=λ_ _=>by kernel_rfl
theorem awx:gH Tryz.prog b6 BK (cn [] [wZ,w5]) dB dC [1] TM:=λ_ _=>by kernel_rfl
theorem avx:gH Tryz.prog b6 Bq (cn [] [nH]) dB dC [1] S8:=λ_ _=>by kernel_rfl
theorem avB:gH Tryz.prog b6 Bt (cn [] [nH]) dB dC [1] Ta:=λ_ _=>by kernel_rfl
theorem avC:gH Tryz.prog b6 wV (cn [] [nH]) dB dC [1] Tb:=λ_ _=>by kernel_rfl
theorem av1:gH Tryz.prog b6 BA (cn [] [nH]) anr aob [1,1] Tp:=λ_ _=>by kernel_rfl
theorem avL:gH Tryz.prog b6 tj (cn [] [nH]) ank an4 [1,1] Th:=λ_ _=>by kernel_rfl
theorem aww:gH Tryz.prog b6 BJ (cn [] []) anx aoh [1] TL:=λ_ _=>by kernel_rfl
theorem awy:gH Tryz.prog b6 BL (cn [] []) anz aoi [1] TN:=λ_ _=>by kernel_rfl
theorem awv:gH Tryz.prog b6 BI (cn [] []) anw aog [1] TK:=λ_ _=>by kernel_rfl
theorem avY:gH Tryz.prog b6 Bz (cn [] []) anq aoa [1] Tn:=λ_ _=>by kernel_rfl
theorem avK:gH Tryz.prog b6 Bw (cn [B8] [BL,BJ,tj]) dB dC [1] LZ:=λ_ _=>by kernel_rfl
theorem avX:gH Tryz.prog b6 By (cn [B8] [BA,BK]) dB dC [1] L7:=λ_ _=>by kernel_rfl
theorem awq:gH Tryz.prog b6 wY (cn [] [wV,Bw,BI,tj]) dB dC [1] Md:=λ_ _=>by kernel_rfl
theorem avE:gH Tryz.prog b6 Bv (cn [] [BM,Bt,By,Bq,wY,Bz,nH]) dB dC [1] LY:=λ_ _=>by kernel_rfl
end Go.aX
namespace Go.aX
open Go Go.aW Go.Proofs
theorem av0 (S K):iR sh dC S K [1,1] (cE Fb.args) Fb.res (FT.tree Tryz.prog b6 (cn [KE] [Bv]) dB 600 6)=To S K:=by kernel_rfl
theorem av6 (S K):iR sh dC S K [2] (cE Fc.args) Fc.res (FU.tree Tryz.prog b6 (cn [FT] []) dB 600 6)=Ts S K:=by kernel_rfl
theorem awC:gH Tryz.prog b6 BN (cn [] []) anC aol [1] TR:=λ_ _=>by kernel_rfl
theorem awE:gH Tryz.prog b6 BO (cn [] [wV,BN,tj,wY]) dB dC [1] TT:=λ_ _=>by kernel_rfl
end Go.aX
namespace Go.aX
open Go Go.aW Go.Proofs
theorem avw (S K):iR sh dC S K [4] (cE E8.args) E8.res (FR.tree Tryz.prog b6 (cn [FU] [BO]) dB 600 6)=LU S K:=by kernel_rfl
theorem avv (S K):gB sh an3 S K [1] (bR Bp.args) Bp.res (Bp.tree (gJ []) Tryz.prog b6 (cn [FR,KD] []) anj 600 6)=LS S K:=by kernel_rfl
theorem av2:gH Tryz.prog b6 BB (cn [] []) ans aoc [1] L9:=λ_ _=>by kernel_rfl
end Go.aX
namespace Go.aX
open Go Go.aW Go.Proofs
theorem avA:gH Tryz.prog b6 Bs (cn [] [nH]) dB dC [1] S9:=λ_ _=>by kernel_rfl
theorem avR (S K):gB sh dC S K [5] (bR Fa.args) Fa.res (sX.tree (gJ [pb]) Tryz.prog b6 (cn [] []) dB 600 12)=L3 S K:=by kernel_rfl
theorem avP (S K):gB sh an7 S K [1,1] (bR PT.args) PT.res (IH.tree (gJ [pb]) Tryz.prog b6 (cn [] []) ann 600 12)=L1 S K:=by kernel_rfl
theorem avz (S K):gB sh dC S K [1] (bR Br.args) Br.res (Br.tree (gJ []) Tryz.prog b6 (cn [] []) dB 600 6)=LW S K:=by kernel_rfl
theorem avD (S K):gB sh dC S K [1] (bR Bu.args) Bu.res (Bu.tree (gJ []) Tryz.prog b6 (cn [] []) dB 600 6)=LX S K:=by kernel_rfl
theorem avZ:gH Tryz.prog b6 r9 (cn [] [BB,Bs]) dB dC [1] L8:=λ_ _=>by kernel_rfl
theorem avT (S K):gB sh an9 S K [1,1] (bR qV.args) qV.res (qV.tree (gJ []) Tryz.prog b6 (cn [] []) anp 600 6)=L5 S K:=by kernel_rfl
theorem awF (S K):gB sh aom S K [1] (bR pb.args) pb.res (pb.tree (gJ []) Tryz.prog b6 (cn [] []) anD 600 6)=Mi S K:=by kernel_rfl
theorem awD (S K):gB sh dC S K [1] (bR tl.args) tl.res (tl.tree (gJ [pb]) Tryz.prog b6 (cn [] []) dB 600 6)=TS S K:=by kernel_rfl
theorem avQ (S K):gB sh an8 S K [1,1] (bR E9.args) E9.res (wx.tree (gJ [pb]) Tryz.prog b6 (cn [] []) ano 600 12)=Tk S K:=by kernel_rfl
theorem avN (S K):gB sh dC S K [5] (bR PR.args) PR.res (wv.tree (gJ []) Tryz.prog b6 (cn [] []) dB 600 12)=Tj S K:=by kernel_rfl
theorem avM (S K):gB sh an5 S K [1,1] (bR PQ.args) PQ.res (wu.tree (gJ []) Tryz.prog b6 (cn [] []) anl 600 12)=Ti S K:=by kernel_rfl
theorem avS (S K):gB sh dC S K [1,1,1,5] (bR PU.args) PU.res (NW.tree (wz [IH,sX,II] (gJ [pb])) Tryz.prog b6 (cn [] []) dB 600 12)=L4 S K:=by kernel_rfl
theorem avO (S K):gB sh an6 S K [1,1,1,1,1,1] (bR PS.args) PS.res (IG.tree (gJ []) Tryz.prog b6 (cn [] []) anm 600 6)=L0 S K:=by kernel_rfl
theorem avU (S K):gB sh dC S K [1,1,1,5] (bR PV.args) PV.res (II.tree (JD [BH,Bx] (gJ [qV,Br,Bu])) Tryz.prog b6 (cn [] []) dB 600 12)=L6 S K:=by kernel_rfl
end Go.aX
namespace Go.aX
open Go Go.aW Go.Proofs
theorem avF:gH Tryz.prog b6 u6 (cn [] []) dB dC [1] Tc:=λ_ _=>by kernel_rfl
theorem avG:gH Tryz.prog b6 u7 (cn [] []) dB dC [1] Td:=λ_ _=>by kernel_rfl
theorem avH:gH Tryz.prog b6 u9 (cn [] []) dB dC [1] Te:=λ_ _=>by kernel_rfl
theorem avI:gH Tryz.prog b6 vd (cn [] []) dB dC [1] Tf:=λ_ _=>by kernel_rfl
theorem avy (S K):gB sh dC S K [1] (bR y9.args) y9.res (y9.tree (gJ []) Tryz.prog b6 (cn [] []) dB 600 6)=LV S K:=by kernel_rfl
theorem aws:gH Tryz.prog b6 BG (cn [] []) dB dC [1,1] Mf:=λ_ _=>by kernel_rfl
theorem avJ:gH Tryz.prog b6 ve (cn [] []) dB dC [1] Tg:=λ_ _=>by kernel_rfl
theorem awt (S K):gB sh aof S K [1] (bR za.args) za.res (za.tree (gJ []) Tryz.prog b6 (cn [] [BG]) anv 600 6)=Mg S K:=by kernel_rfl
theorem awc:gH Tryz.prog b6 BE (cn [] []) dB dC [1,1] Mb:=λ_ _=>by kernel_rfl
end Go.aX
namespace Go.aX
open Go Go.aW Go.Proofs
theorem avu (S K):gB sh ZA S K [1] (bR JL.args) JL.res (zt.tree (H3 Tryz.prog b6 (cn [] [ve,u6,u7,u9,vd]) (yf (gJ [y9]) Tryz.prog b6 (cn [] [ve,u6,u7,u9,vd]) JV 600 6) JV 600 [(1,0,0,4294967295),(1,1,0,4294967295),(1,2,0,4294967295),(1,3,0,4294967295),(1,4,0,4294967295),(1,5,0,4294967295),(1,6,0,4294967295),(1,7,0,4294967295)] 115))=LR S K:=by kernel_rfl
end Go.aX
namespace Go.aX
open Go Go.aW Go.Proofs
theorem awr (S K):gB sh dC S K [1,1,1] (bR JO.args) JO.res (zj.tree (gJ []) Tryz.prog b6 (cn [] []) dB 600 6)=Me S K:=by kernel_rfl
theorem awu (S K):gB sh dC S K [1,1,1] (bR JP.args) JP.res (B2.tree (Gd [zt] (vo [zj] (gJ [za]))) Tryz.prog b6 (cn [] []) dB 600 6)=Mh S K:=by kernel_rfl
theorem avV (S K):gB sh dC S K [1,2] (bR tk.args) tk.res (tk.tree (vo [B2] (gJ [JM])) Tryz.prog b6 (cn [] []) dB 600 6)=Tl S K:=by kernel_rfl
theorem avW (S K):gB sh dC S K [] (bR wW.args) wW.res (wW.tree (wz [DO,IG] (gJ [tk])) Tryz.prog b6 (cn [] []) dB 600 6)=Tm S K:=by kernel_rfl
theorem av5 (S K):gB sh aod S K [1] (bR BD.args) BD.res (BD.tree (gJ []) Tryz.prog b6 (cn [] []) ant 600 6)=Ma S K:=by kernel_rfl
end Go.aX
namespace Go.aX
open Go Go.aW Go.Proofs
theorem av4:gH Tryz.prog b6 fg (cn [] []) dB dC [1] Tr:=λ_ _=>by kernel_rfl
theorem awk (S K):iR sh dC S K [1,1] (cE Fp.args) Fp.res (F6.tree Tryz.prog b6 (cn [] [fg]) dB 600 6)=TE S K:=by kernel_rfl
theorem awn (S K):iR sh dC S K [1,1] (cE Ft.args) Ft.res (F9.tree Tryz.prog b6 (cn [] [fg]) dB 600 6)=TH S K:=by kernel_rfl
theorem awo (S K):iR sh dC S K [1,1] (cE Fu.args) Fu.res (Ga.tree Tryz.prog b6 (cn [] [fg]) dB 600 6)=TI S K:=by kernel_rfl
theorem awp (S K):iR sh dC S K [1,1] (cE Fv.args) Fv.res (Gb.tree Tryz.prog b6 (cn [] [fg]) dB 600 6)=TJ S K:=by kernel_rfl
theorem awe (S K):iR sh dC S K [1,1] (cE Fi.args) Fi.res (FZ.tree Tryz.prog b6 (cn [] [fg]) dB 600 6)=Ty S K:=by kernel_rfl
theorem awf (S K):iR sh dC S K [1,1] (cE Fj.args) Fj.res (F1.tree Tryz.prog b6 (cn [] [fg]) dB 600 6)=Tz S K:=by kernel_rfl
theorem awg (S K):iR sh dC S K [1,1] (cE Fk.args) Fk.res (F2.tree Tryz.prog b6 (cn [] [fg]) dB 600 6)=TA S K:=by kernel_rfl
theorem awh (S K):iR sh dC S K [1,1] (cE Fl.args) Fl.res (F3.tree Tryz.prog b6 (cn [] [fg]) dB 600 6)=TB S K:=by kernel_rfl
theorem awi (S K):iR sh dC S K [1,1] (cE Fm.args) Fm.res (F4.tree Tryz.prog b6 (cn [] [fg]) dB 600 6)=TC S K:=by kernel_rfl
theorem awj (S K):iR sh dC S K [1,1] (cE Fo.args) Fo.res (F5.tree Tryz.prog b6 (cn [] [fg]) dB 600 6)=TD S K:=by kernel_rfl
theorem awl (S K):iR sh dC S K [1,1] (cE Fq.args) Fq.res (F7.tree Tryz.prog b6 (cn [] [fg]) dB 600 6)=TF S K:=by kernel_rfl
theorem awm (S K):iR sh dC S K [1,1] (cE Fs.args) Fs.res (F8.tree Tryz.prog b6 (cn [] [fg]) dB 600 6)=TG S K:=by kernel_rfl
theorem av8 (S K):iR sh dC S K [1,3,1] (cE Fe.args) Fe.res (FV.tree Tryz.prog b6 (cn [F6,F2,F7] [fg]) dB 600 6)=Tu S K:=by kernel_rfl
theorem av9 (S K):iR sh dC S K [1,3,1] (cE Ff.args) Ff.res (FW.tree Tryz.prog b6 (cn [Ga,F1,F8] [fg]) dB 600 6)=Tv S K:=by kernel_rfl
theorem awa (S K):iR sh dC S K [1,3,1] (cE Fg.args) Fg.res (FX.tree Tryz.prog b6 (cn [Gb,F4,F9] [fg]) dB 600 6)=Tw S K:=by kernel_rfl
theorem awb (S K):iR sh dC S K [1,3,1] (cE Fh.args) Fh.res (FY.tree Tryz.prog b6 (cn [F3,F5,FZ] [fg]) dB 600 6)=Tx S K:=by kernel_rfl
theorem av3 (S K):gB sh dC S K [1] (bR BC.args) BC.res (BC.tree (gJ [BF]) Tryz.prog b6 (cn [] []) dB 600 6)=Tq S K:=by kernel_rfl
end Go.aX
namespace Go.aX
open Go Go.aW Go.Proofs
theorem awd (S K):gB sh aoe S K [1] (bR BF.args) BF.res (BF.tree (gJ []) Tryz.prog b6 (cn [FV,FW,FX,FY] [BE,fg]) anu 600 6)=Mc S K:=by kernel_rfl
theorem av7 (S K):gB sh dC S K [1,2] (bR wX.args) wX.res (wX.tree (gJ [BC,BD]) Tryz.prog b6 (cn [] []) dB 600 6)=Tt S K:=by kernel_rfl
end Go.aX
namespace Go.aX
open Go Go.aW Go.Proofs
theorem awG:gH Tryz.prog b6 tn (cn [] []) anE aon [1] Mj:=λ_ _=>by kernel_rfl
end Go.aX
