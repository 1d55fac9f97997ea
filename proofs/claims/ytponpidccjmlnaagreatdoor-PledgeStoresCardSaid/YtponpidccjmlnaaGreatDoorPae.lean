/- Pae: a part of the proof of statements of this seat. -/
import Derived.Test.YtponpidccjmlnaaGreatDoorPac
import Derived.Test.YtponpidccjmlnaaGreatDoorPad
import Derived.Test.YtponpidccjmlnaaGreatDoorProg
import Derived.KernelRfl
open Bool renaming and_eq_true->aS,and_false->uE
open Function renaming comp->HD
open Go renaming FuncId->cw
open Go.IntKind renaming max->fs
open Int renaming le_refl->bX,toNat_natCast->gu,toNat_zero->uD,mul_comm->uI,ediv_eq_iff_of_pos->LR
open List renaming getD->ae,range->cU,replicate->du,length_cons->dv,length_append->dN,map_append->ft,length_nil->fM,map_congr_left->h8,append_nil->h9,take_of_length_le->jd,append_assoc->je,nil_append->jr,getElem?_eq_getElem->kg,map_map->k7,length_map->k8,length_take->m8,getElem?_take->og,mem_cons->oT,zipWith->pA,length_drop->q2,flatten_cons->s9,getD_eq_getElem?_getD->uF,eq_nil_of_length_eq_zero->uL,take_zero->uM,replicate_succ->uO,cons_append->wu,length_singleton->yn,drop_zero->A5,length_replicate->Bd,not_mem_nil->D8,map_id->D9,drop_succ_cons->Ep,take_add_one->LJ,take_left'->L4,flatten_nil->Ma,drop_left'->Tq,length_range->Tx,replicate_append_replicate->acZ,replicate_succ'->ac6,drop_replicate->aAH,range_succ->aAJ,any_cons->aAK
open List.cons renaming injEq->hX
open Nat renaming beq->aG,zero_le->gX,lt_or_ge->od,zero_add->pB,pow_succ->yo,mul_comm->yp,div_div_eq_div_mul->HJ,mul_div_cancel_left->S7,div_eq_of_lt->aAI
open Prod.mk renaming injEq->cA
set_option maxRecDepth 100000
set_option linter.unusedVariables false
set_option linter.unusedSimpArgs false
namespace Go.cu
open Go Go.bo
def TR (S:Nat->List (List Int)->List (List Int)->Prop) (K:List (List Int)->List (List Int)->Prop):Prop:=
 n5 λz0=>cO 0 1073741823 (1073741824*z0) 4294967296 λag=>cO 0 1073741823 z0 4 λz2=>cM λz3=>z3<=fs .u32->z3=cD .xor .u32 0
 ((1073741824*z0)+(((-4294967296)*ag)+z2))->cO 0 524287 (524288*z0) 4294967296 λz4=>cO 0 524287 z0 8192 λz5=>cM λz6=>z6<=fs
 .u32->z6=cD .xor .u32 z3 ((524288*z0)+(((-4294967296)*z4)+z5))->cO 0 1023 (1024*z0) 4294967296 λz7=>cO 0 1023 z0 4194304 λz8=>cM λ
 z9=>z9<=fs .u32->z9=cD .xor .u32 z6 ((1024*z0)+(((-4294967296)*z7)+z8))->K [[z0]] [[z9]]
def TT (S:Nat->List (List Int)->List (List Int)->Prop) (K:List (List Int)->List (List Int)->Prop):Prop:=
 n5 λz0=>cO 0 67108863 (67108864*z0) 4294967296 λag=>cO 0 67108863 z0 64 λz2=>cM λz3=>z3<=fs .u32->z3=cD .xor .u32 0
 ((67108864*z0)+(((-4294967296)*ag)+z2))->cO 0 2097151 (2097152*z0) 4294967296 λz4=>cO 0 2097151 z0 2048 λz5=>cM λz6=>z6<=fs
 .u32->z6=cD .xor .u32 z3 ((2097152*z0)+(((-4294967296)*z4)+z5))->cO 0 127 (128*z0) 4294967296 λz7=>cO 0 127 z0 33554432 λz8=>cM λ
 z9=>z9<=fs .u32->z9=cD .xor .u32 z6 ((128*z0)+(((-4294967296)*z7)+z8))->K [[z0]] [[z9]]
def TV (S:Nat->List (List Int)->List (List Int)->Prop) (K:List (List Int)->List (List Int)->Prop):Prop:=
 n5 λz0=>cO 0 33554431 (33554432*z0) 4294967296 λag=>cO 0 33554431 z0 128 λz2=>cM λz3=>z3<=fs .u32->z3=cD .xor .u32 0
 ((33554432*z0)+(((-4294967296)*ag)+z2))->cO 0 16383 (16384*z0) 4294967296 λz4=>cO 0 16383 z0 262144 λz5=>cM λz6=>z6<=fs .u32
 ->z6=cD .xor .u32 z3 ((16384*z0)+(((-4294967296)*z4)+z5))->cO 0 536870911 z0 8 λz7=>cM λz8=>z8<=fs .u32->z8=cD .xor .u32
 z6 z7->K [[z0]] [[z8]]
def TX (S:Nat->List (List Int)->List (List Int)->Prop) (K:List (List Int)->List (List Int)->Prop):Prop:=
 n5 λz0=>cO 0 32767 (32768*z0) 4294967296 λag=>cO 0 32767 z0 131072 λz2=>cM λz3=>z3<=fs .u32->z3=cD .xor .u32 0 ((32768*
 z0)+(((-4294967296)*ag)+z2))->cO 0 8191 (8192*z0) 4294967296 λz4=>cO 0 8191 z0 524288 λz5=>cM λz6=>z6<=fs .u32->z6=cD
 .xor .u32 z3 ((8192*z0)+(((-4294967296)*z4)+z5))->cO 0 4194303 z0 1024 λz7=>cM λz8=>z8<=fs .u32->z8=cD .xor .u32 z6 z7->K
 [[z0]] [[z8]]
def TS (S:Nat->List (List Int)->List (List Int)->Prop) (K:List (List Int)->List (List Int)->Prop):Prop:=
 lD λz0=>cO 0 68719476735 (68719476736*z0) 18446744073709551616 λag=>cO 0 68719476735 z0 268435456 λz2=>cM λz3=>z3<=fs .u64->z3
 =cD .xor .u64 0 ((68719476736*z0)+(((-18446744073709551616)*ag)+z2))->cO 0 1073741823 (1073741824*z0) 18446744073709551616 λz4=>cO 0
 1073741823 z0 17179869184 λz5=>cM λz6=>z6<=fs .u64->z6=cD .xor .u64 z3 ((1073741824*z0)+(((-18446744073709551616)*z4)+z5))->
 cO 0 33554431 (33554432*z0) 18446744073709551616 λz7=>cO 0 33554431 z0 549755813888 λz8=>cM λz9=>z9<=fs .u64->z9=cD .xor .u64 z6
 ((33554432*z0)+(((-18446744073709551616)*z7)+z8))->K [[z0]] [[z9]]
def TU (S:Nat->List (List Int)->List (List Int)->Prop) (K:List (List Int)->List (List Int)->Prop):Prop:=
 lD λz0=>cO 0 1125899906842623 (1125899906842624*z0) 18446744073709551616 λag=>cO 0 1125899906842623 z0 16384 λz2=>cM λz3=>z3<=fs
 .u64->z3=cD .xor .u64 0 ((1125899906842624*z0)+(((-18446744073709551616)*ag)+z2))->cO 0 70368744177663 (70368744177664*z0) 18446744073709551616
 λz4=>cO 0 70368744177663 z0 262144 λz5=>cM λz6=>z6<=fs .u64->z6=cD .xor .u64 z3 ((70368744177664*z0)+(((-18446744073709551616)
 *z4)+z5))->cO 0 8388607 (8388608*z0) 18446744073709551616 λz7=>cO 0 8388607 z0 2199023255552 λz8=>cM λz9=>z9<=fs .u64->z9=
 cD .xor .u64 z6 ((8388608*z0)+(((-18446744073709551616)*z7)+z8))->K [[z0]] [[z9]]
def TW (S:Nat->List (List Int)->List (List Int)->Prop) (K:List (List Int)->List (List Int)->Prop):Prop:=
 lD λz0=>cO 0 9223372036854775807 (9223372036854775808*z0) 18446744073709551616 λag=>cO 0 9223372036854775807 z0 2 λz2=>cM λz3=>z3<=
 fs .u64->z3=cD .xor .u64 0 ((9223372036854775808*z0)+(((-18446744073709551616)*ag)+z2))->cO 0 72057594037927935 (72057594037927936*z0)
 18446744073709551616 λz4=>cO 0 72057594037927935 z0 256 λz5=>cM λz6=>z6<=fs .u64->z6=cD .xor .u64 z3 ((72057594037927936*z0)+
 (((-18446744073709551616)*z4)+z5))->cO 0 144115188075855871 z0 128 λz7=>cM λz8=>z8<=fs .u64->z8=cD .xor .u64 z6 z7->K [[z0]]
 [[z8]]
def TY (S:Nat->List (List Int)->List (List Int)->Prop) (K:List (List Int)->List (List Int)->Prop):Prop:=
 lD λz0=>cO 0 35184372088831 (35184372088832*z0) 18446744073709551616 λag=>cO 0 35184372088831 z0 524288 λz2=>cM λz3=>z3<=fs .u64
 ->z3=cD .xor .u64 0 ((35184372088832*z0)+(((-18446744073709551616)*ag)+z2))->cO 0 7 (8*z0) 18446744073709551616 λz4=>cO 0 7 z0
 2305843009213693952 λz5=>cM λz6=>z6<=fs .u64->z6=cD .xor .u64 z3 ((8*z0)+(((-18446744073709551616)*z4)+z5))->cO 0
 288230376151711743 z0 64 λz7=>cM λz8=>z8<=fs .u64->z8=cD .xor .u64 z6 z7->K [[z0]] [[z8]]
theorem atT (w n:Nat) (hn:n<=w) (z q r:Int) (h1:0<=2^(w-n)*z-2^w*q) (h2:2^(w-n)*z-2^w*q<2^w) (h3:0<=z-2^n*r) (h4:z-2^n*r<2^n):(2^(w-n)*z-2^w*q)+r=KZ w n z:=by
 have e:(2:Int)^w=2^(w-n)*2^n:=by rw[<-Int.pow_add];congr 1;omega
 have p1:(0:Int)<2^(w-n):=Int.pow_pos (by decide)
 have bJ:(0:Int)<2^n:=Int.pow_pos (by decide)
 have u6:z/2^n=r:=by
  rw[LR bJ]
  constructor
  ·rw[uI];omega
  ·rw[uI r];omega
 have eq:q=r:=by
  rw[e]at h1 h2
  have f1:2^(w-n)*z-2^(w-n)*2^n*q=2^(w-n)*(z-2^n*q):=by rw[Int.mul_sub,Int.mul_assoc]
  rw[f1]at h1 h2
  have g1:0<=z-2^n*q:=by
   rcases Int.lt_or_le (z-2^n*q) 0 with h|h
   ·have:=Int.mul_neg_of_pos_of_neg p1 h;omega
   ·exact h
  have g2:z-2^n*q<2^n:=Int.lt_of_mul_lt_mul_left h2 (Int.le_of_lt p1)
  have:=u6
  rw[LR bJ]at this
  have h5:z/2^n=q:=by
   rw[LR bJ]
   constructor
   ·rw[uI];omega
   ·rw[uI q];omega
  rw[<-h5,u6]
 subst eq
 unfold KZ
 rw[u6,Int.emod_def,u6,e,Int.mul_assoc,<-Int.mul_sub,uI (z-2^n*q) _]
 omega
theorem ml (w n:Nat) (hn:n<=w) (A B D:Int) (hA:A=2^(w-n)) (hB:B=2^w) (hD:D=2^n) {z q r:Int} (h1:0<=A*z-B*q) (h2:A*z-B*q<B) (h3:0<=z-D*r) (h4:z-D*r<D):A*z+(-B*q+r)=KZ w n z:=by
 subst hA;subst hB;subst hD
 rw[<-atT w n hn z q r h1 h2 h3 h4,Int.neg_mul];omega
theorem arP:TR SB (aY SB [pH] 444):=by
 intro z0 a0 a1 ag bq vQ p1 pk z2 bE rD bJ pn z3 b5 sM bN z4 dm Aw ea po z5 ik Ax ed pq z6 jT Ay jh z7 pr Az mS sJ z8 j6 sN sK An z9 AA AB lp
 have r1:=ml 32 2 (by decide) 1073741824 4294967296 4 (by decide) (by decide) (by decide) p1 pk bJ pn
 have iH:=ml 32 13 (by decide) 524288 4294967296 8192 (by decide) (by decide) (by decide) ea po ed pq
 have ps:=ml 32 22 (by decide) 1024 4294967296 4194304 (by decide) (by decide) (by decide) mS sJ sK An
 refine⟨⟨AA,AB,trivial⟩,?_⟩
 show [[z9]]=[[uX cV z0]]
 rw[lp,jh,bN,r1,iH,ps]
 rfl
theorem arR:TT SB (aY SB [pH] 445):=by
 intro z0 a0 a1 ag bq vQ p1 pk z2 bE rD bJ pn z3 b5 sM bN z4 dm Aw ea po z5 ik Ax ed pq z6 jT Ay jh z7 pr Az mS sJ z8 j6 sN sK An z9 AA AB lp
 have r1:=ml 32 6 (by decide) 67108864 4294967296 64 (by decide) (by decide) (by decide) p1 pk bJ pn
 have iH:=ml 32 11 (by decide) 2097152 4294967296 2048 (by decide) (by decide) (by decide) ea po ed pq
 have ps:=ml 32 25 (by decide) 128 4294967296 33554432 (by decide) (by decide) (by decide) mS sJ sK An
 refine⟨⟨AA,AB,trivial⟩,?_⟩
 show [[z9]]=[[uY cV z0]]
 rw[lp,jh,bN,r1,iH,ps]
 rfl
theorem arT:TV SB (aY SB [pH] 446):=by
 intro z0 a0 a1 ag bq vQ p1 pk z2 bE rD bJ pn z3 b5 sM bN z4 dm Aw ea po z5 ik Ax ed pq z6 jT Ay jh z7 pr Az mS sJ z8 j6 sN o6
 have r1:=ml 32 7 (by decide) 33554432 4294967296 128 (by decide) (by decide) (by decide) p1 pk bJ pn
 have iH:=ml 32 18 (by decide) 16384 4294967296 262144 (by decide) (by decide) (by decide) ea po ed pq
 have ps:z7=z0/2^3:=by rw[show(2:Int)^3=8 by decide];omega
 refine⟨⟨j6,sN,trivial⟩,?_⟩
 show [[z8]]=[[AU cV z0]]
 rw[o6,jh,bN,r1,iH,ps]
 rfl
theorem arV:TX SB (aY SB [pH] 447):=by
 intro z0 a0 a1 ag bq vQ p1 pk z2 bE rD bJ pn z3 b5 sM bN z4 dm Aw ea po z5 ik Ax ed pq z6 jT Ay jh z7 pr Az mS sJ z8 j6 sN o6
 have r1:=ml 32 17 (by decide) 32768 4294967296 131072 (by decide) (by decide) (by decide) p1 pk bJ pn
 have iH:=ml 32 19 (by decide) 8192 4294967296 524288 (by decide) (by decide) (by decide) ea po ed pq
 have ps:z7=z0/2^10:=by rw[show(2:Int)^10=1024 by decide];omega
 refine⟨⟨j6,sN,trivial⟩,?_⟩
 show [[z8]]=[[AV cV z0]]
 rw[o6,jh,bN,r1,iH,ps]
 rfl
theorem arQ:TS SB (aY SB [ln] 448):=by
 intro z0 a0 a1 ag bq vQ p1 pk z2 bE rD bJ pn z3 b5 sM bN z4 dm Aw ea po z5 ik Ax ed pq z6 jT Ay jh z7 pr Az mS sJ z8 j6 sN sK An z9 AA AB lp
 have r1:=ml 64 28 (by decide) 68719476736 18446744073709551616 268435456 (by decide) (by decide) (by decide) p1 pk bJ pn
 have iH:=ml 64 34 (by decide) 1073741824 18446744073709551616 17179869184 (by decide) (by decide) (by decide) ea po ed pq
 have ps:=ml 64 39 (by decide) 33554432 18446744073709551616 549755813888 (by decide) (by decide) (by decide) mS sJ sK An
 refine⟨⟨AA,AB,trivial⟩,?_⟩
 show [[z9]]=[[uX cW z0]]
 rw[lp,jh,bN,r1,iH,ps]
 rfl
theorem arS:TU SB (aY SB [ln] 449):=by
 intro z0 a0 a1 ag bq vQ p1 pk z2 bE rD bJ pn z3 b5 sM bN z4 dm Aw ea po z5 ik Ax ed pq z6 jT Ay jh z7 pr Az mS sJ z8 j6 sN sK An z9 AA AB lp
 have r1:=ml 64 14 (by decide) 1125899906842624 18446744073709551616 16384 (by decide) (by decide) (by decide) p1 pk bJ pn
 have iH:=ml 64 18 (by decide) 70368744177664 18446744073709551616 262144 (by decide) (by decide) (by decide) ea po ed pq
 have ps:=ml 64 41 (by decide) 8388608 18446744073709551616 2199023255552 (by decide) (by decide) (by decide) mS sJ sK An
 refine⟨⟨AA,AB,trivial⟩,?_⟩
 show [[z9]]=[[uY cW z0]]
 rw[lp,jh,bN,r1,iH,ps]
 rfl
theorem arU:TW SB (aY SB [ln] 450):=by
 intro z0 a0 a1 ag bq vQ p1 pk z2 bE rD bJ pn z3 b5 sM bN z4 dm Aw ea po z5 ik Ax ed pq z6 jT Ay jh z7 pr Az mS sJ z8 j6 sN o6
 have r1:=ml 64 1 (by decide) 9223372036854775808 18446744073709551616 2 (by decide) (by decide) (by decide) p1 pk bJ pn
 have iH:=ml 64 8 (by decide) 72057594037927936 18446744073709551616 256 (by decide) (by decide) (by decide) ea po ed pq
 have ps:z7=z0/2^7:=by rw[show(2:Int)^7=128 by decide];omega
 refine⟨⟨j6,sN,trivial⟩,?_⟩
 show [[z8]]=[[AU cW z0]]
 rw[o6,jh,bN,r1,iH,ps]
 rfl
theorem arW:TY SB (aY SB [ln] 451):=by
 intro z0 a0 a1 ag bq vQ p1 pk z2 bE rD bJ pn z3 b5 sM bN z4 dm Aw ea po z5 ik Ax ed pq z6 jT Ay jh z7 pr Az mS sJ z8 j6 sN o6
 have r1:=ml 64 19 (by decide) 35184372088832 18446744073709551616 524288 (by decide) (by decide) (by decide) p1 pk bJ pn
 have iH:=ml 64 61 (by decide) 8 18446744073709551616 2305843009213693952 (by decide) (by decide) (by decide) ea po ed pq
 have ps:z7=z0/2^6:=by rw[show(2:Int)^6=64 by decide];omega
 refine⟨⟨j6,sN,trivial⟩,?_⟩
 show [[z8]]=[[AV cW z0]]
 rw[o6,jh,bN,r1,iH,ps]
 rfl
end Go.cu
namespace Go.cu
open Go Go.bo
def TJ (S:Nat->List (List Int)->List (List Int)->Prop) (K:List (List Int)->List (List Int)->Prop):Prop:=
 cS λz0=>(ab 66 [z0]->cM λag=>bn λz2=>aK 20 [z0] λz3=>(ab 53 [z2,z3]->(aq (decide (z2<0)) (K [[z0]] [[0]]) (ab 22 [z0,0,z3]/\
 ab 23 [0,z3]/\aA 22 [z0,0,z3] λz4=>aA 24 [0,z4] λz5=>(aq (decide (z3<=0)) (K [[z0]] [[0]]) (bn λz6=>ab 22 [z5,0,z3]/\aA 22 [z5,0,z3]
 λz7=>K [[z0]] [[z7]]))))))
def TK (S:Nat->List (List Int)->List (List Int)->Prop) (K:List (List Int)->List (List Int)->Prop):Prop:=
 cS λz0=>(ab 66 [z0]->cM λag=>bn λz2=>aK 20 [z0] λz3=>(ab 53 [z2,z3]->(aq (decide (z2<0)) (K [[z0]] [[0]]) (ab 22 [z0,0,z3]/\
 ab 23 [0,z3]/\aA 22 [z0,0,z3] λz4=>aA 24 [0,z4] λz5=>(aq (decide (z3<=0)) (K [[z0]] [[0]]) (bn λz6=>ab 22 [z5,0,z3]/\aA 22 [z5,0,z3]
 λz7=>K [[z0]] [[z7]]))))))
def UO (S:Nat->List (List Int)->List (List Int)->Prop) (K:List (List Int)->List (List Int)->Prop):Prop:=
 eG (-9223372036854775808) 9223372036854775807 λz0=>eG (-9223372036854775808) 9223372036854775807 λag=>(aq (decide (z0<0)) (K [[z0],[ag]] [[0]]) ((aq
 (decide (1099511627776<z0)) (K [[z0],[ag]] [[0]]) ((aq ((!(decide (ag=32)))) ((aq ((!(decide (ag=64)))) (K [[z0],[ag]] [[0]]) (cO (-1) 1 ((2*ag)+
 9223372036854775808) 18446744073709551616 λz2=>ab 77 [ag]/\cO 0 2305843009213693951 ag 4 λz3=>ab 36 [((2*ag)+((-18446744073709551616)*z2))]
 /\KP 0 2305844108725321728 38 [((z0+z3)+1),((2*ag)+((-18446744073709551616)*z2))] λz4=>cO (-1) 0 (((2*ag)+(((-18446744073709551616)*z2)+
 ((-1)*z4)))+9223372036854775808) 18446744073709551616 λz5=>ab 77 [((2*ag)+(((-18446744073709551616)*z2)+(((-1)*z4)+
 ((-18446744073709551616)*z5))))]/\ab 36 [((2*ag)+((-18446744073709551616)*z2))]/\KP 0 9223372036854775806 38 [((2*ag)+
 (((-18446744073709551616)*z2)+(((-1)*z4)+((-18446744073709551616)*z5)))),((2*ag)+((-18446744073709551616)*z2))] λz6=>bt ((z0+(z3+z6))+
 9223372036854775809) 18446744073709551616 λz7=>K [[z0],[ag]] [[((z0+(z3+(z6+((-18446744073709551616)*z7))))+1)]]))) (cO (-1) 1 ((2*ag)+
 9223372036854775808) 18446744073709551616 λz2=>ab 77 [ag]/\cO 0 2305843009213693951 ag 4 λz3=>ab 36 [((2*ag)+((-18446744073709551616)*z2))]
 /\KP 0 2305844108725321728 38 [((z0+z3)+1),((2*ag)+((-18446744073709551616)*z2))] λz4=>cO (-1) 0 (((2*ag)+(((-18446744073709551616)*z2)+
 ((-1)*z4)))+9223372036854775808) 18446744073709551616 λz5=>ab 77 [((2*ag)+(((-18446744073709551616)*z2)+(((-1)*z4)+
 ((-18446744073709551616)*z5))))]/\ab 36 [((2*ag)+((-18446744073709551616)*z2))]/\KP 0 9223372036854775806 38 [((2*ag)+
 (((-18446744073709551616)*z2)+(((-1)*z4)+((-18446744073709551616)*z5)))),((2*ag)+((-18446744073709551616)*z2))] λz6=>bt ((z0+(z3+z6))+
 9223372036854775809) 18446744073709551616 λz7=>K [[z0],[ag]] [[((z0+(z3+(z6+((-18446744073709551616)*z7))))+1)]]))))))
theorem oO {c l z:Int} (h:z=au 22 [c,0,l]) (hl:l=((af c).length:Int)):af z=af c:=by
 rw[h];show af (rc (((af c).drop (0:Int).toNat).take (l.toNat-(0:Int).toNat)))=_
 rw[ee,hl];simp
theorem Z9 {c:Int} (h:((af c).length:Int)=0):af c=[]:=uL (by omega)
theorem arH:TJ SB (dq SB [KD] 462):=by
 intro z0 a0 a1 hp ag b1 z2 bC c1 z3 d0 d1 h3 hn
 have h3:z3=((af z0).length:Int):=h3
 have hl:(af z0).length<=1000000:=hp
 have hn:z2<0->z3=0:=hn
 have fin:∀z,0<=z->z<=bK->af z=af z0->dq SB [KD] 462 [[z0]] [[z]]:=λz h1 h2 h=>⟨⟨h1,h2,trivial⟩,h⟩
 have aZ:z3<=0->dq SB [KD] 462 [[z0]] [[0]]:=λh=>fin 0 (bX _) ou (by rw[fa,Z9 (c:=z0) (by omega)])
 refine⟨λh=>aZ (by have:=hn (of_decide_eq_true h);omega),λh=>⟨⟨bX _,by omega,by rw[h3];exact bX _⟩,by show(af 0).length+z3<=1073741824;rw[fa];simp only[fM];omega,λz4 f0 f1 h4 z5 g0 g1 h5=>?_⟩⟩
 have h4:=oO h4 h3
 have h5:af z5=af z0:=by
  rw[h5];show af (rc (af 0++af z4))=_
  rw[ee,fa,h4];rfl
 refine⟨λh=>aZ (of_decide_eq_true h),λh z6 i0 i1=>⟨⟨bX _,by omega,by rw[h3,h5];exact bX _⟩,λz7 ew dk h7=>fin z7 ew dk ?_⟩⟩
 rw[oO h7 (by rw[h3,h5]),h5]
theorem arI:TK SB (dq SB [KE] 463):=by
 intro z0 a0 a1 hp ag b1 z2 bC c1 z3 d0 d1 h3 hn
 have h3:z3=((af z0).length:Int):=h3
 have hl:(af z0).length<=1000000:=hp
 have hn:z2<0->z3=0:=hn
 have fin:∀z,0<=z->z<=bK->af z=af z0->dq SB [KE] 463 [[z0]] [[z]]:=λz h1 h2 h=>⟨⟨h1,h2,trivial⟩,h⟩
 have aZ:z3<=0->dq SB [KE] 463 [[z0]] [[0]]:=λh=>fin 0 (bX _) ou (by rw[fa,Z9 (c:=z0) (by omega)])
 refine⟨λh=>aZ (by have:=hn (of_decide_eq_true h);omega),λh=>⟨⟨bX _,by omega,by rw[h3];exact bX _⟩,by show(af 0).length+z3<=1073741824;rw[fa];simp only[fM];omega,λz4 f0 f1 h4 z5 g0 g1 h5=>?_⟩⟩
 have h4:=oO h4 h3
 have h5:af z5=af z0:=by
  rw[h5];show af (rc (af 0++af z4))=_
  rw[ee,fa,h4];rfl
 refine⟨λh=>aZ (of_decide_eq_true h),λh z6 i0 i1=>⟨⟨bX _,by omega,by rw[h3,h5];exact bX _⟩,λz7 ew dk h7=>fin z7 ew dk ?_⟩⟩
 rw[oO h7 (by rw[h3,h5]),h5]
theorem asN:UO SB (aY SB [BK] 440):=by
 intro z0 a0 a1 ag b0 b1
 have fin:∀z:Int,-9223372036854775808<=z->z<=9223372036854775807->z=qN z0 ag->aY SB [BK] 440 [[z0],[ag]] [[z]]:=λz h1 h2 h=>⟨⟨h1,h2,trivial⟩,by show [[z]]=[[qN z0 ag]];rw[h]⟩
 have bad:(z0<0∨1099511627776<z0∨(ag≠32/\ag≠64))->aY SB [BK] 440 [[z0],[ag]] [[0]]:=λh=>fin 0 (by omega) (by omega) (by unfold qN;rw[if_pos h])
 refine⟨λh=>bad (.inl (of_decide_eq_true h)),λh=>⟨λh'=>bad (.inr (.inl (of_decide_eq_true h'))),λh'=>?_⟩⟩
 have n0:0<=z0:=by have:=of_decide_eq_false h;omega
 have n1:z0<=1099511627776:=by have:=of_decide_eq_false h';omega
 obtain⟨N,rfl⟩:∃N:Nat,(N:Int)=z0:=⟨z0.toNat,by omega⟩
 refine⟨λg=>⟨λji=>bad (.inr (.inr ⟨by simpa using g,by simpa using ji⟩)),λji=>?_⟩,λg=>?_⟩
 ·have hz:ag=64:=by simpa using ji
  subst hz
  intro z2 bC c1 c2 c3
  have:z2=0:=by omega
  subst this
  refine⟨by show(0:Int)<=64;decide,λz3 d0 d1 d2 d3=>?_⟩
  have:z3=16:=by omega
  subst this
  refine⟨by show(0:Int)<2*64+-18446744073709551616*0;decide,λz4 aZ e1 h4 z5 f0 f1 f2 f3=>?_⟩
  have h4:z4=((N:Int)+16+1)% (2*64+-18446744073709551616*0):=h4
  rw[show(2*64+-18446744073709551616*0:Int)=128 by decide]at h4
  have:z5=0:=by omega
  subst this
  refine⟨by show(0:Int)<=_;omega,by show(0:Int)<2*64+-18446744073709551616*0;decide,λz6 g0 g1 h6 z7 i0 i1 i2 i3=>?_⟩
  have h6:z6=(2*64+(-18446744073709551616*0+(-1*z4+-18446744073709551616*0)))% (2*64+-18446744073709551616*0):=h6
  rw[show(2*64+-18446744073709551616*0:Int)=128 by decide]at h6
  have:z7=0:=by omega
  subst this
  refine fin _ (by omega) (by omega) ?_
  unfold qN mj
  rw[if_neg (by omega)]
  simp only[gu]
  rw[show(64:Int).toNat=64 from rfl]
  omega
 ·have hz:ag=32:=by simpa using g
  subst hz
  intro z2 bC c1 c2 c3
  have:z2=0:=by omega
  subst this
  refine⟨by show(0:Int)<=32;decide,λz3 d0 d1 d2 d3=>?_⟩
  have:z3=8:=by omega
  subst this
  refine⟨by show(0:Int)<2*32+-18446744073709551616*0;decide,λz4 aZ e1 h4 z5 f0 f1 f2 f3=>?_⟩
  have h4:z4=((N:Int)+8+1)% (2*32+-18446744073709551616*0):=h4
  rw[show(2*32+-18446744073709551616*0:Int)=64 by decide]at h4
  have:z5=0:=by omega
  subst this
  refine⟨by show(0:Int)<=_;omega,by show(0:Int)<2*32+-18446744073709551616*0;decide,λz6 g0 g1 h6 z7 i0 i1 i2 i3=>?_⟩
  have h6:z6=(2*32+(-18446744073709551616*0+(-1*z4+-18446744073709551616*0)))% (2*32+-18446744073709551616*0):=h6
  rw[show(2*32+-18446744073709551616*0:Int)=64 by decide]at h6
  have:z7=0:=by omega
  subst this
  refine fin _ (by omega) (by omega) ?_
  unfold qN mj
  rw[if_neg (by omega)]
  simp only[gu]
  rw[show(32:Int).toNat=32 from rfl]
  omega
end Go.cu
namespace Go.cu
open Go Go.bo
def TZ (S:Nat->List (List Int)->List (List Int)->Prop) (K:List (List Int)->List (List Int)->Prop):Prop:=
 eG 0 79 λz0=>ab 74 [z0,80]/\eG 489312712824947311 17689382322260857208 λag=>ag=ae
 [4794697086780616226,8158064640168781261,13096744586834688815,16840607885511220156,4131703408338449720,6480981068601479193,10538285296894168987,12329834152419229976,15566598209576043074,1334009975649890238,2608012711638119052,6128411473006802146,8268148722764581231,9286055187155687089,11230858885718282805,13951009754708518548,16472876342353939154,17275323862435702243,1135362057144423861,2597628984639134821,3308224258029322869,5365058923640841347,6679025012923562964,8573033837759648693,10970295158949994411,12119686244451234320,12683024718118986047,13788192230050041572,14330467153632333762,15395433587784984357,489312712824947311,1452737877330783856,2861767655752347644,3322285676063803686,5560940570517711597,5996557281743188959,7280758554555802590,8532644243296465576,9350256976987008742,10552545826968843579,11727347734174303076,12113106623233404929,14000437183269869457,14369950271660146224,15101387698204529176,15463397548674623760,17586052441742319658,1182934255886127544,1847814050463011016,2177327727835720531,2830643537854262169,3796741975233480872,4115178125766777443,5681478168544905931,6601373596472566643,7507060721942968483,8399075790359081724,8693463985226723168,9568029438360202098,10144078919501101548,10430055236837252648,11840083180663258601,13761210420658862357,14299343276471374635,14566680578165727644,15097957966210449927,16922976911328602910,17689382322260857208,500013540394364858,748580250866718886,1242879168328830382,1977374033974150939,2944078676154940804,3659926193048069267,4368137639120453308,4836135668995329356,5532061633213252278,6448918945643986474,6902733635092675308,7801388544844847127]
 (z0).toNat 0->cO 113926993 4118630271 ag 4294967296 λz2=>K [[z0]] [[z2]]
def T0 (S:Nat->List (List Int)->List (List Int)->Prop) (K:List (List Int)->List (List Int)->Prop):Prop:=
 eG 0 79 λz0=>ab 74 [z0,80]/\eG 489312712824947311 17689382322260857208 λag=>ag=ae
 [4794697086780616226,8158064640168781261,13096744586834688815,16840607885511220156,4131703408338449720,6480981068601479193,10538285296894168987,12329834152419229976,15566598209576043074,1334009975649890238,2608012711638119052,6128411473006802146,8268148722764581231,9286055187155687089,11230858885718282805,13951009754708518548,16472876342353939154,17275323862435702243,1135362057144423861,2597628984639134821,3308224258029322869,5365058923640841347,6679025012923562964,8573033837759648693,10970295158949994411,12119686244451234320,12683024718118986047,13788192230050041572,14330467153632333762,15395433587784984357,489312712824947311,1452737877330783856,2861767655752347644,3322285676063803686,5560940570517711597,5996557281743188959,7280758554555802590,8532644243296465576,9350256976987008742,10552545826968843579,11727347734174303076,12113106623233404929,14000437183269869457,14369950271660146224,15101387698204529176,15463397548674623760,17586052441742319658,1182934255886127544,1847814050463011016,2177327727835720531,2830643537854262169,3796741975233480872,4115178125766777443,5681478168544905931,6601373596472566643,7507060721942968483,8399075790359081724,8693463985226723168,9568029438360202098,10144078919501101548,10430055236837252648,11840083180663258601,13761210420658862357,14299343276471374635,14566680578165727644,15097957966210449927,16922976911328602910,17689382322260857208,500013540394364858,748580250866718886,1242879168328830382,1977374033974150939,2944078676154940804,3659926193048069267,4368137639120453308,4836135668995329356,5532061633213252278,6448918945643986474,6902733635092675308,7801388544844847127]
 (z0).toNat 0->K [[z0]] [[ag]]
def UR (S:Nat->List (List Int)->List (List Int)->Prop) (K:List (List Int)->List (List Int)->Prop):Prop:=
 cS λz0=>(ab 71 [z0]->cM λag=>bn λz2=>aK 20 [z0] λz3=>ab 22 [z0,0,z3]/\aA 22 [z0,0,z3] λz4=>ab 71 [z4]/\cS λz5=>S 460
 [[z4]] [[z5]]->cM λz6=>bn λz7=>aK 20 [z5] λz8=>ab 22 [z5,0,z8]/\aA 22 [z5,0,z8] λz9=>ab 71 [z9]/\cS λaj=>S 442 [[z9]]
 [[aj]]->bn λak=>aK 20 [aj] λz12=>ab 22 [aj,0,z12]/\aA 22 [aj,0,z12] λad=>ab 72 [ad]/\cS λao=>S 464 [[ad]] [[ao]]->bn
 λaz=>aK 20 [ao] λaC=>ab 30 [31,aC]/\ab 21 [ao,0]/\ab 21 [ao,0]/\av 21 [ao,0,0] λaR=>ab 21 [ao,1]/\av 21 [ao,1,0] λ
 ba=>ab 21 [ao,2]/\av 21 [ao,2,0] λbh=>ab 21 [ao,3]/\av 21 [ao,3,0] λz20=>ab 21 [ao,4]/\av 21 [ao,4,0] λz21=>ab 21
 [ao,5]/\av 21 [ao,5,0] λz22=>ab 21 [ao,6]/\av 21 [ao,6,0] λbU=>ab 21 [ao,7]/\av 21 [ao,7,0] λz24=>ab 21 [ao,8]/\av 21
 [ao,8,0] λaO=>ab 21 [ao,9]/\av 21 [ao,9,0] λz26=>ab 21 [ao,10]/\av 21 [ao,10,0] λcY=>ab 21 [ao,11]/\av 21 [ao,11,0] λ
 z28=>ab 21 [ao,12]/\av 21 [ao,12,0] λcy=>ab 21 [ao,13]/\av 21 [ao,13,0] λbW=>ab 21 [ao,14]/\av 21 [ao,14,0] λz31=>ab 21
 [ao,15]/\av 21 [ao,15,0] λb7=>ab 21 [ao,16]/\av 21 [ao,16,0] λcZ=>ab 21 [ao,17]/\av 21 [ao,17,0] λcz=>ab 21 [ao,18]/\
 av 21 [ao,18,0] λcr=>ab 21 [ao,19]/\av 21 [ao,19,0] λcv=>ab 21 [ao,20]/\av 21 [ao,20,0] λz37=>ab 21 [ao,21]/\av 21
 [ao,21,0] λeA=>ab 21 [ao,22]/\av 21 [ao,22,0] λfc=>ab 21 [ao,23]/\av 21 [ao,23,0] λz40=>ab 21 [ao,24]/\av 21 [ao,24,0] λ
 dW=>ab 21 [ao,25]/\av 21 [ao,25,0] λef=>ab 21 [ao,26]/\av 21 [ao,26,0] λfo=>ab 21 [ao,27]/\av 21 [ao,27,0] λeP=>ab 21
 [ao,28]/\av 21 [ao,28,0] λdI=>ab 21 [ao,29]/\av 21 [ao,29,0] λz46=>ab 21 [ao,30]/\av 21 [ao,30,0] λdx=>ab 21 [ao,31]/\
 av 21 [ao,31,0] λfe=>K [[z0]]
 [[aR,ba,bh,z20,z21,z22,bU,z24,aO,z26,cY,z28,cy,bW,z31,b7,cZ,cz,cr,cv,z37,eA,fc,z40,dW,ef,fo,eP,dI,z46,dx,fe]])
def US (S:Nat->List (List Int)->List (List Int)->Prop) (K:List (List Int)->List (List Int)->Prop):Prop:=
 cS λz0=>(ab 71 [z0]->cM λag=>bn λz2=>aK 20 [z0] λz3=>ab 22 [z0,0,z3]/\aA 22 [z0,0,z3] λz4=>ab 71 [z4]/\cS λz5=>S 461
 [[z4]] [[z5]]->cM λz6=>bn λz7=>aK 20 [z5] λz8=>ab 22 [z5,0,z8]/\aA 22 [z5,0,z8] λz9=>ab 71 [z9]/\cS λaj=>S 443 [[z9]]
 [[aj]]->bn λak=>aK 20 [aj] λz12=>ab 22 [aj,0,z12]/\aA 22 [aj,0,z12] λad=>ab 73 [ad]/\cS λao=>S 465 [[ad]] [[ao]]->bn
 λaz=>aK 20 [ao] λaC=>ab 30 [63,aC]/\ab 21 [ao,0]/\ab 21 [ao,0]/\av 21 [ao,0,0] λaR=>ab 21 [ao,1]/\av 21 [ao,1,0] λ
 ba=>ab 21 [ao,2]/\av 21 [ao,2,0] λbh=>ab 21 [ao,3]/\av 21 [ao,3,0] λz20=>ab 21 [ao,4]/\av 21 [ao,4,0] λz21=>ab 21
 [ao,5]/\av 21 [ao,5,0] λz22=>ab 21 [ao,6]/\av 21 [ao,6,0] λbU=>ab 21 [ao,7]/\av 21 [ao,7,0] λz24=>ab 21 [ao,8]/\av 21
 [ao,8,0] λaO=>ab 21 [ao,9]/\av 21 [ao,9,0] λz26=>ab 21 [ao,10]/\av 21 [ao,10,0] λcY=>ab 21 [ao,11]/\av 21 [ao,11,0] λ
 z28=>ab 21 [ao,12]/\av 21 [ao,12,0] λcy=>ab 21 [ao,13]/\av 21 [ao,13,0] λbW=>ab 21 [ao,14]/\av 21 [ao,14,0] λz31=>ab 21
 [ao,15]/\av 21 [ao,15,0] λb7=>ab 21 [ao,16]/\av 21 [ao,16,0] λcZ=>ab 21 [ao,17]/\av 21 [ao,17,0] λcz=>ab 21 [ao,18]/\
 av 21 [ao,18,0] λcr=>ab 21 [ao,19]/\av 21 [ao,19,0] λcv=>ab 21 [ao,20]/\av 21 [ao,20,0] λz37=>ab 21 [ao,21]/\av 21
 [ao,21,0] λeA=>ab 21 [ao,22]/\av 21 [ao,22,0] λfc=>ab 21 [ao,23]/\av 21 [ao,23,0] λz40=>ab 21 [ao,24]/\av 21 [ao,24,0] λ
 dW=>ab 21 [ao,25]/\av 21 [ao,25,0] λef=>ab 21 [ao,26]/\av 21 [ao,26,0] λfo=>ab 21 [ao,27]/\av 21 [ao,27,0] λeP=>ab 21
 [ao,28]/\av 21 [ao,28,0] λdI=>ab 21 [ao,29]/\av 21 [ao,29,0] λz46=>ab 21 [ao,30]/\av 21 [ao,30,0] λdx=>ab 21 [ao,31]/\
 av 21 [ao,31,0] λfe=>ab 21 [ao,32]/\av 21 [ao,32,0] λz49=>ab 21 [ao,33]/\av 21 [ao,33,0] λeX=>ab 21 [ao,34]/\av 21
 [ao,34,0] λz51=>ab 21 [ao,35]/\av 21 [ao,35,0] λeQ=>ab 21 [ao,36]/\av 21 [ao,36,0] λz53=>ab 21 [ao,37]/\av 21 [ao,37,0] λ
 ff=>ab 21 [ao,38]/\av 21 [ao,38,0] λfR=>ab 21 [ao,39]/\av 21 [ao,39,0] λhM=>ab 21 [ao,40]/\av 21 [ao,40,0] λhO=>ab 21
 [ao,41]/\av 21 [ao,41,0] λlJ=>ab 21 [ao,42]/\av 21 [ao,42,0] λz59=>ab 21 [ao,43]/\av 21 [ao,43,0] λlK=>ab 21 [ao,44]/\
 av 21 [ao,44,0] λlL=>ab 21 [ao,45]/\av 21 [ao,45,0] λke=>ab 21 [ao,46]/\av 21 [ao,46,0] λgh=>ab 21 [ao,47]/\av 21
 [ao,47,0] λjV=>ab 21 [ao,48]/\av 21 [ao,48,0] λkf=>ab 21 [ao,49]/\av 21 [ao,49,0] λkp=>ab 21 [ao,50]/\av 21 [ao,50,0] λ
 kq=>ab 21 [ao,51]/\av 21 [ao,51,0] λnB=>ab 21 [ao,52]/\av 21 [ao,52,0] λnC=>ab 21 [ao,53]/\av 21 [ao,53,0] λz70=>ab 21
 [ao,54]/\av 21 [ao,54,0] λkW=>ab 21 [ao,55]/\av 21 [ao,55,0] λz72=>ab 21 [ao,56]/\av 21 [ao,56,0] λfC=>ab 21 [ao,57]/\
 av 21 [ao,57,0] λjb=>ab 21 [ao,58]/\av 21 [ao,58,0] λz75=>ab 21 [ao,59]/\av 21 [ao,59,0] λz76=>ab 21 [ao,60]/\av 21
 [ao,60,0] λhW=>ab 21 [ao,61]/\av 21 [ao,61,0] λjc=>ab 21 [ao,62]/\av 21 [ao,62,0] λjE=>ab 21 [ao,63]/\av 21 [ao,63,0] λ
 jo=>K [[z0]]
 [[aR,ba,bh,z20,z21,z22,bU,z24,aO,z26,cY,z28,cy,bW,z31,b7,cZ,cz,cr,cv,z37,eA,fc,z40,dW,ef,fo,eP,dI,z46,dx,fe,z49,eX,z51,eQ,z53,ff,fR,hM,hO,lJ,z59,lK,lL,ke,gh,jV,kf,kp,kq,nB,nC,z70,kW,z72,fC,jb,z75,z76,hW,jc,jE,jo]])
theorem arX:TZ SB (aY SB [pH] 466):=by
 intro z0 a0 a1
 refine⟨⟨a0,by omega⟩,λag b0 b1 h1 z2 bC c1 c2 c3=>⟨⟨by omega,by omega,trivial⟩,?_⟩⟩
 have h1:ag=x4.getD z0.toNat 0:=h1
 show [[z2]]=[[x4.getD z0.toNat 0/2^(64-32)]]
 rw[<-h1,show(2:Int)^(64-32)=4294967296 by decide]
 have:z2=ag/4294967296:=by omega
 rw[this]
theorem arY:T0 SB (aY SB [ln] 467):=by
 intro z0 a0 a1
 refine⟨⟨a0,by omega⟩,λag b0 b1 h1=>⟨⟨by omega,by omega,trivial⟩,?_⟩⟩
 have h1:ag=x4.getD z0.toNat 0:=h1
 show [[ag]]=[[x4.getD z0.toNat 0/2^(64-64)]]
 rw[<-h1];simp
theorem tl (z:Int):(cJ z).length=(af z).length:=by simp[cJ]
theorem IE {z r:Int} (h:af r=af z):cJ r=cJ z:=by unfold cJ;rw[h]
theorem cd {c i z:Int} (h:z=au 21 [c,i,0]):z=(cJ c).getD i.toNat 0:=by
 rw[h]
 show((af c).getD i.toNat []).getD (0:Int).toNat 0=_
 unfold cJ
 rw[uF (l:=(af c).map _),List.getElem?_map,uF (l:=af c)]
 cases(af c)[i.toNat]?<;>rfl
theorem Fa (l:List Int) (n:Nat) (h:l.length=n):l=(cU n).map λi=>l.getD i 0:=by
 apply List.ext_getElem
 ·simp[h]
 ·intro i h1 h2
  simp[ae,h1]
theorem auP (p:ga) (i:Nat) (x:Int) (v:List Int) (h:v.length=8):(uu p i x v).length=8:=by
 match v,h with
 |[a,b,c,d,e,f,g,k],_=>rfl
theorem abk (p:ga):∀(m:List Int) (i:Nat) (v:List Int),v.length=8->(vX p i m v).length=8
 |[],_,_,h=>h
 |x::m,i,v,h=>abk p m (i+1) _ (auP p i x v h)
theorem au8 (p:ga) (h m:List Int) (hl:h.length=8):(v8 p h m).length=8:=by
 unfold v8;rw[List.length_zipWith,abk p _ _ _ hl,hl];rfl
theorem ae0 (p:ga):(q7 p).length=8:=by simp[q7];rfl
theorem VS (p:ga) (b:List Int):∀i,(yU p b i (q7 p)).length=8
 |0=>ae0 p
 |i+1=>au8 p _ _ (VS p b i)
theorem aat (p:ga):∀(h:List Int),(ua p h).length=h.length*(p.w/8)
 |[]=>by simp[ua]
 |x::h=>by
  have:=aat p h
  unfold ua at*
  simp only[List.flatMap_cons,dN,k8,Tx,this,dv]
  rw[Nat.succ_mul];omega
theorem VG (p:ga) (b:List Int):(qg p b).length=8*(p.w/8):=by unfold qg;rw[aat,VS]
theorem as4 (b:List Int):(qO cV b).length=mj 32 b.length/\64∣mj 32 b.length/\mj 32 b.length<=b.length+100:=by
 have e:mj 32 b.length=(b.length+1+8+63)/64*64:=rfl
 refine⟨?_,⟨(b.length+1+8+63)/64,by rw[e,yp]⟩,by rw[e];omega⟩
 unfold qO tk
 simp only[dN,dv,fM,Bd,k8,Tx]
 show _+(mj 32 _-_-9)+8=mj 32 _
 rw[e];omega
theorem as5 (b:List Int):(qO cW b).length=mj 64 b.length/\128∣mj 64 b.length/\mj 64 b.length<=b.length+200:=by
 have e:mj 64 b.length=(b.length+1+16+127)/128*128:=rfl
 refine⟨?_,⟨(b.length+1+16+127)/128,by rw[e,yp]⟩,by rw[e];omega⟩
 unfold qO tk
 simp only[dN,dv,fM,Bd,k8,Tx]
 show _+(mj 64 _-_-9)+8=mj 64 _
 rw[e];omega
theorem Qo:∀(n:Nat) (l:List Int),l.length=n->(∀x∈l,0<=x/\x<=255)->aV (da 0 255 n) l
 |0,[],_,_=>trivial
 |n+1,x::l,hl,h=>⟨(h x (by simp)).1,(h x (by simp)).2,Qo n l (by simpa using hl) λy hy=>h y (List.mem_cons_of_mem _ hy)⟩
theorem asQ:UR SB (dq SB [.d tg] 452):=by
 intro z0 a0 a1 hp ag b0 z2 bC c1 z3 d0 d1 h3
 have hp:(af z0).length<=1000000000:=hp
 have h3:z3=((af z0).length:Int):=h3
 refine⟨⟨bX _,by omega,by rw[h3];exact bX _⟩,λz4 aZ e1 h4=>?_⟩
 have h4:=oO h4 h3
 refine⟨by show(af z4).length<=1000000000;rw[h4];exact hp,λz5 f0 f1 h5 z6 g0 z7 i0 i1 z8 ew dk bD=>?_⟩
 have h5:af z5=af z4:=h5
 have bD:z8=((af z5).length:Int):=bD
 refine⟨⟨bX _,by omega,by rw[bD];exact bX _⟩,λz9 fA k1 bg=>?_⟩
 have bg:=oO bg bD
 have lp:af z9=af z0:=by rw[bg,h5,h4]
 refine⟨by show(af z9).length<=1000000000;rw[lp];exact hp,λaj cq l1 b9 ak m0 fW z12 n0 n1 dw=>?_⟩
 have b9:cJ aj=qO cV (cJ z9):=b9
 have dw:z12=((af aj).length:Int):=dw
 rw[IE lp]at b9
 obtain⟨bq,bE,b5⟩:=as4 (cJ z0)
 have hl0:(cJ z0).length=(af z0).length:=tl z0
 refine⟨⟨bX _,by omega,by rw[dw];exact bX _⟩,λad tY o1 dj=>?_⟩
 have dj:=oO dj dw
 have Pq:(af ad).length=mj 32 (cJ z0).length:=by rw[dj,<-tl,b9,bq]
 refine⟨by show 64∣(af ad).length/\(af ad).length<=1000001000;rw[Pq];exact⟨bE,by omega⟩,λao p0 p1 dA az aP r1 aC hT s1 gA=>?_⟩
 have dA:cJ ao=qg cV (cJ ad):=dA
 rw[IE dj,b9]at dA
 have gA:aC=((af ao).length:Int):=gA
 have F5:(cJ ao).length=32:=by rw[dA,VG];rfl
 have PQ:(af ao).length=32:=by rw[<-tl,F5]
 have ay:∀i:Int,0<=i->i<32->ab 21 [ao,i]:=λi h1 h2=>⟨h1,by rw[PQ];exact h2⟩
 refine⟨⟨by decide,by omega⟩,ay 0 (by decide) (by decide),?_⟩
 refine⟨ay 0 (by decide) (by decide),?_⟩
 intro aR x0 ja t0
 refine⟨ay 1 (by decide) (by decide),?_⟩
 intro ba x1 iq t1
 refine⟨ay 2 (by decide) (by decide),?_⟩
 intro bh x2 qU t2
 refine⟨ay 3 (by decide) (by decide),?_⟩
 intro z20 gF yl t3
 refine⟨ay 4 (by decide) (by decide),?_⟩
 intro z21 gq AY t4
 refine⟨ay 5 (by decide) (by decide),?_⟩
 intro z22 gG AZ t5
 refine⟨ay 6 (by decide) (by decide),?_⟩
 intro bU gV A0 t6
 refine⟨ay 7 (by decide) (by decide),?_⟩
 intro z24 ka A1 t7
 refine⟨ay 8 (by decide) (by decide),?_⟩
 intro aO lH A2 t8
 refine⟨ay 9 (by decide) (by decide),?_⟩
 intro z26 lI A3 t9
 refine⟨ay 10 (by decide) (by decide),?_⟩
 intro cY mq DT t10
 refine⟨ay 11 (by decide) (by decide),?_⟩
 intro z28 fQ AX t11
 refine⟨ay 12 (by decide) (by decide),?_⟩
 intro cy hV DU t12
 refine⟨ay 13 (by decide) (by decide),?_⟩
 intro bW kT DV t13
 refine⟨ay 14 (by decide) (by decide),?_⟩
 intro z31 yj Hu t14
 refine⟨ay 15 (by decide) (by decide),?_⟩
 intro b7 yk Hv t15
 refine⟨ay 16 (by decide) (by decide),?_⟩
 intro cZ DP SA t16
 refine⟨ay 17 (by decide) (by decide),?_⟩
 intro cz DQ SC t17
 refine⟨ay 18 (by decide) (by decide),?_⟩
 intro cr DR SD t18
 refine⟨ay 19 (by decide) (by decide),?_⟩
 intro cv DS SE t19
 refine⟨ay 20 (by decide) (by decide),?_⟩
 intro z37 Lr SG t20
 refine⟨ay 21 (by decide) (by decide),?_⟩
 intro eA Ls SH t21
 refine⟨ay 22 (by decide) (by decide),?_⟩
 intro fc Lt SI t22
 refine⟨ay 23 (by decide) (by decide),?_⟩
 intro z40 Lu SJ t23
 refine⟨ay 24 (by decide) (by decide),?_⟩
 intro dW Lv SK t24
 refine⟨ay 25 (by decide) (by decide),?_⟩
 intro ef Lw SL t25
 refine⟨ay 26 (by decide) (by decide),?_⟩
 intro fo Lx SM t26
 refine⟨ay 27 (by decide) (by decide),?_⟩
 intro eP Ly SN t27
 refine⟨ay 28 (by decide) (by decide),?_⟩
 intro dI Lz SO t28
 refine⟨ay 29 (by decide) (by decide),?_⟩
 intro z46 LA SP t29
 refine⟨ay 30 (by decide) (by decide),?_⟩
 intro dx LB SQ t30
 refine⟨ay 31 (by decide) (by decide),?_⟩
 intro fe LC SR t31
 have cF:[aR,ba,bh,z20,z21,z22,bU,z24,aO,z26,cY,z28,cy,bW,z31,b7,cZ,cz,cr,cv,z37,eA,fc,z40,dW,ef,fo,eP,dI,z46,dx,fe]=cJ ao:=by
  rw[cd t0,cd t1,cd t2,cd t3,cd t4,cd t5,cd t6,cd t7,cd t8,cd t9,cd t10,cd t11,cd t12,cd t13,cd t14,cd t15,cd t16,cd t17,cd t18,cd t19,cd t20,cd t21,cd t22,cd t23,cd t24,cd t25,cd t26,cd t27,cd t28,cd t29,cd t30,cd t31]
  exact(Fa (cJ ao) 32 F5).symm
 refine⟨?_,?_⟩
 ·show aV (da 0 255 32++[]) _
  rw[h9]
  exact Qo 32 _ rfl λx hx=>by
   simp only[s9,Ma,h9,oT,D8,or_false]at hx
   rcases hx with rfl|rfl|rfl|rfl|rfl|rfl|rfl|rfl|rfl|rfl|rfl|rfl|rfl|rfl|rfl|rfl|rfl|rfl|rfl|rfl|rfl|rfl|rfl|rfl|rfl|rfl|rfl|rfl|rfl|rfl|rfl|rfl
   ·exact⟨x0,ja⟩
   ·exact⟨x1,iq⟩
   ·exact⟨x2,qU⟩
   ·exact⟨gF,yl⟩
   ·exact⟨gq,AY⟩
   ·exact⟨gG,AZ⟩
   ·exact⟨gV,A0⟩
   ·exact⟨ka,A1⟩
   ·exact⟨lH,A2⟩
   ·exact⟨lI,A3⟩
   ·exact⟨mq,DT⟩
   ·exact⟨fQ,AX⟩
   ·exact⟨hV,DU⟩
   ·exact⟨kT,DV⟩
   ·exact⟨yj,Hu⟩
   ·exact⟨yk,Hv⟩
   ·exact⟨DP,SA⟩
   ·exact⟨DQ,SC⟩
   ·exact⟨DR,SD⟩
   ·exact⟨DS,SE⟩
   ·exact⟨Lr,SG⟩
   ·exact⟨Ls,SH⟩
   ·exact⟨Lt,SI⟩
   ·exact⟨Lu,SJ⟩
   ·exact⟨Lv,SK⟩
   ·exact⟨Lw,SL⟩
   ·exact⟨Lx,SM⟩
   ·exact⟨Ly,SN⟩
   ·exact⟨Lz,SO⟩
   ·exact⟨LA,SP⟩
   ·exact⟨LB,SQ⟩
   ·exact⟨LC,SR⟩
 ·show [[aR,ba,bh,z20,z21,z22,bU,z24,aO,z26,cY,z28,cy,bW,z31,b7,cZ,cz,cr,cv,z37,eA,fc,z40,dW,ef,fo,eP,dI,z46,dx,fe]]=[rH cV (cJ z0)]
  rw[cF,dA];rfl
theorem asR:US SB (dq SB [.d Vx] 453):=by
 intro z0 a0 a1 hp ag b0 z2 bC c1 z3 d0 d1 h3
 have hp:(af z0).length<=1000000000:=hp
 have h3:z3=((af z0).length:Int):=h3
 refine⟨⟨bX _,by omega,by rw[h3];exact bX _⟩,λz4 aZ e1 h4=>?_⟩
 have h4:=oO h4 h3
 refine⟨by show(af z4).length<=1000000000;rw[h4];exact hp,λz5 f0 f1 h5 z6 g0 z7 i0 i1 z8 ew dk bD=>?_⟩
 have h5:af z5=af z4:=h5
 have bD:z8=((af z5).length:Int):=bD
 refine⟨⟨bX _,by omega,by rw[bD];exact bX _⟩,λz9 fA k1 bg=>?_⟩
 have bg:=oO bg bD
 have lp:af z9=af z0:=by rw[bg,h5,h4]
 refine⟨by show(af z9).length<=1000000000;rw[lp];exact hp,λaj cq l1 b9 ak m0 fW z12 n0 n1 dw=>?_⟩
 have b9:cJ aj=qO cW (cJ z9):=b9
 have dw:z12=((af aj).length:Int):=dw
 rw[IE lp]at b9
 obtain⟨bq,bE,b5⟩:=as5 (cJ z0)
 have hl0:(cJ z0).length=(af z0).length:=tl z0
 refine⟨⟨bX _,by omega,by rw[dw];exact bX _⟩,λad tY o1 dj=>?_⟩
 have dj:=oO dj dw
 have Pq:(af ad).length=mj 64 (cJ z0).length:=by rw[dj,<-tl,b9,bq]
 refine⟨by show 128∣(af ad).length/\(af ad).length<=1000001000;rw[Pq];exact⟨bE,by omega⟩,λao p0 p1 dA az aP r1 aC hT s1 gA=>?_⟩
 have dA:cJ ao=qg cW (cJ ad):=dA
 rw[IE dj,b9]at dA
 have gA:aC=((af ao).length:Int):=gA
 have F5:(cJ ao).length=64:=by rw[dA,VG];rfl
 have PQ:(af ao).length=64:=by rw[<-tl,F5]
 have ay:∀i:Int,0<=i->i<64->ab 21 [ao,i]:=λi h1 h2=>⟨h1,by rw[PQ];exact h2⟩
 refine⟨⟨by decide,by omega⟩,ay 0 (by decide) (by decide),?_⟩
 refine⟨ay 0 (by decide) (by decide),?_⟩
 intro aR x0 ja t0
 refine⟨ay 1 (by decide) (by decide),?_⟩
 intro ba x1 iq t1
 refine⟨ay 2 (by decide) (by decide),?_⟩
 intro bh x2 qU t2
 refine⟨ay 3 (by decide) (by decide),?_⟩
 intro z20 gF yl t3
 refine⟨ay 4 (by decide) (by decide),?_⟩
 intro z21 gq AY t4
 refine⟨ay 5 (by decide) (by decide),?_⟩
 intro z22 gG AZ t5
 refine⟨ay 6 (by decide) (by decide),?_⟩
 intro bU gV A0 t6
 refine⟨ay 7 (by decide) (by decide),?_⟩
 intro z24 ka A1 t7
 refine⟨ay 8 (by decide) (by decide),?_⟩
 intro aO lH A2 t8
 refine⟨ay 9 (by decide) (by decide),?_⟩
 intro z26 lI A3 t9
 refine⟨ay 10 (by decide) (by decide),?_⟩
 intro cY mq DT t10
 refine⟨ay 11 (by decide) (by decide),?_⟩
 intro z28 fQ AX t11
 refine⟨ay 12 (by decide) (by decide),?_⟩
 intro cy hV DU t12
 refine⟨ay 13 (by decide) (by decide),?_⟩
 intro bW kT DV t13
 refine⟨ay 14 (by decide) (by decide),?_⟩
 intro z31 yj Hu t14
 refine⟨ay 15 (by decide) (by decide),?_⟩
 intro b7 yk Hv t15
 refine⟨ay 16 (by decide) (by decide),?_⟩
 intro cZ DP SA t16
 refine⟨ay 17 (by decide) (by decide),?_⟩
 intro cz DQ SC t17
 refine⟨ay 18 (by decide) (by decide),?_⟩
 intro cr DR SD t18
 refine⟨ay 19 (by decide) (by decide),?_⟩
 intro cv DS SE t19
 refine⟨ay 20 (by decide) (by decide),?_⟩
 intro z37 Lr SG t20
 refine⟨ay 21 (by decide) (by decide),?_⟩
 intro eA Ls SH t21
 refine⟨ay 22 (by decide) (by decide),?_⟩
 intro fc Lt SI t22
 refine⟨ay 23 (by decide) (by decide),?_⟩
 intro z40 Lu SJ t23
 refine⟨ay 24 (by decide) (by decide),?_⟩
 intro dW Lv SK t24
 refine⟨ay 25 (by decide) (by decide),?_⟩
 intro ef Lw SL t25
 refine⟨ay 26 (by decide) (by decide),?_⟩
 intro fo Lx SM t26
 refine⟨ay 27 (by decide) (by decide),?_⟩
 intro eP Ly SN t27
 refine⟨ay 28 (by decide) (by decide),?_⟩
 intro dI Lz SO t28
 refine⟨ay 29 (by decide) (by decide),?_⟩
 intro z46 LA SP t29
 refine⟨ay 30 (by decide) (by decide),?_⟩
 intro dx LB SQ t30
 refine⟨ay 31 (by decide) (by decide),?_⟩
 intro fe LC SR t31
 refine⟨ay 32 (by decide) (by decide),?_⟩
 intro z49 ayn ayW t32
 refine⟨ay 33 (by decide) (by decide),?_⟩
 intro eX ayo ayX t33
 refine⟨ay 34 (by decide) (by decide),?_⟩
 intro z51 ayp ayY t34
 refine⟨ay 35 (by decide) (by decide),?_⟩
 intro eQ ayq ayZ t35
 refine⟨ay 36 (by decide) (by decide),?_⟩
 intro z53 ayr ay0 t36
 refine⟨ay 37 (by decide) (by decide),?_⟩
 intro ff ays ay1 t37
 refine⟨ay 38 (by decide) (by decide),?_⟩
 intro fR ayt ay2 t38
 refine⟨ay 39 (by decide) (by decide),?_⟩
 intro hM ayu ay3 t39
 refine⟨ay 40 (by decide) (by decide),?_⟩
 intro hO ayv ay4 t40
 refine⟨ay 41 (by decide) (by decide),?_⟩
 intro lJ ayw ay5 t41
 refine⟨ay 42 (by decide) (by decide),?_⟩
 intro z59 ayx ay6 t42
 refine⟨ay 43 (by decide) (by decide),?_⟩
 intro lK ayy ay7 t43
 refine⟨ay 44 (by decide) (by decide),?_⟩
 intro lL ayz ay8 t44
 refine⟨ay 45 (by decide) (by decide),?_⟩
 intro ke ayA ay9 t45
 refine⟨ay 46 (by decide) (by decide),?_⟩
 intro gh ayB aza t46
 refine⟨ay 47 (by decide) (by decide),?_⟩
 intro jV ayC azb t47
 refine⟨ay 48 (by decide) (by decide),?_⟩
 intro kf ayD SS t48
 refine⟨ay 49 (by decide) (by decide),?_⟩
 intro kp ayE azc t49
 refine⟨ay 50 (by decide) (by decide),?_⟩
 intro kq ayF azd t50
 refine⟨ay 51 (by decide) (by decide),?_⟩
 intro nB ayG aze t51
 refine⟨ay 52 (by decide) (by decide),?_⟩
 intro nC ayH azf t52
 refine⟨ay 53 (by decide) (by decide),?_⟩
 intro z70 ayI azg t53
 refine⟨ay 54 (by decide) (by decide),?_⟩
 intro kW ayJ azh t54
 refine⟨ay 55 (by decide) (by decide),?_⟩
 intro z72 ayK azi t55
 refine⟨ay 56 (by decide) (by decide),?_⟩
 intro fC ayL azj t56
 refine⟨ay 57 (by decide) (by decide),?_⟩
 intro jb ayM azk t57
 refine⟨ay 58 (by decide) (by decide),?_⟩
 intro z75 ayN azl t58
 refine⟨ay 59 (by decide) (by decide),?_⟩
 intro z76 ayO azm t59
 refine⟨ay 60 (by decide) (by decide),?_⟩
 intro hW ayP azn t60
 refine⟨ay 61 (by decide) (by decide),?_⟩
 intro jc ayQ azo t61
 refine⟨ay 62 (by decide) (by decide),?_⟩
 intro jE ayR azp t62
 refine⟨ay 63 (by decide) (by decide),?_⟩
 intro jo ayS azq t63
 have cF:[aR,ba,bh,z20,z21,z22,bU,z24,aO,z26,cY,z28,cy,bW,z31,b7,cZ,cz,cr,cv,z37,eA,fc,z40,dW,ef,fo,eP,dI,z46,dx,fe,z49,eX,z51,eQ,z53,ff,fR,hM,hO,lJ,z59,lK,lL,ke,gh,jV,kf,kp,kq,nB,nC,z70,kW,z72,fC,jb,z75,z76,hW,jc,jE,jo]=cJ ao:=by
  rw[cd t0,cd t1,cd t2,cd t3,cd t4,cd t5,cd t6,cd t7,cd t8,cd t9,cd t10,cd t11,cd t12,cd t13,cd t14,cd t15,cd t16,cd t17,cd t18,cd t19,cd t20,cd t21,cd t22,cd t23,cd t24,cd t25,cd t26,cd t27,cd t28,cd t29,cd t30,cd t31,cd t32,cd t33,cd t34,cd t35,cd t36,cd t37,cd t38,cd t39,cd t40,cd t41,cd t42,cd t43,cd t44,cd t45,cd t46,cd t47,cd t48,cd t49,cd t50,cd t51,cd t52,cd t53,cd t54,cd t55,cd t56,cd t57,cd t58,cd t59,cd t60,cd t61,cd t62,cd t63]
  exact(Fa (cJ ao) 64 F5).symm
 refine⟨?_,?_⟩
 ·show aV (da 0 255 64++[]) _
  rw[h9]
  exact Qo 64 _ rfl λx hx=>by
   simp only[s9,Ma,h9,oT,D8,or_false]at hx
   rcases hx with rfl|rfl|rfl|rfl|rfl|rfl|rfl|rfl|rfl|rfl|rfl|rfl|rfl|rfl|rfl|rfl|rfl|rfl|rfl|rfl|rfl|rfl|rfl|rfl|rfl|rfl|rfl|rfl|rfl|rfl|rfl|rfl|rfl|rfl|rfl|rfl|rfl|rfl|rfl|rfl|rfl|rfl|rfl|rfl|rfl|rfl|rfl|rfl|rfl|rfl|rfl|rfl|rfl|rfl|rfl|rfl|rfl|rfl|rfl|rfl|rfl|rfl|rfl|rfl
   ·exact⟨x0,ja⟩
   ·exact⟨x1,iq⟩
   ·exact⟨x2,qU⟩
   ·exact⟨gF,yl⟩
   ·exact⟨gq,AY⟩
   ·exact⟨gG,AZ⟩
   ·exact⟨gV,A0⟩
   ·exact⟨ka,A1⟩
   ·exact⟨lH,A2⟩
   ·exact⟨lI,A3⟩
   ·exact⟨mq,DT⟩
   ·exact⟨fQ,AX⟩
   ·exact⟨hV,DU⟩
   ·exact⟨kT,DV⟩
   ·exact⟨yj,Hu⟩
   ·exact⟨yk,Hv⟩
   ·exact⟨DP,SA⟩
   ·exact⟨DQ,SC⟩
   ·exact⟨DR,SD⟩
   ·exact⟨DS,SE⟩
   ·exact⟨Lr,SG⟩
   ·exact⟨Ls,SH⟩
   ·exact⟨Lt,SI⟩
   ·exact⟨Lu,SJ⟩
   ·exact⟨Lv,SK⟩
   ·exact⟨Lw,SL⟩
   ·exact⟨Lx,SM⟩
   ·exact⟨Ly,SN⟩
   ·exact⟨Lz,SO⟩
   ·exact⟨LA,SP⟩
   ·exact⟨LB,SQ⟩
   ·exact⟨LC,SR⟩
   ·exact⟨ayn,ayW⟩
   ·exact⟨ayo,ayX⟩
   ·exact⟨ayp,ayY⟩
   ·exact⟨ayq,ayZ⟩
   ·exact⟨ayr,ay0⟩
   ·exact⟨ays,ay1⟩
   ·exact⟨ayt,ay2⟩
   ·exact⟨ayu,ay3⟩
   ·exact⟨ayv,ay4⟩
   ·exact⟨ayw,ay5⟩
   ·exact⟨ayx,ay6⟩
   ·exact⟨ayy,ay7⟩
   ·exact⟨ayz,ay8⟩
   ·exact⟨ayA,ay9⟩
   ·exact⟨ayB,aza⟩
   ·exact⟨ayC,azb⟩
   ·exact⟨ayD,SS⟩
   ·exact⟨ayE,azc⟩
   ·exact⟨ayF,azd⟩
   ·exact⟨ayG,aze⟩
   ·exact⟨ayH,azf⟩
   ·exact⟨ayI,azg⟩
   ·exact⟨ayJ,azh⟩
   ·exact⟨ayK,azi⟩
   ·exact⟨ayL,azj⟩
   ·exact⟨ayM,azk⟩
   ·exact⟨ayN,azl⟩
   ·exact⟨ayO,azm⟩
   ·exact⟨ayP,azn⟩
   ·exact⟨ayQ,azo⟩
   ·exact⟨ayR,azp⟩
   ·exact⟨ayS,azq⟩
 ·show [[aR,ba,bh,z20,z21,z22,bU,z24,aO,z26,cY,z28,cy,bW,z31,b7,cZ,cz,cr,cv,z37,eA,fc,z40,dW,ef,fo,eP,dI,z46,dx,fe,z49,eX,z51,eQ,z53,ff,fR,hM,hO,lJ,z59,lK,lL,ke,gh,jV,kf,kp,kq,nB,nC,z70,kW,z72,fC,jb,z75,z76,hW,jc,jE,jo]]=[rH cW (cJ z0)]
  rw[cF,dA];rfl
end Go.cu
namespace Go.cu
open Go Go.bo
def UP (S:Nat->List (List Int)->List (List Int)->Prop) (K:List (List Int)->List (List Int)->Prop):Prop:=
 cS λz0=>(ab 71 [z0]->cM λag=>bn λz2=>aK 20 [z0] λz3=>eG (-9223372036854775808) 9223372036854775807 λz4=>S 440 [[z3],[32]] [[z4]]->
 ab 49 [z4,z4]/\aA 26 [z4,0] λz5=>bn λz6=>ab 80 [z5,0,z4]/\ab 22 [z0,0,z3]/\aK 62 [z3,z4] λz7=>aA 22 [z0,0,z7] λz8=>aA 63
 [z5,0,z8] λz9=>ab 30 [z3,z4]/\ab 21 [z9,z3]/\(ab 67 [z9,z3,1]->aA 42 [z9,z3,0,128] λaj=>cO 0 3 (8*z3) 18446744073709551616 λak=>∃
 (yE:List (List Int)->Prop) (HX:List (List Int)->Nat),yE [[((8*z3)+((-18446744073709551616)*ak))],[(z4+(-1))],[aj]]/\(lD λad=>bn λ
 ao=>cS λaz=>yE [[ad],[ao],[az]]->(aq (decide (0<ad)) (cO 0 72057594037927935 ad 256 λaC=>ab 30 [ao,z4]/\ab 21 [az,ao]/\(ab
 67 [az,ao,1]->aA 42 [az,ao,0,(ad+((-256)*aC))] λaR=>cO 0 72057594037927935 ad 256 λba=>ab 39 [(ao+(-1)),(-1),9223372036854775807]
 /\(yE [[ba],[(ao+(-1))],[aR]]/\HX [[ba],[(ao+(-1))],[aR]]<HX [[ad],[ao],[az]]))) (ab 22 [az,0,z4]/\aA 22 [az,0,z4] λaC=>K
 [[z0]] [[aC]])))))
def UQ (S:Nat->List (List Int)->List (List Int)->Prop) (K:List (List Int)->List (List Int)->Prop):Prop:=
 cS λz0=>(ab 71 [z0]->cM λag=>bn λz2=>aK 20 [z0] λz3=>eG (-9223372036854775808) 9223372036854775807 λz4=>S 440 [[z3],[64]] [[z4]]->
 ab 49 [z4,z4]/\aA 26 [z4,0] λz5=>bn λz6=>ab 80 [z5,0,z4]/\ab 22 [z0,0,z3]/\aK 62 [z3,z4] λz7=>aA 22 [z0,0,z7] λz8=>aA 63
 [z5,0,z8] λz9=>ab 30 [z3,z4]/\ab 21 [z9,z3]/\(ab 67 [z9,z3,1]->aA 42 [z9,z3,0,128] λaj=>cO 0 3 (8*z3) 18446744073709551616 λak=>∃
 (yE:List (List Int)->Prop) (HX:List (List Int)->Nat),yE [[((8*z3)+((-18446744073709551616)*ak))],[(z4+(-1))],[aj]]/\(lD λad=>bn λ
 ao=>cS λaz=>yE [[ad],[ao],[az]]->(aq (decide (0<ad)) (cO 0 72057594037927935 ad 256 λaC=>ab 30 [ao,z4]/\ab 21 [az,ao]/\(ab
 67 [az,ao,1]->aA 42 [az,ao,0,(ad+((-256)*aC))] λaR=>cO 0 72057594037927935 ad 256 λba=>ab 39 [(ao+(-1)),(-1),9223372036854775807]
 /\(yE [[ba],[(ao+(-1))],[aR]]/\HX [[ba],[(ao+(-1))],[aR]]<HX [[ad],[ao],[az]]))) (ab 22 [az,0,z4]/\aA 22 [az,0,z4] λaC=>K
 [[z0]] [[aC]])))))
def rws (l:List Int):List (List Int):=l.map λx=>[x]
theorem EN {z:Int} {l:List Int} (h:af z=rws l):cJ z=l:=by
 unfold cJ rws at*
 rw[h,k7]
 exact(h8 λx _=>rfl).trans (D9 l)
theorem ns (l:List Int):(rws l).length=l.length:=by simp[rws]
theorem RM (a b:List Int):rws (a++b)=rws a++rws b:=by simp[rws]
theorem DC (n:Nat) (x:Int):rws (du n x)=du n [x]:=by simp[rws]
def mo (v:Nat) (j:Nat):List Int:=(cU j).map λq=>((v/256^(j-1-q)% 256:Nat):Int)
theorem abX (v j:Nat):(mo v j).length=j:=by simp[mo]
theorem Sd (v j:Nat):mo v (j+1)=((v/256^j% 256:Nat):Int)::mo v j:=by
 unfold mo
 rw[List.range_succ_eq_map,List.map_cons,k7]
 refine congr (congrArg _ (by simp)) (h8 λq hq=>?_)
 have:q<j:=List.mem_range.1 hq
 simp only[HD]
 rw[show j+1-1-(q+1)=j-1-q by omega]
theorem abW (v:Nat):∀(d j:Nat),j+d=8->v/256^j=0->tk v=du (8-j) 0++mo v j:=by
 have base:tk v=mo v 8:=by
  unfold tk mo
  refine h8 λq hq=>?_
  have:q<8:=List.mem_range.1 hq
  have e:(256:Nat)^(8-1-q)=2^(56-8*q):=by
   rw[show(256:Nat)=2^8 by rfl,<-Nat.pow_mul];congr 1;omega
  rw[e]
 intro d
 induction d with
 |zero=>
  intro j hj _
  have:j=8:=by omega
  subst this
  simpa using base
 |succ d ih=>
  intro j hj h0
  have h1:v/256^(j+1)=0:=by rw[yo,<-HJ,h0]
  rw[ih (j+1) (by omega) h1,Sd,h0,show 8-j=(8-(j+1))+1 by omega,ac6]
  simp
theorem K9 {α:Type} (a b:List α) (x y:α) (n:Nat) (h:a.length=n):(a++x::b).set n y=a++y::b:=by
 subst h
 induction a with
 |nil=>rfl
 |cons z a ih=>simp[ih]
theorem Jd {α:Type} (a b:List α) (x d:α) (n:Nat) (h:a.length=n):(a++x::b).getD n d=x:=by
 subst h
 simp[ae]
theorem asO:UP SB (dq SB [xS] 442):=by
 intro z0 a0 a1 hp ag b0 z2 bC c1 z3 d0 d1 h3 z4 aZ e1 h4
 have hp:(af z0).length<=1000000000:=hp
 have h3:z3=((af z0).length:Int):=h3
 have h4:[[z4]]=[[qN z3 32]]:=h4
 obtain⟨n,hn⟩:∃n,(af z0).length=n:=⟨_,rfl⟩
 rw[hn]at h3 hp
 have zm:(cJ z0).length=n:=by rw[tl,hn]
 obtain⟨P,kl⟩:∃P,mj 32 n=P:=⟨_,rfl⟩
 have aiZ:P=(n+1+8+63)/64*64:=kl.symm
 have h4:z4=(P:Int):=by
  have:z4=qN z3 32:=by simpa using h4
  rw[this];unfold qN
  rw[if_neg (by omega),h3]
  simp only[gu]
  rw[show(32:Int).toNat=32 from rfl,kl]
 have g1:n+9<=P:=by omega
 have g2:P<=1000001000:=by omega
 refine⟨⟨by omega,by omega,by omega⟩,λz5 f0 f1 h5 z6 i0 i1=>?_⟩
 have h5:af z5=rws (du P 0):=by
  rw[h5]
  show af (rc (du z4.toNat [0]))=_
  rw[ee,DC,h4];simp
 have vJ:(af z5).length=P:=by rw[h5,ns];simp
 refine⟨⟨bX _,by omega,by rw[vJ];omega⟩,⟨bX _,by omega,by rw[hn];omega⟩,λz7 ew dk h7 z8 fA k1 bD z9 m0 fW bg=>?_⟩
 have h7:z7=(n:Int):=by
  have:z7=min z3 z4:=h7
  rw[this,h3,h4];omega
 have bD:af z8=af z0:=oO bD (by rw[h7,hn])
 obtain⟨aAL,Cs⟩:∃l:List (List Int),af z0=l:=⟨_,rfl⟩
 have bg:af z9=af z0++rws (0::du (P-n-1) 0):=by
  rw[bg]
  show af (rc ((af z5).take (0:Int).toNat++af z8++(af z5).drop ((0:Int).toNat+(af z8).length)))=_
  rw[ee,bD,h5,hn]
  simp only[uD,uM,jr,pB]
  congr 1
  rw[DC,aAH,<-uO,DC]
  rw[show P-n-1+1=P-n by omega]
 have vK:(af z9).length=P:=by rw[bg,dN,hn,ns];simp;omega
 refine⟨⟨by omega,by omega⟩,⟨by omega,by rw[vK];omega⟩,λ_ aj n0 n1 b9 ak tY o1 o2 Q2=>?_⟩
 have:ak=0:=by omega
 subst this
 have b9:af aj=af z0++rws (128::du (P-n-1) 0):=by
  rw[b9]
  show af (rc ((af z9).set z3.toNat (((af z9).getD z3.toNat []).take (0:Int).toNat++[128]++((af z9).getD z3.toNat []).drop ((0:Int).toNat+[(128:Int)].length))))=_
  have e1:rws (0::du (P-n-1) 0)=[0]::rws (du (P-n-1) 0):=rfl
  have e2:rws (128::du (P-n-1) 0)=[128]::rws (du (P-n-1) 0):=rfl
  have hl:(af z0).length=z3.toNat:=by rw[hn,h3];simp
  rw[ee,bg,e1,e2,Jd _ _ _ _ _ hl]
  simp only[uD,uM,jr,yn,Ep,A5,pB,h9]
  exact K9 _ _ _ _ _ hl
 refine⟨λl=>∃(j:Nat) (c:Int),j<=8/\l=[[((8*n/256^j:Nat):Int)],[(P:Int)-1-j],[c]]/\af c=af z0++rws (128::du (P-n-1-j) 0++mo (8*n) j),λl=>((l.getD 0 []).getD 0 0).toNat,⟨0,aj,by decide,by
  rw[Nat.pow_zero,Nat.div_one,show(8*z3+-18446744073709551616*0:Int)=((8*n:Nat):Int) by omega,show(z4+-1:Int)=(P:Int)-1-((0:Nat):Int) by omega],by rw[b9];simp[mo]⟩,?_⟩
 intro ad p0 p1 ao fJ bq az aP r1 hI
 obtain⟨j,c,hj,hl,hc⟩:=hI
 simp only[hX,and_true]at hl
 obtain⟨wS,BM,Nz⟩:=hl
 subst Nz
 have Ai:(af az).length=P:=by
  rw[hc,dN,hn,ns]
  simp only[dN,dv,Bd,abX]
  omega
 refine⟨λgj=>?_,λzy=>⟨⟨bX _,by omega,by rw[Ai];omega⟩,λaC hT s1 gA=>⟨⟨hT,s1,trivial⟩,?_⟩⟩⟩
 ·have gj:=of_decide_eq_true gj
  intro aC hT s1 s2 fL
  have akS:j<8:=by
   rcases od j 8 with h|h
   ·exact h
   ·have:j=8:=by omega
    subst this
    have:8*n/256^8=0:=aAI (by omega)
    omega
  refine⟨⟨by omega,by omega⟩,⟨by omega,by rw[Ai];omega⟩,λ_ aR t0 t1 ju ba u0 px sR uw=>?_⟩
  have tJ:af az=af z0++rws ((128::du (P-n-1-j-1) 0)++0::mo (8*n) j):=by
   rw[hc];congr 2
   rw[show P-n-1-j=(P-n-1-j-1)+1 by omega,ac6]
   simp
  have Qg:af aR=af z0++rws ((128::du (P-n-1-j-1) 0)++(ad+-256*aC)::mo (8*n) j):=by
   rw[ju]
   show af (rc ((af az).set ao.toNat (((af az).getD ao.toNat []).take (0:Int).toNat++[ad+-256*aC]++((af az).getD ao.toNat []).drop ((0:Int).toNat+[ad+-256*aC].length))))=_
   have e1:∀x:Int,af z0++rws ((128::du (P-n-1-j-1) 0)++x::mo (8*n) j)=(af z0++rws (128::du (P-n-1-j-1) 0))++[x]::rws (mo (8*n) j):=λx=>by
    rw[RM,je];rfl
   have hl:(af z0++rws (128::du (P-n-1-j-1) 0)).length=ao.toNat:=by
    rw[dN,hn,ns]
    simp only[dv,Bd]
    omega
   rw[ee,tJ,e1,e1,Jd _ _ _ _ _ hl]
   simp only[uD,uM,jr,yn,Ep,A5,pB,h9]
   exact K9 _ _ _ _ _ hl
  have NB:aC=ad/256:=by omega
  have EZ:ba=ad/256:=by omega
  refine⟨⟨by omega,by omega⟩,⟨j+1,aR,by omega,?_,?_⟩,?_⟩
  ·rw[show ba=((8*n/256^(j+1):Nat):Int) by rw[yo,<-HJ,EZ,wS];simp,show(ao+-1:Int)=(P:Int)-1-((j+1:Nat):Int) by omega]
  ·rw[Qg,Sd]
   congr 2
   rw[show P-n-1-(j+1)=P-n-1-j-1 by omega]
   congr 2
   rw[NB,wS];omega
  ·show ba.toNat<ad.toNat
   omega
 ·have zy:=of_decide_eq_false zy
  have h0:8*n/256^j=0:=by omega
  show cJ aC=qO cV (cJ z0)
  have gA:=oO gA (by rw[Ai,h4])
  have aZ:af az=af z0++rws (128::du (P-n-9) 0++tk (8*n)):=by
   rw[hc,abW (8*n) (8-j) j (by omega) h0]
   congr 2
   rw[show P-n-1-j=(P-n-9)+(8-j) by omega,<-acZ]
   simp only[wu,je]
  unfold qO
  rw[zm,show cV.w=32 from rfl,kl]
  unfold cJ
  rw[gA,aZ,ft]
  have:=EN (z:=rc (rws (128::du (P-n-9) 0++tk (8*n)))) (ee _)
  unfold cJ at this
  rw[ee]at this
  rw[this]
  simp
theorem asP:UQ SB (dq SB [xS] 443):=by
 intro z0 a0 a1 hp ag b0 z2 bC c1 z3 d0 d1 h3 z4 aZ e1 h4
 have hp:(af z0).length<=1000000000:=hp
 have h3:z3=((af z0).length:Int):=h3
 have h4:[[z4]]=[[qN z3 64]]:=h4
 obtain⟨n,hn⟩:∃n,(af z0).length=n:=⟨_,rfl⟩
 rw[hn]at h3 hp
 have zm:(cJ z0).length=n:=by rw[tl,hn]
 obtain⟨P,kl⟩:∃P,mj 64 n=P:=⟨_,rfl⟩
 have aiZ:P=(n+1+16+127)/128*128:=kl.symm
 have h4:z4=(P:Int):=by
  have:z4=qN z3 64:=by simpa using h4
  rw[this];unfold qN
  rw[if_neg (by omega),h3]
  simp only[gu]
  rw[show(64:Int).toNat=64 from rfl,kl]
 have g1:n+9<=P:=by omega
 have g2:P<=1000001000:=by omega
 refine⟨⟨by omega,by omega,by omega⟩,λz5 f0 f1 h5 z6 i0 i1=>?_⟩
 have h5:af z5=rws (du P 0):=by
  rw[h5]
  show af (rc (du z4.toNat [0]))=_
  rw[ee,DC,h4];simp
 have vJ:(af z5).length=P:=by rw[h5,ns];simp
 refine⟨⟨bX _,by omega,by rw[vJ];omega⟩,⟨bX _,by omega,by rw[hn];omega⟩,λz7 ew dk h7 z8 fA k1 bD z9 m0 fW bg=>?_⟩
 have h7:z7=(n:Int):=by
  have:z7=min z3 z4:=h7
  rw[this,h3,h4];omega
 have bD:af z8=af z0:=oO bD (by rw[h7,hn])
 obtain⟨aAL,Cs⟩:∃l:List (List Int),af z0=l:=⟨_,rfl⟩
 have bg:af z9=af z0++rws (0::du (P-n-1) 0):=by
  rw[bg]
  show af (rc ((af z5).take (0:Int).toNat++af z8++(af z5).drop ((0:Int).toNat+(af z8).length)))=_
  rw[ee,bD,h5,hn]
  simp only[uD,uM,jr,pB]
  congr 1
  rw[DC,aAH,<-uO,DC]
  rw[show P-n-1+1=P-n by omega]
 have vK:(af z9).length=P:=by rw[bg,dN,hn,ns];simp;omega
 refine⟨⟨by omega,by omega⟩,⟨by omega,by rw[vK];omega⟩,λ_ aj n0 n1 b9 ak tY o1 o2 Q2=>?_⟩
 have:ak=0:=by omega
 subst this
 have b9:af aj=af z0++rws (128::du (P-n-1) 0):=by
  rw[b9]
  show af (rc ((af z9).set z3.toNat (((af z9).getD z3.toNat []).take (0:Int).toNat++[128]++((af z9).getD z3.toNat []).drop ((0:Int).toNat+[(128:Int)].length))))=_
  have e1:rws (0::du (P-n-1) 0)=[0]::rws (du (P-n-1) 0):=rfl
  have e2:rws (128::du (P-n-1) 0)=[128]::rws (du (P-n-1) 0):=rfl
  have hl:(af z0).length=z3.toNat:=by rw[hn,h3];simp
  rw[ee,bg,e1,e2,Jd _ _ _ _ _ hl]
  simp only[uD,uM,jr,yn,Ep,A5,pB,h9]
  exact K9 _ _ _ _ _ hl
 refine⟨λl=>∃(j:Nat) (c:Int),j<=8/\l=[[((8*n/256^j:Nat):Int)],[(P:Int)-1-j],[c]]/\af c=af z0++rws (128::du (P-n-1-j) 0++mo (8*n) j),λl=>((l.getD 0 []).getD 0 0).toNat,⟨0,aj,by decide,by
  rw[Nat.pow_zero,Nat.div_one,show(8*z3+-18446744073709551616*0:Int)=((8*n:Nat):Int) by omega,show(z4+-1:Int)=(P:Int)-1-((0:Nat):Int) by omega],by rw[b9];simp[mo]⟩,?_⟩
 intro ad p0 p1 ao fJ bq az aP r1 hI
 obtain⟨j,c,hj,hl,hc⟩:=hI
 simp only[hX,and_true]at hl
 obtain⟨wS,BM,Nz⟩:=hl
 subst Nz
 have Ai:(af az).length=P:=by
  rw[hc,dN,hn,ns]
  simp only[dN,dv,Bd,abX]
  omega
 refine⟨λgj=>?_,λzy=>⟨⟨bX _,by omega,by rw[Ai];omega⟩,λaC hT s1 gA=>⟨⟨hT,s1,trivial⟩,?_⟩⟩⟩
 ·have gj:=of_decide_eq_true gj
  intro aC hT s1 s2 fL
  have akS:j<8:=by
   rcases od j 8 with h|h
   ·exact h
   ·have:j=8:=by omega
    subst this
    have:8*n/256^8=0:=aAI (by omega)
    omega
  refine⟨⟨by omega,by omega⟩,⟨by omega,by rw[Ai];omega⟩,λ_ aR t0 t1 ju ba u0 px sR uw=>?_⟩
  have tJ:af az=af z0++rws ((128::du (P-n-1-j-1) 0)++0::mo (8*n) j):=by
   rw[hc];congr 2
   rw[show P-n-1-j=(P-n-1-j-1)+1 by omega,ac6]
   simp
  have Qg:af aR=af z0++rws ((128::du (P-n-1-j-1) 0)++(ad+-256*aC)::mo (8*n) j):=by
   rw[ju]
   show af (rc ((af az).set ao.toNat (((af az).getD ao.toNat []).take (0:Int).toNat++[ad+-256*aC]++((af az).getD ao.toNat []).drop ((0:Int).toNat+[ad+-256*aC].length))))=_
   have e1:∀x:Int,af z0++rws ((128::du (P-n-1-j-1) 0)++x::mo (8*n) j)=(af z0++rws (128::du (P-n-1-j-1) 0))++[x]::rws (mo (8*n) j):=λx=>by
    rw[RM,je];rfl
   have hl:(af z0++rws (128::du (P-n-1-j-1) 0)).length=ao.toNat:=by
    rw[dN,hn,ns]
    simp only[dv,Bd]
    omega
   rw[ee,tJ,e1,e1,Jd _ _ _ _ _ hl]
   simp only[uD,uM,jr,yn,Ep,A5,pB,h9]
   exact K9 _ _ _ _ _ hl
  have NB:aC=ad/256:=by omega
  have EZ:ba=ad/256:=by omega
  refine⟨⟨by omega,by omega⟩,⟨j+1,aR,by omega,?_,?_⟩,?_⟩
  ·rw[show ba=((8*n/256^(j+1):Nat):Int) by rw[yo,<-HJ,EZ,wS];simp,show(ao+-1:Int)=(P:Int)-1-((j+1:Nat):Int) by omega]
  ·rw[Qg,Sd]
   congr 2
   rw[show P-n-1-(j+1)=P-n-1-j-1 by omega]
   congr 2
   rw[NB,wS];omega
  ·show ba.toNat<ad.toNat
   omega
 ·have zy:=of_decide_eq_false zy
  have h0:8*n/256^j=0:=by omega
  show cJ aC=qO cW (cJ z0)
  have gA:=oO gA (by rw[Ai,h4])
  have aZ:af az=af z0++rws (128::du (P-n-9) 0++tk (8*n)):=by
   rw[hc,abW (8*n) (8-j) j (by omega) h0]
   congr 2
   rw[show P-n-1-j=(P-n-9)+(8-j) by omega,<-acZ]
   simp only[wu,je]
  unfold qO
  rw[zm,show cW.w=64 from rfl,kl]
  unfold cJ
  rw[gA,aZ,ft]
  have:=EN (z:=rc (rws (128::du (P-n-9) 0++tk (8*n)))) (ee _)
  unfold cJ at this
  rw[ee]at this
  rw[this]
  simp
end Go.cu
namespace Go.cu
open Go Go.bo
theorem NO (p:ga):∀(j:Nat) (m:List Int),rf p (j+1) m=rf p j m++[xN p (rf p j m)]
 |0,m=>rfl
 |j+1,m=>by
  show rf p (j+1) (m++[xN p m])=_
  rw[NO p j];rfl
theorem NM (p:ga):∀(j:Nat) (m:List Int),(rf p j m).length=m.length+j
 |0,_=>rfl
 |j+1,m=>by
  show(rf p j (m++[xN p m])).length=_
  rw[NM p j];simp;omega
theorem RJ (p:ga):∀(m:List Int) (i:Nat) (x:Int) (v:List Int),vX p i (m++[x]) v=uu p (i+m.length) x (vX p i m v)
 |[],i,x,v=>rfl
 |y::m,i,x,v=>by
  show vX p (i+1) (m++[x]) _=uu p _ x (vX p (i+1) m _)
  rw[RJ p m]
  congr 1
  simp only[dv];omega
theorem abV (m:List Int) (i:Nat) (h:i<m.length):m.take (i+1)=m.take i++[m.getD i 0]:=by
 rw[LJ,kg h];simp[ae,h]
theorem ZF {r:List Int} (h:r.length=8):r=[r.getD 0 0,r.getD 1 0,r.getD 2 0,r.getD 3 0,r.getD 4 0,r.getD 5 0,r.getD 6 0,r.getD 7 0]:=Fa r 8 h
theorem gb {c z x:Int} {l:List Int} (h:z=au 23 [c,x]) (hc:af c=rws l):af z=rws (l++[x]):=by
 rw[h]
 show af (rc (af c++[[x]]))=_
 rw[ee,hc,RM];rfl
theorem tz {c i z:Int} {l:List Int} (h:z=au 21 [c,i,0]) (hc:af c=rws l):z=l.getD i.toNat 0:=by
 rw[cd h,EN hc]
theorem GB {lo hi:Int}:∀(n:Nat) (l:List Int),aV (da lo hi n) l->l.length=n/\∀x∈l,lo<=x/\x<=hi
 |0,[],_=>⟨rfl,λ_ h=>by cases h⟩
 |n+1,x::l,h=>by
  obtain⟨h1,h2⟩:=GB n l h.2.2
  refine⟨by simp[h1],λy hy=>?_⟩
  rcases List.mem_cons.1 hy with rfl|hy
  ·exact⟨h.1,h.2.1⟩
  ·exact h2 y hy
 |0,_::_,h=>h.elim
 |_+1,[],h=>h.elim
theorem Wv (b:List Int) (o n k:Nat) (hk:k<n):((b.drop o).take n).getD k 0=b.getD (o+k) 0:=by
 simp only[ae,og,List.getElem?_drop,hk,if_true]
theorem ye {x c l k:Int} {pre:List Int} {Next:Int->Int->Int->Prop} (hc:af c=rws pre) (hl:l=(pre.length:Int)) (hb:pre.length<=1000)
 (hn:∀c' bQ a6:Int,0<=c'->c'<=bK->af c'=rws (pre++(cU 4).map (lk cV x))->bQ=((pre.length+4:Nat):Int)->Next c' bQ a6):
 ∃(I:List (List Int)->Prop) (jZ:List (List Int)->Nat),I [[3],[c],[l],[k]]/\(∀az:Int,(-1)<=az->az<=3->∀aC:Int,0<=aC->aC<=bK->∀aR:Int,0<=aR->aR<=9223372036854775807->∀ba:Int,(-1)<=ba->ba<=9223372036854775807->I [[az],[aC],[aR],[ba]]->
 (((decide (0<=az))=true->
  ∀bh:Int,0<=bh->bh<=4294967295->bh=x/2^((8*az)).toNat->
  ∀z20:Int,0<=z20->z20<=16777215->0<=bh-256*z20->bh-256*z20<256->
  ab 31 [aC,aR]/\
  ab 23 [aC,1]/\
  ∀z21:Int,0<=z21->z21<=bK->z21=au 23 [aC,(bh+((-256)*z20))]->
  ∀z22:Int,(-1)<=z22->z22<=9223372036854775807->
  (I [[(az+(-1))],[z21],[(aR+1)],[z22]]/\jZ [[(az+(-1))],[z21],[(aR+1)],[z22]]<jZ [[az],[aC],[aR],[ba]])
 )/\((decide (0<=az))=false->Next aC aR ba))):=by
 refine⟨λl=>∃(j:Nat) (c' a6:Int),j<=4/\l=[[3-(j:Int)],[c'],[((pre.length+j:Nat):Int)],[a6]]/\af c'=rws (pre++(cU j).map (lk cV x)),λl=>((l.getD 0 []).getD 0 0+1).toNat,⟨0,c,k,by decide,by rw[hl];rfl,by rw[hc];simp⟩,?_⟩
 intro az a0 a1 aC b0 b1 aR bC c1 ba d0 d1 ⟨j,c',a6,hj,e,hr⟩
 simp only[hX,and_true]at e
 obtain⟨e1,e2,bN,fi⟩:=e
 subst e2
 have hlen:(af aC).length=pre.length+j:=by rw[hr,ns];simp
 refine⟨λh bh f0 f1 f2 z20 g0 g1 g2 g3=>?_,λh=>?_⟩
 ·have h:=of_decide_eq_true h
  refine⟨by show aR=((af aC).length:Int);rw[hlen,bN],by show(af aC).length+(1:Int)<=1073741824;rw[hlen];omega,λz21 i0 i1 i2 z22 ew dk=>⟨⟨j+1,z21,z22,by omega,?_,?_⟩,?_⟩⟩
  ·rw[show az+-1=3-((j+1:Nat):Int) by omega,show aR+1=((pre.length+(j+1):Nat):Int) by omega]
  ·rw[gb i2 hr,je,aAJ,ft]
   congr 3
   show [bh+-256*z20]=[x/2^(32-8-8*j)% 256]
   have:(8*az).toNat=32-8-8*j:=by omega
   rw[<-this,<-f2]
   congr 1;omega
  ·show(az+-1+1).toNat<(az+1).toNat
   omega
 ·have h:=of_decide_eq_false h
  have:j=4:=by omega
  subst this
  exact hn aC aR ba b0 b1 hr bN
theorem yf {x c l k:Int} {pre:List Int} {Next:Int->Int->Int->Prop} (hc:af c=rws pre) (hl:l=(pre.length:Int)) (hb:pre.length<=1000)
 (hn:∀c' bQ a6:Int,0<=c'->c'<=bK->af c'=rws (pre++(cU 8).map (lk cW x))->bQ=((pre.length+8:Nat):Int)->Next c' bQ a6):
 ∃(I:List (List Int)->Prop) (jZ:List (List Int)->Nat),I [[7],[c],[l],[k]]/\(∀az:Int,(-1)<=az->az<=7->∀aC:Int,0<=aC->aC<=bK->∀aR:Int,0<=aR->aR<=9223372036854775807->∀ba:Int,(-1)<=ba->ba<=9223372036854775807->I [[az],[aC],[aR],[ba]]->
 (((decide (0<=az))=true->
  ∀bh:Int,0<=bh->bh<=18446744073709551615->bh=x/2^((8*az)).toNat->
  ∀z20:Int,0<=z20->z20<=72057594037927935->0<=bh-256*z20->bh-256*z20<256->
  ab 31 [aC,aR]/\
  ab 23 [aC,1]/\
  ∀z21:Int,0<=z21->z21<=bK->z21=au 23 [aC,(bh+((-256)*z20))]->
  ∀z22:Int,(-1)<=z22->z22<=9223372036854775807->
  (I [[(az+(-1))],[z21],[(aR+1)],[z22]]/\jZ [[(az+(-1))],[z21],[(aR+1)],[z22]]<jZ [[az],[aC],[aR],[ba]])
 )/\((decide (0<=az))=false->Next aC aR ba))):=by
 refine⟨λl=>∃(j:Nat) (c' a6:Int),j<=8/\l=[[7-(j:Int)],[c'],[((pre.length+j:Nat):Int)],[a6]]/\af c'=rws (pre++(cU j).map (lk cW x)),λl=>((l.getD 0 []).getD 0 0+1).toNat,⟨0,c,k,by decide,by rw[hl];rfl,by rw[hc];simp⟩,?_⟩
 intro az a0 a1 aC b0 b1 aR bC c1 ba d0 d1 ⟨j,c',a6,hj,e,hr⟩
 simp only[hX,and_true]at e
 obtain⟨e1,e2,bN,fi⟩:=e
 subst e2
 have hlen:(af aC).length=pre.length+j:=by rw[hr,ns];simp
 refine⟨λh bh f0 f1 f2 z20 g0 g1 g2 g3=>?_,λh=>?_⟩
 ·have h:=of_decide_eq_true h
  refine⟨by show aR=((af aC).length:Int);rw[hlen,bN],by show(af aC).length+(1:Int)<=1073741824;rw[hlen];omega,λz21 i0 i1 i2 z22 ew dk=>⟨⟨j+1,z21,z22,by omega,?_,?_⟩,?_⟩⟩
  ·rw[show az+-1=7-((j+1:Nat):Int) by omega,show aR+1=((pre.length+(j+1):Nat):Int) by omega]
  ·rw[gb i2 hr,je,aAJ,ft]
   congr 3
   show [bh+-256*z20]=[x/2^(64-8-8*j)% 256]
   have:(8*az).toNat=64-8-8*j:=by omega
   rw[<-this,<-f2]
   congr 1;omega
  ·show(az+-1+1).toNat<(az+1).toNat
   omega
 ·have h:=of_decide_eq_false h
  have:j=8:=by omega
  subst this
  exact hn aC aR ba b0 b1 hr bN
end Go.cu
namespace Go.cu
open Go Go.bo
def TG (S:Nat->List (List Int)->List (List Int)->Prop) (K:List (List Int)->List (List Int)->Prop):Prop:=
 cS λz0=>(ab 72 [z0]->cM λag=>bn λz2=>aK 20 [z0] λz3=>ab 70 [z3,64]/\∃(eB:List (List Int)->Prop) (eg:List (List Int)->
 Nat),eB [[1779033703,3144134277,1013904242,2773480762,1359893119,2600822924,528734635,1541459225],[0]]/\(∀bA:List Int,aV (da 0 4294967295 8) bA->dH λ
 ad=>eB [bA,[ad]]->(aq (decide ((64*ad)<z3)) (ab 21 [z0,(64*ad)]/\av 21 [z0,(64*ad),0] λao=>ab 21 [z0,((64*ad)+1)]/\av 21
 [z0,((64*ad)+1),0] λaz=>ab 21 [z0,((64*ad)+2)]/\av 21 [z0,((64*ad)+2),0] λaC=>ab 21 [z0,((64*ad)+3)]/\av 21 [z0,((64*
 ad)+3),0] λaR=>ab 21 [z0,((64*ad)+4)]/\av 21 [z0,((64*ad)+4),0] λba=>ab 21 [z0,((64*ad)+5)]/\av 21 [z0,((64*ad)+
 5),0] λbh=>ab 21 [z0,((64*ad)+6)]/\av 21 [z0,((64*ad)+6),0] λz20=>ab 21 [z0,((64*ad)+7)]/\av 21 [z0,((64*ad)+7),0] λ
 z21=>ab 21 [z0,((64*ad)+8)]/\av 21 [z0,((64*ad)+8),0] λz22=>ab 21 [z0,((64*ad)+9)]/\av 21 [z0,((64*ad)+9),0] λbU=>ab
 21 [z0,((64*ad)+10)]/\av 21 [z0,((64*ad)+10),0] λz24=>ab 21 [z0,((64*ad)+11)]/\av 21 [z0,((64*ad)+11),0] λaO=>ab 21
 [z0,((64*ad)+12)]/\av 21 [z0,((64*ad)+12),0] λz26=>ab 21 [z0,((64*ad)+13)]/\av 21 [z0,((64*ad)+13),0] λcY=>ab 21
 [z0,((64*ad)+14)]/\av 21 [z0,((64*ad)+14),0] λz28=>ab 21 [z0,((64*ad)+15)]/\av 21 [z0,((64*ad)+15),0] λcy=>ab 21
 [z0,((64*ad)+16)]/\av 21 [z0,((64*ad)+16),0] λbW=>ab 21 [z0,((64*ad)+17)]/\av 21 [z0,((64*ad)+17),0] λz31=>ab 21
 [z0,((64*ad)+18)]/\av 21 [z0,((64*ad)+18),0] λb7=>ab 21 [z0,((64*ad)+19)]/\av 21 [z0,((64*ad)+19),0] λcZ=>ab 21
 [z0,((64*ad)+20)]/\av 21 [z0,((64*ad)+20),0] λcz=>ab 21 [z0,((64*ad)+21)]/\av 21 [z0,((64*ad)+21),0] λcr=>ab 21
 [z0,((64*ad)+22)]/\av 21 [z0,((64*ad)+22),0] λcv=>ab 21 [z0,((64*ad)+23)]/\av 21 [z0,((64*ad)+23),0] λz37=>ab 21
 [z0,((64*ad)+24)]/\av 21 [z0,((64*ad)+24),0] λeA=>ab 21 [z0,((64*ad)+25)]/\av 21 [z0,((64*ad)+25),0] λfc=>ab 21
 [z0,((64*ad)+26)]/\av 21 [z0,((64*ad)+26),0] λz40=>ab 21 [z0,((64*ad)+27)]/\av 21 [z0,((64*ad)+27),0] λdW=>ab 21
 [z0,((64*ad)+28)]/\av 21 [z0,((64*ad)+28),0] λef=>ab 21 [z0,((64*ad)+29)]/\av 21 [z0,((64*ad)+29),0] λfo=>ab 21
 [z0,((64*ad)+30)]/\av 21 [z0,((64*ad)+30),0] λeP=>ab 21 [z0,((64*ad)+31)]/\av 21 [z0,((64*ad)+31),0] λdI=>ab 21
 [z0,((64*ad)+32)]/\av 21 [z0,((64*ad)+32),0] λz46=>ab 21 [z0,((64*ad)+33)]/\av 21 [z0,((64*ad)+33),0] λdx=>ab 21
 [z0,((64*ad)+34)]/\av 21 [z0,((64*ad)+34),0] λfe=>ab 21 [z0,((64*ad)+35)]/\av 21 [z0,((64*ad)+35),0] λz49=>ab 21
 [z0,((64*ad)+36)]/\av 21 [z0,((64*ad)+36),0] λeX=>ab 21 [z0,((64*ad)+37)]/\av 21 [z0,((64*ad)+37),0] λz51=>ab 21
 [z0,((64*ad)+38)]/\av 21 [z0,((64*ad)+38),0] λeQ=>ab 21 [z0,((64*ad)+39)]/\av 21 [z0,((64*ad)+39),0] λz53=>ab 21
 [z0,((64*ad)+40)]/\av 21 [z0,((64*ad)+40),0] λff=>ab 21 [z0,((64*ad)+41)]/\av 21 [z0,((64*ad)+41),0] λfR=>ab 21
 [z0,((64*ad)+42)]/\av 21 [z0,((64*ad)+42),0] λhM=>ab 21 [z0,((64*ad)+43)]/\av 21 [z0,((64*ad)+43),0] λhO=>ab 21
 [z0,((64*ad)+44)]/\av 21 [z0,((64*ad)+44),0] λlJ=>ab 21 [z0,((64*ad)+45)]/\av 21 [z0,((64*ad)+45),0] λz59=>ab 21
 [z0,((64*ad)+46)]/\av 21 [z0,((64*ad)+46),0] λlK=>ab 21 [z0,((64*ad)+47)]/\av 21 [z0,((64*ad)+47),0] λlL=>ab 21
 [z0,((64*ad)+48)]/\av 21 [z0,((64*ad)+48),0] λke=>ab 21 [z0,((64*ad)+49)]/\av 21 [z0,((64*ad)+49),0] λgh=>ab 21
 [z0,((64*ad)+50)]/\av 21 [z0,((64*ad)+50),0] λjV=>ab 21 [z0,((64*ad)+51)]/\av 21 [z0,((64*ad)+51),0] λkf=>ab 21
 [z0,((64*ad)+52)]/\av 21 [z0,((64*ad)+52),0] λkp=>ab 21 [z0,((64*ad)+53)]/\av 21 [z0,((64*ad)+53),0] λkq=>ab 21
 [z0,((64*ad)+54)]/\av 21 [z0,((64*ad)+54),0] λnB=>ab 21 [z0,((64*ad)+55)]/\av 21 [z0,((64*ad)+55),0] λnC=>ab 21
 [z0,((64*ad)+56)]/\av 21 [z0,((64*ad)+56),0] λz70=>ab 21 [z0,((64*ad)+57)]/\av 21 [z0,((64*ad)+57),0] λkW=>ab 21
 [z0,((64*ad)+58)]/\av 21 [z0,((64*ad)+58),0] λz72=>ab 21 [z0,((64*ad)+59)]/\av 21 [z0,((64*ad)+59),0] λfC=>ab 21
 [z0,((64*ad)+60)]/\av 21 [z0,((64*ad)+60),0] λjb=>ab 21 [z0,((64*ad)+61)]/\av 21 [z0,((64*ad)+61),0] λz75=>ab 21
 [z0,((64*ad)+62)]/\av 21 [z0,((64*ad)+62),0] λz76=>ab 21 [z0,((64*ad)+63)]/\av 21 [z0,((64*ad)+63),0] λhW=>aA 23
 [0,((16777216*ao)+((65536*az)+((256*aC)+aR)))] λjc=>aA 23 [jc,((16777216*ba)+((65536*bh)+((256*z20)+z21)))] λjE=>aA
 23 [jE,((16777216*z22)+((65536*bU)+((256*z24)+aO)))] λjo=>aA 23 [jo,((16777216*z26)+((65536*cY)+((256*z28)+cy)))] λkr=>
 aA 23 [kr,((16777216*bW)+((65536*z31)+((256*b7)+cZ)))] λkX=>aA 23 [kX,((16777216*cz)+((65536*cr)+((256*cv)+z37)))] λ
 kY=>aA 23 [kY,((16777216*eA)+((65536*fc)+((256*z40)+dW)))] λkZ=>aA 23 [kZ,((16777216*ef)+((65536*fo)+((256*eP)+dI)))]
 λz85=>aA 23 [z85,((16777216*z46)+((65536*dx)+((256*fe)+z49)))] λk0=>aA 23 [k0,((16777216*eX)+((65536*z51)+((256*eQ)+
 z53)))] λz87=>aA 23 [z87,((16777216*ff)+((65536*fR)+((256*hM)+hO)))] λk5=>aA 23 [k5,((16777216*lJ)+((65536*z59)+((256*
 lK)+lL)))] λk6=>aA 23 [k6,((16777216*ke)+((65536*gh)+((256*jV)+kf)))] λks=>aA 23 [ks,((16777216*kp)+((65536*kq)+
 ((256*nB)+nC)))] λz91=>aA 23 [z91,((16777216*z70)+((65536*kW)+((256*z72)+fC)))] λkt=>aA 23 [kt,((16777216*jb)+((65536*
 z75)+((256*z76)+hW)))] λz93=>ab 66 [z93]/\cS λjq=>S 462 [[z93]] [[jq]]->bn λlM=>aK 20 [jq] λqZ=>∃(Mq:List (List Int)
 ->Prop) (adb:List (List Int)->Nat),Mq [[16],[jq],[qZ],[lM]]/\(eG 16 9223372036854775807 λgr=>cS λiK=>dH λkc=>bn λqV=>Mq
 [[gr],[iK],[kc],[qV]]->(aq (decide (gr<64)) (ab 30 [(gr+(-16)),kc]/\ab 21 [iK,(gr+(-16))]/\G2 21 [iK,(gr+(-16)),0] λoR=>
 ab 30 [(gr+(-15)),kc]/\ab 21 [iK,(gr+(-15))]/\G2 21 [iK,(gr+(-15)),0] λqW=>n5 λny=>S 446 [[qW]] [[ny]]->bt (oR+
 ny) 4294967296 λz105=>ab 30 [(gr+(-7)),kc]/\ab 21 [iK,(gr+(-7))]/\G2 21 [iK,(gr+(-7)),0] λm4=>bt (oR+(ny+
 (((-4294967296)*z105)+m4))) 4294967296 λz107=>ab 30 [(gr+(-2)),kc]/\ab 21 [iK,(gr+(-2))]/\G2 21 [iK,(gr+(-2)),0] λuz=>n5
 λz109=>S 447 [[uz]] [[z109]]->bt (oR+(ny+(((-4294967296)*z105)+(m4+(((-4294967296)*z107)+z109))))) 4294967296 λuA=>ab 31
 [iK,kc]/\ab 23 [iK,1]/\aA 23 [iK,(oR+(ny+(((-4294967296)*z105)+(m4+(((-4294967296)*z107)+(z109+((-4294967296)*uA)))))))]
 λir=>bn λiu=>(Mq [[(gr+1)],[ir],[(kc+1)],[iu]]/\adb [[(gr+1)],[ir],[(kc+1)],[iu]]<adb [[gr],[iK],[kc],[qV]])) (∃
 (Mn:List (List Int)->Prop) (ac8:List (List Int)->Nat),Mn [bA,[0]]/\(∀dr:List Int,aV (da 0 4294967295 8) dr->dH λir=>Mn
 [dr,[ir]]->(aq (decide (ir<kc)) (ab 30 [ir,kc]/\ab 21 [iK,ir]/\G2 21 [iK,ir,0] λiu=>n5 λiJ=>S 445 [[(ae dr
 4 0)]] [[iJ]]->bt ((ae dr 7 0)+iJ) 4294967296 λjn=>cM λm5=>m5<=fs .u32->m5=cD .and .u32 (ae dr 4 0)
 (ae dr 5 0)->cM λz116=>z116<=fs .u32->z116=cD .and .u32 (((-1)*(ae dr 4 0))+4294967295) (ae dr 6 0)->cM
 λz117=>z117<=fs .u32->z117=cD .xor .u32 m5 z116->bt ((ae dr 7 0)+(iJ+(((-4294967296)*jn)+z117))) 4294967296 λ
 jD=>ab 39 [ir,0,79]/\n5 λz119=>S 466 [[ir]] [[z119]]->bt ((ae dr 7 0)+(iJ+(((-4294967296)*jn)+(z117+(((-4294967296)*
 jD)+z119))))) 4294967296 λnz=>bt ((ae dr 7 0)+(iu+(iJ+(((-4294967296)*jn)+(z117+(((-4294967296)*jD)+(z119+
 ((-4294967296)*nz)))))))) 4294967296 λn9=>n5 λoa=>S 444 [[(ae dr 0 0)]] [[oa]]->cM λsS=>sS<=fs .u32->sS=
 cD .and .u32 (ae dr 0 0) (ae dr 1 0)->cM λz124=>z124<=fs .u32->z124=cD .and .u32 (ae dr 0 0) (ae dr
 2 0)->cM λsT=>sT<=fs .u32->sT=cD .xor .u32 sS z124->cM λsU=>sU<=fs .u32->sU=cD .and .u32 (ae
 dr 1 0) (ae dr 2 0)->cM λz127=>z127<=fs .u32->z127=cD .xor .u32 sT sU->bt (oa+z127) 4294967296 λqX=>bz λ
 qY=>0<=((ae dr 3 0)+((ae dr 7 0)+(iu+(iJ+(((-4294967296)*jn)+(z117+(((-4294967296)*jD)+(z119+(((-4294967296)*
 nz)+((-4294967296)*n9))))))))))-4294967296*qY->((ae dr 3 0)+((ae dr 7 0)+(iu+(iJ+(((-4294967296)*jn)+(z117+
 (((-4294967296)*jD)+(z119+(((-4294967296)*nz)+((-4294967296)*n9))))))))))-4294967296*qY<4294967296->bz λz130=>0<=((ae
 dr 7 0)+(iu+(iJ+(((-4294967296)*jn)+(z117+(((-4294967296)*jD)+(z119+(((-4294967296)*nz)+(((-4294967296)*n9)+(oa+(z127
 +((-4294967296)*qX))))))))))))-4294967296*z130->((ae dr 7 0)+(iu+(iJ+(((-4294967296)*jn)+(z117+(((-4294967296)*jD)+
 (z119+(((-4294967296)*nz)+(((-4294967296)*n9)+(oa+(z127+((-4294967296)*qX))))))))))))-4294967296*z130<4294967296->bt (ir+
 9223372036854775809) 18446744073709551616 λz131=>ab 39 [((ir+((-18446744073709551616)*z131))+1),0,9223372036854775807]/\(Mn [[((ae dr
 7 0)+(iu+(iJ+(((-4294967296)*jn)+(z117+(((-4294967296)*jD)+(z119+(((-4294967296)*nz)+(((-4294967296)*n9)+(oa+(z127+
 (((-4294967296)*qX)+((-4294967296)*z130))))))))))))),(ae dr 0 0),(ae dr 1 0),(ae dr 2 0),((ae dr 3 0)+((ae
 dr 7 0)+(iu+(iJ+(((-4294967296)*jn)+(z117+(((-4294967296)*jD)+(z119+(((-4294967296)*nz)+(((-4294967296)*n9)+
 ((-4294967296)*qY))))))))))),(ae dr 4 0),(ae dr 5 0),(ae dr 6 0)],[((ir+((-18446744073709551616)*z131))+1)]]/\ac8
 [[((ae dr 7 0)+(iu+(iJ+(((-4294967296)*jn)+(z117+(((-4294967296)*jD)+(z119+(((-4294967296)*nz)+(((-4294967296)*n9)+
 (oa+(z127+(((-4294967296)*qX)+((-4294967296)*z130))))))))))))),(ae dr 0 0),(ae dr 1 0),(ae dr 2 0),((ae dr 3 0)
 +((ae dr 7 0)+(iu+(iJ+(((-4294967296)*jn)+(z117+(((-4294967296)*jD)+(z119+(((-4294967296)*nz)+(((-4294967296)*n9)+
 ((-4294967296)*qY))))))))))),(ae dr 4 0),(ae dr 5 0),(ae dr 6 0)],[((ir+((-18446744073709551616)*z131))+1)]]<ac8
 [dr,[ir]])) (bt ((ae bA 0 0)+(ae dr 0 0)) 4294967296 λiu=>bt ((ae bA 1 0)+(ae dr 1 0)) 4294967296 λiJ=>bt
 ((ae bA 2 0)+(ae dr 2 0)) 4294967296 λjn=>bt ((ae bA 3 0)+(ae dr 3 0)) 4294967296 λm5=>bt ((ae bA 4 0)+
 (ae dr 4 0)) 4294967296 λz116=>bt ((ae bA 5 0)+(ae dr 5 0)) 4294967296 λz117=>bt ((ae bA 6 0)+(ae dr 6 0))
 4294967296 λjD=>bt ((ae bA 7 0)+(ae dr 7 0)) 4294967296 λz119=>(eB [[((ae bA 0 0)+((ae dr 0 0)+((-4294967296)*
 iu))),((ae bA 1 0)+((ae dr 1 0)+((-4294967296)*iJ))),((ae bA 2 0)+((ae dr 2 0)+((-4294967296)*jn))),((ae
 bA 3 0)+((ae dr 3 0)+((-4294967296)*m5))),((ae bA 4 0)+((ae dr 4 0)+((-4294967296)*z116))),((ae bA 5 0)+
 ((ae dr 5 0)+((-4294967296)*z117))),((ae bA 6 0)+((ae dr 6 0)+((-4294967296)*jD))),((ae bA 7 0)+((ae dr 7
 0)+((-4294967296)*z119)))],[(ad+1)]]/\eg [[((ae bA 0 0)+((ae dr 0 0)+((-4294967296)*iu))),((ae bA 1 0)+((ae dr
 1 0)+((-4294967296)*iJ))),((ae bA 2 0)+((ae dr 2 0)+((-4294967296)*jn))),((ae bA 3 0)+((ae dr 3 0)+
 ((-4294967296)*m5))),((ae bA 4 0)+((ae dr 4 0)+((-4294967296)*z116))),((ae bA 5 0)+((ae dr 5 0)+((-4294967296)*
 z117))),((ae bA 6 0)+((ae dr 6 0)+((-4294967296)*jD))),((ae bA 7 0)+((ae dr 7 0)+((-4294967296)*z119)))],[(ad+
 1)]]<eg [bA,[ad]])))))))) (∃(qd:List (List Int)->Prop) (rV:List (List Int)->Nat),qd [[3],[0],[0],[(-1)]]/\(eG (-1) 3 λaz=>cS λaC=>dH
 λaR=>bn λba=>qd [[az],[aC],[aR],[ba]]->(aq (decide (0<=az)) (n5 λbh=>bh=(ae bA 0 0)/2^((8*az)).toNat->cO 0 16777215
 bh 256 λz20=>ab 31 [aC,aR]/\ab 23 [aC,1]/\aA 23 [aC,(bh+((-256)*z20))] λz21=>bn λz22=>(qd [[(az+(-1))],[z21],[(aR+
 1)],[z22]]/\rV [[(az+(-1))],[z21],[(aR+1)],[z22]]<rV [[az],[aC],[aR],[ba]])) (∃(yF:List (List Int)->Prop) (HY:List (List Int)->
 Nat),yF [[3],[aC],[aR],[ba]]/\(eG (-1) 3 λz20=>cS λz21=>dH λz22=>bn λbU=>yF [[z20],[z21],[z22],[bU]]->(aq (decide (0<=z20)) (n5
 λz24=>z24=(ae bA 1 0)/2^((8*z20)).toNat->cO 0 16777215 z24 256 λaO=>ab 31 [z21,z22]/\ab 23 [z21,1]/\aA 23 [z21,(z24+
 ((-256)*aO))] λz26=>bn λcY=>(yF [[(z20+(-1))],[z26],[(z22+1)],[cY]]/\HY [[(z20+(-1))],[z26],[(z22+1)],[cY]]<HY
 [[z20],[z21],[z22],[bU]])) (∃(rY:List (List Int)->Prop) (yx:List (List Int)->Nat),rY [[3],[z21],[z22],[bU]]/\(eG (-1) 3 λaO=>cS λz26=>
 dH λcY=>bn λz28=>rY [[aO],[z26],[cY],[z28]]->(aq (decide (0<=aO)) (n5 λcy=>cy=(ae bA 2 0)/2^((8*aO)).toNat->cO 0
 16777215 cy 256 λbW=>ab 31 [z26,cY]/\ab 23 [z26,1]/\aA 23 [z26,(cy+((-256)*bW))] λz31=>bn λb7=>(rY [[(aO+(-1))],[z31],[(cY
 +1)],[b7]]/\yx [[(aO+(-1))],[z31],[(cY+1)],[b7]]<yx [[aO],[z26],[cY],[z28]])) (∃(yG:List (List Int)->Prop) (HZ:List (List Int)->
 Nat),yG [[3],[z26],[cY],[z28]]/\(eG (-1) 3 λbW=>cS λz31=>dH λb7=>bn λcZ=>yG [[bW],[z31],[b7],[cZ]]->(aq (decide (0<=bW)) (n5
 λcz=>cz=(ae bA 3 0)/2^((8*bW)).toNat->cO 0 16777215 cz 256 λcr=>ab 31 [z31,b7]/\ab 23 [z31,1]/\aA 23 [z31,(cz+
 ((-256)*cr))] λcv=>bn λz37=>(yG [[(bW+(-1))],[cv],[(b7+1)],[z37]]/\HZ [[(bW+(-1))],[cv],[(b7+1)],[z37]]<HZ
 [[bW],[z31],[b7],[cZ]])) (∃(yH:List (List Int)->Prop) (H0:List (List Int)->Nat),yH [[3],[z31],[b7],[cZ]]/\(eG (-1) 3 λcr=>cS λcv=>
 dH λz37=>bn λeA=>yH [[cr],[cv],[z37],[eA]]->(aq (decide (0<=cr)) (n5 λfc=>fc=(ae bA 4 0)/2^((8*cr)).toNat->cO 0
 16777215 fc 256 λz40=>ab 31 [cv,z37]/\ab 23 [cv,1]/\aA 23 [cv,(fc+((-256)*z40))] λdW=>bn λef=>(yH [[(cr+(-1))],[dW],[(z37
 +1)],[ef]]/\H0 [[(cr+(-1))],[dW],[(z37+1)],[ef]]<H0 [[cr],[cv],[z37],[eA]])) (∃(yI:List (List Int)->Prop) (H2:List (List Int)->
 Nat),yI [[3],[cv],[z37],[eA]]/\(eG (-1) 3 λz40=>cS λdW=>dH λef=>bn λfo=>yI [[z40],[dW],[ef],[fo]]->(aq (decide (0<=z40)) (n5
 λeP=>eP=(ae bA 5 0)/2^((8*z40)).toNat->cO 0 16777215 eP 256 λdI=>ab 31 [dW,ef]/\ab 23 [dW,1]/\aA 23 [dW,(eP+
 ((-256)*dI))] λz46=>bn λdx=>(yI [[(z40+(-1))],[z46],[(ef+1)],[dx]]/\H2 [[(z40+(-1))],[z46],[(ef+1)],[dx]]<H2
 [[z40],[dW],[ef],[fo]])) (∃(yJ:List (List Int)->Prop) (H3:List (List Int)->Nat),yJ [[3],[dW],[ef],[fo]]/\(eG (-1) 3 λdI=>cS λz46=>
 dH λdx=>bn λfe=>yJ [[dI],[z46],[dx],[fe]]->(aq (decide (0<=dI)) (n5 λz49=>z49=(ae bA 6 0)/2^((8*dI)).toNat->cO 0
 16777215 z49 256 λeX=>ab 31 [z46,dx]/\ab 23 [z46,1]/\aA 23 [z46,(z49+((-256)*eX))] λz51=>bn λeQ=>(yJ [[(dI+(-1))],[z51],[(dx
 +1)],[eQ]]/\H3 [[(dI+(-1))],[z51],[(dx+1)],[eQ]]<H3 [[dI],[z46],[dx],[fe]])) (∃(yK:List (List Int)->Prop) (H4:List (List Int)->
 Nat),yK [[3],[z46],[dx],[fe]]/\(eG (-1) 3 λeX=>cS λz51=>dH λeQ=>bn λz53=>yK [[eX],[z51],[eQ],[z53]]->(aq (decide (0<=eX)) (n5
 λff=>ff=(ae bA 7 0)/2^((8*eX)).toNat->cO 0 16777215 ff 256 λfR=>ab 31 [z51,eQ]/\ab 23 [z51,1]/\aA 23 [z51,(ff+
 ((-256)*fR))] λhM=>bn λhO=>(yK [[(eX+(-1))],[hM],[(eQ+1)],[hO]]/\H4 [[(eX+(-1))],[hM],[(eQ+1)],[hO]]<H4
 [[eX],[z51],[eQ],[z53]])) (ab 22 [z51,0,eQ]/\aA 22 [z51,0,eQ] λff=>K [[z0]] [[ff]]))))))))))))))))))))))))))))
theorem Kp {L S M k:Int} (h:L=S-M*k) (h1:0<=L) (h2:L<M):L=S% M:=by
 have e:S=L+M*k:=by omega
 rw[e,Int.add_mul_emod_self_left,Int.emod_eq_of_lt h1 h2]
theorem azz (f:Int->Int->Int) {r t:List Int} (h:r.length=8) (h':t.length=8):pA f r t=[f (r.getD 0 0) (t.getD 0 0),f (r.getD 1 0) (t.getD 1 0),f (r.getD 2 0) (t.getD 2 0),f (r.getD 3 0) (t.getD 3 0),f (r.getD 4 0) (t.getD 4 0),f (r.getD 5 0) (t.getD 5 0),f (r.getD 6 0) (t.getD 6 0),f (r.getD 7 0) (t.getD 7 0)]:=by
 match r,t,h,h' with
 |[_,_,_,_,_,_,_,_],[_,_,_,_,_,_,_,_],_,_=>rfl
theorem auL (i:Nat) (x:Int) {r:List Int} (hr:r.length=8):uu cV i x r=(let t:=md cV (r.getD 7 0+uY cV (r.getD 4 0)+yX cV (r.getD 4 0) (r.getD 5 0) (r.getD 6 0)+AN cV i+x);let u:=md cV (uX cV (r.getD 0 0)+GK cV (r.getD 0 0) (r.getD 1 0) (r.getD 2 0));[md cV (t+u),r.getD 0 0,r.getD 1 0,r.getD 2 0,md cV (r.getD 3 0+t),r.getD 4 0,r.getD 5 0,r.getD 6 0]):=by
 match r,hr with
 |[_,_,_,_,_,_,_,_],_=>rfl
theorem Dc (x:Int):md cV x=x% 4294967296:=by
 show x% (2:Int)^32=_
 rw[show(2:Int)^32=4294967296 by decide]
theorem ae1:q7 cV=[1779033703,3144134277,1013904242,2773480762,1359893119,2600822924,528734635,1541459225]:=by decide+kernel
set_option maxHeartbeats 4000000 in
theorem arE:TG SB (dq SB [xS] 464):=by
 intro z0 a0 a1 hp ag b0 z2 bC c1 z3 d0 d1 h3
 have hp:64∣(af z0).length/\(af z0).length<=1000001000:=hp
 have h3:z3=((af z0).length:Int):=h3
 obtain⟨⟨q,hq⟩,xk⟩:=hp
 have hbl:(cJ z0).length=64*q:=by rw[tl,hq]
 have Fl:z3=64*(q:Int):=by rw[h3,hq];simp
 refine⟨⟨(q:Int),Fl⟩,λl=>∃(i:Nat),i<=q/\l=[yU cV (cJ z0) i (q7 cV),[(i:Int)]],λl=>((q:Int)-(l.getD 1 []).getD 0 0).toNat,⟨0,gX _,by
  show _=[q7 cV,[(0:Int)]]
  rw[ae1]⟩,?_⟩
 intro bA PT ad aZ e1 ⟨i,hi,hI⟩
 simp only[hX,and_true]at hI
 obtain⟨xa,aiS⟩:=hI
 obtain⟨vJ,nK⟩:=GB 8 bA PT
 have zx:((af z0).length:Int)=64*(q:Int):=by rw[<-h3,Fl]
 refine⟨λh=>?_,λh=>?_⟩
 ·have h:=of_decide_eq_true h
  have F0:i<q:=by omega
  have ay:∀k:Int,0<=k->k<64->ab 21 [z0,64*ad+k]:=λk h1 h2=>⟨by omega,by rw[zx];omega⟩
  have M0:ab 21 [z0,64*ad]:=⟨by omega,by rw[zx];omega⟩
  refine⟨M0,?_⟩
  intro ao f0 g0 t0
  refine⟨ay 1 (by decide) (by decide),?_⟩
  intro az f1 g1 t1
  refine⟨ay 2 (by decide) (by decide),?_⟩
  intro aC f2 g2 t2
  refine⟨ay 3 (by decide) (by decide),?_⟩
  intro aR f3 g3 t3
  refine⟨ay 4 (by decide) (by decide),?_⟩
  intro ba f4 g4 t4
  refine⟨ay 5 (by decide) (by decide),?_⟩
  intro bh f5 g5 t5
  refine⟨ay 6 (by decide) (by decide),?_⟩
  intro z20 f6 g6 t6
  refine⟨ay 7 (by decide) (by decide),?_⟩
  intro z21 f7 g7 t7
  refine⟨ay 8 (by decide) (by decide),?_⟩
  intro z22 f8 g8 t8
  refine⟨ay 9 (by decide) (by decide),?_⟩
  intro bU f9 g9 t9
  refine⟨ay 10 (by decide) (by decide),?_⟩
  intro z24 f10 g10 t10
  refine⟨ay 11 (by decide) (by decide),?_⟩
  intro aO f11 g11 t11
  refine⟨ay 12 (by decide) (by decide),?_⟩
  intro z26 f12 g12 t12
  refine⟨ay 13 (by decide) (by decide),?_⟩
  intro cY f13 g13 t13
  refine⟨ay 14 (by decide) (by decide),?_⟩
  intro z28 f14 g14 t14
  refine⟨ay 15 (by decide) (by decide),?_⟩
  intro cy f15 g15 t15
  refine⟨ay 16 (by decide) (by decide),?_⟩
  intro bW f16 g16 t16
  refine⟨ay 17 (by decide) (by decide),?_⟩
  intro z31 f17 g17 t17
  refine⟨ay 18 (by decide) (by decide),?_⟩
  intro b7 f18 g18 t18
  refine⟨ay 19 (by decide) (by decide),?_⟩
  intro cZ f19 g19 t19
  refine⟨ay 20 (by decide) (by decide),?_⟩
  intro cz f20 g20 t20
  refine⟨ay 21 (by decide) (by decide),?_⟩
  intro cr f21 g21 t21
  refine⟨ay 22 (by decide) (by decide),?_⟩
  intro cv f22 g22 t22
  refine⟨ay 23 (by decide) (by decide),?_⟩
  intro z37 f23 g23 t23
  refine⟨ay 24 (by decide) (by decide),?_⟩
  intro eA f24 g24 t24
  refine⟨ay 25 (by decide) (by decide),?_⟩
  intro fc f25 agS t25
  refine⟨ay 26 (by decide) (by decide),?_⟩
  intro z40 f26 agT t26
  refine⟨ay 27 (by decide) (by decide),?_⟩
  intro dW f27 agU t27
  refine⟨ay 28 (by decide) (by decide),?_⟩
  intro ef f28 agV t28
  refine⟨ay 29 (by decide) (by decide),?_⟩
  intro fo f29 agW t29
  refine⟨ay 30 (by decide) (by decide),?_⟩
  intro eP f30 ag0 t30
  refine⟨ay 31 (by decide) (by decide),?_⟩
  intro dI f31 ag1 t31
  refine⟨ay 32 (by decide) (by decide),?_⟩
  intro z46 f32 ag2 t32
  refine⟨ay 33 (by decide) (by decide),?_⟩
  intro dx f33 ag3 t33
  refine⟨ay 34 (by decide) (by decide),?_⟩
  intro fe f34 ag4 t34
  refine⟨ay 35 (by decide) (by decide),?_⟩
  intro z49 f35 ag5 t35
  refine⟨ay 36 (by decide) (by decide),?_⟩
  intro eX f36 ag6 t36
  refine⟨ay 37 (by decide) (by decide),?_⟩
  intro z51 f37 ag7 t37
  refine⟨ay 38 (by decide) (by decide),?_⟩
  intro eQ f38 ag8 t38
  refine⟨ay 39 (by decide) (by decide),?_⟩
  intro z53 f39 ag9 t39
  refine⟨ay 40 (by decide) (by decide),?_⟩
  intro ff f40 ahc t40
  refine⟨ay 41 (by decide) (by decide),?_⟩
  intro fR f41 ahd t41
  refine⟨ay 42 (by decide) (by decide),?_⟩
  intro hM f42 ahe t42
  refine⟨ay 43 (by decide) (by decide),?_⟩
  intro hO f43 ahf t43
  refine⟨ay 44 (by decide) (by decide),?_⟩
  intro lJ f44 ahg t44
  refine⟨ay 45 (by decide) (by decide),?_⟩
  intro z59 f45 ahh t45
  refine⟨ay 46 (by decide) (by decide),?_⟩
  intro lK f46 ahi t46
  refine⟨ay 47 (by decide) (by decide),?_⟩
  intro lL f47 ahj t47
  refine⟨ay 48 (by decide) (by decide),?_⟩
  intro ke f48 ahk t48
  refine⟨ay 49 (by decide) (by decide),?_⟩
  intro gh f49 ahl t49
  refine⟨ay 50 (by decide) (by decide),?_⟩
  intro jV f50 aho t50
  refine⟨ay 51 (by decide) (by decide),?_⟩
  intro kf f51 ahp t51
  refine⟨ay 52 (by decide) (by decide),?_⟩
  intro kp f52 ahq t52
  refine⟨ay 53 (by decide) (by decide),?_⟩
  intro kq f53 ahr t53
  refine⟨ay 54 (by decide) (by decide),?_⟩
  intro nB f54 ahs t54
  refine⟨ay 55 (by decide) (by decide),?_⟩
  intro nC f55 aht t55
  refine⟨ay 56 (by decide) (by decide),?_⟩
  intro z70 f56 ahu t56
  refine⟨ay 57 (by decide) (by decide),?_⟩
  intro kW f57 ahv t57
  refine⟨ay 58 (by decide) (by decide),?_⟩
  intro z72 f58 ahw t58
  refine⟨ay 59 (by decide) (by decide),?_⟩
  intro fC f59 ahx t59
  refine⟨ay 60 (by decide) (by decide),?_⟩
  intro jb f60 ahA t60
  refine⟨ay 61 (by decide) (by decide),?_⟩
  intro z75 f61 ahB t61
  refine⟨ay 62 (by decide) (by decide),?_⟩
  intro z76 f62 ahC t62
  refine⟨ay 63 (by decide) (by decide),?_⟩
  intro hW f63 ahD t63
  obtain⟨bl,qv⟩:∃l,((cJ z0).drop (64*i)).take 64=l:=⟨_,rfl⟩
  have MU:bl.length=64:=by rw[<-qv,m8,q2,hbl];omega
  have aN:∀(k:Nat) (y z:Int),k<64->y=(k:Int)->z=au 21 [z0,64*ad+y,0]->z=bl.getD k 0:=λk y z hk hy hz=>by
   rw[cd hz,<-qv,Wv _ _ _ _ hk]
   congr 1;omega
  have hB:[ao,az,aC,aR,ba,bh,z20,z21,z22,bU,z24,aO,z26,cY,z28,cy,bW,z31,b7,cZ,cz,cr,cv,z37,eA,fc,z40,dW,ef,fo,eP,dI,z46,dx,fe,z49,eX,z51,eQ,z53,ff,fR,hM,hO,lJ,z59,lK,lL,ke,gh,jV,kf,kp,kq,nB,nC,z70,kW,z72,fC,jb,z75,z76,hW]=bl:=by
   rw[aN 0 0 ao (by decide) rfl (by rw[Int.add_zero];exact t0),aN 1 1 az (by decide) rfl t1,aN 2 2 aC (by decide) rfl t2,aN 3 3 aR (by decide) rfl t3,aN 4 4 ba (by decide) rfl t4,aN 5 5 bh (by decide) rfl t5,aN 6 6 z20 (by decide) rfl t6,aN 7 7 z21 (by decide) rfl t7,aN 8 8 z22 (by decide) rfl t8,aN 9 9 bU (by decide) rfl t9,aN 10 10 z24 (by decide) rfl t10,aN 11 11 aO (by decide) rfl t11,aN 12 12 z26 (by decide) rfl t12,aN 13 13 cY (by decide) rfl t13,aN 14 14 z28 (by decide) rfl t14,aN 15 15 cy (by decide) rfl t15,aN 16 16 bW (by decide) rfl t16,aN 17 17 z31 (by decide) rfl t17,aN 18 18 b7 (by decide) rfl t18,aN 19 19 cZ (by decide) rfl t19,aN 20 20 cz (by decide) rfl t20,aN 21 21 cr (by decide) rfl t21,aN 22 22 cv (by decide) rfl t22,aN 23 23 z37 (by decide) rfl t23,aN 24 24 eA (by decide) rfl t24,aN 25 25 fc (by decide) rfl t25,aN 26 26 z40 (by decide) rfl t26,aN 27 27 dW (by decide) rfl t27,aN 28 28 ef (by decide) rfl t28,aN 29 29 fo (by decide) rfl t29,aN 30 30 eP (by decide) rfl t30,aN 31 31 dI (by decide) rfl t31,aN 32 32 z46 (by decide) rfl t32,aN 33 33 dx (by decide) rfl t33,aN 34 34 fe (by decide) rfl t34,aN 35 35 z49 (by decide) rfl t35,aN 36 36 eX (by decide) rfl t36,aN 37 37 z51 (by decide) rfl t37,aN 38 38 eQ (by decide) rfl t38,aN 39 39 z53 (by decide) rfl t39,aN 40 40 ff (by decide) rfl t40,aN 41 41 fR (by decide) rfl t41,aN 42 42 hM (by decide) rfl t42,aN 43 43 hO (by decide) rfl t43,aN 44 44 lJ (by decide) rfl t44,aN 45 45 z59 (by decide) rfl t45,aN 46 46 lK (by decide) rfl t46,aN 47 47 lL (by decide) rfl t47,aN 48 48 ke (by decide) rfl t48,aN 49 49 gh (by decide) rfl t49,aN 50 50 jV (by decide) rfl t50,aN 51 51 kf (by decide) rfl t51,aN 52 52 kp (by decide) rfl t52,aN 53 53 kq (by decide) rfl t53,aN 54 54 nB (by decide) rfl t54,aN 55 55 nC (by decide) rfl t55,aN 56 56 z70 (by decide) rfl t56,aN 57 57 kW (by decide) rfl t57,aN 58 58 z72 (by decide) rfl t58,aN 59 59 fC (by decide) rfl t59,aN 60 60 jb (by decide) rfl t60,aN 61 61 z75 (by decide) rfl t61,aN 62 62 z76 (by decide) rfl t62,aN 63 63 hW (by decide) rfl t63]
   exact(Fa bl 64 MU).symm
  have se:wi cV bl=[((16777216*ao)+((65536*az)+((256*aC)+aR))),((16777216*ba)+((65536*bh)+((256*z20)+z21))),((16777216*z22)+((65536*bU)+((256*z24)+aO))),((16777216*z26)+((65536*cY)+((256*z28)+cy))),((16777216*bW)+((65536*z31)+((256*b7)+cZ))),((16777216*cz)+((65536*cr)+((256*cv)+z37))),((16777216*eA)+((65536*fc)+((256*z40)+dW))),((16777216*ef)+((65536*fo)+((256*eP)+dI))),((16777216*z46)+((65536*dx)+((256*fe)+z49))),((16777216*eX)+((65536*z51)+((256*eQ)+z53))),((16777216*ff)+((65536*fR)+((256*hM)+hO))),((16777216*lJ)+((65536*z59)+((256*lK)+lL))),((16777216*ke)+((65536*gh)+((256*jV)+kf))),((16777216*kp)+((65536*kq)+((256*nB)+nC))),((16777216*z70)+((65536*kW)+((256*z72)+fC))),((16777216*jb)+((65536*z75)+((256*z76)+hW)))]:=by
   rw[<-hB]
   show [((((0*256+ao)*256+az)*256+aC)*256+aR),((((0*256+ba)*256+bh)*256+z20)*256+z21),((((0*256+z22)*256+bU)*256+z24)*256+aO),((((0*256+z26)*256+cY)*256+z28)*256+cy),((((0*256+bW)*256+z31)*256+b7)*256+cZ),((((0*256+cz)*256+cr)*256+cv)*256+z37),((((0*256+eA)*256+fc)*256+z40)*256+dW),((((0*256+ef)*256+fo)*256+eP)*256+dI),((((0*256+z46)*256+dx)*256+fe)*256+z49),((((0*256+eX)*256+z51)*256+eQ)*256+z53),((((0*256+ff)*256+fR)*256+hM)*256+hO),((((0*256+lJ)*256+z59)*256+lK)*256+lL),((((0*256+ke)*256+gh)*256+jV)*256+kf),((((0*256+kp)*256+kq)*256+nB)*256+nC),((((0*256+z70)*256+kW)*256+z72)*256+fC),((((0*256+jb)*256+z75)*256+z76)*256+hW)]=_
   simp only[hX,and_true]
   refine⟨by omega,by omega,by omega,by omega,by omega,by omega,by omega,by omega,by omega,by omega,by omega,by omega,by omega,by omega,by omega,by omega⟩
  obtain⟨ws,zI⟩:∃l,wi cV bl=l:=⟨_,rfl⟩
  intro jc x0 ja u0 jE x1 iq px jo x2 qU sR kr gF yl uw kX gq AY Hq kY gG AZ Sm kZ gV A0 Sn z85 ka A1 So k0 lH A2 u8 z87 lI A3 Sp k5 mq DT Sg k6 fQ AX Sh ks hV DU Si z91 kT DV Sj kt yj Hu Sk z93 yk Hv Sl
  have v0:=gb (l:=[]) u0 fa
  have v1:=gb px v0
  have v2:=gb sR v1
  have v3:=gb uw v2
  have v4:=gb Hq v3
  have v5:=gb Sm v4
  have v6:=gb Sn v5
  have Hs:=gb So v6
  have Sv:=gb u8 Hs
  have v9:=gb Sp Sv
  have v10:=gb Sg v9
  have v11:=gb Sh v10
  have v12:=gb Si v11
  have Ss:=gb Sj v12
  have St:=gb Sk Ss
  have Su:=gb Sl St
  have hr:af z93=rws ws:=by
   rw[<-zI,se];exact Su
  have wl:ws.length=16:=by rw[<-zI];simp[wi]
  refine⟨by show(af z93).length<=1000000;rw[hr,ns,wl];decide,?_⟩
  intro jq i0 i1 ew lM fA k1 qZ m0 fW n0
  have ew:af jq=af z93:=ew
  rw[hr]at ew
  have n0:qZ=((af jq).length:Int):=n0
  rw[ew,ns,wl]at n0
  refine⟨λl=>∃(j:Nat) (c k:Int),j<=48/\l=[[((16+j:Nat):Int)],[c],[((16+j:Nat):Int)],[k]]/\af c=rws (rf cV j ws),λl=>(64-(l.getD 0 []).getD 0 0).toNat,⟨0,jq,lM,gX _,by rw[n0];rfl,ew⟩,?_⟩
  intro gr tY o1 iK p0 p1 kc fJ bq qV aP r1 ⟨j,c,aI,hj,hl,hc⟩
  simp only[hX,and_true]at hl
  obtain⟨pR,hl2,F6,ak3⟩:=hl
  subst hl2
  obtain⟨bx,jO⟩:∃l,rf cV j ws=l:=⟨_,rfl⟩
  rw[jO]at hc
  have GM:bx.length=16+j:=by rw[<-jO,NM,wl]
  have r8:((af iK).length:Int)=16+(j:Int):=by rw[hc,ns,GM];omega
  refine⟨λhlt=>?_,λec=>?_⟩
  ·have hlt:=of_decide_eq_true hlt
   refine⟨⟨by omega,by omega⟩,⟨by omega,by rw[r8];omega⟩,λoR hT s1 s2=>⟨⟨by omega,by omega⟩,⟨by omega,by rw[r8];omega⟩,λqW avl avn Sc ny avy avz wc z105 ax6 ax7 ax8 ax9=>⟨⟨by omega,by omega⟩,⟨by omega,by rw[r8];omega⟩,λm4 w0 w1 w2 z107 ayU ayV ayl aym=>⟨⟨by omega,by omega⟩,⟨by omega,by rw[r8];omega⟩,λuz azr azs SF z109 EC ED oZ uA MQ MR r6 aeY=>⟨by show kc=((af iK).length:Int);omega,by show((af iK).length:Int)+1<=1073741824;omega,λir M7 M8 yW iu Nr Ns=>?_⟩⟩⟩⟩⟩
   have wc:[[ny]]=[[AU cV qW]]:=wc
   have oZ:[[z109]]=[[AV cV uz]]:=oZ
   simp only[hX,and_true]at wc oZ
   have e1:=tz s2 hc
   have e2:=tz Sc hc
   have bN:=tz w2 hc
   have fi:=tz SF hc
   have PD:oR+(ny+((-4294967296)*z105+(m4+((-4294967296)*z107+(z109+(-4294967296)*uA)))))=xN cV bx:=by
    unfold xN
    rw[Dc,GM,show 16+j-16=(gr+-16).toNat by omega,show 16+j-15=(gr+-15).toNat by omega,show 16+j-7=(gr+-7).toNat by omega,show 16+j-2=(gr+-2).toNat by omega,<-e1,<-e2,<-bN,<-fi,<-wc,<-oZ]
    omega
   have gO:=gb yW hc
   rw[PD]at gO
   refine⟨⟨j+1,ir,iu,by omega,by rw[show gr+1=((16+(j+1):Nat):Int) by omega,show kc+1=((16+(j+1):Nat):Int) by omega],by rw[NO,jO];exact gO⟩,?_⟩
   show(64-(gr+1)).toNat<(64-gr).toNat
   omega
  ·have ec:=of_decide_eq_false ec
   have Pm:j=48:=by omega
   have PZ:sched cV ws=bx:=by rw[<-jO,Pm];rfl
   refine⟨λl=>∃(t:Nat),t<=64/\l=[vX cV 0 (bx.take t) bA,[(t:Int)]],λl=>(64-(l.getD 1 []).getD 0 0).toNat,⟨0,gX _,rfl⟩,?_⟩
   intro e4 PU ir hT s1 ⟨t,ht,hl⟩
   simp only[hX,and_true]at hl
   obtain⟨hv,amt⟩:=hl
   obtain⟨vK,aeT⟩:=GB 8 e4 PU
   refine⟨λhlt=>?_,λFW=>?_⟩
   ·have hlt:=of_decide_eq_true hlt
    refine⟨⟨by omega,by omega⟩,⟨by omega,by rw[r8];omega⟩,?_⟩
    intro iu EC ED oZ iJ MQ MR r6 jn M7 M8 yW M9 m5 Nr Ns Nt z116 agr ags NH z117 agD agE NQ jD ahF ahG N6 N7
    refine⟨⟨by omega,by omega⟩,?_⟩
    intro z119 FX akN ss nz amB amC Qm Qn n9 amJ amK Qv Qw oa anf ang vI sS aom aon QO z124 apk apl QV sT apy apz Q0 sU arl arn Ra z127 atk atl Rk qX att atu atv atw qY at2 at3 Hd He z130 auI auJ R4 R5 z131 avm avo avp avq
    have Gn:t<64:=by omega
    have Ny:z131=0:=by omega
    have ex:=tz oZ hc
    rw[show ir.toNat=t by omega]at ex
    have r6:[[iJ]]=[[uY cV (e4.getD 4 0)]]:=r6
    have ss:[[z119]]=[[AN cV ir.toNat]]:=ss
    have vI:[[oa]]=[[uX cV (e4.getD 0 0)]]:=vI
    simp only[hX,and_true]at r6 ss vI
    rw[show ir.toNat=t by omega]at ss
    have j2:z117=yX cV (e4.getD 4 0) (e4.getD 5 0) (e4.getD 6 0):=by
     rw[NQ,Nt,NH]
     unfold yX
     rw[show(2:Int)^cV.w-1-e4.getD 4 0=-1*e4.getD 4 0+4294967295 by rw[show(2:Int)^cV.w=4294967296 by decide];omega]
     rfl
    have Pz:z127=GK cV (e4.getD 0 0) (e4.getD 1 0) (e4.getD 2 0):=by
     rw[Rk,Q0,QV,QO,Ra];rfl
    obtain⟨A,hA⟩:∃A,e4.getD 0 0=A:=⟨_,rfl⟩
    obtain⟨D,hD⟩:∃A,e4.getD 3 0=A:=⟨_,rfl⟩
    obtain⟨H,Ft⟩:∃A,e4.getD 7 0=A:=⟨_,rfl⟩
    rw[Ft]at yW M9 N6 N7 Qm Qn Qv Qw Hd He R4 R5⊢
    rw[hD]at Hd He⊢
    have zF:=auL t iu vK
    rw[Ft,hD,<-r6,<-j2,<-ss,<-vI,<-Pz]at zF
    have bI:md cV (H+iJ+z117+z119+iu)=H+(iu+(iJ+((-4294967296)*jn+(z117+((-4294967296)*jD+(z119+((-4294967296)*nz+(-4294967296)*n9))))))):=by
     rw[Dc];omega
    have Ou:md cV (oa+z127)=oa+(z127+(-4294967296)*qX):=by
     rw[Dc];omega
    simp only[bI,Ou]at zF
    refine⟨⟨by omega,by omega⟩,⟨t+1,by omega,?_⟩,?_⟩
    ·rw[abV bx t (by omega),RJ,<-hv,show 0+(bx.take t).length=t by rw[m8];omega,<-ex,zF,Ny]
     simp only[hX,and_true]
     refine⟨⟨?_,trivial,trivial,trivial,?_⟩,?_⟩
     ·rw[Dc];exact Kp (k:=z130) (by omega) (by omega) (by omega)
     ·rw[Dc];exact Kp (k:=qY) (by omega) (by omega) (by omega)
     ·omega
    ·show(64-(ir+-18446744073709551616*z131+1)).toNat<(64-ir).toNat
     omega
   ·have FW:=of_decide_eq_false FW
    intro iu EC ad7 aef aeo iJ ED ad8 aeg aep jn oZ ad9 aeh aeq m5 ad2 aea aei aer z116 ad3 aeb aej aes z117 ad4 aec aek aet jD ad5 aed ael aeu z119 ad6 aee aem aev
    have Gn:t=64:=by omega
    have O4:bx.take t=bx:=jd (by omega)
    rw[O4]at hv
    have nj:v8 cV bA ws=[bA.getD 0 0+(e4.getD 0 0+(-4294967296)*iu),bA.getD 1 0+(e4.getD 1 0+(-4294967296)*iJ),bA.getD 2 0+(e4.getD 2 0+(-4294967296)*jn),bA.getD 3 0+(e4.getD 3 0+(-4294967296)*m5),bA.getD 4 0+(e4.getD 4 0+(-4294967296)*z116),bA.getD 5 0+(e4.getD 5 0+(-4294967296)*z117),bA.getD 6 0+(e4.getD 6 0+(-4294967296)*jD),bA.getD 7 0+(e4.getD 7 0+(-4294967296)*z119)]:=by
     unfold v8
     rw[PZ,<-hv,azz _ vJ vK]
     simp only[Dc,hX,and_true]
     refine⟨by omega,by omega,by omega,by omega,by omega,by omega,by omega,by omega⟩
    refine⟨⟨i+1,by omega,?_⟩,?_⟩
    ·rw[<-nj,xa]
     show _=[v8 cV (yU cV (cJ z0) i (q7 cV)) (wi cV (((cJ z0).drop (64*i)).take 64)),_]
     rw[qv,zI,show ad+1=((i+1:Nat):Int) by omega]
    ·show((q:Int)-(ad+1)).toNat<((q:Int)-ad).toNat
     omega
 ·have h:=of_decide_eq_false h
  have F0:i=q:=by omega
  have hall:qg cV (cJ z0)=ua cV bA:=by
   unfold qg
   rw[hbl,show 2*cV.w=64 from rfl,S7 q (by decide),<-F0,<-xa]
  have ic:ua cV bA=((((((([]++(cU 4).map (lk cV (bA.getD 0 0)))++(cU 4).map (lk cV (bA.getD 1 0)))++(cU 4).map (lk cV (bA.getD 2 0)))++(cU 4).map (lk cV (bA.getD 3 0)))++(cU 4).map (lk cV (bA.getD 4 0)))++(cU 4).map (lk cV (bA.getD 5 0)))++(cU 4).map (lk cV (bA.getD 6 0)))++(cU 4).map (lk cV (bA.getD 7 0)):=by
   conv=>lhs;rw[ZF vJ]
   rfl
  refine ye (pre:=[]) fa rfl (by simp) λafj ann amL p0 p1 h0 Nw=>?_
  refine ye h0 (by rw[Nw];simp) (by simp) λafk QA amM bJ cP h1 BL=>?_
  refine ye h1 (by rw[BL];simp) (by simp) λafn QB amN ea ed h2 E0=>?_
  refine ye h2 (by rw[E0];simp) (by simp) λEP anp amO gf mS h3 E1=>?_
  refine ye h3 (by rw[E1];simp) (by simp) λafo anq amQ sK Rg h4 NC=>?_
  refine ye h4 (by rw[NC];simp) (by simp) λafp ant amR Rf ary h5 y2=>?_
  refine ye h5 (by rw[y2];simp) (by simp) λafq anu amS arz arA h6 y3=>?_
  refine ye h6 (by rw[y3];simp) (by simp) λER QC amU arB arC h7 NF=>?_
  have F7:af ER=rws (ua cV bA):=by rw[h7,ic]
  have QN:QC=((af ER).length:Int):=by rw[h7,ns,NF];simp
  refine⟨⟨bX _,by omega,by omega⟩,λS1 x0 x1 x2=>⟨⟨x0,x1,trivial⟩,?_⟩⟩
  have hf:=oO x2 QN
  show cJ S1=qg cV (cJ z0)
  rw[hall]
  exact EN (by rw[hf,F7])
end Go.cu
namespace Go.cu
open Go Go.bo
def TH (S:Nat->List (List Int)->List (List Int)->Prop) (K:List (List Int)->List (List Int)->Prop):Prop:=
 cS λz0=>(ab 73 [z0]->cM λag=>bn λz2=>aK 20 [z0] λz3=>ab 70 [z3,128]/\∃(eB:List (List Int)->Prop) (eg:List (List Int)->
 Nat),eB
 [[7640891576956012808,13503953896175478587,4354685564936845355,11912009170470909681,5840696475078001361,11170449401992604703,2270897969802886507,6620516959819538809],[0]]
 /\(∀bA:List Int,aV (da 0 18446744073709551615 8) bA->dH λad=>eB [bA,[ad]]->(aq (decide ((128*ad)<z3)) (ab 21 [z0,(128*ad)]/\av 21
 [z0,(128*ad),0] λao=>ab 21 [z0,((128*ad)+1)]/\av 21 [z0,((128*ad)+1),0] λaz=>ab 21 [z0,((128*ad)+2)]/\av 21 [z0,((128*
 ad)+2),0] λaC=>ab 21 [z0,((128*ad)+3)]/\av 21 [z0,((128*ad)+3),0] λaR=>ab 21 [z0,((128*ad)+4)]/\av 21 [z0,((128*ad)+
 4),0] λba=>ab 21 [z0,((128*ad)+5)]/\av 21 [z0,((128*ad)+5),0] λbh=>ab 21 [z0,((128*ad)+6)]/\av 21 [z0,((128*ad)+6),0]
 λz20=>ab 21 [z0,((128*ad)+7)]/\av 21 [z0,((128*ad)+7),0] λz21=>ab 21 [z0,((128*ad)+8)]/\av 21 [z0,((128*ad)+8),0] λz22
 =>ab 21 [z0,((128*ad)+9)]/\av 21 [z0,((128*ad)+9),0] λbU=>ab 21 [z0,((128*ad)+10)]/\av 21 [z0,((128*ad)+10),0] λz24=>
 ab 21 [z0,((128*ad)+11)]/\av 21 [z0,((128*ad)+11),0] λaO=>ab 21 [z0,((128*ad)+12)]/\av 21 [z0,((128*ad)+12),0] λz26=>
 ab 21 [z0,((128*ad)+13)]/\av 21 [z0,((128*ad)+13),0] λcY=>ab 21 [z0,((128*ad)+14)]/\av 21 [z0,((128*ad)+14),0] λz28=>
 ab 21 [z0,((128*ad)+15)]/\av 21 [z0,((128*ad)+15),0] λcy=>ab 21 [z0,((128*ad)+16)]/\av 21 [z0,((128*ad)+16),0] λbW=>
 ab 21 [z0,((128*ad)+17)]/\av 21 [z0,((128*ad)+17),0] λz31=>ab 21 [z0,((128*ad)+18)]/\av 21 [z0,((128*ad)+18),0] λb7=>
 ab 21 [z0,((128*ad)+19)]/\av 21 [z0,((128*ad)+19),0] λcZ=>ab 21 [z0,((128*ad)+20)]/\av 21 [z0,((128*ad)+20),0] λcz=>
 ab 21 [z0,((128*ad)+21)]/\av 21 [z0,((128*ad)+21),0] λcr=>ab 21 [z0,((128*ad)+22)]/\av 21 [z0,((128*ad)+22),0] λcv=>
 ab 21 [z0,((128*ad)+23)]/\av 21 [z0,((128*ad)+23),0] λz37=>ab 21 [z0,((128*ad)+24)]/\av 21 [z0,((128*ad)+24),0] λeA=>
 ab 21 [z0,((128*ad)+25)]/\av 21 [z0,((128*ad)+25),0] λfc=>ab 21 [z0,((128*ad)+26)]/\av 21 [z0,((128*ad)+26),0] λz40=>
 ab 21 [z0,((128*ad)+27)]/\av 21 [z0,((128*ad)+27),0] λdW=>ab 21 [z0,((128*ad)+28)]/\av 21 [z0,((128*ad)+28),0] λef=>
 ab 21 [z0,((128*ad)+29)]/\av 21 [z0,((128*ad)+29),0] λfo=>ab 21 [z0,((128*ad)+30)]/\av 21 [z0,((128*ad)+30),0] λeP=>
 ab 21 [z0,((128*ad)+31)]/\av 21 [z0,((128*ad)+31),0] λdI=>ab 21 [z0,((128*ad)+32)]/\av 21 [z0,((128*ad)+32),0] λz46=>
 ab 21 [z0,((128*ad)+33)]/\av 21 [z0,((128*ad)+33),0] λdx=>ab 21 [z0,((128*ad)+34)]/\av 21 [z0,((128*ad)+34),0] λfe=>
 ab 21 [z0,((128*ad)+35)]/\av 21 [z0,((128*ad)+35),0] λz49=>ab 21 [z0,((128*ad)+36)]/\av 21 [z0,((128*ad)+36),0] λeX=>
 ab 21 [z0,((128*ad)+37)]/\av 21 [z0,((128*ad)+37),0] λz51=>ab 21 [z0,((128*ad)+38)]/\av 21 [z0,((128*ad)+38),0] λeQ=>
 ab 21 [z0,((128*ad)+39)]/\av 21 [z0,((128*ad)+39),0] λz53=>ab 21 [z0,((128*ad)+40)]/\av 21 [z0,((128*ad)+40),0] λff=>
 ab 21 [z0,((128*ad)+41)]/\av 21 [z0,((128*ad)+41),0] λfR=>ab 21 [z0,((128*ad)+42)]/\av 21 [z0,((128*ad)+42),0] λhM=>
 ab 21 [z0,((128*ad)+43)]/\av 21 [z0,((128*ad)+43),0] λhO=>ab 21 [z0,((128*ad)+44)]/\av 21 [z0,((128*ad)+44),0] λlJ=>
 ab 21 [z0,((128*ad)+45)]/\av 21 [z0,((128*ad)+45),0] λz59=>ab 21 [z0,((128*ad)+46)]/\av 21 [z0,((128*ad)+46),0] λlK=>
 ab 21 [z0,((128*ad)+47)]/\av 21 [z0,((128*ad)+47),0] λlL=>ab 21 [z0,((128*ad)+48)]/\av 21 [z0,((128*ad)+48),0] λke=>
 ab 21 [z0,((128*ad)+49)]/\av 21 [z0,((128*ad)+49),0] λgh=>ab 21 [z0,((128*ad)+50)]/\av 21 [z0,((128*ad)+50),0] λjV=>
 ab 21 [z0,((128*ad)+51)]/\av 21 [z0,((128*ad)+51),0] λkf=>ab 21 [z0,((128*ad)+52)]/\av 21 [z0,((128*ad)+52),0] λkp=>
 ab 21 [z0,((128*ad)+53)]/\av 21 [z0,((128*ad)+53),0] λkq=>ab 21 [z0,((128*ad)+54)]/\av 21 [z0,((128*ad)+54),0] λnB=>
 ab 21 [z0,((128*ad)+55)]/\av 21 [z0,((128*ad)+55),0] λnC=>ab 21 [z0,((128*ad)+56)]/\av 21 [z0,((128*ad)+56),0] λz70=>
 ab 21 [z0,((128*ad)+57)]/\av 21 [z0,((128*ad)+57),0] λkW=>ab 21 [z0,((128*ad)+58)]/\av 21 [z0,((128*ad)+58),0] λz72=>
 ab 21 [z0,((128*ad)+59)]/\av 21 [z0,((128*ad)+59),0] λfC=>ab 21 [z0,((128*ad)+60)]/\av 21 [z0,((128*ad)+60),0] λjb=>
 ab 21 [z0,((128*ad)+61)]/\av 21 [z0,((128*ad)+61),0] λz75=>ab 21 [z0,((128*ad)+62)]/\av 21 [z0,((128*ad)+62),0] λz76=>
 ab 21 [z0,((128*ad)+63)]/\av 21 [z0,((128*ad)+63),0] λhW=>ab 21 [z0,((128*ad)+64)]/\av 21 [z0,((128*ad)+64),0] λjc=>
 ab 21 [z0,((128*ad)+65)]/\av 21 [z0,((128*ad)+65),0] λjE=>ab 21 [z0,((128*ad)+66)]/\av 21 [z0,((128*ad)+66),0] λjo=>
 ab 21 [z0,((128*ad)+67)]/\av 21 [z0,((128*ad)+67),0] λkr=>ab 21 [z0,((128*ad)+68)]/\av 21 [z0,((128*ad)+68),0] λkX=>
 ab 21 [z0,((128*ad)+69)]/\av 21 [z0,((128*ad)+69),0] λkY=>ab 21 [z0,((128*ad)+70)]/\av 21 [z0,((128*ad)+70),0] λkZ=>
 ab 21 [z0,((128*ad)+71)]/\av 21 [z0,((128*ad)+71),0] λz85=>ab 21 [z0,((128*ad)+72)]/\av 21 [z0,((128*ad)+72),0] λk0=>
 ab 21 [z0,((128*ad)+73)]/\av 21 [z0,((128*ad)+73),0] λz87=>ab 21 [z0,((128*ad)+74)]/\av 21 [z0,((128*ad)+74),0] λk5=>
 ab 21 [z0,((128*ad)+75)]/\av 21 [z0,((128*ad)+75),0] λk6=>ab 21 [z0,((128*ad)+76)]/\av 21 [z0,((128*ad)+76),0] λks=>
 ab 21 [z0,((128*ad)+77)]/\av 21 [z0,((128*ad)+77),0] λz91=>ab 21 [z0,((128*ad)+78)]/\av 21 [z0,((128*ad)+78),0] λkt=>
 ab 21 [z0,((128*ad)+79)]/\av 21 [z0,((128*ad)+79),0] λz93=>ab 21 [z0,((128*ad)+80)]/\av 21 [z0,((128*ad)+80),0] λjq=>
 ab 21 [z0,((128*ad)+81)]/\av 21 [z0,((128*ad)+81),0] λlM=>ab 21 [z0,((128*ad)+82)]/\av 21 [z0,((128*ad)+82),0] λqZ=>
 ab 21 [z0,((128*ad)+83)]/\av 21 [z0,((128*ad)+83),0] λwm=>ab 21 [z0,((128*ad)+84)]/\av 21 [z0,((128*ad)+84),0] λgr=>
 ab 21 [z0,((128*ad)+85)]/\av 21 [z0,((128*ad)+85),0] λiK=>ab 21 [z0,((128*ad)+86)]/\av 21 [z0,((128*ad)+86),0] λkc=>
 ab 21 [z0,((128*ad)+87)]/\av 21 [z0,((128*ad)+87),0] λqV=>ab 21 [z0,((128*ad)+88)]/\av 21 [z0,((128*ad)+88),0] λoR=>
 ab 21 [z0,((128*ad)+89)]/\av 21 [z0,((128*ad)+89),0] λqW=>ab 21 [z0,((128*ad)+90)]/\av 21 [z0,((128*ad)+90),0] λny=>
 ab 21 [z0,((128*ad)+91)]/\av 21 [z0,((128*ad)+91),0] λz105=>ab 21 [z0,((128*ad)+92)]/\av 21 [z0,((128*ad)+92),0] λm4=>
 ab 21 [z0,((128*ad)+93)]/\av 21 [z0,((128*ad)+93),0] λz107=>ab 21 [z0,((128*ad)+94)]/\av 21 [z0,((128*ad)+94),0] λuz=>
 ab 21 [z0,((128*ad)+95)]/\av 21 [z0,((128*ad)+95),0] λz109=>ab 21 [z0,((128*ad)+96)]/\av 21 [z0,((128*ad)+96),0] λuA=>
 ab 21 [z0,((128*ad)+97)]/\av 21 [z0,((128*ad)+97),0] λir=>ab 21 [z0,((128*ad)+98)]/\av 21 [z0,((128*ad)+98),0] λiu=>
 ab 21 [z0,((128*ad)+99)]/\av 21 [z0,((128*ad)+99),0] λiJ=>ab 21 [z0,((128*ad)+100)]/\av 21 [z0,((128*ad)+100),0] λjn=>
 ab 21 [z0,((128*ad)+101)]/\av 21 [z0,((128*ad)+101),0] λm5=>ab 21 [z0,((128*ad)+102)]/\av 21 [z0,((128*ad)+102),0] λz116
 =>ab 21 [z0,((128*ad)+103)]/\av 21 [z0,((128*ad)+103),0] λz117=>ab 21 [z0,((128*ad)+104)]/\av 21 [z0,((128*ad)+104),0] λ
 jD=>ab 21 [z0,((128*ad)+105)]/\av 21 [z0,((128*ad)+105),0] λz119=>ab 21 [z0,((128*ad)+106)]/\av 21 [z0,((128*ad)+106),0]
 λnz=>ab 21 [z0,((128*ad)+107)]/\av 21 [z0,((128*ad)+107),0] λn9=>ab 21 [z0,((128*ad)+108)]/\av 21 [z0,((128*ad)+
 108),0] λoa=>ab 21 [z0,((128*ad)+109)]/\av 21 [z0,((128*ad)+109),0] λsS=>ab 21 [z0,((128*ad)+110)]/\av 21 [z0,((128*ad)
 +110),0] λz124=>ab 21 [z0,((128*ad)+111)]/\av 21 [z0,((128*ad)+111),0] λsT=>ab 21 [z0,((128*ad)+112)]/\av 21 [z0,((128*
 ad)+112),0] λsU=>ab 21 [z0,((128*ad)+113)]/\av 21 [z0,((128*ad)+113),0] λz127=>ab 21 [z0,((128*ad)+114)]/\av 21 [z0,((128
 *ad)+114),0] λqX=>ab 21 [z0,((128*ad)+115)]/\av 21 [z0,((128*ad)+115),0] λqY=>ab 21 [z0,((128*ad)+116)]/\av 21
 [z0,((128*ad)+116),0] λz130=>ab 21 [z0,((128*ad)+117)]/\av 21 [z0,((128*ad)+117),0] λz131=>ab 21 [z0,((128*ad)+118)]/\av
 21 [z0,((128*ad)+118),0] λDW=>ab 21 [z0,((128*ad)+119)]/\av 21 [z0,((128*ad)+119),0] λDX=>ab 21 [z0,((128*ad)+120)]/\
 av 21 [z0,((128*ad)+120),0] λDY=>ab 21 [z0,((128*ad)+121)]/\av 21 [z0,((128*ad)+121),0] λDZ=>ab 21 [z0,((128*ad)+122)]
 /\av 21 [z0,((128*ad)+122),0] λD0=>ab 21 [z0,((128*ad)+123)]/\av 21 [z0,((128*ad)+123),0] λD1=>ab 21 [z0,((128*ad)+
 124)]/\av 21 [z0,((128*ad)+124),0] λz138=>ab 21 [z0,((128*ad)+125)]/\av 21 [z0,((128*ad)+125),0] λz139=>ab 21 [z0,((128*ad)
 +126)]/\av 21 [z0,((128*ad)+126),0] λD2=>ab 21 [z0,((128*ad)+127)]/\av 21 [z0,((128*ad)+127),0] λz141=>aA 23
 [0,((72057594037927936*ao)+((281474976710656*az)+((1099511627776*aC)+((4294967296*aR)+((16777216*ba)+((65536*bh)+((256*z20)+
 z21)))))))] λacj=>aA 23 [acj,((72057594037927936*z22)+((281474976710656*bU)+((1099511627776*z24)+((4294967296*aO)+((16777216*z26)+
 ((65536*cY)+((256*z28)+cy)))))))] λz143=>aA 23 [z143,((72057594037927936*bW)+((281474976710656*z31)+((1099511627776*b7)+
 ((4294967296*cZ)+((16777216*cz)+((65536*cr)+((256*cv)+z37)))))))] λack=>aA 23 [ack,((72057594037927936*eA)+((281474976710656*
 fc)+((1099511627776*z40)+((4294967296*dW)+((16777216*ef)+((65536*fo)+((256*eP)+dI)))))))] λz145=>aA 23
 [z145,((72057594037927936*z46)+((281474976710656*dx)+((1099511627776*fe)+((4294967296*z49)+((16777216*eX)+((65536*z51)+((256*eQ)+
 z53)))))))] λz146=>aA 23 [z146,((72057594037927936*ff)+((281474976710656*fR)+((1099511627776*hM)+((4294967296*hO)+((16777216*lJ)+
 ((65536*z59)+((256*lK)+lL)))))))] λacm=>aA 23 [acm,((72057594037927936*ke)+((281474976710656*gh)+((1099511627776*jV)+
 ((4294967296*kf)+((16777216*kp)+((65536*kq)+((256*nB)+nC)))))))] λz148=>aA 23 [z148,((72057594037927936*z70)+((281474976710656*
 kW)+((1099511627776*z72)+((4294967296*fC)+((16777216*jb)+((65536*z75)+((256*z76)+hW)))))))] λacn=>aA 23
 [acn,((72057594037927936*jc)+((281474976710656*jE)+((1099511627776*jo)+((4294967296*kr)+((16777216*kX)+((65536*kY)+((256*kZ)+
 z85)))))))] λaco=>aA 23 [aco,((72057594037927936*k0)+((281474976710656*z87)+((1099511627776*k5)+((4294967296*k6)+((16777216*ks)+
 ((65536*z91)+((256*kt)+z93)))))))] λacp=>aA 23 [acp,((72057594037927936*jq)+((281474976710656*lM)+((1099511627776*qZ)+
 ((4294967296*wm)+((16777216*gr)+((65536*iK)+((256*kc)+qV)))))))] λz152=>aA 23 [z152,((72057594037927936*oR)+((281474976710656
 *qW)+((1099511627776*ny)+((4294967296*z105)+((16777216*m4)+((65536*z107)+((256*uz)+z109)))))))] λacq=>aA 23
 [acq,((72057594037927936*uA)+((281474976710656*ir)+((1099511627776*iu)+((4294967296*iJ)+((16777216*jn)+((65536*m5)+((256*
 z116)+z117)))))))] λz154=>aA 23 [z154,((72057594037927936*jD)+((281474976710656*z119)+((1099511627776*nz)+((4294967296*n9)+
 ((16777216*oa)+((65536*sS)+((256*z124)+sT)))))))] λacr=>aA 23 [acr,((72057594037927936*sU)+((281474976710656*z127)+
 ((1099511627776*qX)+((4294967296*qY)+((16777216*z130)+((65536*z131)+((256*DW)+DX)))))))] λz156=>aA 23 [z156,((72057594037927936
 *DY)+((281474976710656*DZ)+((1099511627776*D0)+((4294967296*D1)+((16777216*z138)+((65536*z139)+((256*D2)+z141)))))))] λ
 z157=>ab 66 [z157]/\cS λA4=>S 463 [[z157]] [[A4]]->bn λz159=>aK 20 [A4] λz160=>∃(Mo:List (List Int)->Prop) (ac9:List
 (List Int)->Nat),Mo [[16],[A4],[z160],[z159]]/\(eG 16 9223372036854775807 λz162=>cS λm6=>dH λz164=>bn λSV=>Mo
 [[z162],[m6],[z164],[SV]]->(aq (decide (z162<80)) (ab 30 [(z162+(-16)),z164]/\ab 21 [m6,(z162+(-16))]/\G0 21 [m6,(z162+(-16)),0] λ
 D3=>ab 30 [(z162+(-15)),z164]/\ab 21 [m6,(z162+(-15))]/\G0 21 [m6,(z162+(-15)),0] λz167=>lD λz168=>S 450 [[z167]] [[z168]]->bt
 (D3+z168) 18446744073709551616 λHw=>ab 30 [(z162+(-7)),z164]/\ab 21 [m6,(z162+(-7))]/\G0 21 [m6,(z162+(-7)),0] λHx=>bt (D3
 +(z168+(((-18446744073709551616)*Hw)+Hx))) 18446744073709551616 λz171=>ab 30 [(z162+(-2)),z164]/\ab 21 [m6,(z162+(-2))]/\G0 21
 [m6,(z162+(-2)),0] λSW=>lD λz173=>S 451 [[SW]] [[z173]]->bt (D3+(z168+(((-18446744073709551616)*Hw)+(Hx+
 (((-18446744073709551616)*z171)+z173))))) 18446744073709551616 λSX=>ab 31 [m6,z164]/\ab 23 [m6,1]/\aA 23 [m6,(D3+(z168+
 (((-18446744073709551616)*Hw)+(Hx+(((-18446744073709551616)*z171)+(z173+((-18446744073709551616)*SX)))))))] λz175=>bn λko=>(Mo
 [[(z162+1)],[z175],[(z164+1)],[ko]]/\ac9 [[(z162+1)],[z175],[(z164+1)],[ko]]<ac9 [[z162],[m6],[z164],[SV]])) (∃(Mp:List (List Int)->
 Prop) (ada:List (List Int)->Nat),Mp [bA,[0]]/\(∀dt:List Int,aV (da 0 18446744073709551615 8) dt->dH λz175=>Mp [dt,[z175]]->(aq
 (decide (z175<z164)) (ab 30 [z175,z164]/\ab 21 [m6,z175]/\G0 21 [m6,z175,0] λko=>lD λkU=>S 449 [[(ae dt 4 0)]] [[kU]]->
 bt ((ae dt 7 0)+kU) 18446744073709551616 λnA=>cM λwj=>wj<=fs .u64->wj=cD .and .u64 (ae dt 4 0) (ae
 dt 5 0)->cM λwk=>wk<=fs .u64->wk=cD .and .u64 (((-1)*(ae dt 4 0))+18446744073709551615) (ae dt 6 0)->cM
 λkV=>kV<=fs .u64->kV=cD .xor .u64 wj wk->bt ((ae dt 7 0)+(kU+(((-18446744073709551616)*nA)+kV)))
 18446744073709551616 λz182=>ab 39 [z175,0,79]/\lD λz183=>S 467 [[z175]] [[z183]]->bt ((ae dt 7 0)+(kU+(((-18446744073709551616)*
 nA)+(kV+(((-18446744073709551616)*z182)+z183))))) 18446744073709551616 λsV=>bt ((ae dt 7 0)+(ko+(kU+
 (((-18446744073709551616)*nA)+(kV+(((-18446744073709551616)*z182)+(z183+((-18446744073709551616)*sV)))))))) 18446744073709551616 λuB=>
 lD λuC=>S 448 [[(ae dt 0 0)]] [[uC]]->cM λLD=>LD<=fs .u64->LD=cD .and .u64 (ae dt 0 0) (ae dt 1
 0)->cM λLF=>LF<=fs .u64->LF=cD .and .u64 (ae dt 0 0) (ae dt 2 0)->cM λLG=>LG<=fs .u64->LG
 =cD .xor .u64 LD LF->cM λLH=>LH<=fs .u64->LH=cD .and .u64 (ae dt 1 0) (ae dt 2 0)->cM λsW=>sW<=
 fs .u64->sW=cD .xor .u64 LG LH->bt (uC+sW) 18446744073709551616 λD4=>bz λz193=>0<=((ae dt 3 0)+((ae
 dt 7 0)+(ko+(kU+(((-18446744073709551616)*nA)+(kV+(((-18446744073709551616)*z182)+(z183+(((-18446744073709551616)*sV)+
 ((-18446744073709551616)*uB))))))))))-18446744073709551616*z193->((ae dt 3 0)+((ae dt 7 0)+(ko+(kU+
 (((-18446744073709551616)*nA)+(kV+(((-18446744073709551616)*z182)+(z183+(((-18446744073709551616)*sV)+((-18446744073709551616)*
 uB))))))))))-18446744073709551616*z193<18446744073709551616->bz λz194=>0<=((ae dt 7 0)+(ko+(kU+(((-18446744073709551616)*
 nA)+(kV+(((-18446744073709551616)*z182)+(z183+(((-18446744073709551616)*sV)+(((-18446744073709551616)*uB)+(uC+(sW+
 ((-18446744073709551616)*D4))))))))))))-18446744073709551616*z194->((ae dt 7 0)+(ko+(kU+(((-18446744073709551616)*nA)+(kV+
 (((-18446744073709551616)*z182)+(z183+(((-18446744073709551616)*sV)+(((-18446744073709551616)*uB)+(uC+(sW+((-18446744073709551616)*
 D4))))))))))))-18446744073709551616*z194<18446744073709551616->bt (z175+9223372036854775809) 18446744073709551616 λD5=>ab 39 [((z175+
 ((-18446744073709551616)*D5))+1),0,9223372036854775807]/\(Mp [[((ae dt 7 0)+(ko+(kU+(((-18446744073709551616)*nA)+(kV+
 (((-18446744073709551616)*z182)+(z183+(((-18446744073709551616)*sV)+(((-18446744073709551616)*uB)+(uC+(sW+(((-18446744073709551616)*
 D4)+((-18446744073709551616)*z194))))))))))))),(ae dt 0 0),(ae dt 1 0),(ae dt 2 0),((ae dt 3 0)+((ae dt 7 0)
 +(ko+(kU+(((-18446744073709551616)*nA)+(kV+(((-18446744073709551616)*z182)+(z183+(((-18446744073709551616)*sV)+
 (((-18446744073709551616)*uB)+((-18446744073709551616)*z193))))))))))),(ae dt 4 0),(ae dt 5 0),(ae dt 6 0)],[((z175+
 ((-18446744073709551616)*D5))+1)]]/\ada [[((ae dt 7 0)+(ko+(kU+(((-18446744073709551616)*nA)+(kV+(((-18446744073709551616)
 *z182)+(z183+(((-18446744073709551616)*sV)+(((-18446744073709551616)*uB)+(uC+(sW+(((-18446744073709551616)*D4)+
 ((-18446744073709551616)*z194))))))))))))),(ae dt 0 0),(ae dt 1 0),(ae dt 2 0),((ae dt 3 0)+((ae dt 7 0)+(ko
 +(kU+(((-18446744073709551616)*nA)+(kV+(((-18446744073709551616)*z182)+(z183+(((-18446744073709551616)*sV)+(((-18446744073709551616)*
 uB)+((-18446744073709551616)*z193))))))))))),(ae dt 4 0),(ae dt 5 0),(ae dt 6 0)],[((z175+((-18446744073709551616)*D5))+
 1)]]<ada [dt,[z175]])) (bt ((ae bA 0 0)+(ae dt 0 0)) 18446744073709551616 λko=>bt ((ae bA 1 0)+(ae dt 1 0))
 18446744073709551616 λkU=>bt ((ae bA 2 0)+(ae dt 2 0)) 18446744073709551616 λnA=>bt ((ae bA 3 0)+(ae dt 3 0))
 18446744073709551616 λwj=>bt ((ae bA 4 0)+(ae dt 4 0)) 18446744073709551616 λwk=>bt ((ae bA 5 0)+(ae dt 5 0))
 18446744073709551616 λkV=>bt ((ae bA 6 0)+(ae dt 6 0)) 18446744073709551616 λz182=>bt ((ae bA 7 0)+(ae dt 7 0))
 18446744073709551616 λz183=>(eB [[((ae bA 0 0)+((ae dt 0 0)+((-18446744073709551616)*ko))),((ae bA 1 0)+((ae dt 1
 0)+((-18446744073709551616)*kU))),((ae bA 2 0)+((ae dt 2 0)+((-18446744073709551616)*nA))),((ae bA 3 0)+((ae dt 3
 0)+((-18446744073709551616)*wj))),((ae bA 4 0)+((ae dt 4 0)+((-18446744073709551616)*wk))),((ae bA 5 0)+((ae dt 5
 0)+((-18446744073709551616)*kV))),((ae bA 6 0)+((ae dt 6 0)+((-18446744073709551616)*z182))),((ae bA 7 0)+((ae dt 7
 0)+((-18446744073709551616)*z183)))],[(ad+1)]]/\eg [[((ae bA 0 0)+((ae dt 0 0)+((-18446744073709551616)*ko))),((ae bA 1
 0)+((ae dt 1 0)+((-18446744073709551616)*kU))),((ae bA 2 0)+((ae dt 2 0)+((-18446744073709551616)*nA))),((ae bA 3
 0)+((ae dt 3 0)+((-18446744073709551616)*wj))),((ae bA 4 0)+((ae dt 4 0)+((-18446744073709551616)*wk))),((ae bA 5
 0)+((ae dt 5 0)+((-18446744073709551616)*kV))),((ae bA 6 0)+((ae dt 6 0)+((-18446744073709551616)*z182))),((ae bA 7
 0)+((ae dt 7 0)+((-18446744073709551616)*z183)))],[(ad+1)]]<eg [bA,[ad]])))))))) (∃(qd:List (List Int)->Prop) (rV:List (List Int)
 ->Nat),qd [[7],[0],[0],[(-1)]]/\(eG (-1) 7 λaz=>cS λaC=>dH λaR=>bn λba=>qd [[az],[aC],[aR],[ba]]->(aq (decide (0<=az)) (lD
 λbh=>bh=(ae bA 0 0)/2^((8*az)).toNat->cO 0 72057594037927935 bh 256 λz20=>ab 31 [aC,aR]/\ab 23 [aC,1]/\aA 23 [aC,(bh
 +((-256)*z20))] λz21=>bn λz22=>(qd [[(az+(-1))],[z21],[(aR+1)],[z22]]/\rV [[(az+(-1))],[z21],[(aR+1)],[z22]]<rV
 [[az],[aC],[aR],[ba]])) (∃(yF:List (List Int)->Prop) (HY:List (List Int)->Nat),yF [[7],[aC],[aR],[ba]]/\(eG (-1) 7 λz20=>cS λz21=>
 dH λz22=>bn λbU=>yF [[z20],[z21],[z22],[bU]]->(aq (decide (0<=z20)) (lD λz24=>z24=(ae bA 1 0)/2^((8*z20)).toNat->cO 0
 72057594037927935 z24 256 λaO=>ab 31 [z21,z22]/\ab 23 [z21,1]/\aA 23 [z21,(z24+((-256)*aO))] λz26=>bn λcY=>(yF [[(z20+
 (-1))],[z26],[(z22+1)],[cY]]/\HY [[(z20+(-1))],[z26],[(z22+1)],[cY]]<HY [[z20],[z21],[z22],[bU]])) (∃(rY:List (List Int)->Prop) (yx:List
 (List Int)->Nat),rY [[7],[z21],[z22],[bU]]/\(eG (-1) 7 λaO=>cS λz26=>dH λcY=>bn λz28=>rY [[aO],[z26],[cY],[z28]]->(aq (decide (0
 <=aO)) (lD λcy=>cy=(ae bA 2 0)/2^((8*aO)).toNat->cO 0 72057594037927935 cy 256 λbW=>ab 31 [z26,cY]/\ab 23 [z26,1]/\aA
 23 [z26,(cy+((-256)*bW))] λz31=>bn λb7=>(rY [[(aO+(-1))],[z31],[(cY+1)],[b7]]/\yx [[(aO+(-1))],[z31],[(cY+1)],[b7]]<yx
 [[aO],[z26],[cY],[z28]])) (∃(yG:List (List Int)->Prop) (HZ:List (List Int)->Nat),yG [[7],[z26],[cY],[z28]]/\(eG (-1) 7 λbW=>cS λz31=>
 dH λb7=>bn λcZ=>yG [[bW],[z31],[b7],[cZ]]->(aq (decide (0<=bW)) (lD λcz=>cz=(ae bA 3 0)/2^((8*bW)).toNat->cO 0
 72057594037927935 cz 256 λcr=>ab 31 [z31,b7]/\ab 23 [z31,1]/\aA 23 [z31,(cz+((-256)*cr))] λcv=>bn λz37=>(yG [[(bW+
 (-1))],[cv],[(b7+1)],[z37]]/\HZ [[(bW+(-1))],[cv],[(b7+1)],[z37]]<HZ [[bW],[z31],[b7],[cZ]])) (∃(yH:List (List Int)->Prop) (H0:List
 (List Int)->Nat),yH [[7],[z31],[b7],[cZ]]/\(eG (-1) 7 λcr=>cS λcv=>dH λz37=>bn λeA=>yH [[cr],[cv],[z37],[eA]]->(aq (decide (0
 <=cr)) (lD λfc=>fc=(ae bA 4 0)/2^((8*cr)).toNat->cO 0 72057594037927935 fc 256 λz40=>ab 31 [cv,z37]/\ab 23 [cv,1]/\aA
 23 [cv,(fc+((-256)*z40))] λdW=>bn λef=>(yH [[(cr+(-1))],[dW],[(z37+1)],[ef]]/\H0 [[(cr+(-1))],[dW],[(z37+1)],[ef]]<H0
 [[cr],[cv],[z37],[eA]])) (∃(yI:List (List Int)->Prop) (H2:List (List Int)->Nat),yI [[7],[cv],[z37],[eA]]/\(eG (-1) 7 λz40=>cS λdW=>
 dH λef=>bn λfo=>yI [[z40],[dW],[ef],[fo]]->(aq (decide (0<=z40)) (lD λeP=>eP=(ae bA 5 0)/2^((8*z40)).toNat->cO 0
 72057594037927935 eP 256 λdI=>ab 31 [dW,ef]/\ab 23 [dW,1]/\aA 23 [dW,(eP+((-256)*dI))] λz46=>bn λdx=>(yI [[(z40+
 (-1))],[z46],[(ef+1)],[dx]]/\H2 [[(z40+(-1))],[z46],[(ef+1)],[dx]]<H2 [[z40],[dW],[ef],[fo]])) (∃(yJ:List (List Int)->Prop) (H3:List
 (List Int)->Nat),yJ [[7],[dW],[ef],[fo]]/\(eG (-1) 7 λdI=>cS λz46=>dH λdx=>bn λfe=>yJ [[dI],[z46],[dx],[fe]]->(aq (decide (0
 <=dI)) (lD λz49=>z49=(ae bA 6 0)/2^((8*dI)).toNat->cO 0 72057594037927935 z49 256 λeX=>ab 31 [z46,dx]/\ab 23 [z46,1]/\aA
 23 [z46,(z49+((-256)*eX))] λz51=>bn λeQ=>(yJ [[(dI+(-1))],[z51],[(dx+1)],[eQ]]/\H3 [[(dI+(-1))],[z51],[(dx+1)],[eQ]]<H3
 [[dI],[z46],[dx],[fe]])) (∃(yK:List (List Int)->Prop) (H4:List (List Int)->Nat),yK [[7],[z46],[dx],[fe]]/\(eG (-1) 7 λeX=>cS λz51=>
 dH λeQ=>bn λz53=>yK [[eX],[z51],[eQ],[z53]]->(aq (decide (0<=eX)) (lD λff=>ff=(ae bA 7 0)/2^((8*eX)).toNat->cO 0
 72057594037927935 ff 256 λfR=>ab 31 [z51,eQ]/\ab 23 [z51,1]/\aA 23 [z51,(ff+((-256)*fR))] λhM=>bn λhO=>(yK [[(eX+
 (-1))],[hM],[(eQ+1)],[hO]]/\H4 [[(eX+(-1))],[hM],[(eQ+1)],[hO]]<H4 [[eX],[z51],[eQ],[z53]])) (ab 22 [z51,0,eQ]/\aA 22 [z51,0,eQ] λ
 ff=>K [[z0]] [[ff]]))))))))))))))))))))))))))))
theorem azA (f:Int->Int->Int) {r t:List Int} (h:r.length=8) (h':t.length=8):pA f r t=[f (r.getD 0 0) (t.getD 0 0),f (r.getD 1 0) (t.getD 1 0),f (r.getD 2 0) (t.getD 2 0),f (r.getD 3 0) (t.getD 3 0),f (r.getD 4 0) (t.getD 4 0),f (r.getD 5 0) (t.getD 5 0),f (r.getD 6 0) (t.getD 6 0),f (r.getD 7 0) (t.getD 7 0)]:=by
 match r,t,h,h' with
 |[_,_,_,_,_,_,_,_],[_,_,_,_,_,_,_,_],_,_=>rfl
theorem auM (i:Nat) (x:Int) {r:List Int} (hr:r.length=8):uu cW i x r=(let t:=md cW (r.getD 7 0+uY cW (r.getD 4 0)+yX cW (r.getD 4 0) (r.getD 5 0) (r.getD 6 0)+AN cW i+x);let u:=md cW (uX cW (r.getD 0 0)+GK cW (r.getD 0 0) (r.getD 1 0) (r.getD 2 0));[md cW (t+u),r.getD 0 0,r.getD 1 0,r.getD 2 0,md cW (r.getD 3 0+t),r.getD 4 0,r.getD 5 0,r.getD 6 0]):=by
 match r,hr with
 |[_,_,_,_,_,_,_,_],_=>rfl
theorem Dd (x:Int):md cW x=x% 18446744073709551616:=by
 show x% (2:Int)^64=_
 rw[show(2:Int)^64=18446744073709551616 by decide]
theorem ae2:q7 cW=[7640891576956012808,13503953896175478587,4354685564936845355,11912009170470909681,5840696475078001361,11170449401992604703,2270897969802886507,6620516959819538809]:=by decide+kernel
set_option maxHeartbeats 4000000 in
theorem arF:TH SB (dq SB [xS] 465):=by
 intro z0 a0 a1 hp ag b0 z2 bC c1 z3 d0 d1 h3
 have hp:128∣(af z0).length/\(af z0).length<=1000001000:=hp
 have h3:z3=((af z0).length:Int):=h3
 obtain⟨⟨q,hq⟩,xk⟩:=hp
 have hbl:(cJ z0).length=128*q:=by rw[tl,hq]
 have Fl:z3=128*(q:Int):=by rw[h3,hq];simp
 refine⟨⟨(q:Int),Fl⟩,λl=>∃(i:Nat),i<=q/\l=[yU cW (cJ z0) i (q7 cW),[(i:Int)]],λl=>((q:Int)-(l.getD 1 []).getD 0 0).toNat,⟨0,gX _,by
  show _=[q7 cW,[(0:Int)]]
  rw[ae2]⟩,?_⟩
 intro bA PT ad aZ e1 ⟨i,hi,hI⟩
 simp only[hX,and_true]at hI
 obtain⟨xa,aiS⟩:=hI
 obtain⟨vJ,nK⟩:=GB 8 bA PT
 have zx:((af z0).length:Int)=128*(q:Int):=by rw[<-h3,Fl]
 refine⟨λh=>?_,λh=>?_⟩
 ·have h:=of_decide_eq_true h
  have F0:i<q:=by omega
  have ay:∀k:Int,0<=k->k<128->ab 21 [z0,128*ad+k]:=λk h1 h2=>⟨by omega,by rw[zx];omega⟩
  have M0:ab 21 [z0,128*ad]:=⟨by omega,by rw[zx];omega⟩
  refine⟨M0,?_⟩
  intro ao f0 g0 t0
  refine⟨ay 1 (by decide) (by decide),?_⟩
  intro az f1 g1 t1
  refine⟨ay 2 (by decide) (by decide),?_⟩
  intro aC f2 g2 t2
  refine⟨ay 3 (by decide) (by decide),?_⟩
  intro aR f3 g3 t3
  refine⟨ay 4 (by decide) (by decide),?_⟩
  intro ba f4 g4 t4
  refine⟨ay 5 (by decide) (by decide),?_⟩
  intro bh f5 g5 t5
  refine⟨ay 6 (by decide) (by decide),?_⟩
  intro z20 f6 g6 t6
  refine⟨ay 7 (by decide) (by decide),?_⟩
  intro z21 f7 g7 t7
  refine⟨ay 8 (by decide) (by decide),?_⟩
  intro z22 f8 g8 t8
  refine⟨ay 9 (by decide) (by decide),?_⟩
  intro bU f9 g9 t9
  refine⟨ay 10 (by decide) (by decide),?_⟩
  intro z24 f10 g10 t10
  refine⟨ay 11 (by decide) (by decide),?_⟩
  intro aO f11 g11 t11
  refine⟨ay 12 (by decide) (by decide),?_⟩
  intro z26 f12 g12 t12
  refine⟨ay 13 (by decide) (by decide),?_⟩
  intro cY f13 g13 t13
  refine⟨ay 14 (by decide) (by decide),?_⟩
  intro z28 f14 g14 t14
  refine⟨ay 15 (by decide) (by decide),?_⟩
  intro cy f15 g15 t15
  refine⟨ay 16 (by decide) (by decide),?_⟩
  intro bW f16 g16 t16
  refine⟨ay 17 (by decide) (by decide),?_⟩
  intro z31 f17 g17 t17
  refine⟨ay 18 (by decide) (by decide),?_⟩
  intro b7 f18 g18 t18
  refine⟨ay 19 (by decide) (by decide),?_⟩
  intro cZ f19 g19 t19
  refine⟨ay 20 (by decide) (by decide),?_⟩
  intro cz f20 g20 t20
  refine⟨ay 21 (by decide) (by decide),?_⟩
  intro cr f21 g21 t21
  refine⟨ay 22 (by decide) (by decide),?_⟩
  intro cv f22 g22 t22
  refine⟨ay 23 (by decide) (by decide),?_⟩
  intro z37 f23 g23 t23
  refine⟨ay 24 (by decide) (by decide),?_⟩
  intro eA f24 g24 t24
  refine⟨ay 25 (by decide) (by decide),?_⟩
  intro fc f25 agS t25
  refine⟨ay 26 (by decide) (by decide),?_⟩
  intro z40 f26 agT t26
  refine⟨ay 27 (by decide) (by decide),?_⟩
  intro dW f27 agU t27
  refine⟨ay 28 (by decide) (by decide),?_⟩
  intro ef f28 agV t28
  refine⟨ay 29 (by decide) (by decide),?_⟩
  intro fo f29 agW t29
  refine⟨ay 30 (by decide) (by decide),?_⟩
  intro eP f30 ag0 t30
  refine⟨ay 31 (by decide) (by decide),?_⟩
  intro dI f31 ag1 t31
  refine⟨ay 32 (by decide) (by decide),?_⟩
  intro z46 f32 ag2 t32
  refine⟨ay 33 (by decide) (by decide),?_⟩
  intro dx f33 ag3 t33
  refine⟨ay 34 (by decide) (by decide),?_⟩
  intro fe f34 ag4 t34
  refine⟨ay 35 (by decide) (by decide),?_⟩
  intro z49 f35 ag5 t35
  refine⟨ay 36 (by decide) (by decide),?_⟩
  intro eX f36 ag6 t36
  refine⟨ay 37 (by decide) (by decide),?_⟩
  intro z51 f37 ag7 t37
  refine⟨ay 38 (by decide) (by decide),?_⟩
  intro eQ f38 ag8 t38
  refine⟨ay 39 (by decide) (by decide),?_⟩
  intro z53 f39 ag9 t39
  refine⟨ay 40 (by decide) (by decide),?_⟩
  intro ff f40 ahc t40
  refine⟨ay 41 (by decide) (by decide),?_⟩
  intro fR f41 ahd t41
  refine⟨ay 42 (by decide) (by decide),?_⟩
  intro hM f42 ahe t42
  refine⟨ay 43 (by decide) (by decide),?_⟩
  intro hO f43 ahf t43
  refine⟨ay 44 (by decide) (by decide),?_⟩
  intro lJ f44 ahg t44
  refine⟨ay 45 (by decide) (by decide),?_⟩
  intro z59 f45 ahh t45
  refine⟨ay 46 (by decide) (by decide),?_⟩
  intro lK f46 ahi t46
  refine⟨ay 47 (by decide) (by decide),?_⟩
  intro lL f47 ahj t47
  refine⟨ay 48 (by decide) (by decide),?_⟩
  intro ke f48 ahk t48
  refine⟨ay 49 (by decide) (by decide),?_⟩
  intro gh f49 ahl t49
  refine⟨ay 50 (by decide) (by decide),?_⟩
  intro jV f50 aho t50
  refine⟨ay 51 (by decide) (by decide),?_⟩
  intro kf f51 ahp t51
  refine⟨ay 52 (by decide) (by decide),?_⟩
  intro kp f52 ahq t52
  refine⟨ay 53 (by decide) (by decide),?_⟩
  intro kq f53 ahr t53
  refine⟨ay 54 (by decide) (by decide),?_⟩
  intro nB f54 ahs t54
  refine⟨ay 55 (by decide) (by decide),?_⟩
  intro nC f55 aht t55
  refine⟨ay 56 (by decide) (by decide),?_⟩
  intro z70 f56 ahu t56
  refine⟨ay 57 (by decide) (by decide),?_⟩
  intro kW f57 ahv t57
  refine⟨ay 58 (by decide) (by decide),?_⟩
  intro z72 f58 ahw t58
  refine⟨ay 59 (by decide) (by decide),?_⟩
  intro fC f59 ahx t59
  refine⟨ay 60 (by decide) (by decide),?_⟩
  intro jb f60 ahA t60
  refine⟨ay 61 (by decide) (by decide),?_⟩
  intro z75 f61 ahB t61
  refine⟨ay 62 (by decide) (by decide),?_⟩
  intro z76 f62 ahC t62
  refine⟨ay 63 (by decide) (by decide),?_⟩
  intro hW f63 ahD t63
  refine⟨ay 64 (by decide) (by decide),?_⟩
  intro jc f64 aBC t64
  refine⟨ay 65 (by decide) (by decide),?_⟩
  intro jE f65 aBD t65
  refine⟨ay 66 (by decide) (by decide),?_⟩
  intro jo f66 aBE t66
  refine⟨ay 67 (by decide) (by decide),?_⟩
  intro kr f67 aBF t67
  refine⟨ay 68 (by decide) (by decide),?_⟩
  intro kX f68 aBG t68
  refine⟨ay 69 (by decide) (by decide),?_⟩
  intro kY f69 aBH t69
  refine⟨ay 70 (by decide) (by decide),?_⟩
  intro kZ f70 aBI t70
  refine⟨ay 71 (by decide) (by decide),?_⟩
  intro z85 f71 aBJ t71
  refine⟨ay 72 (by decide) (by decide),?_⟩
  intro k0 f72 aBK t72
  refine⟨ay 73 (by decide) (by decide),?_⟩
  intro z87 f73 aBL t73
  refine⟨ay 74 (by decide) (by decide),?_⟩
  intro k5 f74 aBM t74
  refine⟨ay 75 (by decide) (by decide),?_⟩
  intro k6 f75 aBN t75
  refine⟨ay 76 (by decide) (by decide),?_⟩
  intro ks f76 aBO t76
  refine⟨ay 77 (by decide) (by decide),?_⟩
  intro z91 f77 aBP t77
  refine⟨ay 78 (by decide) (by decide),?_⟩
  intro kt f78 aBQ t78
  refine⟨ay 79 (by decide) (by decide),?_⟩
  intro z93 f79 aBR t79
  refine⟨ay 80 (by decide) (by decide),?_⟩
  intro jq f80 aBS t80
  refine⟨ay 81 (by decide) (by decide),?_⟩
  intro lM f81 aBT t81
  refine⟨ay 82 (by decide) (by decide),?_⟩
  intro qZ f82 aBU t82
  refine⟨ay 83 (by decide) (by decide),?_⟩
  intro wm f83 aBV t83
  refine⟨ay 84 (by decide) (by decide),?_⟩
  intro gr f84 aBW t84
  refine⟨ay 85 (by decide) (by decide),?_⟩
  intro iK f85 aBX t85
  refine⟨ay 86 (by decide) (by decide),?_⟩
  intro kc f86 aBY t86
  refine⟨ay 87 (by decide) (by decide),?_⟩
  intro qV f87 aBZ t87
  refine⟨ay 88 (by decide) (by decide),?_⟩
  intro oR f88 aB0 t88
  refine⟨ay 89 (by decide) (by decide),?_⟩
  intro qW f89 aB1 t89
  refine⟨ay 90 (by decide) (by decide),?_⟩
  intro ny f90 aB2 t90
  refine⟨ay 91 (by decide) (by decide),?_⟩
  intro z105 f91 aB3 t91
  refine⟨ay 92 (by decide) (by decide),?_⟩
  intro m4 f92 aB4 t92
  refine⟨ay 93 (by decide) (by decide),?_⟩
  intro z107 f93 aB5 t93
  refine⟨ay 94 (by decide) (by decide),?_⟩
  intro uz f94 aB6 t94
  refine⟨ay 95 (by decide) (by decide),?_⟩
  intro z109 f95 aB7 t95
  refine⟨ay 96 (by decide) (by decide),?_⟩
  intro uA f96 aB8 t96
  refine⟨ay 97 (by decide) (by decide),?_⟩
  intro ir f97 aB9 t97
  refine⟨ay 98 (by decide) (by decide),?_⟩
  intro iu f98 aCa t98
  refine⟨ay 99 (by decide) (by decide),?_⟩
  intro iJ f99 aCb t99
  refine⟨ay 100 (by decide) (by decide),?_⟩
  intro jn f100 aBa t100
  refine⟨ay 101 (by decide) (by decide),?_⟩
  intro m5 f101 aBb t101
  refine⟨ay 102 (by decide) (by decide),?_⟩
  intro z116 f102 aBc t102
  refine⟨ay 103 (by decide) (by decide),?_⟩
  intro z117 f103 aBd t103
  refine⟨ay 104 (by decide) (by decide),?_⟩
  intro jD f104 aBe t104
  refine⟨ay 105 (by decide) (by decide),?_⟩
  intro z119 f105 aBf t105
  refine⟨ay 106 (by decide) (by decide),?_⟩
  intro nz f106 aBg t106
  refine⟨ay 107 (by decide) (by decide),?_⟩
  intro n9 f107 aBh t107
  refine⟨ay 108 (by decide) (by decide),?_⟩
  intro oa f108 aBi t108
  refine⟨ay 109 (by decide) (by decide),?_⟩
  intro sS f109 aBj t109
  refine⟨ay 110 (by decide) (by decide),?_⟩
  intro z124 f110 aBk t110
  refine⟨ay 111 (by decide) (by decide),?_⟩
  intro sT f111 aBl t111
  refine⟨ay 112 (by decide) (by decide),?_⟩
  intro sU f112 aBm t112
  refine⟨ay 113 (by decide) (by decide),?_⟩
  intro z127 f113 aBn t113
  refine⟨ay 114 (by decide) (by decide),?_⟩
  intro qX f114 aBo t114
  refine⟨ay 115 (by decide) (by decide),?_⟩
  intro qY f115 aBp t115
  refine⟨ay 116 (by decide) (by decide),?_⟩
  intro z130 f116 aBq t116
  refine⟨ay 117 (by decide) (by decide),?_⟩
  intro z131 f117 aBr t117
  refine⟨ay 118 (by decide) (by decide),?_⟩
  intro DW f118 aBs t118
  refine⟨ay 119 (by decide) (by decide),?_⟩
  intro DX f119 aBt t119
  refine⟨ay 120 (by decide) (by decide),?_⟩
  intro DY f120 aBu t120
  refine⟨ay 121 (by decide) (by decide),?_⟩
  intro DZ f121 aBv t121
  refine⟨ay 122 (by decide) (by decide),?_⟩
  intro D0 f122 aBw t122
  refine⟨ay 123 (by decide) (by decide),?_⟩
  intro D1 f123 aBx t123
  refine⟨ay 124 (by decide) (by decide),?_⟩
  intro z138 f124 aBy t124
  refine⟨ay 125 (by decide) (by decide),?_⟩
  intro z139 f125 aBz t125
  refine⟨ay 126 (by decide) (by decide),?_⟩
  intro D2 f126 aBA t126
  refine⟨ay 127 (by decide) (by decide),?_⟩
  intro z141 f127 aBB t127
  obtain⟨bl,qv⟩:∃l,((cJ z0).drop (128*i)).take 128=l:=⟨_,rfl⟩
  have MU:bl.length=128:=by rw[<-qv,m8,q2,hbl];omega
  have aN:∀(k:Nat) (y z:Int),k<128->y=(k:Int)->z=au 21 [z0,128*ad+y,0]->z=bl.getD k 0:=λk y z hk hy hz=>by
   rw[cd hz,<-qv,Wv _ _ _ _ hk]
   congr 1;omega
  have hB:[ao,az,aC,aR,ba,bh,z20,z21,z22,bU,z24,aO,z26,cY,z28,cy,bW,z31,b7,cZ,cz,cr,cv,z37,eA,fc,z40,dW,ef,fo,eP,dI,z46,dx,fe,z49,eX,z51,eQ,z53,ff,fR,hM,hO,lJ,z59,lK,lL,ke,gh,jV,kf,kp,kq,nB,nC,z70,kW,z72,fC,jb,z75,z76,hW,jc,jE,jo,kr,kX,kY,kZ,z85,k0,z87,k5,k6,ks,z91,kt,z93,jq,lM,qZ,wm,gr,iK,kc,qV,oR,qW,ny,z105,m4,z107,uz,z109,uA,ir,iu,iJ,jn,m5,z116,z117,jD,z119,nz,n9,oa,sS,z124,sT,sU,z127,qX,qY,z130,z131,DW,DX,DY,DZ,D0,D1,z138,z139,D2,z141]=bl:=by
   rw[aN 0 0 ao (by decide) rfl (by rw[Int.add_zero];exact t0),aN 1 1 az (by decide) rfl t1,aN 2 2 aC (by decide) rfl t2,aN 3 3 aR (by decide) rfl t3,aN 4 4 ba (by decide) rfl t4,aN 5 5 bh (by decide) rfl t5,aN 6 6 z20 (by decide) rfl t6,aN 7 7 z21 (by decide) rfl t7,aN 8 8 z22 (by decide) rfl t8,aN 9 9 bU (by decide) rfl t9,aN 10 10 z24 (by decide) rfl t10,aN 11 11 aO (by decide) rfl t11,aN 12 12 z26 (by decide) rfl t12,aN 13 13 cY (by decide) rfl t13,aN 14 14 z28 (by decide) rfl t14,aN 15 15 cy (by decide) rfl t15,aN 16 16 bW (by decide) rfl t16,aN 17 17 z31 (by decide) rfl t17,aN 18 18 b7 (by decide) rfl t18,aN 19 19 cZ (by decide) rfl t19,aN 20 20 cz (by decide) rfl t20,aN 21 21 cr (by decide) rfl t21,aN 22 22 cv (by decide) rfl t22,aN 23 23 z37 (by decide) rfl t23,aN 24 24 eA (by decide) rfl t24,aN 25 25 fc (by decide) rfl t25,aN 26 26 z40 (by decide) rfl t26,aN 27 27 dW (by decide) rfl t27,aN 28 28 ef (by decide) rfl t28,aN 29 29 fo (by decide) rfl t29,aN 30 30 eP (by decide) rfl t30,aN 31 31 dI (by decide) rfl t31,aN 32 32 z46 (by decide) rfl t32,aN 33 33 dx (by decide) rfl t33,aN 34 34 fe (by decide) rfl t34,aN 35 35 z49 (by decide) rfl t35,aN 36 36 eX (by decide) rfl t36,aN 37 37 z51 (by decide) rfl t37,aN 38 38 eQ (by decide) rfl t38,aN 39 39 z53 (by decide) rfl t39,aN 40 40 ff (by decide) rfl t40,aN 41 41 fR (by decide) rfl t41,aN 42 42 hM (by decide) rfl t42,aN 43 43 hO (by decide) rfl t43,aN 44 44 lJ (by decide) rfl t44,aN 45 45 z59 (by decide) rfl t45,aN 46 46 lK (by decide) rfl t46,aN 47 47 lL (by decide) rfl t47,aN 48 48 ke (by decide) rfl t48,aN 49 49 gh (by decide) rfl t49,aN 50 50 jV (by decide) rfl t50,aN 51 51 kf (by decide) rfl t51,aN 52 52 kp (by decide) rfl t52,aN 53 53 kq (by decide) rfl t53,aN 54 54 nB (by decide) rfl t54,aN 55 55 nC (by decide) rfl t55,aN 56 56 z70 (by decide) rfl t56,aN 57 57 kW (by decide) rfl t57,aN 58 58 z72 (by decide) rfl t58,aN 59 59 fC (by decide) rfl t59,aN 60 60 jb (by decide) rfl t60,aN 61 61 z75 (by decide) rfl t61,aN 62 62 z76 (by decide) rfl t62,aN 63 63 hW (by decide) rfl t63,aN 64 64 jc (by decide) rfl t64,aN 65 65 jE (by decide) rfl t65,aN 66 66 jo (by decide) rfl t66,aN 67 67 kr (by decide) rfl t67,aN 68 68 kX (by decide) rfl t68,aN 69 69 kY (by decide) rfl t69,aN 70 70 kZ (by decide) rfl t70,aN 71 71 z85 (by decide) rfl t71,aN 72 72 k0 (by decide) rfl t72,aN 73 73 z87 (by decide) rfl t73,aN 74 74 k5 (by decide) rfl t74,aN 75 75 k6 (by decide) rfl t75,aN 76 76 ks (by decide) rfl t76,aN 77 77 z91 (by decide) rfl t77,aN 78 78 kt (by decide) rfl t78,aN 79 79 z93 (by decide) rfl t79,aN 80 80 jq (by decide) rfl t80,aN 81 81 lM (by decide) rfl t81,aN 82 82 qZ (by decide) rfl t82,aN 83 83 wm (by decide) rfl t83,aN 84 84 gr (by decide) rfl t84,aN 85 85 iK (by decide) rfl t85,aN 86 86 kc (by decide) rfl t86,aN 87 87 qV (by decide) rfl t87,aN 88 88 oR (by decide) rfl t88,aN 89 89 qW (by decide) rfl t89,aN 90 90 ny (by decide) rfl t90,aN 91 91 z105 (by decide) rfl t91,aN 92 92 m4 (by decide) rfl t92,aN 93 93 z107 (by decide) rfl t93,aN 94 94 uz (by decide) rfl t94,aN 95 95 z109 (by decide) rfl t95,aN 96 96 uA (by decide) rfl t96,aN 97 97 ir (by decide) rfl t97,aN 98 98 iu (by decide) rfl t98,aN 99 99 iJ (by decide) rfl t99,aN 100 100 jn (by decide) rfl t100,aN 101 101 m5 (by decide) rfl t101,aN 102 102 z116 (by decide) rfl t102,aN 103 103 z117 (by decide) rfl t103,aN 104 104 jD (by decide) rfl t104,aN 105 105 z119 (by decide) rfl t105,aN 106 106 nz (by decide) rfl t106,aN 107 107 n9 (by decide) rfl t107,aN 108 108 oa (by decide) rfl t108,aN 109 109 sS (by decide) rfl t109,aN 110 110 z124 (by decide) rfl t110,aN 111 111 sT (by decide) rfl t111,aN 112 112 sU (by decide) rfl t112,aN 113 113 z127 (by decide) rfl t113,aN 114 114 qX (by decide) rfl t114,aN 115 115 qY (by decide) rfl t115,aN 116 116 z130 (by decide) rfl t116,aN 117 117 z131 (by decide) rfl t117,aN 118 118 DW (by decide) rfl t118,aN 119 119 DX (by decide) rfl t119,aN 120 120 DY (by decide) rfl t120,aN 121 121 DZ (by decide) rfl t121,aN 122 122 D0 (by decide) rfl t122,aN 123 123 D1 (by decide) rfl t123,aN 124 124 z138 (by decide) rfl t124,aN 125 125 z139 (by decide) rfl t125,aN 126 126 D2 (by decide) rfl t126,aN 127 127 z141 (by decide) rfl t127]
   exact(Fa bl 128 MU).symm
  have se:wi cW bl=[((72057594037927936*ao)+((281474976710656*az)+((1099511627776*aC)+((4294967296*aR)+((16777216*ba)+((65536*bh)+((256*z20)+z21))))))),((72057594037927936*z22)+((281474976710656*bU)+((1099511627776*z24)+((4294967296*aO)+((16777216*z26)+((65536*cY)+((256*z28)+cy))))))),((72057594037927936*bW)+((281474976710656*z31)+((1099511627776*b7)+((4294967296*cZ)+((16777216*cz)+((65536*cr)+((256*cv)+z37))))))),((72057594037927936*eA)+((281474976710656*fc)+((1099511627776*z40)+((4294967296*dW)+((16777216*ef)+((65536*fo)+((256*eP)+dI))))))),((72057594037927936*z46)+((281474976710656*dx)+((1099511627776*fe)+((4294967296*z49)+((16777216*eX)+((65536*z51)+((256*eQ)+z53))))))),((72057594037927936*ff)+((281474976710656*fR)+((1099511627776*hM)+((4294967296*hO)+((16777216*lJ)+((65536*z59)+((256*lK)+lL))))))),((72057594037927936*ke)+((281474976710656*gh)+((1099511627776*jV)+((4294967296*kf)+((16777216*kp)+((65536*kq)+((256*nB)+nC))))))),((72057594037927936*z70)+((281474976710656*kW)+((1099511627776*z72)+((4294967296*fC)+((16777216*jb)+((65536*z75)+((256*z76)+hW))))))),((72057594037927936*jc)+((281474976710656*jE)+((1099511627776*jo)+((4294967296*kr)+((16777216*kX)+((65536*kY)+((256*kZ)+z85))))))),((72057594037927936*k0)+((281474976710656*z87)+((1099511627776*k5)+((4294967296*k6)+((16777216*ks)+((65536*z91)+((256*kt)+z93))))))),((72057594037927936*jq)+((281474976710656*lM)+((1099511627776*qZ)+((4294967296*wm)+((16777216*gr)+((65536*iK)+((256*kc)+qV))))))),((72057594037927936*oR)+((281474976710656*qW)+((1099511627776*ny)+((4294967296*z105)+((16777216*m4)+((65536*z107)+((256*uz)+z109))))))),((72057594037927936*uA)+((281474976710656*ir)+((1099511627776*iu)+((4294967296*iJ)+((16777216*jn)+((65536*m5)+((256*z116)+z117))))))),((72057594037927936*jD)+((281474976710656*z119)+((1099511627776*nz)+((4294967296*n9)+((16777216*oa)+((65536*sS)+((256*z124)+sT))))))),((72057594037927936*sU)+((281474976710656*z127)+((1099511627776*qX)+((4294967296*qY)+((16777216*z130)+((65536*z131)+((256*DW)+DX))))))),((72057594037927936*DY)+((281474976710656*DZ)+((1099511627776*D0)+((4294967296*D1)+((16777216*z138)+((65536*z139)+((256*D2)+z141)))))))]:=by
   rw[<-hB]
   show [((((((((0*256+ao)*256+az)*256+aC)*256+aR)*256+ba)*256+bh)*256+z20)*256+z21),((((((((0*256+z22)*256+bU)*256+z24)*256+aO)*256+z26)*256+cY)*256+z28)*256+cy),((((((((0*256+bW)*256+z31)*256+b7)*256+cZ)*256+cz)*256+cr)*256+cv)*256+z37),((((((((0*256+eA)*256+fc)*256+z40)*256+dW)*256+ef)*256+fo)*256+eP)*256+dI),((((((((0*256+z46)*256+dx)*256+fe)*256+z49)*256+eX)*256+z51)*256+eQ)*256+z53),((((((((0*256+ff)*256+fR)*256+hM)*256+hO)*256+lJ)*256+z59)*256+lK)*256+lL),((((((((0*256+ke)*256+gh)*256+jV)*256+kf)*256+kp)*256+kq)*256+nB)*256+nC),((((((((0*256+z70)*256+kW)*256+z72)*256+fC)*256+jb)*256+z75)*256+z76)*256+hW),((((((((0*256+jc)*256+jE)*256+jo)*256+kr)*256+kX)*256+kY)*256+kZ)*256+z85),((((((((0*256+k0)*256+z87)*256+k5)*256+k6)*256+ks)*256+z91)*256+kt)*256+z93),((((((((0*256+jq)*256+lM)*256+qZ)*256+wm)*256+gr)*256+iK)*256+kc)*256+qV),((((((((0*256+oR)*256+qW)*256+ny)*256+z105)*256+m4)*256+z107)*256+uz)*256+z109),((((((((0*256+uA)*256+ir)*256+iu)*256+iJ)*256+jn)*256+m5)*256+z116)*256+z117),((((((((0*256+jD)*256+z119)*256+nz)*256+n9)*256+oa)*256+sS)*256+z124)*256+sT),((((((((0*256+sU)*256+z127)*256+qX)*256+qY)*256+z130)*256+z131)*256+DW)*256+DX),((((((((0*256+DY)*256+DZ)*256+D0)*256+D1)*256+z138)*256+z139)*256+D2)*256+z141)]=_
   simp only[hX,and_true]
   refine⟨by omega,by omega,by omega,by omega,by omega,by omega,by omega,by omega,by omega,by omega,by omega,by omega,by omega,by omega,by omega,by omega⟩
  obtain⟨ws,zI⟩:∃l,wi cW bl=l:=⟨_,rfl⟩
  intro acj x0 ja u0 z143 x1 iq px ack x2 qU sR z145 gF yl uw z146 gq AY Hq acm gG AZ Sm z148 gV A0 Sn acn ka A1 So aco lH A2 u8 acp lI A3 Sp z152 mq DT Sg acq fQ AX Sh z154 hV DU Si acr kT DV Sj z156 yj Hu Sk z157 yk Hv Sl
  have v0:=gb (l:=[]) u0 fa
  have v1:=gb px v0
  have v2:=gb sR v1
  have v3:=gb uw v2
  have v4:=gb Hq v3
  have v5:=gb Sm v4
  have v6:=gb Sn v5
  have Hs:=gb So v6
  have Sv:=gb u8 Hs
  have v9:=gb Sp Sv
  have v10:=gb Sg v9
  have v11:=gb Sh v10
  have v12:=gb Si v11
  have Ss:=gb Sj v12
  have St:=gb Sk Ss
  have Su:=gb Sl St
  have hr:af z157=rws ws:=by
   rw[<-zI,se];exact Su
  have wl:ws.length=16:=by rw[<-zI];simp[wi]
  refine⟨by show(af z157).length<=1000000;rw[hr,ns,wl];decide,?_⟩
  intro A4 i0 i1 ew z159 fA k1 z160 m0 fW n0
  have ew:af A4=af z157:=ew
  rw[hr]at ew
  have n0:z160=((af A4).length:Int):=n0
  rw[ew,ns,wl]at n0
  refine⟨λl=>∃(j:Nat) (c k:Int),j<=64/\l=[[((16+j:Nat):Int)],[c],[((16+j:Nat):Int)],[k]]/\af c=rws (rf cW j ws),λl=>(80-(l.getD 0 []).getD 0 0).toNat,⟨0,A4,z159,gX _,by rw[n0];rfl,ew⟩,?_⟩
  intro z162 tY o1 m6 p0 p1 z164 fJ bq SV aP r1 ⟨j,c,aI,hj,hl,hc⟩
  simp only[hX,and_true]at hl
  obtain⟨pR,hl2,F6,ak3⟩:=hl
  subst hl2
  obtain⟨bx,jO⟩:∃l,rf cW j ws=l:=⟨_,rfl⟩
  rw[jO]at hc
  have GM:bx.length=16+j:=by rw[<-jO,NM,wl]
  have r8:((af m6).length:Int)=16+(j:Int):=by rw[hc,ns,GM];omega
  refine⟨λhlt=>?_,λec=>?_⟩
  ·have hlt:=of_decide_eq_true hlt
   refine⟨⟨by omega,by omega⟩,⟨by omega,by rw[r8];omega⟩,λD3 hT s1 s2=>⟨⟨by omega,by omega⟩,⟨by omega,by rw[r8];omega⟩,λz167 avl avn Sc z168 avy avz wc Hw ax6 ax7 ax8 ax9=>⟨⟨by omega,by omega⟩,⟨by omega,by rw[r8];omega⟩,λHx w0 w1 w2 z171 ayU ayV ayl aym=>⟨⟨by omega,by omega⟩,⟨by omega,by rw[r8];omega⟩,λSW azr azs SF z173 EC ED oZ SX MQ MR r6 aeY=>⟨by show z164=((af m6).length:Int);omega,by show((af m6).length:Int)+1<=1073741824;omega,λz175 M7 M8 yW ko Nr Ns=>?_⟩⟩⟩⟩⟩
   have wc:[[z168]]=[[AU cW z167]]:=wc
   have oZ:[[z173]]=[[AV cW SW]]:=oZ
   simp only[hX,and_true]at wc oZ
   have e1:=tz s2 hc
   have e2:=tz Sc hc
   have bN:=tz w2 hc
   have fi:=tz SF hc
   have PD:D3+(z168+((-18446744073709551616)*Hw+(Hx+((-18446744073709551616)*z171+(z173+(-18446744073709551616)*SX)))))=xN cW bx:=by
    unfold xN
    rw[Dd,GM,show 16+j-16=(z162+-16).toNat by omega,show 16+j-15=(z162+-15).toNat by omega,show 16+j-7=(z162+-7).toNat by omega,show 16+j-2=(z162+-2).toNat by omega,<-e1,<-e2,<-bN,<-fi,<-wc,<-oZ]
    omega
   have gO:=gb yW hc
   rw[PD]at gO
   refine⟨⟨j+1,z175,ko,by omega,by rw[show z162+1=((16+(j+1):Nat):Int) by omega,show z164+1=((16+(j+1):Nat):Int) by omega],by rw[NO,jO];exact gO⟩,?_⟩
   show(80-(z162+1)).toNat<(80-z162).toNat
   omega
  ·have ec:=of_decide_eq_false ec
   have Pm:j=64:=by omega
   have PZ:sched cW ws=bx:=by rw[<-jO,Pm];rfl
   refine⟨λl=>∃(t:Nat),t<=80/\l=[vX cW 0 (bx.take t) bA,[(t:Int)]],λl=>(80-(l.getD 1 []).getD 0 0).toNat,⟨0,gX _,rfl⟩,?_⟩
   intro e4 PU z175 hT s1 ⟨t,ht,hl⟩
   simp only[hX,and_true]at hl
   obtain⟨hv,amt⟩:=hl
   obtain⟨vK,aeT⟩:=GB 8 e4 PU
   refine⟨λhlt=>?_,λFW=>?_⟩
   ·have hlt:=of_decide_eq_true hlt
    refine⟨⟨by omega,by omega⟩,⟨by omega,by rw[r8];omega⟩,?_⟩
    intro ko EC ED oZ kU MQ MR r6 nA M7 M8 yW M9 wj Nr Ns Nt wk agr ags NH kV agD agE NQ z182 ahF ahG N6 N7
    refine⟨⟨by omega,by omega⟩,?_⟩
    intro z183 FX akN ss sV amB amC Qm Qn uB amJ amK Qv Qw uC anf ang vI LD aom aon QO LF apk apl QV LG apy apz Q0 LH arl arn Ra sW atk atl Rk D4 att atu atv atw z193 at2 at3 Hd He z194 auI auJ R4 R5 D5 avm avo avp avq
    have Gn:t<80:=by omega
    have Ny:D5=0:=by omega
    have ex:=tz oZ hc
    rw[show z175.toNat=t by omega]at ex
    have r6:[[kU]]=[[uY cW (e4.getD 4 0)]]:=r6
    have ss:[[z183]]=[[AN cW z175.toNat]]:=ss
    have vI:[[uC]]=[[uX cW (e4.getD 0 0)]]:=vI
    simp only[hX,and_true]at r6 ss vI
    rw[show z175.toNat=t by omega]at ss
    have j2:kV=yX cW (e4.getD 4 0) (e4.getD 5 0) (e4.getD 6 0):=by
     rw[NQ,Nt,NH]
     unfold yX
     rw[show(2:Int)^cW.w-1-e4.getD 4 0=-1*e4.getD 4 0+18446744073709551615 by rw[show(2:Int)^cW.w=18446744073709551616 by decide];omega]
     rfl
    have Pz:sW=GK cW (e4.getD 0 0) (e4.getD 1 0) (e4.getD 2 0):=by
     rw[Rk,Q0,QV,QO,Ra];rfl
    obtain⟨A,hA⟩:∃A,e4.getD 0 0=A:=⟨_,rfl⟩
    obtain⟨D,hD⟩:∃A,e4.getD 3 0=A:=⟨_,rfl⟩
    obtain⟨H,Ft⟩:∃A,e4.getD 7 0=A:=⟨_,rfl⟩
    rw[Ft]at yW M9 N6 N7 Qm Qn Qv Qw Hd He R4 R5⊢
    rw[hD]at Hd He⊢
    have zF:=auM t ko vK
    rw[Ft,hD,<-r6,<-j2,<-ss,<-vI,<-Pz]at zF
    have bI:md cW (H+kU+kV+z183+ko)=H+(ko+(kU+((-18446744073709551616)*nA+(kV+((-18446744073709551616)*z182+(z183+((-18446744073709551616)*sV+(-18446744073709551616)*uB))))))):=by
     rw[Dd];omega
    have Ou:md cW (uC+sW)=uC+(sW+(-18446744073709551616)*D4):=by
     rw[Dd];omega
    simp only[bI,Ou]at zF
    refine⟨⟨by omega,by omega⟩,⟨t+1,by omega,?_⟩,?_⟩
    ·rw[abV bx t (by omega),RJ,<-hv,show 0+(bx.take t).length=t by rw[m8];omega,<-ex,zF,Ny]
     simp only[hX,and_true]
     refine⟨⟨?_,trivial,trivial,trivial,?_⟩,?_⟩
     ·rw[Dd];exact Kp (k:=z194) (by omega) (by omega) (by omega)
     ·rw[Dd];exact Kp (k:=z193) (by omega) (by omega) (by omega)
     ·omega
    ·show(80-(z175+-18446744073709551616*D5+1)).toNat<(80-z175).toNat
     omega
   ·have FW:=of_decide_eq_false FW
    intro ko EC ad7 aef aeo kU ED ad8 aeg aep nA oZ ad9 aeh aeq wj ad2 aea aei aer wk ad3 aeb aej aes kV ad4 aec aek aet z182 ad5 aed ael aeu z183 ad6 aee aem aev
    have Gn:t=80:=by omega
    have O4:bx.take t=bx:=jd (by omega)
    rw[O4]at hv
    have nj:v8 cW bA ws=[bA.getD 0 0+(e4.getD 0 0+(-18446744073709551616)*ko),bA.getD 1 0+(e4.getD 1 0+(-18446744073709551616)*kU),bA.getD 2 0+(e4.getD 2 0+(-18446744073709551616)*nA),bA.getD 3 0+(e4.getD 3 0+(-18446744073709551616)*wj),bA.getD 4 0+(e4.getD 4 0+(-18446744073709551616)*wk),bA.getD 5 0+(e4.getD 5 0+(-18446744073709551616)*kV),bA.getD 6 0+(e4.getD 6 0+(-18446744073709551616)*z182),bA.getD 7 0+(e4.getD 7 0+(-18446744073709551616)*z183)]:=by
     unfold v8
     rw[PZ,<-hv,azA _ vJ vK]
     simp only[Dd,hX,and_true]
     refine⟨by omega,by omega,by omega,by omega,by omega,by omega,by omega,by omega⟩
    refine⟨⟨i+1,by omega,?_⟩,?_⟩
    ·rw[<-nj,xa]
     show _=[v8 cW (yU cW (cJ z0) i (q7 cW)) (wi cW (((cJ z0).drop (128*i)).take 128)),_]
     rw[qv,zI,show ad+1=((i+1:Nat):Int) by omega]
    ·show((q:Int)-(ad+1)).toNat<((q:Int)-ad).toNat
     omega
 ·have h:=of_decide_eq_false h
  have F0:i=q:=by omega
  have hall:qg cW (cJ z0)=ua cW bA:=by
   unfold qg
   rw[hbl,show 2*cW.w=128 from rfl,S7 q (by decide),<-F0,<-xa]
  have ic:ua cW bA=((((((([]++(cU 8).map (lk cW (bA.getD 0 0)))++(cU 8).map (lk cW (bA.getD 1 0)))++(cU 8).map (lk cW (bA.getD 2 0)))++(cU 8).map (lk cW (bA.getD 3 0)))++(cU 8).map (lk cW (bA.getD 4 0)))++(cU 8).map (lk cW (bA.getD 5 0)))++(cU 8).map (lk cW (bA.getD 6 0)))++(cU 8).map (lk cW (bA.getD 7 0)):=by
   conv=>lhs;rw[ZF vJ]
   rfl
  refine yf (pre:=[]) fa rfl (by simp) λafj ann amL p0 p1 h0 Nw=>?_
  refine yf h0 (by rw[Nw];simp) (by simp) λafk QA amM bJ cP h1 BL=>?_
  refine yf h1 (by rw[BL];simp) (by simp) λafn QB amN ea ed h2 E0=>?_
  refine yf h2 (by rw[E0];simp) (by simp) λEP anp amO gf mS h3 E1=>?_
  refine yf h3 (by rw[E1];simp) (by simp) λafo anq amQ sK Rg h4 NC=>?_
  refine yf h4 (by rw[NC];simp) (by simp) λafp ant amR Rf ary h5 y2=>?_
  refine yf h5 (by rw[y2];simp) (by simp) λafq anu amS arz arA h6 y3=>?_
  refine yf h6 (by rw[y3];simp) (by simp) λER QC amU arB arC h7 NF=>?_
  have F7:af ER=rws (ua cW bA):=by rw[h7,ic]
  have QN:QC=((af ER).length:Int):=by rw[h7,ns,NF];simp
  refine⟨⟨bX _,by omega,by omega⟩,λS1 x0 x1 x2=>⟨⟨x0,x1,trivial⟩,?_⟩⟩
  have hf:=oO x2 QN
  show cJ S1=qg cW (cJ z0)
  rw[hall]
  exact EN (by rw[hf,F7])
end Go.cu
namespace Go.cu
open Go Go.bo
def Ux (S:Nat->List (List Int)->List (List Int)->Prop) (K:List (List Int)->List (List Int)->Prop):Prop:=
 ∀aP:List Int,aV (da 0 18446744073709551615 5) aP->∀bA:List Int,aV (da 0 18446744073709551615 4) bA->∃(wD:List (List Int)->Prop) (Bg:List
 (List Int)->Nat),wD [[255],[1,0,0,0,0]]/\(eG (-1) 255 λaj=>∀mV:List Int,aV (da 0 18446744073709551615 5) mV->wD [[aj],mV]->(aq (decide (0
 <=aj)) (∀oL:List Int,aV (da 0 18446744073709551615 5) oL->S 664 [mV] [oL]->cO 0 3 aj 64 λz21=>lD λz22=>z22=ae bA (z21).toNat 0
 ->cO 0 3 aj 64 λbU=>lD λz24=>z24=z22/2^((aj+((-64)*bU))).toNat->cO 0 9223372036854775807 z24 2 λaO=>(aq (decide ((z24+((-2)*
 aO))=1)) (∀uh:List Int,aV (da 0 18446744073709551615 5) uh->S 643 [oL,aP] [uh]->(wD [[(aj+(-1))],uh]/\Bg [[(aj+(-1))],uh]<Bg
 [[aj],mV])) ((wD [[(aj+(-1))],oL]/\Bg [[(aj+(-1))],oL]<Bg [[aj],mV])))) (K [aP,bA] [mV])))
theorem WT {a b:Int} {r:List Int} (h:aV (da a b 20) r):[[ae r 0 0,ae r 1 0,ae r 2 0,ae r 3 0,ae r 4 0],[ae r 5 0,ae r 6 0,ae r 7 0,ae r 8 0,ae r 9 0],[ae r 10 0,ae r 11 0,ae r 12 0,ae r 13 0,ae r 14 0],[ae r 15 0,ae r 16 0,ae r 17 0,ae r 18 0,ae r 19 0]].flatten=r:=by
 match r,h with
 |[x0,x1,x2,gF,gq,gG,gV,ka,lH,lI,mq,fQ,hV,kT,yj,yk,DP,DQ,DR,DS],_=>rfl
theorem arc {r:List Int} (h:aV (da 0 18446744073709551615 5) r):aV (dC [f5]) [r].flatten:=by rw[s9,Ma,h9];exact h
theorem VR {w:Nat} (hw:w=8∨w=64) {r:List Int} {i:Nat} {q v q' u b:Int} (h0:0<=(i:Int)-w*q) (h1:(i:Int)-w*q<w) (hq:0<=q) (hv:v=ae r q.toNat 0) (h2:0<=(i:Int)-w*q') (h3:(i:Int)-w*q'<w) (hu:u=v/2^((i:Int)+((-w)*q')).toNat) (h4:0<=u-2*b) (h5:u-2*b<2):decide (u+(-2)*b=1)=Ix w r i:=by
 have e1:q=((i/w:Nat):Int):=by rcases hw with rfl|rfl<;>omega
 have e2:q'=q:=by rcases hw with rfl|rfl<;>omega
 have bN:((i:Int)+((-w)*q')).toNat=i% w:=by rw[e2,e1];rcases hw with rfl|rfl<;>omega
 rw[bN]at hu
 rw[e1,gu]at hv
 unfold Ix
 rw[<-hv,<-hu]
 have:u% 2=u+(-2)*b:=by omega
 rw[this]
theorem oB (r:List Int):[r].flatten=r:=by rw[s9,Ma,h9]
theorem wW (r s:List Int):[r,s].flatten=r++s:=by rw[s9,oB]
def adQ (G:Nat->List Int->List Int) (e n:List Int) (bl:List (List Int)):Prop:=∃(k:Nat) (r:List Int),bl=[[255-(k:Int)],r]/\k<=256/\r=AG G e n k
def Bn (bl:List (List Int)):Nat:=((bl.getD 0 []).getD 0 0+1).toNat
theorem asw (G):Ux (uT G) (aY (uT G) [f5] 645):=by
 intro aP i0 bA i5
 refine⟨adQ G aP bA,Bn,⟨0,_,rfl,by decide,rfl⟩,?_⟩
 rintro aj aAW aAY mV i11 ⟨k,r,e,hk,hr⟩
 obtain⟨rfl,rfl⟩:aj=255-(k:Int)/\mV=r:=by simpa using e
 refine⟨λh oL i16 hT z21 a21 aeR ay d21 z22 _ _ pL bU ad1 aeS EO d23 z24 _ _ ng aO _ _ M1 d25=>?_,λh=>?_⟩
 ·have h:=of_decide_eq_true h
  obtain⟨i,hi⟩:∃i:Nat,(255:Int)-k=i:=⟨255-k,by omega⟩
  rw[hi]at ay d21 EO d23 ng⊢
  have hb:=VR (w:=64) (.inr rfl) (r:=bA) (i:=i) ay d21 a21 pL EO d23 ng M1 d25
  have hT:oL=G 664 (AG G aP bA k):=by
   have hT:[oL].flatten=G 664 [mV].flatten:=hT
   rwa [oB,oB,hr]at hT
  have cX:i=255-k:=by omega
  have hm:∀x y:List Int,Bn [[(i:Int)+(-1)],x]<Bn [[(i:Int)],y]:=λx y=>by show((i:Int)+(-1)+1).toNat<((i:Int)+1).toNat;omega
  have hn:(i:Int)+(-1)=255-((k+1:Nat):Int):=by omega
  refine⟨λhq uh i26 s1=>⟨⟨k+1,uh,by rw[hn],by omega,?_⟩,hm _ _⟩,λhq=>⟨⟨k+1,oL,by rw[hn],by omega,?_⟩,hm _ _⟩⟩
  ·have s1:[uh].flatten=G 643 [oL,aP].flatten:=s1
   rw[oB,wW]at s1
   unfold AG
   rw[<-hT,<-cX,<-hb,hq,s1];rfl
  ·unfold AG
   rw[<-hT,<-cX,<-hb,hq];rfl
 ·have h:=of_decide_eq_false h
  have hk:k=256:=by omega
  subst hk
  refine⟨arc i11,?_⟩
  show [mV].flatten=AG G ([aP,bA].flatten.take 5) ([aP,bA].flatten.drop 5) 256
  have cq:aP.length=5:=gS i0
  rw[oB,wW,L4 cq,Tq cq,hr]
end Go.cu
namespace Go.cu
open Go Go.bo
def T8 (S:Nat->List (List Int)->List (List Int)->Prop) (K:List (List Int)->List (List Int)->Prop):Prop:=
 ∀aP:List Int,aV (da 0 18446744073709551615 20) aP->∀vS:List Int,aV (da 0 255 32) vS->∀G5:List Int,aV (da 0 18446744073709551615 20) G5
 ->S 648 [] [G5]->∃(Ib:List (List Int)->Prop) (Mb:List (List Int)->Nat),Ib [[255],G5]/\(eG (-1) 255 λfC=>∀fB:List Int,aV (da 0
 18446744073709551615 20) fB->Ib [[fC],fB]->(aq (decide (0<=fC)) (∀ui:List Int,aV (da 0 18446744073709551615 20) ui->S 651 [[(ae fB 0
 0),(ae fB 1 0),(ae fB 2 0),(ae fB 3 0),(ae fB 4 0),(ae fB 5 0),(ae fB 6 0),(ae fB 7 0),(ae fB 8
 0),(ae fB 9 0),(ae fB 10 0),(ae fB 11 0),(ae fB 12 0),(ae fB 13 0),(ae fB 14 0)]] [ui]->cO 0 31 fC 8 λjn
 =>xX λm5=>m5=ae vS (jn).toNat 0->cO 0 31 fC 8 λz116=>xX λz117=>z117=m5/2^((fC+((-8)*z116))).toNat->cO 0 127
 z117 2 λjD=>(aq (decide ((z117+((-2)*jD))=1)) (∀KS:List Int,aV (da 0 18446744073709551615 20) KS->S 650 [ui,aP] [KS]->(Ib [[(fC
 +(-1))],KS]/\Mb [[(fC+(-1))],KS]<Mb [[fC],fB])) ((Ib [[(fC+(-1))],ui]/\Mb [[(fC+(-1))],ui]<Mb [[fC],fB])))) (K [aP,vS]
 [[(ae fB 0 0),(ae fB 1 0),(ae fB 2 0),(ae fB 3 0),(ae fB 4 0)],[(ae fB 5 0),(ae fB 6 0),(ae fB 7
 0),(ae fB 8 0),(ae fB 9 0)],[(ae fB 10 0),(ae fB 11 0),(ae fB 12 0),(ae fB 13 0),(ae fB 14
 0)],[(ae fB 15 0),(ae fB 16 0),(ae fB 17 0),(ae fB 18 0),(ae fB 19 0)]])))
def Uq (S:Nat->List (List Int)->List (List Int)->Prop) (K:List (List Int)->List (List Int)->Prop):Prop:=
 ∀aP:List Int,aV (da 0 255 32) aP->aA 23 [0,(ae aP 0 0)] λb7=>aA 23 [b7,(ae aP 1 0)] λcZ=>aA 23 [cZ,(ae aP 2 0)] λ
 cz=>aA 23 [cz,(ae aP 3 0)] λcr=>aA 23 [cr,(ae aP 4 0)] λcv=>aA 23 [cv,(ae aP 5 0)] λz37=>aA 23 [z37,(ae aP
 6 0)] λeA=>aA 23 [eA,(ae aP 7 0)] λfc=>aA 23 [fc,(ae aP 8 0)] λz40=>aA 23 [z40,(ae aP 9 0)] λdW=>aA 23
 [dW,(ae aP 10 0)] λef=>aA 23 [ef,(ae aP 11 0)] λfo=>aA 23 [fo,(ae aP 12 0)] λeP=>aA 23 [eP,(ae aP 13 0)] λ
 dI=>aA 23 [dI,(ae aP 14 0)] λz46=>aA 23 [z46,(ae aP 15 0)] λdx=>aA 23 [dx,(ae aP 16 0)] λfe=>aA 23 [fe,(ae
 aP 17 0)] λz49=>aA 23 [z49,(ae aP 18 0)] λeX=>aA 23 [eX,(ae aP 19 0)] λz51=>aA 23 [z51,(ae aP 20 0)] λeQ=>aA 23
 [eQ,(ae aP 21 0)] λz53=>aA 23 [z53,(ae aP 22 0)] λff=>aA 23 [ff,(ae aP 23 0)] λfR=>aA 23 [fR,(ae aP 24 0)] λ
 hM=>aA 23 [hM,(ae aP 25 0)] λhO=>aA 23 [hO,(ae aP 26 0)] λlJ=>aA 23 [lJ,(ae aP 27 0)] λz59=>aA 23 [z59,(ae
 aP 28 0)] λlK=>aA 23 [lK,(ae aP 29 0)] λlL=>aA 23 [lL,(ae aP 30 0)] λke=>aA 23 [ke,(ae aP 31 0)] λgh=>ab 71
 [gh]/\∀eO:List Int,aV (da 0 255 64) eO->S 453 [[gh]] [eO]->∀AD:List Int,aV (da 0 255 32) AD->S 654 [[(ae eO 0 0),(ae
 eO 1 0),(ae eO 2 0),(ae eO 3 0),(ae eO 4 0),(ae eO 5 0),(ae eO 6 0),(ae eO 7 0),(ae eO 8 0),(ae
 eO 9 0),(ae eO 10 0),(ae eO 11 0),(ae eO 12 0),(ae eO 13 0),(ae eO 14 0),(ae eO 15 0),(ae eO 16
 0),(ae eO 17 0),(ae eO 18 0),(ae eO 19 0),(ae eO 20 0),(ae eO 21 0),(ae eO 22 0),(ae eO 23 0),(ae
 eO 24 0),(ae eO 25 0),(ae eO 26 0),(ae eO 27 0),(ae eO 28 0),(ae eO 29 0),(ae eO 30 0),(ae eO 31 0)]]
 [AD]->∀xY:List Int,aV (da 0 18446744073709551615 20) xY->S 647 [] [xY]->∀mW:List Int,aV (da 0 18446744073709551615 20) mW->S 652
 [xY,AD] [mW]->∀Dv:List Int,aV (da 0 255 32) Dv->S 653 [[(ae mW 0 0),(ae mW 1 0),(ae mW 2 0),(ae mW 3
 0),(ae mW 4 0),(ae mW 5 0),(ae mW 6 0),(ae mW 7 0),(ae mW 8 0),(ae mW 9 0),(ae mW 10 0),(ae
 mW 11 0),(ae mW 12 0),(ae mW 13 0),(ae mW 14 0)]] [Dv]->K [aP] [Dv]
def Ub (S:Nat->List (List Int)->List (List Int)->Prop) (K:List (List Int)->List (List Int)->Prop):Prop:=
 ∀aP:List Int,aV (da 0 bM 7) aP->(ab 81 [(ae aP 0 0),(ae aP 1 0),(ae aP 2 0),(ae aP 3 0),(ae aP 4 0),(ae aP 5
 0),(ae aP 6 0)]->aA 27 [(ae aP 5 0)] λz7=>aK 0 [(ae aP 5 0)] λz8=>bn λz9=>ab 22 [z7,0,z8]/\aA 22 [z7,0,z8] λaj
 =>ab 71 [aj]/\∀mV:List Int,aV (da 0 255 32) mV->S 452 [[aj]] [mV]->∀fK:List Int,aV (da 0 255 32) fK->S 655 [mV] [fK]->aA 23
 [0,(ae fK 0 0)] λz75=>aA 23 [z75,(ae fK 1 0)] λz76=>aA 23 [z76,(ae fK 2 0)] λhW=>aA 23 [hW,(ae fK 3 0)] λ
 jc=>aA 23 [jc,(ae fK 4 0)] λjE=>aA 23 [jE,(ae fK 5 0)] λjo=>aA 23 [jo,(ae fK 6 0)] λkr=>aA 23 [kr,(ae
 fK 7 0)] λkX=>aA 23 [kX,(ae fK 8 0)] λkY=>aA 23 [kY,(ae fK 9 0)] λkZ=>aA 23 [kZ,(ae fK 10 0)] λz85=>aA 23
 [z85,(ae fK 11 0)] λk0=>aA 23 [k0,(ae fK 12 0)] λz87=>aA 23 [z87,(ae fK 13 0)] λk5=>aA 23 [k5,(ae fK 14 0)]
 λk6=>aA 23 [k6,(ae fK 15 0)] λks=>aA 23 [ks,(ae fK 16 0)] λz91=>aA 23 [z91,(ae fK 17 0)] λkt=>aA 23
 [kt,(ae fK 18 0)] λz93=>aA 23 [z93,(ae fK 19 0)] λjq=>aA 23 [jq,(ae fK 20 0)] λlM=>aA 23 [lM,(ae fK 21 0)]
 λqZ=>aA 23 [qZ,(ae fK 22 0)] λwm=>aA 23 [wm,(ae fK 23 0)] λgr=>aA 23 [gr,(ae fK 24 0)] λiK=>aA 23
 [iK,(ae fK 25 0)] λkc=>aA 23 [kc,(ae fK 26 0)] λqV=>aA 23 [qV,(ae fK 27 0)] λoR=>aA 23 [oR,(ae fK
 28 0)] λqW=>aA 23 [qW,(ae fK 29 0)] λny=>aA 23 [ny,(ae fK 30 0)] λz105=>aA 23 [z105,(ae fK 31 0)] λm4=>
 ab 48 [m4]/\bO λz107=>S 618 [[m4]] [[z107]]->K [aP] [[z107]])
def Uf (S:Nat->List (List Int)->List (List Int)->Prop) (K:List (List Int)->List (List Int)->Prop):Prop:=
 cS λz0=>bO λag=>cM λz2=>bn λz3=>aK 20 [z0] λz4=>ab 22 [z0,0,z4]/\aA 22 [z0,0,z4] λz5=>bz λz6=>S 602 [[z5]] [[z6]]->(aq
 (decide (z6=1)) (∃(fN:List (List Int)->Prop) (fZ:List (List Int)->Nat),fN [[0]]/\(dH λz8=>fN [[z8]]->(aq (decide (z8<z4)) (ab 30 [z8,z4]
 /\ab 21 [z0,z8]/\bj 21 [z0,z8,0] λz9=>bj 21 [z0,z8,1] λaj=>bj 21 [z0,z8,2] λak=>bj 21 [z0,z8,3] λz12=>bj 21 [z0,z8,4] λad=>
 bj 21 [z0,z8,5] λao=>bj 21 [z0,z8,6] λaz=>cn 4 [az,0] λaC=>(aq (decide (aC=1)) (ab 81 [z9,aj,ak,z12,ad,ao,az]/\bO λaR=>S
 656 [[z9,aj,ak,z12,ad,ao,az]] [[aR]]->cn 4 [aR,ag] λba=>(aq (decide (ba=1)) (K [[z0],[ag]] [[(cond (true) 1 0)]]) (bt (z8+
 9223372036854775809) 18446744073709551616 λbh=>ab 39 [((z8+((-18446744073709551616)*bh))+1),0,9223372036854775807]/\(fN [[((z8+
 ((-18446744073709551616)*bh))+1)]]/\fZ [[((z8+((-18446744073709551616)*bh))+1)]]<fZ [[z8]])))) (bt (z8+9223372036854775809)
 18446744073709551616 λaR=>ab 39 [((z8+((-18446744073709551616)*aR))+1),0,9223372036854775807]/\(fN [[((z8+((-18446744073709551616)*aR))+
 1)]]/\fZ [[((z8+((-18446744073709551616)*aR))+1)]]<fZ [[z8]])))) (K [[z0],[ag]] [[(cond (false) 1 0)]])))) (K [[z0],[ag]] [[(cond (false) 1 0)]]))
theorem t15 {a b:Int} {r:List Int} (h:aV (da a b 20) r):[[ae r 0 0,ae r 1 0,ae r 2 0,ae r 3 0,ae r 4 0,ae r 5 0,ae r 6 0,ae r 7 0,ae r 8 0,ae r 9 0,ae r 10 0,ae r 11 0,ae r 12 0,ae r 13 0,ae r 14 0]].flatten=r.take 15:=by
 match r,h with
 |[x0,x1,x2,gF,gq,gG,gV,ka,lH,lI,mq,fQ,hV,kT,yj,yk,DP,DQ,DR,DS],_=>rfl
theorem aeB {a b:Int} {r:List Int} (h:aV (da a b 32) r):[ae r 0 0,ae r 1 0,ae r 2 0,ae r 3 0,ae r 4 0,ae r 5 0,ae r 6 0,ae r 7 0,ae r 8 0,ae r 9 0,ae r 10 0,ae r 11 0,ae r 12 0,ae r 13 0,ae r 14 0,ae r 15 0,ae r 16 0,ae r 17 0,ae r 18 0,ae r 19 0,ae r 20 0,ae r 21 0,ae r 22 0,ae r 23 0,ae r 24 0,ae r 25 0,ae r 26 0,ae r 27 0,ae r 28 0,ae r 29 0,ae r 30 0,ae r 31 0]=r:=by
 match r,h with
 |[x0,x1,x2,gF,gq,gG,gV,ka,lH,lI,mq,fQ,hV,kT,yj,yk,DP,DQ,DR,DS,Lr,Ls,Lt,Lu,Lv,Lw,Lx,Ly,Lz,LA,LB,LC],_=>rfl
theorem t32 {a b:Int} {r:List Int} (h:aV (da a b 64) r):[[ae r 0 0,ae r 1 0,ae r 2 0,ae r 3 0,ae r 4 0,ae r 5 0,ae r 6 0,ae r 7 0,ae r 8 0,ae r 9 0,ae r 10 0,ae r 11 0,ae r 12 0,ae r 13 0,ae r 14 0,ae r 15 0,ae r 16 0,ae r 17 0,ae r 18 0,ae r 19 0,ae r 20 0,ae r 21 0,ae r 22 0,ae r 23 0,ae r 24 0,ae r 25 0,ae r 26 0,ae r 27 0,ae r 28 0,ae r 29 0,ae r 30 0,ae r 31 0]].flatten=r.take 32:=by
 have ht:aV (da a b 32) (r.take 32):=by
  have hs:∀(n k:Nat) (l:List Int),aV (da a b (n+k)) l->aV (da a b n) (l.take n):=λn=>by
   induction n with
   |zero=>intro k l _;exact trivial
   |succ n ih=>
    intro k l hl
    rw[Nat.succ_add]at hl
    match l,hl with
    |x::l,hl=>exact⟨hl.1,hl.2.1,ih k l hl.2.2⟩
  exact hs 32 32 r h
 rw[s9,Ma,h9,<-aeB ht]
 simp[ae,og]
def adD (G:Nat->List Int->List Int) (p n:List Int) (bl:List (List Int)):Prop:=∃(k:Nat) (r:List Int),bl=[[255-(k:Int)],r]/\k<=256/\r=vM G p n k
theorem ar6 (G):T8 (uT G) (aY (uT G) [sL] 652):=by
 intro aP i0 vS i20 G5 i52 hT
 have hT:[G5].flatten=G 648 []:=hT
 rw[oB]at hT
 refine⟨adD G aP vS,Bn,⟨0,_,rfl,by decide,hT⟩,?_⟩
 rintro fC aAX aAZ fB i74 ⟨k,r,e,hk,hr⟩
 obtain⟨rfl,rfl⟩:fC=255-(k:Int)/\fB=r:=by simpa using e
 refine⟨λh ui i94 s1 z21 a21 aeR ay d21 z22 _ _ pL bU ad1 aeS EO d23 z24 _ _ ng aO _ _ M1 d25=>?_,λh=>?_⟩
 ·have h:=of_decide_eq_true h
  obtain⟨i,hi⟩:∃i:Nat,(255:Int)-k=i:=⟨255-k,by omega⟩
  rw[hi]at ay d21 EO d23 ng⊢
  have hb:=VR (w:=8) (.inl rfl) (r:=vS) (i:=i) ay d21 a21 pL EO d23 ng M1 d25
  have s1:ui=G 651 ((vM G aP vS k).take 15):=by
   have s1:[ui].flatten=G 651 _:=s1
   rwa [oB,t15 i74,hr]at s1
  have cX:i=255-k:=by omega
  have hm:∀x y:List Int,Bn [[(i:Int)+(-1)],x]<Bn [[(i:Int)],y]:=λx y=>by show((i:Int)+(-1)+1).toNat<((i:Int)+1).toNat;omega
  have hn:(i:Int)+(-1)=255-((k+1:Nat):Int):=by omega
  refine⟨λhq uh i26 s2=>⟨⟨k+1,uh,by rw[hn],by omega,?_⟩,hm _ _⟩,λhq=>⟨⟨k+1,ui,by rw[hn],by omega,?_⟩,hm _ _⟩⟩
  ·have s2:[uh].flatten=G 650 [ui,aP].flatten:=s2
   rw[oB,wW]at s2
   unfold vM
   rw[<-s1,<-cX,<-hb,hq,s2];rfl
  ·unfold vM
   rw[<-s1,<-cX,<-hb,hq];rfl
 ·have h:=of_decide_eq_false h
  have hk:k=256:=by omega
  subst hk
  have cq:aP.length=20:=gS i0
  refine⟨by rw[WT i74];exact i74,?_⟩
  show _=vM G ([aP,vS].flatten.take 20) ([aP,vS].flatten.drop 20) 256
  rw[WT i74,wW,L4 cq,Tq cq,hr]
theorem pu {c y x:Int} (h:y=au 23 [c,x]):af y=af c++[[x]]:=by rw[h];simp only[au,ee]
theorem cx {r:List Int} {c y:Int} (k:Nat) (hl:r.length=32) (hk:k<32) (hc:af c=(r.take k).map λx=>[x]) (h:y=au 23 [c,ae r k 0]):af y=(r.take (k+1)).map λx=>[x]:=by
 rw[pu h,hc,LJ,kg (by omega),ft]
 simp[ae,show k<r.length by omega]
theorem abc {r:List Int} {z:Int} (h:af z=r.map λx=>[x]):cJ z=r/\iz z=r.map λx=>UInt8.ofNat x.toNat:=by
 refine⟨by unfold cJ;rw[h,k7];exact D9 r,by unfold iz;rw[h,k7];rfl⟩
theorem asp (G):Uq (fx G) (dq (fx G) [.d tg] 655):=by
 intro aP i0 b7 _ _ tB cZ _ _ B1 cz _ _ w5 cr _ _ w6 cv _ _ w7 z37 _ _ Ji eA _ _ Xj fc _ _ Xk z40 _ _ Xl dW _ _ Oa ef _ _ B2 fo _ _ ri eP _ _ Ob dI _ _ pM z46 _ _ l4 dx _ _ Jj fe _ _ sc z49 _ _ Xn eX _ _ Xo z51 _ _ Jk eQ _ _ Xp z53 _ _ Xq ff _ _ Xr fR _ _ Xs hM _ _ Fm hO _ _ Oc lJ _ _ aid z59 _ _ aie lK _ _ Jl lL _ _ aif ke _ _ aih gh _ _ aii
 have cq:aP.length=32:=gS i0
 have hrow:af gh=aP.map λx=>[x]:=by
  have h:=cx 31 cq (by decide) (cx 30 cq (by decide) (cx 29 cq (by decide) (cx 28 cq (by decide) (cx 27 cq (by decide) (cx 26 cq (by decide) (cx 25 cq (by decide) (cx 24 cq (by decide) (cx 23 cq (by decide) (cx 22 cq (by decide) (cx 21 cq (by decide) (cx 20 cq (by decide) (cx 19 cq (by decide) (cx 18 cq (by decide) (cx 17 cq (by decide) (cx 16 cq (by decide) (cx 15 cq (by decide) (cx 14 cq (by decide) (cx 13 cq (by decide) (cx 12 cq (by decide) (cx 11 cq (by decide) (cx 10 cq (by decide) (cx 9 cq (by decide) (cx 8 cq (by decide) (cx 7 cq (by decide) (cx 6 cq (by decide) (cx 5 cq (by decide) (cx 4 cq (by decide) (cx 3 cq (by decide) (cx 2 cq (by decide) (cx 1 cq (by decide) (cx 0 cq (by decide) (by rw[Go.bo.fa];rfl) tB) B1) w5) w6) w7) Ji) Xj) Xk) Xl) Oa) B2) ri) Ob) pM) l4) Jj) sc) Xn) Xo) Jk) Xp) Xq) Xr) Xs) Fm) Oc) aid) aie) Jl) aif) aih) aii
  rwa [jd (by omega)]at h
 refine⟨by show(af gh).length<=_;rw[hrow,k8,cq];decide,λeO i64 s1 AD i128 s2 xY i160 fL mW i180 j7 Dv i200 jB=>⟨by rw[oB];exact i200,?_⟩⟩
 show [Dv]=[GY G aP]
 have s1:[eO]=[rH cW (cJ gh)]:=s1
 rw[(abc hrow).1]at s1
 have s1:eO=rH cW aP:=by simpa using s1
 have s2:[AD].flatten=G 654 _:=s2
 have fL:[xY].flatten=G 647 []:=fL
 have j7:[mW].flatten=vM G ([xY,AD].flatten.take 20) ([xY,AD].flatten.drop 20) 256:=j7
 have jB:[Dv].flatten=G 653 _:=jB
 have l1:xY.length=20:=gS i160
 rw[oB,t32 i64,s1]at s2
 rw[oB]at fL
 rw[oB,wW,L4 l1,Tq l1,s2,fL]at j7
 rw[oB,t15 i180,j7]at jB
 rw[jB];rfl
theorem ar9 (G):Ub (fx G) (dq (fx G) [.d .str] 656):=by
 intro aP i0 hl z7 _ _ h7 z8 _ _ bD z9 _ _
 have hl:(U (aP.getD 5 0)).length<=1000000000:=hl
 have h7:af z7=(U (aP.getD 5 0)).map λb=>[(b.toNat:Int)]:=by rw[h7];exact afg _
 have bD:z8=((U (aP.getD 5 0)).length:Int):=bD
 have bD:z8=((af z7).length:Int):=by rw[bD,h7,k8]
 refine⟨(fD (y:=0) bD).1,λaj _ _ b9=>?_⟩
 have b9:=(fD (y:=aj) bD).2 b9
 rw[h7]at b9
 refine⟨?_,λmV i11 s1 fK i43 s2 z75 _ _ aij z76 _ _ aik hW _ _ ail jc _ _ aim jE _ _ ain jo _ _ aio kr _ _ aip kX _ _ aiq kY _ _ air kZ _ _ ais z85 _ _ ait k0 _ _ aiu z87 _ _ aiv k5 _ _ aiw k6 _ _ aix ks _ _ aiy z91 _ _ aiz kt _ _ aiA z93 _ _ aiB jq _ _ aiC lM _ _ aiD qZ _ _ aiE wm _ _ aiF gr _ _ aiG iK _ _ aiH kc _ _ ah3 qV _ _ ah4 oR _ _ ah5 qW _ _ ah6 ny _ _ ah7 z105 _ _ ah8 m4 _ _ ah9=>?_⟩
 ·show(af aj).length<=_;rw[b9,k8];exact hl
 have cq:fK.length=32:=gS i43
 have hrow:af m4=fK.map λx=>[x]:=by
  have h:=cx 31 cq (by decide) (cx 30 cq (by decide) (cx 29 cq (by decide) (cx 28 cq (by decide) (cx 27 cq (by decide) (cx 26 cq (by decide) (cx 25 cq (by decide) (cx 24 cq (by decide) (cx 23 cq (by decide) (cx 22 cq (by decide) (cx 21 cq (by decide) (cx 20 cq (by decide) (cx 19 cq (by decide) (cx 18 cq (by decide) (cx 17 cq (by decide) (cx 16 cq (by decide) (cx 15 cq (by decide) (cx 14 cq (by decide) (cx 13 cq (by decide) (cx 12 cq (by decide) (cx 11 cq (by decide) (cx 10 cq (by decide) (cx 9 cq (by decide) (cx 8 cq (by decide) (cx 7 cq (by decide) (cx 6 cq (by decide) (cx 5 cq (by decide) (cx 4 cq (by decide) (cx 3 cq (by decide) (cx 2 cq (by decide) (cx 1 cq (by decide) (cx 0 cq (by decide) (by rw[Go.bo.fa];rfl) aij) aik) ail) aim) ain) aio) aip) aiq) air) ais) ait) aiu) aiv) aiw) aix) aiy) aiz) aiA) aiB) aiC) aiD) aiE) aiF) aiG) aiH) ah3) ah4) ah5) ah6) ah7) ah8) ah9
  rwa [jd (by omega)]at h
 refine⟨by show(af m4).length<=_;rw[hrow,k8,cq];decide,λz107 g0 g1 fL=>⟨⟨g0,g1,trivial⟩,?_⟩⟩
 have s1:[mV]=[rH cV (cJ aj)]:=s1
 have s1:mV=rH cV (cJ aj):=by simpa using s1
 have tu:cJ aj=(U (aP.getD 5 0)).map λb=>(b.toNat:Int):=by unfold cJ;rw[b9,k7];rfl
 have s2:[fK]=[GY G mV]:=s2
 have s2:fK=GY G mV:=by simpa using s2
 have fL:U z107=ij (iz m4):=fL
 show U z107=oI G (U (aP.getD 5 0))
 rw[fL,(abc hrow).2,s2,s1,tu];rfl
def Vu (key:aH->aH) (z0:Int) (k:aH) (bl:List (List Int)):Prop:=∃i:Nat,bl=[[(i:Int)]]/\i<=(aJ z0).length/\∀j,j<i->(((aJ z0).getD j cB).mx.isEmpty&&decide (key ((aJ z0).getD j cB).uq=k))=false
theorem aeL {l:List eE} {p:eE->Bool} {i:Nat} (hi:i<l.length) (h:p (l.getD i cB)=true):l.any p=true:=List.any_eq_true.2 ⟨l.getD i cB,by simp[ae,hi],h⟩
theorem aeM {l:List eE} {p:eE->Bool} (h:∀j,j<l.length->p (l.getD j cB)=false):l.any p=false:=by
 rw[List.any_eq_false]
 intro b hb
 obtain⟨j,hj,rfl⟩:=List.mem_iff_getElem.1 hb
 have:=h j hj
 simpa [ae,hj]using this
theorem asd (G):Uf (fx G) (dq (fx G) [.d .bool] 657):=by
 intro z0 a0 a1 ag _ _ z2 _ z3 _ _ z4 b0 b1 h4
 have h4:z4=((af z0).length:Int):=h4
 have hlen:=n4 z0
 have W:=λy=>fD (z:=z0) (y:=y) h4
 have aI:∀b:Bool,rK (oI G) (aJ z0) (U ag)=b->dq (fx G) [.d .bool] 657 [[z0],[ag]] [[cond b 1 0]]:=λb h=>⟨by cases b<;>exact⟨by decide,by decide,trivial⟩,by show cond b (1:Int) 0=aL (rK (oI G) (aJ z0) (U ag));rw[h];rfl⟩
 refine⟨(W 0).1,λz5 _ _ h5 z6 _ _ h6=>?_⟩
 have h6:=eb (show z6=aL (il (aJ z5)) from h6)
 rw[fX ((W z5).2 h5)]at h6
 refine⟨λhr=>?_,λhr=>aI false (by unfold rK;rw[<-h6,hr];rfl)⟩
 have hr:=h6.symm.trans hr
 refine⟨Vu (oI G) z0 (U ag),wH z0,⟨0,rfl,gX _,λj h=>absurd h (Nat.not_lt_zero j)⟩,?_⟩
 rintro z8 bC c1 ⟨i,e,hi,hI⟩
 obtain rfl:z8=i:=by simpa using e
 refine⟨λhlt=>?_,λec=>aI false (by
  have ec:=of_decide_eq_false ec
  unfold rK;rw[aeM (λj hj=>hI j (by omega)),uE])⟩
 have hlt:=of_decide_eq_true hlt
 have c9:i<(af z0).length:=by omega
 have step:(((aJ z0).getD i cB).mx.isEmpty&&decide (oI G ((aJ z0).getD i cB).uq=U ag))=false->∀z:Int,0<=z->z<=1->0<=((i:Int)+9223372036854775809)-18446744073709551616*z->((i:Int)+9223372036854775809)-18446744073709551616*z<18446744073709551616->ab 39 [((i:Int)+(-18446744073709551616)*z)+1,0,9223372036854775807]/\Vu (oI G) z0 (U ag) [[((i:Int)+(-18446744073709551616)*z)+1]]/\wH z0 [[((i:Int)+(-18446744073709551616)*z)+1]]<wH z0 [[(i:Int)]]:=λhf z _ _ d2 d3=>by
  rw[Ku (by omega) d2 d3]
  refine⟨⟨by omega,by omega⟩,⟨i+1,rfl,by omega,λj hj=>?_⟩,by show(aJ z0).length-(((i+1:Nat):Int)).toNat<(aJ z0).length-((i:Int)).toNat;omega⟩
  rcases od j i with h|h
  ·exact hI j h
  ·obtain rfl:j=i:=by omega
   exact hf
 refine⟨⟨by omega,by omega⟩,⟨by omega,by omega⟩,λz9 _ _ bg aj _ _ b9 ak _ _ cH z12 _ _ dw ad _ _ dj ao _ _ dA az _ _ e0 aC _ _ gA=>?_⟩
 have hrow:=vW (k:=i) rfl bg b9 cH dw dj dA e0 c9
 have hb:=y4 gA
 rw[RD (k:=i) rfl e0 c9]at hb
 refine⟨λhq=>⟨?_,λaR _ _ ju=>?_⟩,λhq=>step (by rw[<-hb,hq];rfl)⟩
 ·show(U ao).length<=1000000000
  have bm:=((vU _).1 hr).2 i (by omega)
  have hs:=(aS _ _▸(aS _ _▸bm.1).2).1
  have:U ao=((aJ z0).getD i cB).uq:=by rw[<-hrow];rfl
  rw[this]
  unfold iV at hs
  simp only[aS]at hs
  have:=Nat.le_of_ble_eq_true hs.2.1
  omega
 have ju:U aR=oI G (dE [z9,aj,ak,z12,ad,ao,az]).uq:=ju
 rw[hrow]at ju
 refineλba _ _ lq=>?_
 have hd:=jK lq
 rw[ju]at hd
 refine⟨λpT=>aI true ?_,λpT=>step (by rw[<-hb,hq,<-hd,pT];rfl)⟩
 unfold rK
 rw[hr,aeL (p:=λp=>p.mx.isEmpty&&decide (oI G p.uq=U ag)) (i:=i) (by omega) (by rw[<-hb,hq,<-hd,pT];rfl)];rfl
end Go.cu
namespace Go.cu
open Go Go.bo
def Ug (S:Nat->List (List Int)->List (List Int)->Prop) (K:List (List Int)->List (List Int)->Prop):Prop:=
 ∀aP:List Int,aV (da 0 bM 7) aP->S 608 [] [aP]->cS λz7=>eG 0 21 λz8=>S 606 [[0],aP] [[z7],[z8]]->cM λz9=>bn λaj=>aK 20 [z7] λ
 ak=>∀Du:List Int,aV (da 0 bM 7) Du->S 608 [] [Du]->ab 22 [z7,0,ak]/\aA 22 [z7,0,ak] λbh=>cS λz20=>cS λz21=>eG 0 21 λz22
 =>S 607 [[bh],[(ae Du 1 0),(ae Du 2 0)],[1786254407]] [[z20],[z21],[z22]]->cM λbU=>bn λz24=>aK 20 [z20] λaO=>cM λz26=>
 bn λcY=>aK 20 [z21] λz28=>∀Dw:List Int,aV (da 0 bM 7) Dw->S 608 [] [Dw]->ab 22 [z20,0,aO]/\aA 22 [z20,0,aO] λcv=>cS λz37
 =>cS λeA=>eG 0 21 λfc=>S 607 [[cv],[(ae Dw 1 0),(ae Dw 2 0)],[1786254664]] [[z37],[eA],[fc]]->cM λz40=>bn λdW=>aK
 20 [z37] λef=>cM λfo=>bn λeP=>aK 20 [eA] λdI=>(aq (decide (z8=0)) ((aq (decide (z22=0)) ((aq (decide (fc=0)) ((aq (decide (z28=
 1)) ((aq (decide (dI=0)) ((aq (decide (ef=1)) (ab 30 [0,ef]/\ab 21 [z37,0]/\bj 21 [z37,0,6] λz46=>cn 4 [z46,1786254407] λdx=>(aq
 (decide (dx=1)) (∀rE:List Int,aV (da 0 bM 7) rE->S 608 [] [rE]->ab 81 [(ae rE 0 0),(ae rE 1 0),(ae rE 2 0),(ae
 rE 3 0),(ae rE 4 0),(ae rE 5 0),(ae rE 6 0)]/\bO λfR=>S 656 [rE] [[fR]]->ab 22 [z7,0,ak]/\aA 22 [z7,0,ak] λhM=>
 bz λhO=>S 657 [[hM],[fR]] [[hO]]->(aq (decide (hO=1)) (∀rF:List Int,aV (da 0 bM 7) rF->S 608 [] [rF]->ab 81 [(ae rF 0
 0),(ae rF 1 0),(ae rF 2 0),(ae rF 3 0),(ae rF 4 0),(ae rF 5 0),(ae rF 6 0)]/\bO λkf=>S 656 [rF] [[kf]]
 ->ab 22 [z20,0,aO]/\aA 22 [z20,0,aO] λkp=>bz λkq=>S 657 [[kp],[kf]] [[kq]]->K [] [[(cond ((!(decide (kq=1)))) 1 0)]]) (K [] [[(cond
 (false) 1 0)]]))) (K [] [[(cond (false) 1 0)]]))) (K [] [[(cond (false) 1 0)]]))) (K [] [[(cond (false) 1 0)]]))) (K [] [[(cond (false) 1 0)]]))) (K [] [[(cond
 (false) 1 0)]]))) (K [] [[(cond (false) 1 0)]]))) (K [] [[(cond (false) 1 0)]]))
def qM:eE:=⟨[116],([101,109,97,105,108],[97,64,98,46,99]),[33,114,58,104],[64,115,58,104],[115,101,101,100],[]⟩
def Dl:eE:={qM with mx:=[64,97,58,104]}
theorem Ky:dE pZ=qM:=by decide+kernel
theorem auK:mn [] qM=([qM],0):=by decide+kernel
theorem aum:nt [qM] qM.ez [64,97,58,104]=([Dl],[Dl],0):=by decide+kernel
theorem aun:nt [Dl] qM.ez [64,98,58,104]=([Dl],[],0):=by decide+kernel
theorem atL:il [qM]=true:=by decide+kernel
theorem abU:U 1786254407=[64,97,58,104]:=by decide+kernel
theorem au7:U 1786254664=[64,98,58,104]:=by decide+kernel
theorem ase (G):Ug (fx G) (dq (fx G) [.d .bool] 658):=by
 intro aP _ hT z7 _ _ z8 _ _ s1 z9 _ aj _ _ ak _ _ cH Du _ s2
 have hT:aP=pZ:=hT
 have s2:Du=pZ:=s2
 subst hT
 subst s2
 have s1:(aJ z7,z8)=mn (aJ 0) (dE pZ):=s1
 rw[xV,Ky,auK]at s1
 simp only[cA]at s1
 have cH:ak=((af z7).length:Int):=cH
 have aI:dq (fx G) [.d .bool] 658 [] [[cond true 1 0]]:=⟨⟨by decide,by decide,trivial⟩,(rfl:(1:Int)=1)⟩
 refine⟨(fD (y:=0) cH).1,λbh _ _ lr z20 _ _ z21 _ _ z22 _ _ fL bU _ z24 _ _ aO _ _ kD z26 _ cY _ _ z28 _ _ jL Dw _ j7=>?_⟩
 have lr:=fX ((fD (y:=bh) cH).2 lr)
 have j7:Dw=pZ:=j7
 subst j7
 have fL:(aJ z20,aJ z21,z22)=nt (aJ bh) qM.ez (U 1786254407):=by
  have fL:(aJ z20,aJ z21,z22)=nt (aJ bh) (dE pZ).ez (U 1786254407):=fL
  rwa [Ky]at fL
 rw[lr,s1.1,abU,aum]at fL
 simp only[cA]at fL
 have kD:aO=((af z20).length:Int):=kD
 have jL:z28=((af z21).length:Int):=jL
 refine⟨(fD (y:=0) kD).1,λcv _ _ w7 z37 _ _ eA _ _ fc _ _ jB z40 _ dW _ _ ef _ _ B2 fo _ eP _ _ dI _ _ pM=>?_⟩
 have w7:=fX ((fD (y:=cv) kD).2 w7)
 have jB:(aJ z37,aJ eA,fc)=nt (aJ cv) qM.ez (U 1786254664):=by
  have jB:(aJ z37,aJ eA,fc)=nt (aJ cv) (dE pZ).ez (U 1786254664):=jB
  rwa [Ky]at jB
 rw[w7,fL.1,au7,aun]at jB
 simp only[cA]at jB
 have B2:ef=((af z37).length:Int):=B2
 have pM:dI=((af eA).length:Int):=pM
 have ano:z28=1:=by rw[jL,<-n4,fL.2.1];rfl
 have anr:ef=1:=by rw[B2,<-n4,jB.1];rfl
 have ans:dI=0:=by rw[pM,<-n4,jB.2.1];rfl
 have no:∀{z v:Int} {P:Prop},z=v->decide (z=v)=false->P:=λh h2=>absurd h (of_decide_eq_false h2)
 refine⟨λ_=>⟨λ_=>⟨λ_=>⟨λ_=>⟨λ_=>⟨λ_=>?_,no anr⟩,no ans⟩,no ano⟩,no jB.2.2⟩,no fL.2.2⟩,no s1.2⟩
 have ak2:0<(af z37).length:=by omega
 refine⟨⟨by decide,by omega⟩,⟨by decide,by omega⟩,λz46 _ _ l4 dx _ _ Jj=>?_⟩
 have hd:=jK Jj
 rw[RD (k:=0) rfl l4 ak2,jB.1,abU]at hd
 have hd:decide (dx=1)=true:=hd
 have apA:∀{b:Bool} {P:Prop},b=true->b=false->P:=λh h2=>by rw[h]at h2;cases h2
 refine⟨λ_ rE _ p2=>?_,apA hd⟩
 have p2:rE=pZ:=p2
 subst p2
 have hk:(U (pZ.getD 5 0)).length<=1000000000:=by decide+kernel
 refine⟨hk,λfR _ _ x7=>⟨(fD (y:=0) cH).1,λhM _ _ Fm hO _ _ x8=>?_⟩⟩
 have x7:U fR=oI G (dE pZ).uq:=x7
 rw[Ky]at x7
 have Fm:=fX ((fD (y:=hM) cH).2 Fm)
 have x8:hO=aL (rK (oI G) (aJ hM) (U fR)):=x8
 rw[Fm,s1.1,x7]at x8
 have o6:rK (oI G) [qM] (oI G qM.uq)=true:=by
  unfold rK
  rw[atL,Bool.true_and,aAK,show qM.mx.isEmpty=true from rfl,decide_eq_true rfl];rfl
 rw[o6]at x8
 refine⟨λ_ rF _ RN=>?_,no x8⟩
 have RN:rF=pZ:=RN
 subst RN
 refine⟨hk,λkf _ _ aC1=>⟨(fD (y:=0) kD).1,λkp _ _ Od kq _ _ Hh=>?_⟩⟩
 have Od:=fX ((fD (y:=kp) kD).2 Od)
 have Hh:kq=aL (rK (oI G) (aJ kp) (U kf)):=Hh
 rw[Od,fL.1]at Hh
 have Nx:rK (oI G) [Dl] (U kf)=false:=by
  unfold rK
  rw[aAK,show Dl.mx.isEmpty=false from rfl,Bool.false_and,Bool.false_or,List.any_nil,uE]
 rw[Nx]at Hh
 rw[Hh]
 exact aI
end Go.cu
namespace Go.cu
open Go Go.bo
end Go.cu
namespace Go.cu
open Go Go.bo
def T6 (S:Nat->List (List Int)->List (List Int)->Prop) (K:List (List Int)->List (List Int)->Prop):Prop:=
 cS λz0=>∀r1:List Int,aV (da 0 bM 7) r1->bO λz8=>cM λz9=>bn λaj=>aK 20 [z0] λak=>bz λz12=>S 658 [] [[z12]]->(aq
 ((!(decide (z12=1)))) (K [[z0],r1,[z8]] [[(cond (false) 1 0)]]) ((aq (decide (60<ak)) (K [[z0],r1,[z8]] [[(cond (true) 1 0)]]) (aK 0 [(ae r1 0 0)]
 λad=>(aq (decide (1000<ad)) (K [[z0],r1,[z8]] [[(cond (true) 1 0)]]) (aK 0 [(ae r1 2 0)] λao=>(aq (decide (1000<ao)) (K [[z0],r1,[z8]]
 [[(cond (true) 1 0)]]) (aK 0 [(ae r1 3 0)] λaz=>(aq (decide (1000<az)) (K [[z0],r1,[z8]] [[(cond (true) 1 0)]]) (aK 0 [(ae r1 4 0)] λ
 aC=>(aq (decide (1000<aC)) (K [[z0],r1,[z8]] [[(cond (true) 1 0)]]) (aK 0 [(ae r1 5 0)] λaR=>(aq (decide (1000<aR)) (K [[z0],r1,[z8]]
 [[(cond (true) 1 0)]]) (aK 0 [(ae r1 6 0)] λba=>(aq (decide (1000<ba)) (K [[z0],r1,[z8]] [[(cond (true) 1 0)]]) (aK 0 [z8] λbh=>(aq
 (decide (1000<bh)) (K [[z0],r1,[z8]] [[(cond (true) 1 0)]]) (ab 22 [z0,0,ak]/\ab 23 [0,ak]/\aA 22 [z0,0,ak] λz20=>aA 24 [0,z20] λz21=>
 (aq (decide (ak<=0)) (ab 22 [0,0,0]/\aA 22 [0,0,0] λz22=>cS λbU=>eG 0 21 λz24=>S 606 [[z22],r1] [[bU],[z24]]->cM λaO=>bn λz26
 =>aK 20 [bU] λcY=>ab 22 [z0,0,ak]/\aA 22 [z0,0,ak] λz28=>cS λcy=>eG 0 21 λbW=>S 615 [[z28],r1] [[cy],[bW]]->cM λz31=>bn
 λb7=>aK 20 [cy] λcZ=>ab 22 [0,0,0]/\aA 22 [0,0,0] λcz=>cS λcr=>cS λcv=>eG 0 21 λz37=>S 607 [[cz],[(ae r1 1
 0),(ae r1 2 0)],[z8]] [[cr],[cv],[z37]]->cM λeA=>bn λfc=>aK 20 [cr] λz40=>cM λdW=>bn λef=>aK 20 [cv] λfo=>ab
 22 [z0,0,ak]/\aA 22 [z0,0,ak] λeP=>cS λdI=>cS λz46=>eG 0 21 λdx=>S 616 [[eP],[(ae r1 1 0),(ae r1 2 0)],[z8]]
 [[dI],[z46],[dx]]->cM λfe=>bn λz49=>aK 20 [dI] λeX=>cM λz51=>bn λeQ=>aK 20 [z46] λz53=>ab 22 [0,0,0]/\aA 22 [0,0,0]
 λff=>∀vT:List Int,aV (da 0 bM 7) vT->bz λke=>S 604 [[ff],[(ae r1 0 0)]] [vT,[ke]]->ab 22 [z0,0,ak]/\aA 22 [z0,0,ak] λ
 gh=>∀eO:List Int,aV (da 0 bM 7) eO->bz λkW=>S 614 [[gh],[(ae r1 0 0)]] [eO,[kW]]->ab 22 [bU,0,cY]/\aA 22 [bU,0,cY] λ
 z72=>ab 22 [cy,0,cZ]/\aA 22 [cy,0,cZ] λfC=>bz λjb=>S 617 [[z72],[fC]] [[jb]]->(aq (decide (jb=1)) ((aq (decide (z24=bW)) (ab
 22 [cr,0,z40]/\aA 22 [cr,0,z40] λz75=>ab 22 [dI,0,eX]/\aA 22 [dI,0,eX] λz76=>bz λhW=>S 617 [[z75],[z76]] [[hW]]->(aq (decide
 (hW=1)) (ab 22 [cv,0,fo]/\aA 22 [cv,0,fo] λjc=>ab 22 [z46,0,z53]/\aA 22 [z46,0,z53] λjE=>bz λjo=>S 617 [[jc],[jE]] [[jo]]
 ->(aq (decide (jo=1)) ((aq (decide (z37=dx)) (cn 4 [(ae vT 0 0),(ae eO 0 0)] λkr=>cn 4 [(ae vT 1 0),(ae eO 1 0)]
 λkX=>cn 4 [(ae vT 2 0),(ae eO 2 0)] λkY=>cn 4 [(ae vT 3 0),(ae eO 3 0)] λkZ=>cn 4 [(ae vT 4
 0),(ae eO 4 0)] λz85=>cn 4 [(ae vT 5 0),(ae eO 5 0)] λk0=>cn 4 [(ae vT 6 0),(ae eO 6 0)] λz87=>(aq
 (((decide (kr=1))&&(((decide ([kX,kY]=[1,1]))&&(decide ([kZ,z85,k0,z87]=[1,1,1,1])))))) ((aq (((decide (ke=1))==(decide (kW=1)))) (ab 22
 [0,0,0]/\aA 22 [0,0,0] λk5=>bz λk6=>S 602 [[k5]] [[k6]]->ab 22 [z0,0,ak]/\aA 22 [z0,0,ak] λks=>bz λz91=>S 613 [[ks]]
 [[z91]]->(aq (((decide (k6=1))==(decide (z91=1)))) (ab 22 [0,0,0]/\aA 22 [0,0,0] λkt=>ab 22 [z0,0,ak]/\aA 22 [z0,0,ak] λz93=>bz
 λjq=>S 617 [[kt],[z93]] [[jq]]->K [[z0],r1,[z8]] [[(cond (decide (jq=1)) 1 0)]]) (K [[z0],r1,[z8]] [[(cond (false) 1 0)]]))) (K [[z0],r1,[z8]]
 [[(cond (false) 1 0)]]))) (K [[z0],r1,[z8]] [[(cond (false) 1 0)]]))) (K [[z0],r1,[z8]] [[(cond (false) 1 0)]]))) (K [[z0],r1,[z8]] [[(cond (false) 1 0)]]))) (K
 [[z0],r1,[z8]] [[(cond (false) 1 0)]]))) (K [[z0],r1,[z8]] [[(cond (false) 1 0)]]))) (K [[z0],r1,[z8]] [[(cond (false) 1 0)]]))) (bn λz22=>ab 22
 [z21,0,ak]/\aA 22 [z21,0,ak] λbU=>cS λz24=>eG 0 21 λaO=>S 606 [[bU],r1] [[z24],[aO]]->cM λz26=>bn λcY=>aK 20 [z24] λz28
 =>ab 22 [z0,0,ak]/\aA 22 [z0,0,ak] λcy=>cS λbW=>eG 0 21 λz31=>S 615 [[cy],r1] [[bW],[z31]]->cM λb7=>bn λcZ=>aK 20 [bW]
 λcz=>ab 22 [z21,0,ak]/\aA 22 [z21,0,ak] λcr=>cS λcv=>cS λz37=>eG 0 21 λeA=>S 607 [[cr],[(ae r1 1 0),(ae r1 2
 0)],[z8]] [[cv],[z37],[eA]]->cM λfc=>bn λz40=>aK 20 [cv] λdW=>cM λef=>bn λfo=>aK 20 [z37] λeP=>ab 22 [z0,0,ak]/\
 aA 22 [z0,0,ak] λdI=>cS λz46=>cS λdx=>eG 0 21 λfe=>S 616 [[dI],[(ae r1 1 0),(ae r1 2 0)],[z8]] [[z46],[dx],[fe]]->cM
 λz49=>bn λeX=>aK 20 [z46] λz51=>cM λeQ=>bn λz53=>aK 20 [dx] λff=>ab 22 [z21,0,ak]/\aA 22 [z21,0,ak] λfR=>∀mX:
 List Int,aV (da 0 bM 7) mX->bz λgh=>S 604 [[fR],[(ae r1 0 0)]] [mX,[gh]]->ab 22 [z0,0,ak]/\aA 22 [z0,0,ak] λjV=>∀mY:List
 Int,aV (da 0 bM 7) mY->bz λz72=>S 614 [[jV],[(ae r1 0 0)]] [mY,[z72]]->ab 22 [z24,0,z28]/\aA 22 [z24,0,z28] λfC=>ab 22
 [bW,0,cz]/\aA 22 [bW,0,cz] λjb=>bz λz75=>S 617 [[fC],[jb]] [[z75]]->(aq (decide (z75=1)) ((aq (decide (aO=z31)) (ab 22 [cv,0,dW]
 /\aA 22 [cv,0,dW] λz76=>ab 22 [z46,0,z51]/\aA 22 [z46,0,z51] λhW=>bz λjc=>S 617 [[z76],[hW]] [[jc]]->(aq (decide (jc=1)) (ab
 22 [z37,0,eP]/\aA 22 [z37,0,eP] λjE=>ab 22 [dx,0,ff]/\aA 22 [dx,0,ff] λjo=>bz λkr=>S 617 [[jE],[jo]] [[kr]]->(aq (decide
 (kr=1)) ((aq (decide (eA=fe)) (cn 4 [(ae mX 0 0),(ae mY 0 0)] λkX=>cn 4 [(ae mX 1 0),(ae mY 1 0)] λkY=>cn 4
 [(ae mX 2 0),(ae mY 2 0)] λkZ=>cn 4 [(ae mX 3 0),(ae mY 3 0)] λz85=>cn 4 [(ae mX 4 0),(ae mY 4 0)]
 λk0=>cn 4 [(ae mX 5 0),(ae mY 5 0)] λz87=>cn 4 [(ae mX 6 0),(ae mY 6 0)] λk5=>(aq (((decide (kX=1))&&
 (((decide ([kY,kZ]=[1,1]))&&(decide ([z85,k0,z87,k5]=[1,1,1,1])))))) ((aq (((decide (gh=1))==(decide (z72=1)))) (ab 22 [z21,0,ak]/\aA 22
 [z21,0,ak] λk6=>bz λks=>S 602 [[k6]] [[ks]]->ab 22 [z0,0,ak]/\aA 22 [z0,0,ak] λz91=>bz λkt=>S 613 [[z91]] [[kt]]->(aq
 (((decide (ks=1))==(decide (kt=1)))) (ab 22 [z21,0,ak]/\aA 22 [z21,0,ak] λz93=>ab 22 [z0,0,ak]/\aA 22 [z0,0,ak] λjq=>bz λlM
 =>S 617 [[z93],[jq]] [[lM]]->K [[z0],r1,[z8]] [[(cond (decide (lM=1)) 1 0)]]) (K [[z0],r1,[z8]] [[(cond (false) 1 0)]]))) (K [[z0],r1,[z8]] [[(cond
 (false) 1 0)]]))) (K [[z0],r1,[z8]] [[(cond (false) 1 0)]]))) (K [[z0],r1,[z8]] [[(cond (false) 1 0)]]))) (K [[z0],r1,[z8]] [[(cond (false) 1 0)]]))) (K
 [[z0],r1,[z8]] [[(cond (false) 1 0)]]))) (K [[z0],r1,[z8]] [[(cond (false) 1 0)]]))) (K [[z0],r1,[z8]] [[(cond (false) 1 0)]]))))))))))))))))))))))
theorem abN {G:Nat->List Int->List Int} {z0 z8 ak o q:Int} {r1:List Int} (cH:ak=((af z0).length:Int)) (hq:q=((af o).length:Int)) (ho:af o=af z0):
 ab 22 [o,0,q]/\
 ∀bU:Int,0<=bU->bU<=bK->bU=au 22 [o,0,q]->
 ∀z24:Int,0<=z24->z24<=bK->∀aO:Int,0<=aO->aO<=21->fx G 606 [[bU],r1] [[z24],[aO]]->
 ∀z26:Int,0<=z26->
 ∀cY:Int,(-1)<=cY->cY<=9223372036854775807->
 ∀z28:Int,0<=z28->z28<=9223372036854775807->z28=au 20 [z24]->
 ab 22 [z0,0,ak]/\
 ∀cy:Int,0<=cy->cy<=bK->cy=au 22 [z0,0,ak]->
 ∀bW:Int,0<=bW->bW<=bK->∀z31:Int,0<=z31->z31<=21->fx G 615 [[cy],r1] [[bW],[z31]]->
 ∀b7:Int,0<=b7->
 ∀cZ:Int,(-1)<=cZ->cZ<=9223372036854775807->
 ∀cz:Int,0<=cz->cz<=9223372036854775807->cz=au 20 [bW]->
 ab 22 [o,0,q]/\
 ∀cr:Int,0<=cr->cr<=bK->cr=au 22 [o,0,q]->
 ∀cv:Int,0<=cv->cv<=bK->∀z37:Int,0<=z37->z37<=bK->∀eA:Int,0<=eA->eA<=21->fx G 607 [[cr],[(ae r1 1 0),(ae r1 2 0)],[z8]] [[cv],[z37],[eA]]->
 ∀fc:Int,0<=fc->
 ∀z40:Int,(-1)<=z40->z40<=9223372036854775807->
 ∀dW:Int,0<=dW->dW<=9223372036854775807->dW=au 20 [cv]->
 ∀ef:Int,0<=ef->
 ∀fo:Int,(-1)<=fo->fo<=9223372036854775807->
 ∀eP:Int,0<=eP->eP<=9223372036854775807->eP=au 20 [z37]->
 ab 22 [z0,0,ak]/\
 ∀dI:Int,0<=dI->dI<=bK->dI=au 22 [z0,0,ak]->
 ∀z46:Int,0<=z46->z46<=bK->∀dx:Int,0<=dx->dx<=bK->∀fe:Int,0<=fe->fe<=21->fx G 616 [[dI],[(ae r1 1 0),(ae r1 2 0)],[z8]] [[z46],[dx],[fe]]->
 ∀z49:Int,0<=z49->
 ∀eX:Int,(-1)<=eX->eX<=9223372036854775807->
 ∀z51:Int,0<=z51->z51<=9223372036854775807->z51=au 20 [z46]->
 ∀eQ:Int,0<=eQ->
 ∀z53:Int,(-1)<=z53->z53<=9223372036854775807->
 ∀ff:Int,0<=ff->ff<=9223372036854775807->ff=au 20 [dx]->
 ab 22 [o,0,q]/\
 ∀fR:Int,0<=fR->fR<=bK->fR=au 22 [o,0,q]->
 ∀mX:List Int,aV (da 0 bM 7) mX->∀gh:Int,0<=gh->gh<=1->fx G 604 [[fR],[(ae r1 0 0)]] [mX,[gh]]->
 ab 22 [z0,0,ak]/\
 ∀jV:Int,0<=jV->jV<=bK->jV=au 22 [z0,0,ak]->
 ∀mY:List Int,aV (da 0 bM 7) mY->∀z72:Int,0<=z72->z72<=1->fx G 614 [[jV],[(ae r1 0 0)]] [mY,[z72]]->
 ab 22 [z24,0,z28]/\
 ∀fC:Int,0<=fC->fC<=bK->fC=au 22 [z24,0,z28]->
 ab 22 [bW,0,cz]/\
 ∀jb:Int,0<=jb->jb<=bK->jb=au 22 [bW,0,cz]->
 ∀z75:Int,0<=z75->z75<=1->fx G 617 [[fC],[jb]] [[z75]]->
 (((decide (z75=1))=true->
 (((decide (aO=z31))=true->
 ab 22 [cv,0,dW]/\
 ∀z76:Int,0<=z76->z76<=bK->z76=au 22 [cv,0,dW]->
 ab 22 [z46,0,z51]/\
 ∀hW:Int,0<=hW->hW<=bK->hW=au 22 [z46,0,z51]->
 ∀jc:Int,0<=jc->jc<=1->fx G 617 [[z76],[hW]] [[jc]]->
 (((decide (jc=1))=true->
 ab 22 [z37,0,eP]/\
 ∀jE:Int,0<=jE->jE<=bK->jE=au 22 [z37,0,eP]->
 ab 22 [dx,0,ff]/\
 ∀jo:Int,0<=jo->jo<=bK->jo=au 22 [dx,0,ff]->
 ∀kr:Int,0<=kr->kr<=1->fx G 617 [[jE],[jo]] [[kr]]->
 (((decide (kr=1))=true->
 (((decide (eA=fe))=true->
 ∀kX:Int,0<=kX->kX<=1->kX=au 4 [(ae mX 0 0),(ae mY 0 0)]->
 ∀kY:Int,0<=kY->kY<=1->kY=au 4 [(ae mX 1 0),(ae mY 1 0)]->
 ∀kZ:Int,0<=kZ->kZ<=1->kZ=au 4 [(ae mX 2 0),(ae mY 2 0)]->
 ∀z85:Int,0<=z85->z85<=1->z85=au 4 [(ae mX 3 0),(ae mY 3 0)]->
 ∀k0:Int,0<=k0->k0<=1->k0=au 4 [(ae mX 4 0),(ae mY 4 0)]->
 ∀z87:Int,0<=z87->z87<=1->z87=au 4 [(ae mX 5 0),(ae mY 5 0)]->
 ∀k5:Int,0<=k5->k5<=1->k5=au 4 [(ae mX 6 0),(ae mY 6 0)]->
 (((((decide (kX=1))&&(((decide ([kY,kZ]=[1,1]))&&(decide ([z85,k0,z87,k5]=[1,1,1,1]))))))=true->
 (((((decide (gh=1))==(decide (z72=1))))=true->
 ab 22 [o,0,q]/\
 ∀k6:Int,0<=k6->k6<=bK->k6=au 22 [o,0,q]->
 ∀ks:Int,0<=ks->ks<=1->fx G 602 [[k6]] [[ks]]->
 ab 22 [z0,0,ak]/\
 ∀z91:Int,0<=z91->z91<=bK->z91=au 22 [z0,0,ak]->
 ∀kt:Int,0<=kt->kt<=1->fx G 613 [[z91]] [[kt]]->
 (((((decide (ks=1))==(decide (kt=1))))=true->
 ab 22 [o,0,q]/\
 ∀z93:Int,0<=z93->z93<=bK->z93=au 22 [o,0,q]->
 ab 22 [z0,0,ak]/\
 ∀jq:Int,0<=jq->jq<=bK->jq=au 22 [z0,0,ak]->
 ∀lM:Int,0<=lM->lM<=1->fx G 617 [[z93],[jq]] [[lM]]->
 dq (fx G) [.d .bool] 660 [[z0],r1,[z8]] [[(cond (decide (lM=1)) 1 0)]]
 )/\((((decide (ks=1))==(decide (kt=1))))=false->
 dq (fx G) [.d .bool] 660 [[z0],r1,[z8]] [[(cond (false) 1 0)]]
 ))
 )/\((((decide (gh=1))==(decide (z72=1))))=false->
 dq (fx G) [.d .bool] 660 [[z0],r1,[z8]] [[(cond (false) 1 0)]]
 ))
 )/\((((decide (kX=1))&&(((decide ([kY,kZ]=[1,1]))&&(decide ([z85,k0,z87,k5]=[1,1,1,1]))))))=false->
 dq (fx G) [.d .bool] 660 [[z0],r1,[z8]] [[(cond (false) 1 0)]]
 ))
 )/\((decide (eA=fe))=false->
 dq (fx G) [.d .bool] 660 [[z0],r1,[z8]] [[(cond (false) 1 0)]]
 ))
 )/\((decide (kr=1))=false->
 dq (fx G) [.d .bool] 660 [[z0],r1,[z8]] [[(cond (false) 1 0)]]
 ))
 )/\((decide (jc=1))=false->
 dq (fx G) [.d .bool] 660 [[z0],r1,[z8]] [[(cond (false) 1 0)]]
 ))
 )/\((decide (aO=z31))=false->
 dq (fx G) [.d .bool] 660 [[z0],r1,[z8]] [[(cond (false) 1 0)]]
 ))
 )/\((decide (z75=1))=false->
 dq (fx G) [.d .bool] 660 [[z0],r1,[z8]] [[(cond (false) 1 0)]]
 )):=by
 have Bp:=λy=>fD (z:=o) (y:=y) hq
 have Bo:=λy=>fD (z:=z0) (y:=y) cH
 have GX:∀y,y=au 22 [o,0,q]->aJ y=aJ z0:=λy h=>fX (((Bp y).2 h).trans ho)
 have p0:∀y,y=au 22 [z0,0,ak]->aJ y=aJ z0:=λy h=>fX ((Bo y).2 h)
 have aI:∀b:Bool,b=true->dq (fx G) [.d .bool] 660 [[z0],r1,[z8]] [[cond b 1 0]]:=λb h=>by rw[h];exact⟨⟨by decide,by decide,trivial⟩,(rfl:(1:Int)=1)⟩
 have no:∀{b:Bool} {P:Prop},b=true->b=false->P:=λh h2=>by rw[h]at h2;cases h2
 have same:∀{a b la lb x y z:Int},la=au 20 [a]->lb=au 20 [b]->aJ a=aJ b->x=au 22 [a,0,la]->y=au 22 [b,0,lb]->fx G 617 [[x],[y]] [[z]]->decide (z=1)=true:=λ{a b la lb x y z} ha hb he hx hy hs=>by
  have ha:la=((af a).length:Int):=ha
  have hb:lb=((af b).length:Int):=hb
  have hs:=eb (show z=aL (decide (aJ x=aJ y)) from hs)
  rw[hs,fX ((fD ha).2 hx),fX ((fD hb).2 hy)]
  exact decide_eq_true he
 have BG:∀{a la:Int},la=au 20 [a]->ab 22 [a,0,la]:=λh=>(fD (y:=0) h).1
 refine⟨(Bp 0).1,λa1 _ _ dP b1 _ _ e1 _ _ s1 fW _ eF _ _ aCJ _ _ Yr=>⟨(Bo 0).1,λa2 _ _ dD b2 _ _ e2 _ _ s2 C8 _ Al _ _ aCK _ _ Ys=>⟨(Bp 0).1,λa3 _ _ qu c1 _ _ d1 _ _ f1 _ _ fL aCT _ aCU _ _ aCL _ _ Yt aCV _ aCW _ _ aCN _ _ Yv=>⟨(Bo 0).1,λa4 _ _ aj7 c2 _ _ d2 _ _ f2 _ _ j7 aCX _ aCQ _ _ aCM _ _ Yu aCR _ aCS _ _ aCO _ _ Yw=>⟨(Bp 0).1,λa5 _ _ Jo x1 _ g1 _ _ jB=>⟨(Bo 0).1,λwJ _ _ aj8 x2 _ g2 _ _ p2=>?_⟩⟩⟩⟩⟩⟩
 have s1:(aJ b1,e1)=mn (aJ a1) (dE r1):=s1
 have s2:(aJ b2,e2)=mn (aJ a2) (dE r1):=s2
 have fL:(aJ c1,aJ d1,f1)=nt (aJ a3) (lG [r1.getD 1 0,r1.getD 2 0]) (U z8):=fL
 have j7:(aJ c2,aJ d2,f2)=nt (aJ a4) (lG [r1.getD 1 0,r1.getD 2 0]) (U z8):=j7
 have jB:match mC (aJ a5) (U (r1.getD 0 0))with
  |some b=>dE x1=b/\g1=1
  |none=>x1=[0,0,0,0,0,0,0]/\g1=0:=jB
 have p2:match mC (aJ wJ) (U (r1.getD 0 0))with
  |some b=>dE x2=b/\g2=1
  |none=>x2=[0,0,0,0,0,0,0]/\g2=0:=p2
 rw[GX a1 dP]at s1
 rw[p0 a2 dD,<-s1]at s2
 rw[GX a3 qu]at fL
 rw[p0 a4 aj7,<-fL]at j7
 rw[GX a5 Jo]at jB
 rw[p0 wJ aj8]at p2
 simp only[cA]at s2 j7
 have Wz:dE x1=dE x2/\g1=g2:=by
  cases h:mC (aJ z0) (U (r1.getD 0 0))with
  |some b=>rw[h]at jB p2;exact⟨jB.1.trans p2.1.symm,jB.2.trans p2.2.symm⟩
  |none=>rw[h]at jB p2;exact⟨by rw[jB.1,p2.1],jB.2.trans p2.2.symm⟩
 refine⟨BG Yr,λiq _ _ JU=>⟨BG Ys,λqU _ _ Gw yl _ _ Gx=>?_⟩⟩
 have bq:=same Yr Ys s2.1.symm JU Gw Gx
 have bE:decide (e1=e2)=true:=decide_eq_true s2.2.symm
 refine⟨λ_=>⟨λ_=>⟨BG Yt,λAY _ _ amk=>⟨BG Yu,λAZ _ _ aml A0 _ _ amm=>?_⟩⟩,no bE⟩,no bq⟩
 have b5:=same Yt Yu j7.1.symm amk aml amm
 refine⟨λ_=>⟨BG Yv,λA1 _ _ amn=>⟨BG Yw,λA2 _ _ amo A3 _ _ amp=>?_⟩⟩,no b5⟩
 have dm:=same Yv Yw j7.2.1.symm amn amo amp
 have ik:decide (f1=f2)=true:=decide_eq_true j7.2.2.symm
 refine⟨λ_=>⟨λ_=>λw1 _ _ Qa w2 _ _ Cq acf _ _ amc w4 _ _ hw4 Sw _ _ amd ayd _ _ ame aC7 _ _ amf=>?_,no ik⟩,no dm⟩
 have jT:=(aaK Qa Cq amc hw4 amd ame amf).trans (decide_eq_true Wz.1)
 have pr:(decide (g1=1)==decide (g2=1))=true:=by rw[Wz.2];exact beq_self_eq_true _
 refine⟨λ_=>⟨λ_=>⟨(Bp 0).1,λv1 _ _ nV v2 _ _ iR=>⟨(Bo 0).1,λv3 _ _ P7 v4 _ _ JT=>?_⟩⟩,no pr⟩,no jT⟩
 have iR:v2=aL (il (aJ v1)):=iR
 have JT:v4=aL (il (aJ v3)):=JT
 rw[GX v1 nV]at iR
 rw[p0 v3 P7]at JT
 have j6:(decide (v2=1)==decide (v4=1))=true:=by rw[iR,JT];exact beq_self_eq_true _
 refine⟨λ_=>⟨(Bp 0).1,λv5 _ _ al5=>⟨(Bo 0).1,λv6 _ _ al6 Hs _ _ P8=>aI _ ?_⟩⟩,no j6⟩
 have P8:=eb (show Hs=aL (decide (aJ v5=aJ v6)) from P8)
 rw[P8,GX v5 al5,p0 v6 al6]
 exact decide_eq_true rfl
theorem ar4 (G):T6 (fx G) (dq (fx G) [.d .bool] 660):=by
 intro z0 a0 a1 r1 e3 z8 _ _ z9 _ aj _ _ ak b0 b1 cH z12 _ _ hT
 have cH:ak=((af z0).length:Int):=cH
 have hT:z12=1:=hT
 have aI:dq (fx G) [.d .bool] 660 [[z0],r1,[z8]] [[cond true 1 0]]:=⟨⟨by decide,by decide,trivial⟩,(rfl:(1:Int)=1)⟩
 refine⟨λh=>(by rw[hT]at h;cases h),λ_=>⟨λ_=>aI,λJl ad _ _ _=>⟨λ_=>aI,λ_ ao _ _ _=>⟨λ_=>aI,λ_ az _ _ _=>⟨λ_=>aI,λ_ aC _ _ _=>⟨λ_=>aI,λ_ aR _ _ _=>⟨λ_=>aI,λ_ ba _ _ _=>⟨λ_=>aI,λ_ bh _ _ _=>⟨λ_=>aI,λ_=>?_⟩⟩⟩⟩⟩⟩⟩⟩⟩
 have Jl:=of_decide_eq_false Jl
 refine⟨(fD (y:=0) cH).1,by show(af 0).length+ak<=1073741824;rw[Go.bo.fa];simp only[fM];omega,λz20 _ _ rh z21 _ _ l3=>?_⟩
 have rh:=(fD (y:=z20) cH).2 rh
 have l3:af z21=af z0:=by
  rw[l3];show af (rc (af 0++af z20))=_
  rw[ee,Go.bo.fa,rh];rfl
 refine⟨λh=>?_,λh z22 _ _=>?_⟩
 ·have h:=of_decide_eq_true h
  exact abN (o:=0) (q:=0) cH (by rw[Go.bo.fa];rfl) (by rw[Go.bo.fa];exact(uL (by omega)).symm)
 ·exact abN (o:=z21) (q:=ak) cH (by rw[l3];exact cH) l3
end Go.cu
namespace Go.cu
open Go Go.bo
def ek:cw->Nat->Option c7:=λ_ _=>none
def et:Nat->List Nat:=λ_=>[]
def oH:bu:=⟨163,73,[.str,y0],[Wq]⟩
def xF:bu:=⟨118,36,[.str,y0],[.str]⟩
def aoe:cw->Nat->Option c7:=λf r=>match f,r with
 |118,1=>some ⟨[1],[(0,0,0)],[],[],[],[],[]⟩
 |_,_=>none
def aoW:Nat->List Nat:=λn=>[1]
def xG:bu:=⟨119,37,[.str,y0],[.str]⟩
def aof:cw->Nat->Option c7:=λf r=>match f,r with
 |119,1=>some ⟨[1],[(0,0,0)],[],[],[],[],[]⟩
 |_,_=>none
def aoX:Nat->List Nat:=λn=>[1]
def C2:bu:=⟨85,120,[.str,Zs],[.str]⟩
def CY:bu:=⟨85,121,[.str,Zp],[.str]⟩
def Cu:bu:=⟨59,127,[.str,Zp],[.bool]⟩
def CX:bu:=⟨85,122,[.str,anb],[.str]⟩
def aoc:cw->Nat->Option c7:=λf r=>match f,r with
 |121,1=>some ⟨[1],[(0,0,0)],[],[],[],[],[]⟩
 |122,1=>some ⟨[1],[(0,0,0)],[],[],[],[],[]⟩
 |_,_=>none
def aoU:Nat->List Nat:=λn=>[1]
def Cw:bu:=⟨54,125,[.str,am7],[.str,.str,.bool]⟩
def tP:bu:=⟨54,126,[.str,am8],[.str,.str,.bool]⟩
def CF:bu:=⟨157,44,[.str,.str],[.bool]⟩
def anP:cw->Nat->Option c7:=λf r=>match f,r with
 |157,2=>some ⟨[0,1,7],[(8,0,9223372036854775807)],[],[],[],[],[]⟩
 |_,_=>none
def aox:Nat->List Nat:=λn=>[1]
def rz:bu:=⟨86,65,[.str,.str],[.bool]⟩
def anN:cw->Nat->Option c7:=λf r=>match f,r with
 |86,2=>some ⟨[0,1,7],[(8,0,9223372036854775807)],[],[],[],[],[]⟩
 |_,_=>none
def aov:Nat->List Nat:=λn=>[1]
def CB:bu:=⟨128,28,[.str],[.str]⟩
def anO:cw->Nat->Option c7:=λf r=>match f,r with
 |128,3=>some ⟨[3,8,9],[(10,0,9223372036854775807)],[(0,0,0,0)],[],[],[],[]⟩
 |_,_=>none
def aow:Nat->List Nat:=λn=>[1,1]
def CR:bu:=⟨134,17,[.str],[.str]⟩
def an4:cw->Nat->Option c7:=λf r=>match f,r with
 |134,3=>some ⟨[3],[(4,0,9223372036854775807)],[(0,0,0,0)],[],[],[],[]⟩
 |_,_=>none
def aoM:Nat->List Nat:=λn=>[1,1]
def CO:bu:=⟨133,31,[.str,y0],[.bool]⟩
def an1:cw->Nat->Option c7:=λf r=>match f,r with
 |133,2=>some ⟨[0,1],[(5,0,9223372036854775807)],[],[],[],[],[]⟩
 |_,_=>none
def aoJ:Nat->List Nat:=λn=>[1]
def am4:bu:=⟨59,128,[.str,am9],[.bool]⟩
def Dt:kB:=⟨am4,41⟩
def CZ:bu:=⟨85,123,[.str,ane],[.str]⟩
def aod:cw->Nat->Option c7:=λf r=>match f,r with
 |121,1=>some ⟨[1],[(0,0,0)],[],[],[],[],[]⟩
 |122,1=>some ⟨[1],[(0,0,0)],[],[],[],[],[]⟩
 |_,_=>none
def aoV:Nat->List Nat:=λn=>[1]
def CW:bu:=⟨85,124,[.str,ana],[.str]⟩
def aob:cw->Nat->Option c7:=λf r=>match f,r with
 |121,1=>some ⟨[1],[(0,0,0)],[],[],[],[],[]⟩
 |122,1=>some ⟨[1],[(0,0,0)],[],[],[],[],[]⟩
 |_,_=>none
def aoT:Nat->List Nat:=λn=>[1]
def Cy:bu:=⟨87,47,[.str],[.bool]⟩
def tQ:bu:=⟨57,27,[.str],[.bool]⟩
def CA:bu:=⟨126,24,[.str],[.bool]⟩
def CQ:bu:=⟨132,29,[.str],[.bool]⟩
def an3:cw->Nat->Option c7:=λf r=>match f,r with
 |132,5=>some ⟨[0,3],[(4,0,9223372036854775807)],[],[],[],[],[]⟩
 |132,10=>some ⟨[0,3,4,5],[(7,0,9223372036854775807)],[],[6],[],[],[]⟩
 |_,_=>none
def aoL:Nat->List Nat:=λn=>cond (aG n 3) [1] [1,1]
def tR:bu:=⟨46,50,[y0],[.bool]⟩
def xv:bu:=⟨64,51,[y0],[.bool]⟩
def rv:bu:=⟨47,52,[y0],[.bool]⟩
def xB:bu:=⟨95,30,[.str],[.bool]⟩
def an2:cw->Nat->Option c7:=λf r=>match f,r with
 |95,4=>some ⟨[0],[(3,0,9223372036854775807)],[],[],[],[],[]⟩
 |_,_=>none
def aoK:Nat->List Nat:=λn=>[1]
def CM:bu:=⟨135,35,[.str],[.str,.bool,.bool]⟩
def GG:bu:=⟨94,13,[.str,.str],[.str,tr]⟩
def G4:kB:=⟨GG,44⟩
def an5:cw->Nat->Option c7:=λf r=>match f,r with
 |94,7=>some ⟨[0,1,6,7,8],[(9,0,0),(11,0,9223372036854775807)],[],[10],[],[],[]⟩
 |_,_=>none
def aoN:Nat->List Nat:=λn=>[1,1,1]
def CN:bu:=⟨93,11,[.str],[.str,tr]⟩
def an0:cw->Nat->Option c7:=λf r=>match f,r with
 |93,1=>some ⟨[],[(0,0,0)],[],[],[],[],[]⟩
 |93,3=>some ⟨[],[(0,0,0)],[],[],[],[],[]⟩
 |93,6=>some ⟨[0],[(4,0,9223372036854775807)],[],[],[],[],[]⟩
 |_,_=>none
def aoI:Nat->List Nat:=λn=>[1]
def Cx:bu:=⟨89,10,[.str],[.str,tr]⟩
def J8:bu:=⟨129,32,[.str],[yO,.bool]⟩
def J6:bu:=⟨130,33,[.str],[.str,.bool,.bool]⟩
def C0:bu:=⟨131,34,[.str,.str],[.str]⟩
def GF:bu:=⟨90,12,[.str,.str],[.str,tr]⟩
def G3:kB:=⟨GF,44⟩
def CC:bu:=⟨60,15,[.str,.str],[yO,tr]⟩
def CS:bu:=⟨63,18,[.str,.str],[yO,tr]⟩
def CP:bu:=⟨35,16,[yO],[.bool]⟩
def CU:bu:=⟨43,19,[yO],[.bool]⟩
def C3:bu:=⟨85,202,[.str,anj],[.str]⟩
def aoh:cw->Nat->Option c7:=λf r=>match f,r with
 |121,1=>some ⟨[1],[(0,0,0)],[],[],[],[],[]⟩
 |122,1=>some ⟨[1],[(0,0,0)],[],[],[],[],[]⟩
 |_,_=>none
def aoZ:Nat->List Nat:=λn=>[1]
def C1:bu:=⟨85,203,[.str,ani],[.str]⟩
def aog:cw->Nat->Option c7:=λf r=>match f,r with
 |121,1=>some ⟨[1],[(0,0,0)],[],[],[],[],[]⟩
 |122,1=>some ⟨[1],[(0,0,0)],[],[],[],[],[]⟩
 |_,_=>none
def aoY:Nat->List Nat:=λn=>[1]
def xH:bu:=⟨21,200,[.str],[.bool]⟩
def CT:bu:=⟨36,201,[.str],[.bool]⟩
def tO:bu:=⟨65,204,[.str],[Wq]⟩
def anM:cw->Nat->Option c7:=λf r=>match f,r with
 |65,2=>some ⟨[0],[(3,0,9223372036854775807)],[],[],[],[],[]⟩
 |_,_=>none
def aou:Nat->List Nat:=λn=>[1]
def xC:bu:=⟨66,205,[.str],[.bool]⟩
def an7:cw->Nat->Option c7:=λf r=>match f,r with
 |66,6=>some ⟨[0,3,4],[(5,0,9223372036854775807)],[],[],[],[],[]⟩
 |_,_=>none
def aoP:Nat->List Nat:=λn=>[1]
def CH:bu:=⟨45,206,[.str,d64],[.str,.str,.bool]⟩
def CG:bu:=⟨45,211,[.str,d33],[.str,.str,.bool]⟩
def xD:bu:=⟨27,207,[.str],[.bool]⟩
def an8:cw->Nat->Option c7:=λf r=>match f,r with
 |27,3=>some ⟨[3,5],[(6,0,9223372036854775807)],[],[],[],[],[]⟩
 |_,_=>none
def aoQ:Nat->List Nat:=λn=>[1]
def CV:bu:=⟨44,208,[.str],[.bool]⟩
def an6:cw->Nat->Option c7:=λf r=>match f,r with
 |44,3=>some ⟨[3,5],[(6,0,9223372036854775807)],[],[],[],[],[]⟩
 |_,_=>none
def aoO:Nat->List Nat:=λn=>[1]
def CJ:bu:=⟨58,400,[.str],[.bool]⟩
def anU:cw->Nat->Option c7:=λf r=>match f,r with
 |58,2=>some ⟨[0,5],[(6,0,9223372036854775807)],[],[],[],[],[]⟩
 |_,_=>none
def aoC:Nat->List Nat:=λn=>[1]
def C5:bu:=⟨42,420,[.str],[.bool]⟩
def aoi:cw->Nat->Option c7:=λf r=>match f,r with
 |42,2=>some ⟨[0],[(3,0,9223372036854775807)],[],[],[],[],[]⟩
 |_,_=>none
def ao0:Nat->List Nat:=λn=>[1]
def J7:bu:=⟨91,510,[.str,.str],[af4]⟩
def Cv:bu:=⟨59,501,[.str,Zs],[.bool]⟩
def CK:bu:=⟨34,600,[.str],[.bool]⟩
def xz:bu:=⟨23,601,[pp],[.bool]⟩
def pj:dJ:=⟨16,602,[lA],[.d .bool],0⟩
def anQ:cw->Nat->Option c7:=λf r=>match f,r with
 |16,4=>some ⟨[0,8,9],[(10,0,9223372036854775807)],[],[],[],[],[]⟩
 |_,_=>none
def aoy:Nat->List Nat:=λn=>[1]
def xy:dJ:=⟨24,603,[lA,.d .str],[.d Wt,.d .bool],0⟩
def anT:cw->Nat->Option c7:=λf r=>match f,r with
 |37,3=>some ⟨[0,1,2,8],[(9,0,9223372036854775807),(10,0,9223372036854775807)],[],[],[],[],[]⟩
 |_,_=>none
def aoB:Nat->List Nat:=λn=>[1,1]
def zZ:dJ:=⟨14,604,[lA,.d .str],[.d pp,.d .bool],0⟩
def eU:lQ:=⟨25,605,[.str,.str,.str,.str,.str,.str,.str],32,[.d Wt,lA],51⟩
def xx:dJ:=⟨22,619,[lA],[arp],66⟩
def vF:dJ:=⟨11,606,[lA,.d pp],[lA,.d tr],0⟩
def vE:dJ:=⟨8,607,[lA,.d yO,.d .str],[lA,lA,.d tr],0⟩
def anR:cw->Nat->Option c7:=λf r=>match f,r with
 |8,6=>some ⟨[0,2,4,24],[(25,0,9223372036854775807)],[(2,0,0,0)],[],[(9,[.str,.str,.str,.str,.str,.str,.str],32)],[],[]⟩
 |_,_=>none
def aoz:Nat->List Nat:=λn=>[1,1,1,1,1]
def CI:bu:=⟨18,608,[],[pp]⟩
def xA:bu:=⟨26,612,[pp],[.bool]⟩
def qJ:dJ:=⟨17,613,[lA],[.d .bool],0⟩
def anW:cw->Nat->Option c7:=λf r=>match f,r with
 |17,4=>some ⟨[0],[(3,0,9223372036854775807)],[],[],[],[],[]⟩
 |_,_=>none
def aoE:Nat->List Nat:=λn=>[1]
def vG:dJ:=⟨15,614,[lA,.d .str],[.d pp,.d .bool],0⟩
def anV:cw->Nat->Option c7:=λf r=>match f,r with
 |15,2=>some ⟨[0,1,4],[(6,0,9223372036854775807)],[],[],[],[],[]⟩
 |_,_=>none
def aoD:Nat->List Nat:=λn=>[1]
def Ad:dJ:=⟨12,615,[lA,.d pp],[lA,.d tr],0⟩
def anZ:cw->Nat->Option c7:=λf r=>match f,r with
 |12,9=>some ⟨[0,3],[(8,0,9223372036854775807)],[],[],[],[],[]⟩
 |_,_=>none
def aoH:Nat->List Nat:=λn=>[1]
def Ac:dJ:=⟨13,616,[lA,.d yO,.d .str],[lA,lA,.d tr],0⟩
def anY:cw->Nat->Option c7:=λf r=>match f,r with
 |13,5=>some ⟨[0,2,4],[(11,0,9223372036854775807)],[],[],[(9,[.str,.str,.str,.str,.str,.str,.str],32),(10,[.str,.str,.str,.str,.str,.str,.str],32)],[],[]⟩
 |_,_=>none
def aoG:Nat->List Nat:=λn=>[1,1,1,1,1,1,1]
def Ab:dJ:=⟨9,617,[lA,lA],[.d .bool],0⟩
def anX:cw->Nat->Option c7:=λf r=>match f,r with
 |9,4=>some ⟨[0,1],[(5,0,9223372036854775807)],[],[],[],[],[]⟩
 |_,_=>none
def aoF:Nat->List Nat:=λn=>[1]
def J9:dJ:=⟨52,618,[.d ank,sE],[.d .str],48⟩
def xE:bu:=⟨114,440,[BK,BK],[BK]⟩
def vt:bu:=⟨73,444,[pH],[pH]⟩
def vv:bu:=⟨75,445,[pH],[pH]⟩
def vx:bu:=⟨76,446,[pH],[pH]⟩
def vz:bu:=⟨77,447,[pH],[pH]⟩
def vu:bu:=⟨105,448,[ln],[ln]⟩
def vw:bu:=⟨107,449,[ln],[ln]⟩
def vy:bu:=⟨108,450,[ln],[ln]⟩
def vA:bu:=⟨109,451,[ln],[ln]⟩
def Ae:dJ:=⟨79,442,[sE,.d amP],[xS],71⟩
def an9:cw->Nat->Option c7:=λf r=>match f,r with
 |79,6=>some ⟨[0,1,5],[(6,0,18446744073709551615),(7,-1,9223372036854775807)],[(1,0,0,0)],[],[],[],[]⟩
 |_,_=>none
def aoR:Nat->List Nat:=λn=>[1,1,1]
def Af:dJ:=⟨79,443,[sE,.d amT],[xS],71⟩
def aoa:cw->Nat->Option c7:=λf r=>match f,r with
 |79,6=>some ⟨[0,1,5],[(6,0,18446744073709551615),(7,-1,9223372036854775807)],[(1,0,0,0)],[],[],[],[]⟩
 |_,_=>none
def aoS:Nat->List Nat:=λn=>[1,1,1]
def am5:dJ:=⟨80,460,[sE],[sE],71⟩
def GU:jf:=⟨am5,60,true⟩
def am6:dJ:=⟨80,461,[sE],[sE],71⟩
def GV:jf:=⟨am6,60,true⟩
def vB:bu:=⟨72,466,[Wp],[pH]⟩
def vC:bu:=⟨104,467,[Wp],[ln]⟩
def zV:dJ:=⟨148,462,[ao4],[KD],66⟩
def zW:dJ:=⟨162,463,[ao5],[KE],66⟩
def J4:dJ:=⟨78,464,[sE],[xS],72⟩
def AE:lR:=⟨J4,[.int .u32 1779033703,.int .u32 3144134277,.int .u32 1013904242,.int .u32 2773480762,.int .u32 1359893119,.int .u32 2600822924,.int .u32 528734635,.int .u32 1541459225,.int .i64 64,.fn 72,.fn 73,.fn 75,.fn 76,.fn 77],106,[.int .i64 4]⟩
def Kg:cw->Nat->Option c7:=λf r=>match f,r with
 |113,3=>some ⟨[0],[(5,16,9223372036854775807)],[],[],[(4,[.int .u32 0 4294967295],99)],[],[]⟩
 |113,8=>some ⟨[0,106,107],[(108,0,9223372036854775807),(6,0,4294967295),(7,0,4294967295),(8,0,4294967295),(9,0,4294967295),(10,0,4294967295),(11,0,4294967295),(12,0,4294967295),(13,0,4294967295)],[],[],[],[],[]⟩
 |78,15=>some ⟨[3,5,13,47,48],[(14,-1,3)],[],[],[(11,[.int .u8 0 255],5)],[],[]⟩
 |_,_=>none
def ZL:Nat->List Nat:=λn=>cond (aG n 4) [8,1] (cond (aG n 102) [8,1] [1,1,1,1])
def J5:dJ:=⟨110,465,[sE],[xS],73⟩
def AF:lR:=⟨J5,[.int .u64 7640891576956012808,.int .u64 13503953896175478587,.int .u64 4354685564936845355,.int .u64 11912009170470909681,.int .u64 5840696475078001361,.int .u64 11170449401992604703,.int .u64 2270897969802886507,.int .u64 6620516959819538809,.int .i64 80,.fn 104,.fn 105,.fn 107,.fn 108,.fn 109],132,[.int .i64 8]⟩
def Kh:cw->Nat->Option c7:=λf r=>match f,r with
 |146,3=>some ⟨[0],[(5,16,9223372036854775807)],[],[],[(4,[.int .u64 0 18446744073709551615],85)],[],[]⟩
 |146,8=>some ⟨[0,106,107],[(108,0,9223372036854775807),(6,0,18446744073709551615),(7,0,18446744073709551615),(8,0,18446744073709551615),(9,0,18446744073709551615),(10,0,18446744073709551615),(11,0,18446744073709551615),(12,0,18446744073709551615),(13,0,18446744073709551615)],[],[],[],[],[]⟩
 |110,15=>some ⟨[3,5,13,47,48],[(14,-1,7)],[],[],[(11,[.int .u8 0 255],5)],[],[]⟩
 |_,_=>none
def ZM:Nat->List Nat:=λn=>cond (aG n 4) [8,1] (cond (aG n 166) [8,1] [1,1,1,1])
def Ka:dJ:=⟨51,452,[sE],[.d tg],71⟩
def Dn:jf:=⟨Ka,60,false⟩
def Kb:dJ:=⟨70,453,[sE],[.d Vx],71⟩
def Dp:jf:=⟨Kb,60,false⟩
def CD:bu:=⟨143,662,[ln,ln],[ln,ln]⟩
def Ct:bu:=⟨161,663,[ln,ln,c1],[ln,c1]⟩
def ph:bu:=⟨144,640,[f5],[f5]⟩
def ry:bu:=⟨137,641,[f5,f5],[f5]⟩
def vr:bu:=⟨138,642,[f5,f5],[f5]⟩
def km:bu:=⟨101,643,[f5,f5],[f5]⟩
def sD:bu:=⟨136,664,[f5],[f5]⟩
def C4:bu:=⟨140,665,[],[f5]⟩
def vp:bu:=⟨102,644,[f5],[tg]⟩
def CL:bu:=⟨141,645,[f5,f4],[f5]⟩
def ZC:cw->Nat->Option c7:=λf r=>match f,r with
 |141,3=>some ⟨[2,3,4,5],[(6,-1,255)],[(3,0,0,18446744073709551615),(3,1,0,18446744073709551615),(3,2,0,18446744073709551615),(3,3,0,18446744073709551615),(3,4,0,18446744073709551615)],[],[],[],[]⟩
 |_,_=>none
def ZO:Nat->List Nat:=λn=>[1,5]
def Cz:bu:=⟨100,666,[f5],[f5]⟩
def CE:bu:=⟨103,667,[f5],[.bool]⟩
def vq:bu:=⟨96,646,[f5,f5],[sL]⟩
def zT:bu:=⟨67,647,[],[sL]⟩
def xt:bu:=⟨97,648,[],[sL]⟩
def vo:bu:=⟨139,649,[f5,f5,f5,f5],[sL]⟩
def xr:bu:=⟨99,650,[sL,sL],[sL]⟩
def xu:bu:=⟨98,651,[aaJ],[sL]⟩
def zY:bu:=⟨68,652,[sL,tg],[sL]⟩
def ZB:cw->Nat->Option c7:=λf r=>match f,r with
 |68,3=>some ⟨[2,3,4,5],[(6,-1,255)],[(3,0,0,18446744073709551615),(3,1,0,18446744073709551615),(3,2,0,18446744073709551615),(3,3,0,18446744073709551615),(3,4,0,18446744073709551615),(3,5,0,18446744073709551615),(3,6,0,18446744073709551615),(3,7,0,18446744073709551615),(3,8,0,18446744073709551615),(3,9,0,18446744073709551615),(3,10,0,18446744073709551615),(3,11,0,18446744073709551615),(3,12,0,18446744073709551615),(3,13,0,18446744073709551615),(3,14,0,18446744073709551615),(3,15,0,18446744073709551615),(3,16,0,18446744073709551615),(3,17,0,18446744073709551615),(3,18,0,18446744073709551615),(3,19,0,18446744073709551615)],[],[],[],[]⟩
 |_,_=>none
def ZN:Nat->List Nat:=λn=>[1,20]
def zU:bu:=⟨69,653,[aaJ],[tg]⟩
def zX:bu:=⟨71,654,[tg],[tg]⟩
def Aa:dJ:=⟨30,655,[.d tg],[.d tg],0⟩
def vD:dJ:=⟨20,656,[.d pp],[.d .str],81⟩
def z1:dJ:=⟨19,657,[lA,.d .str],[.d .bool],0⟩
def anS:cw->Nat->Option c7:=λf r=>match f,r with
 |48,2=>some ⟨[0,1,7],[(8,0,9223372036854775807)],[],[],[],[],[]⟩
 |_,_=>none
def aoA:Nat->List Nat:=λn=>[1]
def xw:dJ:=⟨6,658,[],[.d .bool],0⟩
def GD:dJ:=⟨4,660,[lA,.d pp,.d .str],[.d .bool],0⟩
def sh:Nat->List Nat×List Nat
 |73=>([1,1],[1])
 |36=>([1,1],[1])
 |37=>([1,1],[1])
 |120=>([1],[1])
 |121=>([1],[1])
 |127=>([1],[1])
 |122=>([1],[1])
 |125=>([1],[1,1,1])
 |126=>([1],[1,1,1])
 |44=>([1,1],[1])
 |65=>([1,1],[1])
 |28=>([1],[1])
 |17=>([1],[1])
 |31=>([1,1],[1])
 |128=>([1],[1])
 |123=>([1],[1])
 |124=>([1],[1])
 |47=>([1],[1])
 |27=>([1],[1])
 |24=>([1],[1])
 |29=>([1],[1])
 |50=>([1],[1])
 |51=>([1],[1])
 |52=>([1],[1])
 |30=>([1],[1])
 |35=>([1],[1,1,1])
 |13=>([1,1],[1,1])
 |11=>([1],[1,1])
 |10=>([1],[1,1])
 |32=>([1],[2,1])
 |33=>([1],[1,1,1])
 |34=>([1,1],[1])
 |12=>([1,1],[1,1])
 |15=>([1,1],[2,1])
 |18=>([1,1],[2,1])
 |16=>([2],[1])
 |19=>([2],[1])
 |202=>([1],[1])
 |203=>([1],[1])
 |200=>([1],[1])
 |201=>([1],[1])
 |204=>([1],[1])
 |205=>([1],[1])
 |206=>([1,1],[1,1,1])
 |211=>([1,1],[1,1,1])
 |207=>([1],[1])
 |208=>([1],[1])
 |400=>([1],[1])
 |420=>([1],[1])
 |510=>([1,1],[1])
 |501=>([1],[1])
 |600=>([1],[1])
 |601=>([7],[1])
 |602=>([1],[1])
 |603=>([1,1],[1,1])
 |604=>([1,1],[7,1])
 |605=>([1,1,1],[1])
 |619=>([1],[1])
 |606=>([1,7],[1,1])
 |607=>([1,2,1],[1,1,1])
 |608=>([],[7])
 |612=>([7],[1])
 |613=>([1],[1])
 |614=>([1,1],[7,1])
 |615=>([1,7],[1,1])
 |616=>([1,2,1],[1,1,1])
 |617=>([1,1],[1])
 |618=>([1],[1])
 |440=>([1,1],[1])
 |444=>([1],[1])
 |445=>([1],[1])
 |446=>([1],[1])
 |447=>([1],[1])
 |448=>([1],[1])
 |449=>([1],[1])
 |450=>([1],[1])
 |451=>([1],[1])
 |442=>([1],[1])
 |443=>([1],[1])
 |460=>([1],[1])
 |461=>([1],[1])
 |466=>([1],[1])
 |467=>([1],[1])
 |462=>([1],[1])
 |463=>([1],[1])
 |464=>([1],[1])
 |465=>([1],[1])
 |452=>([1],[32])
 |453=>([1],[64])
 |662=>([1,1],[1,1])
 |663=>([1,1,1],[1,1])
 |640=>([5],[5])
 |641=>([5,5],[5])
 |642=>([5,5],[5])
 |643=>([5,5],[5])
 |664=>([5],[5])
 |665=>([],[5])
 |644=>([5],[32])
 |645=>([5,4],[5])
 |666=>([5],[5])
 |667=>([5],[1])
 |646=>([5,5],[20])
 |647=>([],[20])
 |648=>([],[20])
 |649=>([5,5,5,5],[20])
 |650=>([20,20],[20])
 |651=>([15],[20])
 |652=>([20,32],[20])
 |653=>([15],[32])
 |654=>([32],[32])
 |655=>([32],[32])
 |656=>([7],[1])
 |657=>([1,1],[1])
 |658=>([],[1])
 |659=>([1,2,2],[1])
 |660=>([1,7,1],[1])
 |_=>([],[])
abbrev dG (P:Program) (gl:ei) (c:bu) (cal:eI) (li:cw->Nat->Option c7) (lsh:Nat->List Nat) (lens:List Nat) (B:(Nat->List (List Int)->List (List Int)->Prop)->(List (List Int)->List (List Int)->Prop)->Prop):Prop:=∀S K,te sh lsh S K lens (dC c.args) c.res (c.tree P gl cal li 600 6)=B S K
end Go.cu
namespace Go.cu
open Go Go.bo Go.Proofs
theorem awW:dG Tryz.prog bS xF (cc [] []) aoe aoW [1,1] UY:=λ_ _=>by kernel_rfl
theorem awY:dG Tryz.prog bS xG (cc [] []) aof aoX [1,1] U0:=λ_ _=>by kernel_rfl
theorem aw0:dG Tryz.prog bS C2 (cc [] [xF,xG]) ek et [1] U2:=λ_ _=>by kernel_rfl
theorem awU:dG Tryz.prog bS CY (cc [] [xF,xG]) ek et [1] UW:=λ_ _=>by kernel_rfl
theorem avH:dG Tryz.prog bS Cu (cc [] [oH]) ek et [1] TI:=λ_ _=>by kernel_rfl
theorem awT:dG Tryz.prog bS CX (cc [] []) aoc aoU [1] UU:=λ_ _=>by kernel_rfl
theorem avM:dG Tryz.prog bS Cw (cc [] [oH]) ek et [1] TN:=λ_ _=>by kernel_rfl
theorem avN:dG Tryz.prog bS tP (cc [] [oH]) ek et [1] TO:=λ_ _=>by kernel_rfl
theorem av8:dG Tryz.prog bS CF (cc [] [oH]) anP aox [1,1] T9:=λ_ _=>by kernel_rfl
theorem av2:dG Tryz.prog bS rz (cc [] [oH]) anN aov [1,1] T3:=λ_ _=>by kernel_rfl
theorem av4:dG Tryz.prog bS CB (cc [] []) anO aow [1] T5:=λ_ _=>by kernel_rfl
theorem awD:dG Tryz.prog bS CR (cc [] []) an4 aoM [1] UE:=λ_ _=>by kernel_rfl
theorem awz:dG Tryz.prog bS CO (cc [] []) an1 aoJ [1,1] UA:=λ_ _=>by kernel_rfl
theorem awV:dG Tryz.prog bS CZ (cc [] []) aod aoV [1] UX:=λ_ _=>by kernel_rfl
theorem awS:dG Tryz.prog bS CW (cc [] []) aob aoT [1] UT:=λ_ _=>by kernel_rfl
theorem av1:dG Tryz.prog bS Cy (cc [Dt] [CZ,CX,rz]) ek et [1] T2:=λ_ _=>by kernel_rfl
theorem awL:dG Tryz.prog bS tQ (cc [] [tP,Cy,CW,rz]) ek et [1] UM:=λ_ _=>by kernel_rfl
theorem av3:dG Tryz.prog bS CA (cc [Dt] [CF,CY]) ek et [1] T4:=λ_ _=>by kernel_rfl
theorem awC:dG Tryz.prog bS CQ (cc [] []) an3 aoL [1] UD:=λ_ _=>by kernel_rfl
theorem awM:dG Tryz.prog bS tR (cc [] []) ek et [1] UN:=λ_ _=>by kernel_rfl
theorem av0:dG Tryz.prog bS xv (cc [] []) ek et [1] T1:=λ_ _=>by kernel_rfl
theorem avO:dG Tryz.prog bS rv (cc [] []) ek et [1] TP:=λ_ _=>by kernel_rfl
theorem awA:dG Tryz.prog bS xB (cc [] [tR,xv,rv]) an2 aoK [1] UB:=λ_ _=>by kernel_rfl
theorem awx:dG Tryz.prog bS CM (cc [] []) ek et [1] Uy:=λ_ _=>by kernel_rfl
theorem awG (S K):te sh aoN S K [1,1] (dC GG.args) GG.res (G4.tree Tryz.prog bS (cc [] [CM]) an5 600 6)=UH S K:=by kernel_rfl
theorem awy:dG Tryz.prog bS CN (cc [] [CQ,xB,CO,CR]) an0 aoI [1] Uz:=λ_ _=>by kernel_rfl
end Go.cu
namespace Go.cu
open Go Go.bo Go.Proofs
theorem avP:dG Tryz.prog bS Cx (cc [] [C2,Cw,CA,Cu,tQ,CB,oH]) ek et [1] TQ:=λ_ _=>by kernel_rfl
theorem awX:dG Tryz.prog bS C0 (cc [] []) ek et [1,1] UZ:=λ_ _=>by kernel_rfl
theorem awj (S K):te sh et S K [1,1] (dC GF.args) GF.res (G3.tree Tryz.prog bS (cc [] [J8,J6,C0]) ek 600 6)=Uk S K:=by kernel_rfl
theorem av6:dG Tryz.prog bS CC (cc [G3] [Cx]) ek et [1,1] T7:=λ_ _=>by kernel_rfl
theorem awE:dG Tryz.prog bS CS (cc [G4] [CN]) ek et [1,1] UF:=λ_ _=>by kernel_rfl
theorem awB:dG Tryz.prog bS CP (cc [] [CC]) ek et [2] UC:=λ_ _=>by kernel_rfl
theorem awH:dG Tryz.prog bS CU (cc [] [CS]) ek et [2] UI:=λ_ _=>by kernel_rfl
theorem aw1:dG Tryz.prog bS C3 (cc [] []) aoh aoZ [1] U3:=λ_ _=>by kernel_rfl
theorem awZ:dG Tryz.prog bS C1 (cc [] []) aog aoY [1] U1:=λ_ _=>by kernel_rfl
theorem aw2:dG Tryz.prog bS xH (cc [] [tP,C3,rz,tQ]) ek et [1] U4:=λ_ _=>by kernel_rfl
theorem awF:dG Tryz.prog bS CT (cc [] [tP,C1,rz,tQ]) ek et [1] UG:=λ_ _=>by kernel_rfl
theorem avK:dG Tryz.prog bS tO (cc [] []) anM aou [1] TL:=λ_ _=>by kernel_rfl
theorem awJ:dG Tryz.prog bS xC (cc [] [tO,xB,rv]) an7 aoP [1] UK:=λ_ _=>by kernel_rfl
theorem awh:dG Tryz.prog bS CH (cc [] [tO,xC]) ek et [1,1] Ui:=λ_ _=>by kernel_rfl
theorem awg:dG Tryz.prog bS CG (cc [] [tO,xC]) ek et [1,1] Uh:=λ_ _=>by kernel_rfl
theorem awK:dG Tryz.prog bS xD (cc [] [CH,tR,rv]) an8 aoQ [1] UL:=λ_ _=>by kernel_rfl
theorem awI:dG Tryz.prog bS CV (cc [] [CG,tR,xv,rv]) an6 aoO [1] UJ:=λ_ _=>by kernel_rfl
theorem awn:dG Tryz.prog bS CJ (cc [] []) anU aoC [1] Uo:=λ_ _=>by kernel_rfl
theorem aw3:dG Tryz.prog bS C5 (cc [] []) aoi ao0 [1] U5:=λ_ _=>by kernel_rfl
theorem avL:dG Tryz.prog bS Cv (cc [] [oH]) ek et [1] TM:=λ_ _=>by kernel_rfl
theorem awo:dG Tryz.prog bS CK (cc [] [CJ,Cv]) ek et [1] Up:=λ_ _=>by kernel_rfl
theorem awm:dG Tryz.prog bS xz (cc [] [CK,CP,xH,CT]) ek et [7] Un:=λ_ _=>by kernel_rfl
theorem awb (S K):ix sh aoy S K [1] (cR pj.args) pj.res (pj.tree (hP []) Tryz.prog bS (cc [] [xz]) anQ 600 6)=Uc S K:=by kernel_rfl
theorem awl (S K):ix sh aoB S K [1,1] (cR xy.args) xy.res (xy.tree (hP []) Tryz.prog bS (cc [] [J7]) anT 600 6)=Um S K:=by kernel_rfl
theorem av9 (S K):ix sh et S K [1,1] (cR zZ.args) zZ.res (zZ.tree (hP [pj,xy]) Tryz.prog bS (cc [] []) ek 600 6)=Ua S K:=by kernel_rfl
theorem awi (S K):ix sh et S K [1] (cR xx.args) xx.res (xx.tree (hP []) Tryz.prog bS (cc [] []) ek 600 6)=Uj S K:=by kernel_rfl
theorem awd (S K):ix sh et S K [1,7] (cR vF.args) vF.res (vF.tree (JW [eU] (hP [pj,xy,xx])) Tryz.prog bS (cc [] [xz]) ek 600 6)=Ue S K:=by kernel_rfl
theorem awc (S K):ix sh aoz S K [1,2,1] (cR vE.args) vE.res (vE.tree (hP [pj,xx]) Tryz.prog bS (cc [] [xH]) anR 600 6)=Ud S K:=by kernel_rfl
theorem awk:dG Tryz.prog bS CI (cc [] []) ek et [] Ul:=λ_ _=>by kernel_rfl
theorem awr:dG Tryz.prog bS xA (cc [] [C5,CU,CV,xD]) ek et [7] Us:=λ_ _=>by kernel_rfl
theorem aws (S K):ix sh aoE S K [1] (cR qJ.args) qJ.res (qJ.tree (hP []) Tryz.prog bS (cc [] [xA]) anW 600 6)=Ut S K:=by kernel_rfl
theorem awq (S K):ix sh aoD S K [1,1] (cR vG.args) vG.res (vG.tree (hP [qJ]) Tryz.prog bS (cc [] []) anV 600 6)=Ur S K:=by kernel_rfl
theorem awv (S K):ix sh aoH S K [1,7] (cR Ad.args) Ad.res (Ad.tree (hP [qJ,vG]) Tryz.prog bS (cc [] [xA]) anZ 600 6)=Uw S K:=by kernel_rfl
theorem awu (S K):ix sh aoG S K [1,2,1] (cR Ac.args) Ac.res (Ac.tree (hP [qJ]) Tryz.prog bS (cc [] [xD]) anY 600 6)=Uv S K:=by kernel_rfl
theorem awt (S K):ix sh aoF S K [1,1] (cR Ab.args) Ab.res (Ab.tree (hP []) Tryz.prog bS (cc [] []) anX 600 6)=Uu S K:=by kernel_rfl
end Go.cu
namespace Go.cu
open Go Go.bo Go.Proofs
theorem awN:dG Tryz.prog bS xE (cc [] []) ek et [1,1] UO:=λ_ _=>by kernel_rfl
theorem avQ:dG Tryz.prog bS vt (cc [] []) ek et [1] TR:=λ_ _=>by kernel_rfl
theorem avS:dG Tryz.prog bS vv (cc [] []) ek et [1] TT:=λ_ _=>by kernel_rfl
theorem avU:dG Tryz.prog bS vx (cc [] []) ek et [1] TV:=λ_ _=>by kernel_rfl
theorem avW:dG Tryz.prog bS vz (cc [] []) ek et [1] TX:=λ_ _=>by kernel_rfl
theorem avR:dG Tryz.prog bS vu (cc [] []) ek et [1] TS:=λ_ _=>by kernel_rfl
theorem avT:dG Tryz.prog bS vw (cc [] []) ek et [1] TU:=λ_ _=>by kernel_rfl
theorem avV:dG Tryz.prog bS vy (cc [] []) ek et [1] TW:=λ_ _=>by kernel_rfl
theorem avX:dG Tryz.prog bS vA (cc [] []) ek et [1] TY:=λ_ _=>by kernel_rfl
theorem awO (S K):ix sh aoR S K [1] (cR Ae.args) Ae.res (Ae.tree (hP []) Tryz.prog bS (cc [] [xE]) an9 600 6)=UP S K:=by kernel_rfl
theorem awP (S K):ix sh aoS S K [1] (cR Af.args) Af.res (Af.tree (hP []) Tryz.prog bS (cc [] [xE]) aoa 600 6)=UQ S K:=by kernel_rfl
theorem avY:dG Tryz.prog bS vB (cc [] []) ek et [1] TZ:=λ_ _=>by kernel_rfl
theorem avZ:dG Tryz.prog bS vC (cc [] []) ek et [1] T0:=λ_ _=>by kernel_rfl
theorem avI (S K):ix sh et S K [1] (cR zV.args) zV.res (zV.tree (hP []) Tryz.prog bS (cc [] []) ek 600 6)=TJ S K:=by kernel_rfl
theorem avJ (S K):ix sh et S K [1] (cR zW.args) zW.res (zW.tree (hP []) Tryz.prog bS (cc [] []) ek 600 6)=TK S K:=by kernel_rfl
theorem awQ (S K):ix sh et S K [1] (cR Ka.args) Ka.res (Dn.tree (AH [AE] (rC [GU] (hP [Ae]))) Tryz.prog bS (cc [] []) ek 600 6)=UR S K:=by kernel_rfl
theorem awR (S K):ix sh et S K [1] (cR Kb.args) Kb.res (Dp.tree (AH [AF] (rC [GV] (hP [Af]))) Tryz.prog bS (cc [] []) ek 600 6)=US S K:=by kernel_rfl
end Go.cu
namespace Go.cu
open Go Go.bo Go.Proofs
theorem avF (S K):ix sh ZL S K [1] (cR J4.args) J4.res (AE.tree (BB Tryz.prog bS (cc [] [vB,vt,vv,vx,vz]) (wP (hP [zV]) Tryz.prog bS (cc [] [vB,vt,vv,vx,vz]) Kg 600 6) Kg 600 [(1,0,0,4294967295),(1,1,0,4294967295),(1,2,0,4294967295),(1,3,0,4294967295),(1,4,0,4294967295),(1,5,0,4294967295),(1,6,0,4294967295),(1,7,0,4294967295)] 147))=TG S K:=by kernel_rfl
end Go.cu
namespace Go.cu
open Go Go.bo Go.Proofs
theorem avG (S K):ix sh ZM S K [1] (cR J5.args) J5.res (AF.tree (BB Tryz.prog bS (cc [] [vC,vu,vw,vy,vA]) (wP (hP [zW]) Tryz.prog bS (cc [] [vC,vu,vw,vy,vA]) Kh 600 6) Kh 600 [(1,0,0,18446744073709551615),(1,1,0,18446744073709551615),(1,2,0,18446744073709551615),(1,3,0,18446744073709551615),(1,4,0,18446744073709551615),(1,5,0,18446744073709551615),(1,6,0,18446744073709551615),(1,7,0,18446744073709551615)] 147))=TH S K:=by kernel_rfl
end Go.cu
namespace Go.cu
open Go Go.bo Go.Proofs
theorem aww:dG Tryz.prog bS CL (cc [] [sD,km]) ZC ZO [5,4] Ux:=λ_ _=>by kernel_rfl
end Go.cu
namespace Go.cu
open Go Go.bo Go.Proofs
theorem av7:dG Tryz.prog bS zY (cc [] [xt,xu,xr]) ZB ZN [20,32] T8:=λ_ _=>by kernel_rfl
theorem awp (S K):ix sh et S K [32] (cR Aa.args) Aa.res (Aa.tree (rC [Dp] (hP [])) Tryz.prog bS (cc [] [zX,zT,zY,zU]) ek 600 6)=Uq S K:=by kernel_rfl
theorem awa (S K):ix sh et S K [7] (cR vD.args) vD.res (vD.tree (rC [Dn] (hP [Aa,J9])) Tryz.prog bS (cc [] []) ek 600 6)=Ub S K:=by kernel_rfl
theorem awe (S K):ix sh aoA S K [1,1] (cR z1.args) z1.res (z1.tree (hP [pj,vD]) Tryz.prog bS (cc [] []) anS 600 6)=Uf S K:=by kernel_rfl
theorem awf (S K):ix sh et S K [] (cR xw.args) xw.res (xw.tree (hP [vF,vE,z1,vD]) Tryz.prog bS (cc [] [CI]) ek 600 6)=Ug S K:=by kernel_rfl
theorem av5 (S K):ix sh et S K [1,7,1] (cR GD.args) GD.res (GD.tree (hP [xw,vF,Ad,vE,Ac,zZ,vG,Ab,pj,qJ]) Tryz.prog bS (cc [] []) ek 600 6)=T6 S K:=by kernel_rfl
end Go.cu
