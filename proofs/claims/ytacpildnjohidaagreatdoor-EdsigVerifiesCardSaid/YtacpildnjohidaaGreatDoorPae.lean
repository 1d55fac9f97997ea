/- Pae: a part of the proof of statements of this seat. -/
import Derived.Test.YtacpildnjohidaaGreatDoorPad
import Derived.Test.YtacpildnjohidaaGreatDoorPac
open And renaming intro->D7
open BitVec renaming ofInt->rE
open Bool renaming not_eq_true'->cy,not_true->cL,not_eq_false'->c5,not_false->c9
open Go.IntKind renaming max->hU
open Int renaming le_refl->cF,toNat_natCast->kf,emod_eq_of_lt->mF,lt_or_le->m5,eq_ofNat_of_zero_le->oP,mul_emod->tq,emod_nonneg->tr,emod_lt_of_pos->vl,add_zero->xV,one_mul->xW,add_mul_emod_self_left->xX,emod_emod->xY,zero_add->Cr
open List renaming getD->I,nil_append->eM,replicate->fD,length_append->gx,getD_cons_zero->gP,getD_cons_succ->h9,append_nil->iq,append_assoc->iI,cons_append->jJ,drop_zero->kL,take_succ_cons->mG,getElem?_eq_getElem->nI,take_of_length_le->oo,getD_eq_getElem?_getD->oR,length_drop->p4,length_take->p6,flatten_cons->qO,take_zero->qS,drop_succ_cons->ur,flatten_nil->vk,drop_of_length_le->IT,drop_eq_getElem_cons->I3,getElem?_eq_none->QF
open List.cons renaming injEq->mh
open Nat renaming lt_or_ge->Ec
open Option.some renaming inj->iH
set_option maxRecDepth 100000
set_option linter.unusedVariables false
set_option linter.unusedSimpArgs false
namespace Go.eF
open Go Go.bX
def agP (S:zzS) (K:zzK):Prop:=
 hP (-9223372036854775808) 9223372036854775807 λz0=>hP (-9223372036854775808) 9223372036854775807 λav=>(hO (decide (z0<0)) (K [[z0],[av]] [[0]]) ((hO
 (decide (1099511627776<z0)) (K [[z0],[av]] [[0]]) ((hO ((!(decide (av=32)))) ((hO ((!(decide (av=64)))) (K [[z0],[av]] [[0]]) (au (-1) 1 ((2*av)+
 9223372036854775808) 18446744073709551616 λz2=>az 77 [av]/\au 0 2305843009213693951 av 4 λz3=>bo ((z0+((2*av)+(((-18446744073709551616)*z2)
 +z3)))+9223372036854775809) 18446744073709551616 λz4=>au (-1) 0 ((z0+((2*av)+(((-18446744073709551616)*z2)+(z3+((-18446744073709551616)*
 z4)))))+9223372036854775808) 18446744073709551616 λz5=>az 77 [(z0+((2*av)+(((-18446744073709551616)*z2)+(z3+(((-18446744073709551616)*z4)
 +((-18446744073709551616)*z5))))))]/\az 36 [((2*av)+((-18446744073709551616)*z2))]/\hk 76 [(z0+((2*av)+(((-18446744073709551616)*z2)+
 (z3+(((-18446744073709551616)*z4)+((-18446744073709551616)*z5)))))),((2*av)+((-18446744073709551616)*z2))] λbb=>az 77 [((2*av)+
 ((-18446744073709551616)*z2))]/\hP 0 85070591730234615847396907784232501249 λaJ=>aJ=bb*((2*av)+((-18446744073709551616)*z2))->au 0
 4611686018427387903 (aJ+9223372036854775808) 18446744073709551616 λaD=>K [[z0],[av]] [[(aJ+((-18446744073709551616)*aD))]]))) (au (-1) 1 ((2*av)+
 9223372036854775808) 18446744073709551616 λz2=>az 77 [av]/\au 0 2305843009213693951 av 4 λz3=>bo ((z0+((2*av)+(((-18446744073709551616)*z2)
 +z3)))+9223372036854775809) 18446744073709551616 λz4=>au (-1) 0 ((z0+((2*av)+(((-18446744073709551616)*z2)+(z3+((-18446744073709551616)*
 z4)))))+9223372036854775808) 18446744073709551616 λz5=>az 77 [(z0+((2*av)+(((-18446744073709551616)*z2)+(z3+(((-18446744073709551616)*z4)
 +((-18446744073709551616)*z5))))))]/\az 36 [((2*av)+((-18446744073709551616)*z2))]/\hk 76 [(z0+((2*av)+(((-18446744073709551616)*z2)+
 (z3+(((-18446744073709551616)*z4)+((-18446744073709551616)*z5)))))),((2*av)+((-18446744073709551616)*z2))] λbb=>az 77 [((2*av)+
 ((-18446744073709551616)*z2))]/\hP 0 85070591730234615847396907784232501249 λaJ=>aJ=bb*((2*av)+((-18446744073709551616)*z2))->au 0
 4611686018427387903 (aJ+9223372036854775808) 18446744073709551616 λaD=>K [[z0],[av]] [[(aJ+((-18446744073709551616)*aD))]]))))))
theorem aGP:agP SB (jX SB [yi] 441):=by
 intro z0 a0 bG av dq bQ;have fin:∀z:Int,-9223372036854775808<=z->z<=9223372036854775807->z=sj z0 av->jX SB [yi] 441 [[z0],[av]] [[z]]:=λz h1 h2 h=>⟨⟨h1,h2,trivial⟩,by show [[z]]=[[sj z0 av]];rw[h]⟩;have bad:(z0<0∨1099511627776<z0∨(av≠32/\av≠64))->jX SB [yi] 441 [[z0],[av]] [[0]]:=λh=>fin 0 (by omega) (by omega) (by unfold sj;rw[if_pos h]);refine⟨λh=>bad (.inl (of_decide_eq_true h)),λh=>⟨λaP=>bad (.inr (.inl (of_decide_eq_true aP))),λaP=>?_⟩⟩;have gE:0<=z0:=by have:=of_decide_eq_false h;omega
 have bk:z0<=1099511627776:=by have:=of_decide_eq_false aP;omega
 obtain⟨N,rfl⟩:∃N:Nat,(N:Int)=z0:=⟨z0.toNat,by omega⟩;refine⟨λg=>⟨λl6=>bad (.inr (.inr ⟨by simpa using g,by simpa using l6⟩)),λl6=>?_⟩,λg=>?_⟩
 ·have hz:av=64:=by simpa using l6
  subst hz;intro z2 da c1 bN cA;have:z2=0:=by omega
  subst this;refine⟨by show(0:Int)<=64;decide,λz3 d0 d1 d2 d3 z4 cw ar aG cm=>?_⟩;have:z3=16:=by omega
  subst this;have:z4=0:=by omega
  subst this;intro z5 f0 f1 f2 f3;have:z5=0:=by omega
  subst this;rw[show(2*64+-18446744073709551616*0:Int)=128 by decide];refine⟨by show(0:Int)<=_;omega,by show(0:Int)<128;decide,λbb g0 g1 h6=>⟨by show(0:Int)<=128;decide,λaJ i0 i1 h7 aD lP fK oE pO=>?_⟩⟩;have h6:bb=((N:Int)+(2*64+(-18446744073709551616*0+(16+(-18446744073709551616*0+-18446744073709551616*0)))))/128:=h6;have:aD=0:=by omega
  subst this;refine fin _ (by omega) (by omega) ?_;unfold sj rm;rw[if_neg (by omega)];simp only[kf];rw[show(64:Int).toNat=64 from rfl];omega
 ·have hz:av=32:=by simpa using g
  subst hz;intro z2 da c1 bN cA;have:z2=0:=by omega
  subst this;refine⟨by show(0:Int)<=32;decide,λz3 d0 d1 d2 d3 z4 cw ar aG cm=>?_⟩;have:z3=8:=by omega
  subst this;have:z4=0:=by omega
  subst this;intro z5 f0 f1 f2 f3;have:z5=0:=by omega
  subst this;rw[show(2*32+-18446744073709551616*0:Int)=64 by decide];refine⟨by show(0:Int)<=_;omega,by show(0:Int)<64;decide,λbb g0 g1 h6=>⟨by show(0:Int)<=64;decide,λaJ i0 i1 h7 aD lP fK oE pO=>?_⟩⟩;have h6:bb=((N:Int)+(2*32+(-18446744073709551616*0+(8+(-18446744073709551616*0+-18446744073709551616*0)))))/64:=h6;have:aD=0:=by omega
  subst this;refine fin _ (by omega) (by omega) ?_;unfold sj rm;rw[if_neg (by omega)];simp only[kf];rw[show(32:Int).toNat=32 from rfl];omega
def agu (S:zzS) (K:zzK):Prop:=
 ∀r0:List Int,ay (aS 0 255 32) r0->∀b8:List Int,ay (aS 0 18446744073709551615 4) b8->S 693 [r0] [b8]->∀j9:List Int,ay (aS 0
 18446744073709551615 4) j9->S 691 [] [j9]->de λz40=>S 694 [b8,j9] [[z40]]->K [r0] [[(cond (decide (z40=1)) 1 0)]]
theorem aFY:agu SB (gV SB [.d .bool] 695):=by
 intro r0 i0 b8 i32 h1 j9 i36 h2 z40 dq bQ h3;have h1:Go.Fd.aa b8=cb r0:=h1;have h2:Go.Fd.aa j9=(Go.Fd.eK:Int):=h2;have h3:z40=if Go.Fd.aa b8<Go.Fd.aa j9 then 1 else 0:=h3
 rw[h1,h2]at h3;refine⟨?_,?_⟩
 ·cases decide (z40=1)<;>exact⟨by decide,by decide,trivial⟩
 ·show(cond (decide (z40=1)) (1:Int) 0)=if cb r0<(Go.Fd.eK:Int)then 1 else 0
  rw[h3];split<;>rfl
def agJ (S:zzS) (K:zzK):Prop:=
 aK λz0=>K [[z0]] [[z0]]
def agR (S:zzS) (K:zzK):Prop:=
 aK λz0=>hP 1 1 λav=>(az 82 [z0,av]->au 0 9223372036854775807 z0 2 λz2=>au 0 9223372036854775807 (9223372036854775808*z0)
 18446744073709551616 λz3=>aK λz4=>S 476 [[((9223372036854775808*z0)+(z2+((-18446744073709551616)*z3)))]] [[z4]]->K [[z0],[av]] [[z4]])
def agZ (S:zzS) (K:zzK):Prop:=
 aK λz0=>hP 6 6 λav=>(az 82 [z0,av]->au 0 288230376151711743 z0 64 λz2=>au 0 288230376151711743 (288230376151711744*z0) 18446744073709551616
 λz3=>aK λz4=>S 476 [[((288230376151711744*z0)+(z2+((-18446744073709551616)*z3)))]] [[z4]]->K [[z0],[av]] [[z4]])
def ag1 (S:zzS) (K:zzK):Prop:=
 aK λz0=>hP 7 7 λav=>(az 82 [z0,av]->au 0 144115188075855871 z0 128 λz2=>au 0 144115188075855871 (144115188075855872*z0) 18446744073709551616
 λz3=>aK λz4=>S 476 [[((144115188075855872*z0)+(z2+((-18446744073709551616)*z3)))]] [[z4]]->K [[z0],[av]] [[z4]])
def ag2 (S:zzS) (K:zzK):Prop:=
 aK λz0=>hP 8 8 λav=>(az 82 [z0,av]->au 0 72057594037927935 z0 256 λz2=>au 0 72057594037927935 (72057594037927936*z0) 18446744073709551616
 λz3=>aK λz4=>S 476 [[((72057594037927936*z0)+(z2+((-18446744073709551616)*z3)))]] [[z4]]->K [[z0],[av]] [[z4]])
def agS (S:zzS) (K:zzK):Prop:=
 aK λz0=>hP 14 14 λav=>(az 82 [z0,av]->au 0 1125899906842623 z0 16384 λz2=>au 0 1125899906842623 (1125899906842624*z0) 18446744073709551616
 λz3=>aK λz4=>S 476 [[((1125899906842624*z0)+(z2+((-18446744073709551616)*z3)))]] [[z4]]->K [[z0],[av]] [[z4]])
def agT (S:zzS) (K:zzK):Prop:=
 aK λz0=>hP 18 18 λav=>(az 82 [z0,av]->au 0 70368744177663 z0 262144 λz2=>au 0 70368744177663 (70368744177664*z0) 18446744073709551616 λz3
 =>aK λz4=>S 476 [[((70368744177664*z0)+(z2+((-18446744073709551616)*z3)))]] [[z4]]->K [[z0],[av]] [[z4]])
def agU (S:zzS) (K:zzK):Prop:=
 aK λz0=>hP 19 19 λav=>(az 82 [z0,av]->au 0 35184372088831 z0 524288 λz2=>au 0 35184372088831 (35184372088832*z0) 18446744073709551616 λz3
 =>aK λz4=>S 476 [[((35184372088832*z0)+(z2+((-18446744073709551616)*z3)))]] [[z4]]->K [[z0],[av]] [[z4]])
def agV (S:zzS) (K:zzK):Prop:=
 aK λz0=>hP 28 28 λav=>(az 82 [z0,av]->au 0 68719476735 z0 268435456 λz2=>au 0 68719476735 (68719476736*z0) 18446744073709551616 λz3=>aK
 λz4=>S 476 [[((68719476736*z0)+(z2+((-18446744073709551616)*z3)))]] [[z4]]->K [[z0],[av]] [[z4]])
def agW (S:zzS) (K:zzK):Prop:=
 aK λz0=>hP 34 34 λav=>(az 82 [z0,av]->au 0 1073741823 z0 17179869184 λz2=>au 0 1073741823 (1073741824*z0) 18446744073709551616 λz3=>aK
 λz4=>S 476 [[((1073741824*z0)+(z2+((-18446744073709551616)*z3)))]] [[z4]]->K [[z0],[av]] [[z4]])
def agX (S:zzS) (K:zzK):Prop:=
 aK λz0=>hP 39 39 λav=>(az 82 [z0,av]->au 0 33554431 z0 549755813888 λz2=>au 0 33554431 (33554432*z0) 18446744073709551616 λz3=>aK λ
 z4=>S 476 [[((33554432*z0)+(z2+((-18446744073709551616)*z3)))]] [[z4]]->K [[z0],[av]] [[z4]])
def agY (S:zzS) (K:zzK):Prop:=
 aK λz0=>hP 41 41 λav=>(az 82 [z0,av]->au 0 8388607 z0 2199023255552 λz2=>au 0 8388607 (8388608*z0) 18446744073709551616 λz3=>aK λz4
 =>S 476 [[((8388608*z0)+(z2+((-18446744073709551616)*z3)))]] [[z4]]->K [[z0],[av]] [[z4]])
def ag0 (S:zzS) (K:zzK):Prop:=
 aK λz0=>hP 61 61 λav=>(az 82 [z0,av]->au 0 7 z0 2305843009213693952 λz2=>au 0 7 (8*z0) 18446744073709551616 λz3=>aK λz4=>S 476
 [[((8*z0)+(z2+((-18446744073709551616)*z3)))]] [[z4]]->K [[z0],[av]] [[z4]])
def agK (S:zzS) (K:zzK):Prop:=
 aK λz0=>∀r1:List Int,ay [(28,28),(34,34),(39,39)] r1->de λz4=>(az 82 [z0,(I r1 0 0),(I r1 1 0),(I r1 2 0),z4]->az
 82 [z0,(I r1 2 0)]/\aK λz5=>S 739 [[z0],[(I r1 2 0)]] [[z5]]->(hO (decide (z4=1)) (au 0 33554431 z0 549755813888 λbb=>az 82
 [z0,(I r1 0 0)]/\aK λaJ=>S 728 [[z0],[(I r1 0 0)]] [[aJ]]->az 82 [z0,(I r1 1 0)]/\aK λaD=>S 734 [[z0],[(I r1 1
 0)]] [[aD]]->ec λz9=>z9<=hU .u64->z9=ca .xor .u64 aJ aD->ec λaW=>aW<=hU .u64->aW=ca .xor .u64 z9 bb->K
 [[z0],r1,[z4]] [[aW]]) (az 82 [z0,(I r1 0 0)]/\aK λbb=>S 728 [[z0],[(I r1 0 0)]] [[bb]]->az 82 [z0,(I r1 1 0)]/\aK λaJ
 =>S 734 [[z0],[(I r1 1 0)]] [[aJ]]->ec λaD=>aD<=hU .u64->aD=ca .xor .u64 bb aJ->ec λz9=>z9<=hU .u64->z9=ca
 .xor .u64 aD z5->K [[z0],r1,[z4]] [[z9]])))
def agL (S:zzS) (K:zzK):Prop:=
 aK λz0=>∀r1:List Int,ay [(14,14),(18,18),(41,41)] r1->de λz4=>(az 82 [z0,(I r1 0 0),(I r1 1 0),(I r1 2 0),z4]->az
 82 [z0,(I r1 2 0)]/\aK λz5=>S 741 [[z0],[(I r1 2 0)]] [[z5]]->(hO (decide (z4=1)) (au 0 8388607 z0 2199023255552 λbb=>az 82
 [z0,(I r1 0 0)]/\aK λaJ=>S 714 [[z0],[(I r1 0 0)]] [[aJ]]->az 82 [z0,(I r1 1 0)]/\aK λaD=>S 718 [[z0],[(I r1 1
 0)]] [[aD]]->ec λz9=>z9<=hU .u64->z9=ca .xor .u64 aJ aD->ec λaW=>aW<=hU .u64->aW=ca .xor .u64 z9 bb->K
 [[z0],r1,[z4]] [[aW]]) (az 82 [z0,(I r1 0 0)]/\aK λbb=>S 714 [[z0],[(I r1 0 0)]] [[bb]]->az 82 [z0,(I r1 1 0)]/\aK λaJ
 =>S 718 [[z0],[(I r1 1 0)]] [[aJ]]->ec λaD=>aD<=hU .u64->aD=ca .xor .u64 bb aJ->ec λz9=>z9<=hU .u64->z9=ca
 .xor .u64 aD z5->K [[z0],r1,[z4]] [[z9]])))
def agM (S:zzS) (K:zzK):Prop:=
 aK λz0=>∀r1:List Int,ay [(1,1),(8,8),(7,7)] r1->de λz4=>(az 82 [z0,(I r1 0 0),(I r1 1 0),(I r1 2 0),z4]->az 82
 [z0,(I r1 2 0)]/\aK λz5=>S 707 [[z0],[(I r1 2 0)]] [[z5]]->(hO (decide (z4=1)) (au 0 144115188075855871 z0 128 λbb=>az 82
 [z0,(I r1 0 0)]/\aK λaJ=>S 701 [[z0],[(I r1 0 0)]] [[aJ]]->az 82 [z0,(I r1 1 0)]/\aK λaD=>S 708 [[z0],[(I r1 1
 0)]] [[aD]]->ec λz9=>z9<=hU .u64->z9=ca .xor .u64 aJ aD->ec λaW=>aW<=hU .u64->aW=ca .xor .u64 z9 bb->K
 [[z0],r1,[z4]] [[aW]]) (az 82 [z0,(I r1 0 0)]/\aK λbb=>S 701 [[z0],[(I r1 0 0)]] [[bb]]->az 82 [z0,(I r1 1 0)]/\aK λaJ
 =>S 708 [[z0],[(I r1 1 0)]] [[aJ]]->ec λaD=>aD<=hU .u64->aD=ca .xor .u64 bb aJ->ec λz9=>z9<=hU .u64->z9=ca
 .xor .u64 aD z5->K [[z0],r1,[z4]] [[z9]])))
def agN (S:zzS) (K:zzK):Prop:=
 aK λz0=>∀r1:List Int,ay [(19,19),(61,61),(6,6)] r1->de λz4=>(az 82 [z0,(I r1 0 0),(I r1 1 0),(I r1 2 0),z4]->az 82
 [z0,(I r1 2 0)]/\aK λz5=>S 706 [[z0],[(I r1 2 0)]] [[z5]]->(hO (decide (z4=1)) (au 0 288230376151711743 z0 64 λbb=>az 82
 [z0,(I r1 0 0)]/\aK λaJ=>S 719 [[z0],[(I r1 0 0)]] [[aJ]]->az 82 [z0,(I r1 1 0)]/\aK λaD=>S 761 [[z0],[(I r1 1
 0)]] [[aD]]->ec λz9=>z9<=hU .u64->z9=ca .xor .u64 aJ aD->ec λaW=>aW<=hU .u64->aW=ca .xor .u64 z9 bb->K
 [[z0],r1,[z4]] [[aW]]) (az 82 [z0,(I r1 0 0)]/\aK λbb=>S 719 [[z0],[(I r1 0 0)]] [[bb]]->az 82 [z0,(I r1 1 0)]/\aK λaJ
 =>S 761 [[z0],[(I r1 1 0)]] [[aJ]]->ec λaD=>aD<=hU .u64->aD=ca .xor .u64 bb aJ->ec λz9=>z9<=hU .u64->z9=ca
 .xor .u64 aD z5->K [[z0],r1,[z4]] [[z9]])))
def agI (S:zzS) (K:zzK):Prop:=
 gM λz0=>(az 71 [z0]->ec λav=>ed λz2=>hk 20 [z0] λz3=>az 22 [z0,0,z3]/\di 22 [z0,0,z3] λz4=>az 71 [z4]/\gM λz5=>S 477
 [[z4]] [[z5]]->ed λbb=>hk 20 [z5] λaJ=>Y6 z5 aJ 64 0 [] λjU=>K [[z0]] [jU])
def agv (S:zzS) (K:zzK):Prop:=
 ∀r0:List Int,ay (aS 0 18446744073709551615 4) r0->∀aZ:List Int,ay (aS 0 18446744073709551615 4) aZ->∀et:List Int,ay (aS 0
 18446744073709551615 4) et->de λz12=>S 722 [r0,aZ] [et,[z12]]->∀iy:List Int,ay (aS 0 18446744073709551615 4) iy->S 691 [] [iy]->de λaX
 =>S 694 [et,iy] [[aX]]->(hO ((!(decide (aX=1)))) (∀j8:List Int,ay (aS 0 18446744073709551615 4) j8->S 691 [] [j8]->∀K3:List Int,ay
 (aS 0 18446744073709551615 4) K3->de λz26=>S 723 [et,j8] [K3,[z26]]->K [r0,aZ] [K3]) (K [r0,aZ] [et]))
def ags (S:zzS) (K:zzK):Prop:=
 gM λz0=>(az 71 [z0]->ec λav=>ed λz2=>hk 20 [z0] λz3=>au 0 4 ((8*z3)+9223372036854775808) 18446744073709551616 λz4=>au (-1) 0
 (((8*z3)+((-18446744073709551616)*z4))+9223372036854775807) 18446744073709551616 λz5=>az 39 [(((8*z3)+(((-18446744073709551616)*z4)+
 ((-18446744073709551616)*z5)))+(-1)),(-1),9223372036854775807]/\∃(QM:List (List Int)->Prop) (Wp:List (List Int)->Nat),QM [[(((8*z3)+
 (((-18446744073709551616)*z4)+((-18446744073709551616)*z5)))+(-1))],[0,0,0,0]]/\(ed λaJ=>∀et:List Int,ay (aS 0 18446744073709551615 4) et->
 QM [[aJ],et]->(hO (decide (0<=aJ)) (∀jv:List Int,ay (aS 0 18446744073709551615 4) jv->S 724 [et,et] [jv]->au 0 1152921504606846975 aJ 8 λbd
 =>az 30 [bd,z3]/\az 21 [z0,bd]/\adR 21 [z0,bd,0] λaX=>au 0 1152921504606846975 aJ 8 λbj=>aq λbn=>bn=aX/2^((aJ+((-8)*
 bj))).toNat->au 0 127 bn 2 λz20=>(hO (decide ((bn+((-2)*z20))=1)) (∀u4:List Int,ay (aS 0 18446744073709551615 4) u4->S 724
 [jv,[1,0,0,0]] [u4]->(QM [[(aJ+(-1))],u4]/\Wp [[(aJ+(-1))],u4]<Wp [[aJ],et])) ((QM [[(aJ+(-1))],jv]/\Wp [[(aJ+(-1))],jv]<Wp [[aJ],et]))))
 (K [[z0]] [et]))))
def agt (S:zzS) (K:zzK):Prop:=
 ∀r0:List Int,ay (aS 0 255 64) r0->nt r0 0 64 0 λz127=>az 71 [z127]/\∀xu:List Int,ay (aS 0 18446744073709551615 4) xu->S 725
 [[z127]] [xu]->∀kG:List Int,ay (aS 0 255 32) kG->S 690 [xu] [kG]->K [r0] [kG]
def agO (S:zzS) (K:zzK):Prop:=
 gM λz0=>gM λav=>gM λz2=>(az 75 [z0,av,z2]->ec λz3=>ed λz4=>hk 20 [z0] λz5=>ec λbb=>ed λaJ=>hk 20 [av] λaD=>ec
 λz9=>ed λaW=>hk 20 [z2] λaI=>az 22 [z0,0,z5]/\az 23 [0,z5]/\di 22 [z0,0,z5] λz12=>di 24 [0,z12] λaY=>(hO (decide (z5<=0))
 (az 22 [av,0,aD]/\az 23 [0,aD]/\di 22 [av,0,aD] λaM=>di 24 [0,aM] λaT=>(hO (decide (aD<=0)) (az 22 [z2,0,aI]/\az 23 [0,aI]/\di
 22 [z2,0,aI] λbd=>di 24 [0,bd] λaX=>(hO (decide (aI<=0)) (P2 S K [[z0],[av],[z2]] 0) (ed λbj=>az 22 [aX,0,aI]/\di 22 [aX,0,aI]
 λbn=>P2 S K [[z0],[av],[z2]] bn))) (ed λbd=>az 31 [aT,aD]/\az 22 [z2,0,aI]/\az 23 [aT,aI]/\di 22 [z2,0,aI] λaX=>di 24
 [aT,aX] λbj=>ed λbn=>az 22 [bj,0,(aD+aI)]/\di 22 [bj,0,(aD+aI)] λz20=>P2 S K [[z0],[av],[z2]] z20))) (ed λaM=>az 31
 [aY,z5]/\az 22 [av,0,aD]/\az 23 [aY,aD]/\di 22 [av,0,aD] λaT=>di 24 [aY,aT] λbd=>ed λaX=>az 31 [bd,(z5+aD)]/\az 22
 [z2,0,aI]/\az 23 [bd,aI]/\di 22 [z2,0,aI] λbj=>di 24 [bd,bj] λbn=>ed λz20=>az 22 [bn,0,(z5+(aD+aI))]/\di 22 [bn,0,(z5
 +(aD+aI))] λz21=>P2 S K [[z0],[av],[z2]] z21)))
def agr (S:zzS) (K:zzK):Prop:=
 ∀r0:List Int,ay (aS 0 255 32) r0->gM λa7=>∀cq:List Int,ay (aS 0 255 64) cq->(az 75 (gS r0 0 32++[a7]++gS cq 0 64)->ec λxQ
 =>ed λxR=>hk 20 [a7] λjw=>nt cq 0 64 0 λhA=>nt ar0 0 32 0 λuo=>nt ar0 0 32 0 λz227=>∃(sC:List (List Int)->Prop)
 (vo:List (List Int)->Nat),sC [[0],[uo],[z227]]/\(hP 0 32 λz229=>gM λgH=>gM λim=>sC [[z229],[gH],[im]]->(hO (decide (z229<
 32)) (((az 30 [z229,64]/\((oH hA z229 λz232=>((az 30 [(z229+32),64]/\((oH hA (z229+32) λz233=>az 30 [z229,32]/\kI gH z229 z232
 λz234=>az 30 [z229,32]/\kI im z229 z233 λlU=>tG sC vo z229 gH im z234 lU)/\(az 30 [z229,32]/\((oH hA (z229+32) λz233
 =>kI gH z229 z232 λz234=>az 30 [z229,32]/\kI im z229 z233 λlU=>tG sC vo z229 gH im z234 lU)/\(kI gH z229 z232 λz233=>
 oH hA (z229+32) λz234=>az 30 [z229,32]/\kI im z229 z234 λlU=>tG sC vo z229 gH im z233 lU)))))/\(az 30 [z229,32]/\((az
 30 [(z229+32),64]/\((oH hA (z229+32) λz233=>kI gH z229 z232 λz234=>az 30 [z229,32]/\kI im z229 z233 λlU=>tG sC vo z229
 gH im z234 lU)/\(kI gH z229 z232 λz233=>oH hA (z229+32) λz234=>az 30 [z229,32]/\kI im z229 z234 λlU=>tG sC vo z229
 gH im z233 lU)))/\(kI gH z229 z232 λz233=>az 30 [(z229+32),64]/\oH hA (z229+32) λz234=>az 30 [z229,32]/\kI im z229 z234
 λlU=>tG sC vo z229 gH im z233 lU)))))/\(az 30 [(z229+32),64]/\((oH hA z229 λz232=>((oH hA (z229+32) λz233=>az 30
 [z229,32]/\kI gH z229 z232 λz234=>az 30 [z229,32]/\kI im z229 z233 λlU=>tG sC vo z229 gH im z234 lU)/\(az 30 [z229,32]/\
 ((oH hA (z229+32) λz233=>kI gH z229 z232 λz234=>az 30 [z229,32]/\kI im z229 z233 λlU=>tG sC vo z229 gH im z234 lU)/\
 (kI gH z229 z232 λz233=>oH hA (z229+32) λz234=>az 30 [z229,32]/\kI im z229 z234 λlU=>tG sC vo z229 gH im z233 lU)))))
 /\(oH hA (z229+32) λz232=>oH hA z229 λz233=>az 30 [z229,32]/\kI gH z229 z233 λz234=>az 30 [z229,32]/\kI im z229 z232 λ
 lU=>tG sC vo z229 gH im z234 lU)))))/\(az 30 [(z229+32),64]/\((az 30 [z229,64]/\((oH hA z229 λz232=>((oH hA (z229+32) λ
 z233=>az 30 [z229,32]/\kI gH z229 z232 λz234=>az 30 [z229,32]/\kI im z229 z233 λlU=>tG sC vo z229 gH im z234 lU)/\(az
 30 [z229,32]/\((oH hA (z229+32) λz233=>kI gH z229 z232 λz234=>az 30 [z229,32]/\kI im z229 z233 λlU=>tG sC vo z229 gH
 im z234 lU)/\(kI gH z229 z232 λz233=>oH hA (z229+32) λz234=>az 30 [z229,32]/\kI im z229 z234 λlU=>tG sC vo z229 gH
 im z233 lU)))))/\(oH hA (z229+32) λz232=>oH hA z229 λz233=>az 30 [z229,32]/\kI gH z229 z233 λz234=>az 30 [z229,32]/\kI
 im z229 z232 λlU=>tG sC vo z229 gH im z234 lU)))/\(oH hA (z229+32) λz232=>az 30 [z229,64]/\oH hA z229 λz233=>az 30
 [z229,32]/\kI gH z229 z233 λz234=>az 30 [z229,32]/\kI im z229 z232 λlU=>tG sC vo z229 gH im z234 lU))))) (∀u5:List
 Int,ay (aS 0 255 32) u5->de λLF=>S 720 [r0] [u5,[LF]]->(hO ((!(decide (LF=0)))) (K [r0,[a7],cq] [[(cond (false) 1 0)]]) (vD im 32 0
 [] λjU=>de λLG=>S 695 [jU] [[LG]]->(hO ((!(decide (LG=1)))) (K [r0,[a7],cq] [[(cond (false) 1 0)]]) (((Lp S gH r0 a7 jw λPG=>
 ((vD im 32 0 [] λjU=>((DW S K [r0,[a7],cq] gH PG u5 jU)/\(DW S K [r0,[a7],cq] gH PG u5 jU)))/\(vD im 32 0 [] λjU=>DW S K
 [r0,[a7],cq] gH PG u5 jU)))/\(((vD im 32 0 [] λjU=>((Lp S gH r0 a7 jw λK4=>((DW S K [r0,[a7],cq] gH K4 u5 jU)/\(DW S K
 [r0,[a7],cq] gH K4 u5 jU)))/\(Lp S gH r0 a7 jw λK4=>DW S K [r0,[a7],cq] gH K4 u5 jU)))/\(((Lp S gH r0 a7 jw λPG=>vD
 im 32 0 [] λjU=>DW S K [r0,[a7],cq] gH PG u5 jU)/\(vD im 32 0 [] λjU=>Lp S gH r0 a7 jw λK4=>DW S K [r0,[a7],cq] gH K4
 u5 jU))))))))))))))
def agA (S:zzS) (K:zzK):Prop:=
 ∀r0:List Int,ay (aS 0 255 32) r0->gM λa7=>∀cq:List Int,ay (aS 0 255 64) cq->ec λxQ=>ed λxR=>hk 20 [a7] λjw=>de λ
 tp=>S 683 [] [[tp]]->(hO ((!(decide (tp=1)))) (K [r0,[a7],cq] [[(cond (false) 1 0)]]) ((hO (decide (2000<jw)) (K [r0,[a7],cq] [[(cond (true) 1
 0)]]) (az 22 [a7,0,jw]/\di 22 [a7,0,jw] λzq=>az 75 (gS r0 0 32++[zq]++gS cq 0 64)/\de λxO=>S 682 [r0,[zq],cq] [[xO]]->
 az 22 [a7,0,jw]/\di 22 [a7,0,jw] λzr=>az 75 (gS r0 0 32++[zr]++gS cq 0 64)/\de λxP=>S 727 [r0,[zr],cq] [[xP]]->K
 [r0,[a7],cq] [[(cond (((decide (xO=1))==(decide (xP=1)))) 1 0)]]))))
theorem F7 {y:Int} (h0:0<=y) (h1:y<=18446744073709551615):ca .xor .u64 0 y=y:=by
 obtain⟨Y,rfl⟩:=oP h0;show IntKind.u64.wrap (((rE 64 0^^^rE 64 (Y:Int)).toNat:Nat):Int)=_;have e:rE 64 0^^^rE 64 (Y:Int)=rE 64 (Y:Int):=by simp
 rw[e,BitVec.toNat_ofInt];have h2:(Y:Int)% ((2^64:Nat):Int)=Y:=mF (by omega) (by omega);rw[h2,kf];exact VC (by omega) (by show(Y:Int)<18446744073709551616;omega)
theorem aGw:agJ SB (jX SB [eI] 476):=by
 intro z0 a0 bG;exact⟨⟨a0,bG,trivial⟩,rfl⟩
theorem aGW:agR SB (jX SB [eI] 701):=by
 intro z0 a0 bG av dq bQ _ z2 da c1 b1 bY z3 d0 d1 a1 bB z4 cw ar h4;have h4:[[z4]]=[[(9223372036854775808*z0)+(z2+((-18446744073709551616)*z3))]]:=h4;have r:=pf 64 1 (by decide) 9223372036854775808 18446744073709551616 2 (by decide) (by decide) (by decide) a1 bB b1 bY;refine⟨⟨cw,ar,trivial⟩,?_⟩;show [[z4]]=[[cH 64 1 z0]];rw[h4,<-r]
 congr 2;omega
theorem aG4:agZ SB (jX SB [eI] 706):=by
 intro z0 a0 bG av dq bQ _ z2 da c1 b1 bY z3 d0 d1 a1 bB z4 cw ar h4;have h4:[[z4]]=[[(288230376151711744*z0)+(z2+((-18446744073709551616)*z3))]]:=h4;have r:=pf 64 6 (by decide) 288230376151711744 18446744073709551616 64 (by decide) (by decide) (by decide) a1 bB b1 bY;refine⟨⟨cw,ar,trivial⟩,?_⟩;show [[z4]]=[[cH 64 6 z0]];rw[h4,<-r]
 congr 2;omega
theorem aG6:ag1 SB (jX SB [eI] 707):=by
 intro z0 a0 bG av dq bQ _ z2 da c1 b1 bY z3 d0 d1 a1 bB z4 cw ar h4;have h4:[[z4]]=[[(144115188075855872*z0)+(z2+((-18446744073709551616)*z3))]]:=h4;have r:=pf 64 7 (by decide) 144115188075855872 18446744073709551616 128 (by decide) (by decide) (by decide) a1 bB b1 bY;refine⟨⟨cw,ar,trivial⟩,?_⟩;show [[z4]]=[[cH 64 7 z0]];rw[h4,<-r]
 congr 2;omega
theorem aG7:ag2 SB (jX SB [eI] 708):=by
 intro z0 a0 bG av dq bQ _ z2 da c1 b1 bY z3 d0 d1 a1 bB z4 cw ar h4;have h4:[[z4]]=[[(72057594037927936*z0)+(z2+((-18446744073709551616)*z3))]]:=h4;have r:=pf 64 8 (by decide) 72057594037927936 18446744073709551616 256 (by decide) (by decide) (by decide) a1 bB b1 bY;refine⟨⟨cw,ar,trivial⟩,?_⟩;show [[z4]]=[[cH 64 8 z0]];rw[h4,<-r]
 congr 2;omega
theorem aGX:agS SB (jX SB [eI] 714):=by
 intro z0 a0 bG av dq bQ _ z2 da c1 b1 bY z3 d0 d1 a1 bB z4 cw ar h4;have h4:[[z4]]=[[(1125899906842624*z0)+(z2+((-18446744073709551616)*z3))]]:=h4;have r:=pf 64 14 (by decide) 1125899906842624 18446744073709551616 16384 (by decide) (by decide) (by decide) a1 bB b1 bY;refine⟨⟨cw,ar,trivial⟩,?_⟩;show [[z4]]=[[cH 64 14 z0]];rw[h4,<-r]
 congr 2;omega
theorem aGY:agT SB (jX SB [eI] 718):=by
 intro z0 a0 bG av dq bQ _ z2 da c1 b1 bY z3 d0 d1 a1 bB z4 cw ar h4;have h4:[[z4]]=[[(70368744177664*z0)+(z2+((-18446744073709551616)*z3))]]:=h4;have r:=pf 64 18 (by decide) 70368744177664 18446744073709551616 262144 (by decide) (by decide) (by decide) a1 bB b1 bY;refine⟨⟨cw,ar,trivial⟩,?_⟩;show [[z4]]=[[cH 64 18 z0]];rw[h4,<-r]
 congr 2;omega
theorem aGZ:agU SB (jX SB [eI] 719):=by
 intro z0 a0 bG av dq bQ _ z2 da c1 b1 bY z3 d0 d1 a1 bB z4 cw ar h4;have h4:[[z4]]=[[(35184372088832*z0)+(z2+((-18446744073709551616)*z3))]]:=h4;have r:=pf 64 19 (by decide) 35184372088832 18446744073709551616 524288 (by decide) (by decide) (by decide) a1 bB b1 bY;refine⟨⟨cw,ar,trivial⟩,?_⟩;show [[z4]]=[[cH 64 19 z0]];rw[h4,<-r]
 congr 2;omega
theorem aG0:agV SB (jX SB [eI] 728):=by
 intro z0 a0 bG av dq bQ _ z2 da c1 b1 bY z3 d0 d1 a1 bB z4 cw ar h4;have h4:[[z4]]=[[(68719476736*z0)+(z2+((-18446744073709551616)*z3))]]:=h4;have r:=pf 64 28 (by decide) 68719476736 18446744073709551616 268435456 (by decide) (by decide) (by decide) a1 bB b1 bY;refine⟨⟨cw,ar,trivial⟩,?_⟩;show [[z4]]=[[cH 64 28 z0]];rw[h4,<-r]
 congr 2;omega
theorem aG1:agW SB (jX SB [eI] 734):=by
 intro z0 a0 bG av dq bQ _ z2 da c1 b1 bY z3 d0 d1 a1 bB z4 cw ar h4;have h4:[[z4]]=[[(1073741824*z0)+(z2+((-18446744073709551616)*z3))]]:=h4;have r:=pf 64 34 (by decide) 1073741824 18446744073709551616 17179869184 (by decide) (by decide) (by decide) a1 bB b1 bY;refine⟨⟨cw,ar,trivial⟩,?_⟩;show [[z4]]=[[cH 64 34 z0]];rw[h4,<-r]
 congr 2;omega
theorem aG2:agX SB (jX SB [eI] 739):=by
 intro z0 a0 bG av dq bQ _ z2 da c1 b1 bY z3 d0 d1 a1 bB z4 cw ar h4;have h4:[[z4]]=[[(33554432*z0)+(z2+((-18446744073709551616)*z3))]]:=h4;have r:=pf 64 39 (by decide) 33554432 18446744073709551616 549755813888 (by decide) (by decide) (by decide) a1 bB b1 bY;refine⟨⟨cw,ar,trivial⟩,?_⟩;show [[z4]]=[[cH 64 39 z0]];rw[h4,<-r]
 congr 2;omega
theorem aG3:agY SB (jX SB [eI] 741):=by
 intro z0 a0 bG av dq bQ _ z2 da c1 b1 bY z3 d0 d1 a1 bB z4 cw ar h4;have h4:[[z4]]=[[(8388608*z0)+(z2+((-18446744073709551616)*z3))]]:=h4;have r:=pf 64 41 (by decide) 8388608 18446744073709551616 2199023255552 (by decide) (by decide) (by decide) a1 bB b1 bY;refine⟨⟨cw,ar,trivial⟩,?_⟩;show [[z4]]=[[cH 64 41 z0]];rw[h4,<-r]
 congr 2;omega
theorem aG5:ag0 SB (jX SB [eI] 761):=by
 intro z0 a0 bG av dq bQ _ z2 da c1 b1 bY z3 d0 d1 a1 bB z4 cw ar h4;have h4:[[z4]]=[[(8*z0)+(z2+((-18446744073709551616)*z3))]]:=h4;have r:=pf 64 61 (by decide) 8 18446744073709551616 2305843009213693952 (by decide) (by decide) (by decide) a1 bB b1 bY;refine⟨⟨cw,ar,trivial⟩,?_⟩;show [[z4]]=[[cH 64 61 z0]];rw[h4,<-r]
 congr 2;omega
theorem aGI:agK SB (jX SB [eI] 479):=by
 intro z0 a0 bG r1 i1 z4 dq bQ _;refine⟨trivial,λz5 da c1 h5=>⟨λh bb d0 d1 d2 d3=>⟨trivial,λaJ cw ar h7=>⟨trivial,λaD f0 f1 b4 z9 g0 g1 dd aW lP fK hC=>⟨⟨lP,fK,trivial⟩,?_⟩⟩⟩,λh=>⟨trivial,λbb cw ar h7=>⟨trivial,λaJ f0 f1 b4 aD g0 g1 dd z9 lP fK hC=>⟨⟨lP,fK,trivial⟩,?_⟩⟩⟩⟩⟩
 ·have h7:[[aJ]]=[[cH 64 28 z0]]:=h7;have b4:[[aD]]=[[cH 64 34 z0]]:=b4;have h7:aJ=cH 64 28 z0:=by simpa using h7
  have b4:aD=cH 64 34 z0:=by simpa using b4
  have h6:bb=z0/2^39:=by rw[show(2:Int)^39=549755813888 by decide];omega
  show [[aW]]=[[ca .xor .u64 (ca .xor .u64 (ca .xor .u64 0 (cH 64 28 z0)) (cH 64 34 z0)) (if z4=1 then z0/2^39 else cH 64 39 z0)]];rw[if_pos (of_decide_eq_true h),hC,dd,<-h7,<-b4,<-h6,F7 cw ar]
 ·have h5:[[z5]]=[[cH 64 39 z0]]:=h5;have h7:[[bb]]=[[cH 64 28 z0]]:=h7;have b4:[[aJ]]=[[cH 64 34 z0]]:=b4;have h5:z5=cH 64 39 z0:=by simpa using h5
  have h7:bb=cH 64 28 z0:=by simpa using h7
  have b4:aJ=cH 64 34 z0:=by simpa using b4
  show [[z9]]=[[ca .xor .u64 (ca .xor .u64 (ca .xor .u64 0 (cH 64 28 z0)) (cH 64 34 z0)) (if z4=1 then z0/2^39 else cH 64 39 z0)]];rw[if_neg (of_decide_eq_false h),hC,dd,<-h7,<-b4,<-h5,F7 cw ar]
theorem aGJ:agL SB (jX SB [eI] 480):=by
 intro z0 a0 bG r1 i1 z4 dq bQ _;refine⟨trivial,λz5 da c1 h5=>⟨λh bb d0 d1 d2 d3=>⟨trivial,λaJ cw ar h7=>⟨trivial,λaD f0 f1 b4 z9 g0 g1 dd aW lP fK hC=>⟨⟨lP,fK,trivial⟩,?_⟩⟩⟩,λh=>⟨trivial,λbb cw ar h7=>⟨trivial,λaJ f0 f1 b4 aD g0 g1 dd z9 lP fK hC=>⟨⟨lP,fK,trivial⟩,?_⟩⟩⟩⟩⟩
 ·have h7:[[aJ]]=[[cH 64 14 z0]]:=h7;have b4:[[aD]]=[[cH 64 18 z0]]:=b4;have h7:aJ=cH 64 14 z0:=by simpa using h7
  have b4:aD=cH 64 18 z0:=by simpa using b4
  have h6:bb=z0/2^41:=by rw[show(2:Int)^41=2199023255552 by decide];omega
  show [[aW]]=[[ca .xor .u64 (ca .xor .u64 (ca .xor .u64 0 (cH 64 14 z0)) (cH 64 18 z0)) (if z4=1 then z0/2^41 else cH 64 41 z0)]];rw[if_pos (of_decide_eq_true h),hC,dd,<-h7,<-b4,<-h6,F7 cw ar]
 ·have h5:[[z5]]=[[cH 64 41 z0]]:=h5;have h7:[[bb]]=[[cH 64 14 z0]]:=h7;have b4:[[aJ]]=[[cH 64 18 z0]]:=b4;have h5:z5=cH 64 41 z0:=by simpa using h5
  have h7:bb=cH 64 14 z0:=by simpa using h7
  have b4:aJ=cH 64 18 z0:=by simpa using b4
  show [[z9]]=[[ca .xor .u64 (ca .xor .u64 (ca .xor .u64 0 (cH 64 14 z0)) (cH 64 18 z0)) (if z4=1 then z0/2^41 else cH 64 41 z0)]];rw[if_neg (of_decide_eq_false h),hC,dd,<-h7,<-b4,<-h5,F7 cw ar]
theorem aGK:agM SB (jX SB [eI] 481):=by
 intro z0 a0 bG r1 i1 z4 dq bQ _;refine⟨trivial,λz5 da c1 h5=>⟨λh bb d0 d1 d2 d3=>⟨trivial,λaJ cw ar h7=>⟨trivial,λaD f0 f1 b4 z9 g0 g1 dd aW lP fK hC=>⟨⟨lP,fK,trivial⟩,?_⟩⟩⟩,λh=>⟨trivial,λbb cw ar h7=>⟨trivial,λaJ f0 f1 b4 aD g0 g1 dd z9 lP fK hC=>⟨⟨lP,fK,trivial⟩,?_⟩⟩⟩⟩⟩
 ·have h7:[[aJ]]=[[cH 64 1 z0]]:=h7;have b4:[[aD]]=[[cH 64 8 z0]]:=b4;have h7:aJ=cH 64 1 z0:=by simpa using h7
  have b4:aD=cH 64 8 z0:=by simpa using b4
  have h6:bb=z0/2^7:=by rw[show(2:Int)^7=128 by decide];omega
  show [[aW]]=[[ca .xor .u64 (ca .xor .u64 (ca .xor .u64 0 (cH 64 1 z0)) (cH 64 8 z0)) (if z4=1 then z0/2^7 else cH 64 7 z0)]];rw[if_pos (of_decide_eq_true h),hC,dd,<-h7,<-b4,<-h6,F7 cw ar]
 ·have h5:[[z5]]=[[cH 64 7 z0]]:=h5;have h7:[[bb]]=[[cH 64 1 z0]]:=h7;have b4:[[aJ]]=[[cH 64 8 z0]]:=b4;have h5:z5=cH 64 7 z0:=by simpa using h5
  have h7:bb=cH 64 1 z0:=by simpa using h7
  have b4:aJ=cH 64 8 z0:=by simpa using b4
  show [[z9]]=[[ca .xor .u64 (ca .xor .u64 (ca .xor .u64 0 (cH 64 1 z0)) (cH 64 8 z0)) (if z4=1 then z0/2^7 else cH 64 7 z0)]];rw[if_neg (of_decide_eq_false h),hC,dd,<-h7,<-b4,<-h5,F7 cw ar]
theorem aGL:agN SB (jX SB [eI] 482):=by
 intro z0 a0 bG r1 i1 z4 dq bQ _;refine⟨trivial,λz5 da c1 h5=>⟨λh bb d0 d1 d2 d3=>⟨trivial,λaJ cw ar h7=>⟨trivial,λaD f0 f1 b4 z9 g0 g1 dd aW lP fK hC=>⟨⟨lP,fK,trivial⟩,?_⟩⟩⟩,λh=>⟨trivial,λbb cw ar h7=>⟨trivial,λaJ f0 f1 b4 aD g0 g1 dd z9 lP fK hC=>⟨⟨lP,fK,trivial⟩,?_⟩⟩⟩⟩⟩
 ·have h7:[[aJ]]=[[cH 64 19 z0]]:=h7;have b4:[[aD]]=[[cH 64 61 z0]]:=b4;have h7:aJ=cH 64 19 z0:=by simpa using h7
  have b4:aD=cH 64 61 z0:=by simpa using b4
  have h6:bb=z0/2^6:=by rw[show(2:Int)^6=64 by decide];omega
  show [[aW]]=[[ca .xor .u64 (ca .xor .u64 (ca .xor .u64 0 (cH 64 19 z0)) (cH 64 61 z0)) (if z4=1 then z0/2^6 else cH 64 6 z0)]];rw[if_pos (of_decide_eq_true h),hC,dd,<-h7,<-b4,<-h6,F7 cw ar]
 ·have h5:[[z5]]=[[cH 64 6 z0]]:=h5;have h7:[[bb]]=[[cH 64 19 z0]]:=h7;have b4:[[aJ]]=[[cH 64 61 z0]]:=b4;have h5:z5=cH 64 6 z0:=by simpa using h5
  have h7:bb=cH 64 19 z0:=by simpa using h7
  have b4:aJ=cH 64 61 z0:=by simpa using b4
  show [[z9]]=[[ca .xor .u64 (ca .xor .u64 (ca .xor .u64 0 (cH 64 19 z0)) (cH 64 61 z0)) (if z4=1 then z0/2^6 else cH 64 6 z0)]];rw[if_neg (of_decide_eq_false h),hC,dd,<-h7,<-b4,<-h5,F7 cw ar]
theorem ajE {c l:Int} {k:List Int->Prop} (hl:l=((aL c).length:Int)):∀(n i:Nat) (acc:List Int),i+n<=(aL c).length->(∀q:List Int,q.length=n->(∀x∈q,0<=x/\x<=255)->q=((aL c).drop i).take n->k (acc++q))->Y6 c l n i acc k
 |0,i,acc,_,h=>by
  have:=h [] rfl (by simp) (by simp);show k acc;simpa using this
 |n+1,i,acc,hn,h=>⟨⟨by omega,by omega⟩,xj (by omega) (by omega),λy jo an hy=>ajE hl n (i+1) (acc++[y]) (by omega) λq h1 h2 h3=>by
  have hb:i<(aL c).length:=by omega
  have e:y=(aL c)[i]:=by rw[wY hy,kf,oR,nI hb];rfl
  have:=h (y::q) (by simp[h1]) (λx hx=>by
   rcases List.mem_cons.1 hx with rfl|hx
   ·exact⟨jo,an⟩
   ·exact h2 x hx) (by rw[I3 hb,mG,<-e,<-h3])
  simpa using this⟩
theorem aGo:agI SB (gV SB [.d ir] 478):=by
 intro z0 a0 bG hp av dq z2 da c1 z3 d0 d1 h3;have hp:(aj z0).length<=1000000000:=hp;have h3:z3=((aj z0).length:Int):=h3;refine⟨⟨cF _,by omega,by rw[h3];exact cF _⟩,λz4 _ _ h4=>?_⟩;have h4:=iB h4 h3;refine⟨by show(aj z4).length<=1000000000;rw[h4];exact hp,λz5 _ _ h5 bb _ _ aJ _ _ h7=>?_⟩;have h5:aL z5=mB bC (aL z4):=h5;rw[l4 h4]at h5;have h7:aJ=((aj z5).length:Int):=h7;have uY:(aL z5).length=64:=by rw[h5];unfold mB;rw[Mb];rfl
 refine ajE (by rw[h7,ib]) 64 0 [] (by omega) λq h1 h2 h3=>?_;rw[kL,oo (by omega)]at h3;rw[eM];refine⟨anh (Al 64 q h1 h2),?_⟩;show [q]=[mB bC (aL z0)];rw[h3,h5]
theorem acf {r:List Int} (h:ay (aS 0 18446744073709551615 4) r):ay (aS 0 18446744073709551615 4++[]) [r].flatten:=by simpa using h
theorem TZ {l:List Int} {n:Nat} (h:ay (aS 0 18446744073709551615 n) l):0<=Go.Fd.aa l:=num_nonneg (by decide) (cF _) h
theorem aDy {l:List Int} (h:ay (aS 0 18446744073709551615 4) l):Go.Fd.aa l<115792089237316195423570985008687907853269984665640564039457584007913129639936:=by
 match l,h with
 |[a,b,c,d],h=>
  obtain⟨h1,h2,h3,h4,h5,h6,h7,b4,_⟩:=h;rw[Go.Fd.mX];omega
theorem axP {g:List Int} (j:Nat):I (g.drop 32) j 0=I g (32+j) 0:=by
 simp[I,List.getElem?_drop]
theorem adp:(Go.Fd.eK:Int)=7237005577332262213973186563042994240857116359379907606001950938285454250989:=by decide
theorem aFZ:agv SB (gV SB [.d dA] 724):=by
 intro r0 i0 aZ i4 et i8 z12 dq bQ h1 iy i13 h2 aX da c1 h3;have h1:Go.Fd.aa et=Go.Fd.aa r0+Go.Fd.aa aZ-115792089237316195423570985008687907853269984665640564039457584007913129639936*z12:=h1;have h2:Go.Fd.aa iy=(Go.Fd.eK:Int):=h2;have h3:aX=if Go.Fd.aa et<Go.Fd.aa iy then 1 else 0:=h3
 have gE:=TZ i0;have dA:=TZ i4;have TS:=TZ i8
 rw[h2,adp]at h3;refine⟨λh j8 i18 h4 K3 i22 z26 cw ar h5=>⟨acf i22,?_⟩,λh=>⟨acf i8,?_⟩⟩
 ·have h4:Go.Fd.aa j8=(Go.Fd.eK:Int):=h4;have h5:Go.Fd.aa K3=Go.Fd.aa et-Go.Fd.aa j8+115792089237316195423570985008687907853269984665640564039457584007913129639936*z26:=h5;show Go.Fd.aa r0<(Go.Fd.eK:Int)->Go.Fd.aa aZ<(Go.Fd.eK:Int)->Go.Fd.aa K3=(Go.Fd.aa r0+Go.Fd.aa aZ)% (Go.Fd.eK:Int);rw[h4]at h5;rw[adp]at h5⊢;have aRT:=TZ i22;have h:¬aX=1:=by simpa using h
  have h3:¬Go.Fd.aa et<7237005577332262213973186563042994240857116359379907606001950938285454250989:=λhc=>h (by rw[h3,if_pos hc]);intro g1 g2;have:z12=0:=by omega
  subst this;have:z26=0∨z26=1:=by omega
  have fp:=aDy i22;rcases this with rfl|rfl<;>omega
 ·show Go.Fd.aa r0<(Go.Fd.eK:Int)->Go.Fd.aa aZ<(Go.Fd.eK:Int)->Go.Fd.aa et=(Go.Fd.aa r0+Go.Fd.aa aZ)% (Go.Fd.eK:Int);rw[adp];have h:aX=1:=by simpa using h
  have h3:Go.Fd.aa et<7237005577332262213973186563042994240857116359379907606001950938285454250989:=by
   rcases m5 (Go.Fd.aa et) 7237005577332262213973186563042994240857116359379907606001950938285454250989 with hc|hc
   ·exact hc
   ·rw[if_neg (by omega)]at h3;omega
  intro g1 g2;have:z12=0:=by omega
  subst this;omega
theorem aos (b:List Int) (k:Nat):cb (b.drop k)=b.getD k 0+256*cb (b.drop (k+1)):=by
 rcases Ec k b.length with h|h
 ·rw[I3 h,oR,nI h];rfl
 ·rw[IT h,IT (by omega),oR,QF h];rfl
def CN (b:List Int) (j:Nat):Int:=cb (b.drop (j/8+1))*2^(8-j% 8)+b.getD (j/8) 0/2^(j% 8)
theorem auW:∀t:Nat,t<7->∀H x:Int,H*2^(8-t)+x/2^t=2*(H*2^(8-(t+1))+x/2^(t+1))+x/2^t% 2
 |0,_,H,x=>by show H*256+x/1=2*(H*128+x/2)+x/1% 2;omega
 |1,_,H,x=>by show H*128+x/2=2*(H*64+x/4)+x/2% 2;omega
 |2,_,H,x=>by show H*64+x/4=2*(H*32+x/8)+x/4% 2;omega
 |3,_,H,x=>by show H*32+x/8=2*(H*16+x/16)+x/8% 2;omega
 |4,_,H,x=>by show H*16+x/16=2*(H*8+x/32)+x/16% 2;omega
 |5,_,H,x=>by show H*8+x/32=2*(H*4+x/64)+x/32% 2;omega
 |6,_,H,x=>by show H*4+x/64=2*(H*2+x/128)+x/64% 2;omega
theorem auV (b:List Int) (i:Nat) (h0:0<=b.getD (i/8) 0) (h1:b.getD (i/8) 0<=255):CN b i=2*CN b (i+1)+b.getD (i/8) 0/2^(i% 8)% 2:=by
 unfold CN;rcases Ec (i% 8) 7 with h|h
 ·rw[show(i+1)/8=i/8 by omega,show(i+1)% 8=i% 8+1 by omega];exact auW _ h _ _
 ·have h7:i% 8=7:=by omega
  rw[show(i+1)/8=i/8+1 by omega,show(i+1)% 8=0 by omega,h7];have e:=aos b (i/8+1);show cb (b.drop (i/8+1))*2+b.getD (i/8) 0/128=2*(cb (b.drop (i/8+1+1))*256+b.getD (i/8+1) 0/1)+b.getD (i/8) 0/128% 2;omega
theorem aj1 {i:Nat} {z:Int} (h:0<=((i+1:Nat):Int)-1-8*z) (aP:((i+1:Nat):Int)-1-8*z<8):z=((i/8:Nat):Int):=by omega
theorem avY (i:Nat):(((i+1:Nat):Int)-1+-8*((i/8:Nat):Int)).toNat=i% 8:=by omega
theorem avX (i:Nat):((i+1:Nat):Int)-1+-1=(i:Int)-1:=by omega
theorem avZ (i:Nat):(((i+1:Nat):Int)-1+-1+1).toNat<(((i+1:Nat):Int)-1+1).toNat:=by omega
theorem avV {x q:Int} (h:0<=x-2*q) (aP:x-2*q<2) (e:x+-2*q=1):x% 2=1:=by omega
theorem avW {x q:Int} (h:0<=x-2*q) (aP:x-2*q<2) (e:¬x+-2*q=1):x% 2=0:=by omega
theorem aFV:ags SB (gV SB [.d dA] 725):=by
 intro z0 a0 bG hp av dq z2 da c1 z3 d0 d1 h3 z4 cw ar aG cm z5 f0 f1 f2 f3;have hp:(aj z0).length<=1000000000:=hp;have h3:z3=((aj z0).length:Int):=h3;have h4:z4=0:=by omega
 subst h4;have h5:z5=0:=by omega
 subst h5;obtain⟨N,cB⟩:∃N,N=(aj z0).length:=⟨_,rfl⟩;rw[<-cB]at h3 hp;obtain⟨b,hb⟩:∃b,b=aL z0:=⟨_,rfl⟩;have iw:b.length=N:=by rw[hb,ib,cB]
 have hz:(8*z3+(-18446744073709551616*0+-18446744073709551616*0))+-1=((8*N:Nat):Int)-1:=by omega
 rw[hz];refine⟨⟨by omega,by omega⟩,λs=>∃(j:Nat) (r:List Int),s=[[(j:Int)-1],r]/\j<=8*N/\Go.Fd.aa r=CN b j% (Go.Fd.eK:Int),λs=>((s.getD 0 []).getD 0 0+1).toNat,⟨8*N,[0,0,0,0],rfl,Nat.le_refl _,?_⟩,?_⟩
 ·have:CN b (8*N)=0:=by
   unfold CN;rw[show 8*N/8=N by omega,show 8*N% 8=0 by omega,IT (by omega),oR,QF (by omega)];rfl
  rw[this];rfl
 ·intro aJ g0 g1 et i8 ⟨j,r,e,aO,hr⟩;simp only[mh,and_true]at e;obtain⟨rfl,rfl⟩:=e;have hlt:Go.Fd.aa et<(Go.Fd.eK:Int):=by rw[hr];exact vl _ (by decide)
  replace hlt:=rH.mk hlt;replace hr:=rH.mk hr;refine⟨λh jv i12 hM bd s6 k1 k2 k3=>?_,λh=>?_⟩
  ·have h:=of_decide_eq_true h;obtain⟨i,rfl⟩:∃i,j=i+1:=⟨j-1,by omega⟩;have mP:bd=((i/8:Nat):Int):=aj1 k2 k3;refine⟨⟨by omega,by omega⟩,xj (by omega) (by rw[<-hb];omega),λaX pa l1 oZ bj m0 hZ e5 Ay bn gE bk qs z20 BV o1 oI yI=>?_⟩;have EK:aX=b.getD (i/8) 0:=by rw[wY oZ,<-hb,mP,kf]
   have Bk:bj=((i/8:Nat):Int):=aj1 e5 Ay;have oB:bn=b.getD (i/8) 0/2^(i% 8):=by
    rw[qs,EK,Bk,avY i]
   have st:=auV b i (by rw[<-EK];exact pa) (by rw[<-EK];exact l1);rw[<-oB]at st;have hM:Go.Fd.aa et<(Go.Fd.eK:Int)->Go.Fd.aa et<(Go.Fd.eK:Int)->Go.Fd.aa jv=(Go.Fd.aa et+Go.Fd.aa et)% (Go.Fd.eK:Int):=hM;have hM:=hM hlt.h hlt.h;rw[hr.h,<-Int.add_emod]at hM;have hm:∀r,Go.Fd.aa r=CN b i% (Go.Fd.eK:Int)->(∃(j:Nat) (r':List Int),[[((i+1:Nat):Int)-1+-1],r]=[[(j:Int)-1],r']/\j<=8*N/\Go.Fd.aa r'=CN b j% (Go.Fd.eK:Int))/\((([[((i+1:Nat):Int)-1+-1],r]:List (List Int)).getD 0 []).getD 0 0+1).toNat<((([[((i+1:Nat):Int)-1],et]:List (List Int)).getD 0 []).getD 0 0+1).toNat:=λr hr=>⟨⟨i,r,by rw[avX i],by clear st hM hr;omega,hr⟩,avZ i⟩;refine⟨λhc u4 i21 pK=>hm u4 ?_,λhc=>hm jv ?_⟩
   ·have pK:Go.Fd.aa jv<(Go.Fd.eK:Int)->Go.Fd.aa [1,0,0,0]<(Go.Fd.eK:Int)->Go.Fd.aa u4=(Go.Fd.aa jv+Go.Fd.aa [1,0,0,0])% (Go.Fd.eK:Int):=pK;have pK:=pK (by rw[hM];exact vl _ (by decide)) (by decide);rw[show Go.Fd.aa [1,0,0,0]=1 by decide,hM,Int.emod_add_emod]at pK;rw[pK,st,avV oI yI (of_decide_eq_true hc),Int.two_mul]
   ·rw[hM,st,avW oI yI (of_decide_eq_false hc),Int.two_mul,xV]
  ·have h:=of_decide_eq_false h;have:j=0:=by omega
   subst this;refine⟨acf i8,?_⟩;show Go.Fd.aa et=cb (aL z0)% (Go.Fd.eK:Int);rw[hr.h,<-hb]
   congr 1
   have e:=aos b 0;rw[kL]at e;unfold CN;show cb (b.drop 1)*256+b.getD 0 0/1=_;rw[e,Int.ediv_one,Int.mul_comm,Int.add_comm]
theorem aFX:agt SB (gV SB [.d cD] 726):=by
 intro r0 i0;have pa:r0.length=64:=dn i0;refine EE 64 0 0 (by omega) λz hz=>?_;rw[sJ,eM,kL,oo (by omega)]at hz;refine⟨by show(aj z).length<=1000000000;rw[<-ib,hz];omega,λxu i128 h1 kG i132 h2=>⟨OH i132,?_⟩⟩;have h1:Go.Fd.aa xu=cb (aL z)% (Go.Fd.eK:Int):=h1;have h2:cb kG=Go.Fd.aa xu:=h2;show cb kG=cb r0% (Go.Fd.eK:Int);rw[h2,h1,hz]
theorem aGM:agO SB (gV SB [.d cD] 697):=by
 intro z0 _ _ av _ _ z2 _ _ hp z3 _ z4 _ _ z5 uY _ h5 bb _ aJ _ _ aD yE _ b4 z9 _ aW _ _ aI xn _ j2;have hp:∀z∈([z0,av,z2]:List Int),(aj z).length<=100000000:=hp;have p0:=hp z0 (by simp);have b1:=hp av (by simp);have bY:=hp z2 (by simp)
 have h5:z5=((aj z0).length:Int):=h5;have b4:aD=((aj av).length:Int):=b4;have j2:aI=((aj z2).length:Int):=j2;have dq:=ib z0;have bQ:=ib av;have b9:=ib z2
 have fin:∀c,aL c=aL z0++(aL av++aL z2)->P2 SB (gV SB [.d cD] 697) [[z0],[av],[z2]] c:=λc hc=>by
  have lc:(aL c).length<=1000000000:=by rw[hc];simp only[gx];omega
  refine⟨by show(aj c).length<=1000000000;rw[<-ib];exact lc,λr i s q j t=>⟨OH j,?_⟩⟩;have s:[r]=[mB bC (aL c)]:=s;have s:r=mB bC (aL c):=by simpa using s
  have t:cb q=cb r% (Go.Fd.eK:Int):=t;show cb q=rl (aL z0++(aL av++aL z2));rw[t,s,hc];rfl
 have em:∀{z l:Int},l=((aj z).length:Int)->l<=0->aL z=[]:=λ{z l} h aP=>List.eq_nil_of_length_eq_zero (by rw[ib];omega);have Kg:∀{z l:Int},l=((aj z).length:Int)->0<=l->az 22 [z,0,l]:=λh aP=>⟨cF _,aP,by rw[h];exact cF _⟩;have Kh:∀{c l:Int} {n:Nat},(aL c).length<=n->n<=300000000->l<=100000000->az 23 [c,l]:=λ{c l n} h h1 aP=>by show((aj c).length:Int)+l<=1073741824;rw[<-ib];omega
 have abL:∀{z l:Int},l=((aL z).length:Int)->az 22 [z,0,l]:=λ{z l} h=>⟨cF _,by rw[h];exact Int.natCast_nonneg _,by rw[h,ib];exact cF _⟩;have all:∀{z c l:Int},z=cR 22 [c,0,l]->l=((aL c).length:Int)->aL z=aL c:=λh hl=>l4 (iB h (by rw[hl,ib]));refine⟨Kg h5 uY,Kh (n:=0) (by rw[sJ];decide) (by decide) (by omega),λz12 _ _ hM aY _ _ jA=>?_⟩;have jA:aL aY=aL z0:=by rw[eG jA,sJ,eM,l4 (iB hM h5)]
 refine⟨λcw=>?_,λ_ aM _ _=>?_⟩
 ·have cw:=em h5 (of_decide_eq_true cw);refine⟨Kg b4 yE,Kh (n:=0) (by rw[sJ];decide) (by decide) (by omega),λaM _ _ kD aT _ _ yk=>?_⟩;have yk:aL aT=aL av:=by rw[eG yk,sJ,eM,l4 (iB kD b4)]
  refine⟨λar=>?_,λ_ bd _ _=>?_⟩
  ·have ar:=em b4 (of_decide_eq_true ar);refine⟨Kg j2 xn,Kh (n:=0) (by rw[sJ];decide) (by decide) (by omega),λbd _ _ mv aX _ _ oZ=>?_⟩;have oZ:aL aX=aL z2:=by rw[eG oZ,sJ,eM,l4 (iB mv j2)]
   refine⟨λaG=>fin 0 (by rw[sJ,cw,ar,em j2 (of_decide_eq_true aG)];rfl),λ_ bj _ _=>⟨abL (by rw[oZ,ib];exact j2),λbn _ _ qs=>fin _ ?_⟩⟩;rw[all qs (by rw[oZ,ib];exact j2),oZ,cw,ar];rfl
  ·refine⟨vI (by rw[yk,ib];exact b4),Kg j2 xn,Kh (n:=100000000) (by rw[yk];omega) (by decide) (by omega),λaX _ _ oZ bj _ _ yl bn _ _=>?_⟩;have yl:aL bj=aL av++aL z2:=by rw[eG yl,yk,l4 (iB oZ j2)]
   have hl:aD+aI=((aL bj).length:Int):=by rw[yl,gx];omega
   exact⟨abL hl,λz20 _ _ R2=>fin _ (by rw[all R2 hl,yl,cw];rfl)⟩
 ·refine⟨vI (by rw[jA,ib];exact h5),Kg b4 yE,Kh (n:=100000000) (by rw[jA];omega) (by decide) (by omega),λaT _ _ yk bd _ _ mv aX _ _=>?_⟩;have mv:aL bd=aL z0++aL av:=by rw[eG mv,jA,l4 (iB yk b4)]
  have hl:z5+aD=((aL bd).length:Int):=by rw[mv,gx];omega
  refine⟨vI hl,Kg j2 xn,Kh (n:=200000000) (by rw[mv,gx];omega) (by decide) (by omega),λbj _ _ yl bn _ _ qs z20 _ _=>?_⟩;have qs:aL bn=aL z0++(aL av++aL z2):=by rw[eG qs,mv,l4 (iB yl j2),iI]
  have hl:z5+(aD+aI)=((aL bn).length:Int):=by rw[qs,gx,gx];omega
  exact⟨abL hl,λz21 _ _ pK=>fin _ (by rw[all pK hl,qs])⟩
theorem aFU:agr SB (gV SB [.d .bool] 727):=by
 intro r0 i0 a7 _ _ cq i33 hp xQ _ xR _ _ jw OI _ uL;have pa:r0.length=32:=dn i0;have Fu:cq.length=64:=dn i33;have uL:jw=((aj a7).length:Int):=uL;have hp:(aj a7).length<=100000000:=hp a7 (by simp);refine EE 64 0 0 (by omega) λhA MT=>EE 32 0 0 (by decide) λuo MU=>EE 32 0 0 (by decide) λz227 Z2=>?_;rw[sJ,eM,kL,oo (by omega)]at MT;have MU:aL uo=fD 32 0:=by rw[MU,sJ];rfl
 have Z2:aL z227=fD 32 0:=by rw[Z2,sJ];rfl
 obtain⟨A,aQ⟩:∃A:Nat->List Int,A=λn=>cq.take n++fD (32-n) 0:=⟨_,rfl⟩;obtain⟨B,dm⟩:∃B:Nat->List Int,B=λn=>(cq.drop 32).take n++fD (32-n) 0:=⟨_,rfl⟩;have step:∀(l:List Int) (n:Nat),n<32->n<l.length->(l.take n++fD (32-n) 0).set n (l.getD n 0)=l.take (n+1)++fD (32-(n+1)) 0:=λl n h1 h2=>by
  rw[show 32-n=(32-(n+1))+1 by omega,List.replicate_succ,UP _ _ _ _ _ (by rw[p6];omega),UZ l n h2,iI];rfl
 obtain⟨fv,dU⟩:∃fv:List (List Int)->Prop,fv=λs=>∃(n:Nat) (a b:Int),s=[[(n:Int)],[a],[b]]/\n<=32/\aL a=A n/\aL b=B n:=⟨_,rfl⟩;obtain⟨hB,aBg⟩:∃hB:List (List Int)->Nat,hB=λs=>(32-(s.getD 0 []).getD 0 0).toNat:=⟨_,rfl⟩;refine⟨fv,hB,by rw[dU];exact⟨0,uo,z227,rfl,by decide,by rw[MU,aQ];rfl,by rw[Z2,dm];rfl⟩,?_⟩;intro z229 g0 g1 gH _ _ im _ _ hs;rw[dU]at hs;obtain⟨n,a,b,e,hn,ha,hb⟩:=hs;simp only[mh,and_true]at e;obtain⟨rfl,rfl,rfl⟩:=e;have ju:(aL gH).length=32:=by rw[ha,aQ];simp;omega
 have iw:(aL im).length=32:=by rw[hb,dm];simp;omega
 refine⟨λh=>?_,λh=>?_⟩
 ·have h:=of_decide_eq_true h;have h:n<32:=by omega
  have c1:az 30 [(n:Int),64]:=⟨by omega,by omega⟩;have bN:az 30 [(n:Int)+32,64]:=⟨by omega,by omega⟩;have cA:az 30 [(n:Int),32]:=⟨by omega,by omega⟩;have aCy:∀{k:Int->Prop},k (cq.getD n 0)->oH hA n k:=λ{k} af=>⟨xj (by omega) (by rw[MT];omega),λy _ _ hy=>by
   rw[wY hy,MT,kf];exact af⟩
  have aCz:∀{k:Int->Prop},k ((cq.drop 32).getD n 0)->oH hA ((n:Int)+32) k:=λ{k} af=>⟨xj (by omega) (by rw[MT];omega),λy _ _ hy=>by
   rw[wY hy,MT,show((n:Int)+32).toNat=32+n by omega,<-axP];exact af⟩
  have aK0:∀{k:Int->Prop},(∀c,aL c=A (n+1)->k c)->kI gH n (cq.getD n 0) k:=λ{k} af=>⟨xj (by omega) (by omega),λ_ c _ _ hc=>af c (by
   rw[iF hc,ha,kf,aQ];exact step cq n h (by omega))⟩
  have aK1:∀{k:Int->Prop},(∀c,aL c=B (n+1)->k c)->kI im n ((cq.drop 32).getD n 0) k:=λ{k} af=>⟨xj (by omega) (by omega),λ_ c _ _ hc=>af c (by
   rw[iF hc,hb,kf,dm];exact step _ n h (by rw[p4];omega))⟩
  have fin:∀{c d:Int},aL c=A (n+1)->aL d=B (n+1)->tG fv hB n gH im c d:=λ{c d} hc hd=>⟨by rw[dU];exact⟨n+1,c,d,rfl,by omega,hc,hd⟩,by rw[aBg];show(32-((n:Int)+1)).toNat<(32-(n:Int)).toNat;omega⟩
  repeat' first
   |exact c1
   |exact bN
   |exact cA
   |(refine aCy ?_;try dsimp only)
   |(refine aCz ?_;try dsimp only)
   |(refine aK0 λc hc=>?_)
   |(refine aK1 λd hd=>?_)
   |(refine fin ?_ ?_<;>assumption)
   |refine⟨?_,?_⟩
 ·have h:=of_decide_eq_false h;have:n=32:=by omega
  subst this;have ha:aL gH=cq.take 32:=by rw[ha,aQ];simp
  have hb:aL im=cq.drop 32:=by
   rw[hb,dm];show(cq.drop 32).take 32++fD (32-32) 0=_;rw[oo (by rw[p4];omega)];simp
  have aJh:∀{k:List Int->Prop},k (cq.take 32)->vD gH 32 0 [] k:=λ{k} af=>Ju 32 0 [] (by rw[<-ib,ju];decide) λl h1 _ h3=>by
   rw[eM,h3,kL,oo (by omega),ha];exact af
  have K8:∀{k:List Int->Prop},k (cq.drop 32)->vD im 32 0 [] k:=λ{k} af=>Ju 32 0 [] (by rw[<-ib,iw];decide) λl h1 _ h3=>by
   rw[eM,h3,kL,oo (by omega),hb];exact af
  have out:∀b:Bool,(b=true↔Ae r0 (aL a7) cq)->gV SB [.d .bool] 727 [r0,[a7],cq] [[cond b 1 0]]:=λb hb=>⟨by cases b<;>exact⟨by decide,by decide,trivial⟩,by
   show(cond b (1:Int) 0=1)↔Ae r0 (aL a7) cq;rw[<-hb];cases b<;>simp⟩
  intro u5 aRp LF _ _ h1;have h1:Go.Fd.pz u5 LF ((Go.Fd.dec (cb r0)).map Go.Fd.qD):=h1;refine⟨λhz=>out false ⟨λhc=>(by cases hc),λhc=>?_⟩,λhz=>K8 λLG _ _ h2=>?_⟩
  ·have hz:¬LF=0:=by simpa using hz
   obtain⟨_,X,bZ,_⟩:=hc;rw[bZ]at h1;exact absurd h1.1 hz
  ·have hz:LF=0:=by simpa using hz
   have h2:LG=if cb (cq.drop 32)<(Go.Fd.eK:Int)then 1 else 0:=h2
   refine⟨λhy=>out false ⟨λhc=>(by cases hc),λhc=>?_⟩,λhy=>?_⟩
   ·have hy:¬LG=1:=by simpa using hy
    exact absurd (by rw[h2,if_pos hc.1]) hy
   ·have hy:LG=1:=by simpa using hy
    have hlt:cb (cq.drop 32)<(Go.Fd.eK:Int):=by
     rcases m5 (cb (cq.drop 32)) (Go.Fd.eK:Int)with hc|hc
     ·exact hc
     ·rw[if_neg (by omega)]at h2;omega
    obtain⟨X,bZ⟩:∃X,Go.Fd.dec (cb r0)=some X:=by
     cases hd:Go.Fd.dec (cb r0)with
     |none=>rw[hd]at h1;have:=h1.1;omega
     |some X=>exact⟨X,rfl⟩
    rw[bZ]at h1;have ayj:=Go.Fd.CU bZ;have hm:Go.Fd.dec (cb u5)=some (Go.Fd.qD X):=Go.Fd.Zh (Go.Fd.BT ayj) h1.2;have M:∀h,cb h=rl (cq.take 32++(r0++aL a7))->DW SB (gV SB [.d .bool] 727) [r0,[a7],cq] gH h u5 (cq.drop 32):=λh ae p ip e _ _ s=>by
     have s:Go.Fd.pz p e ((Go.Fd.dec (cb u5)).map λY=>Go.Fd.fS (Go.Fd.eo (cb h).toNat Y) (Go.Fd.eo (cb (cq.drop 32)).toNat Go.Fd.kz)):=s;rw[hm,ae]at s;obtain⟨s1,s2⟩:=s;refine⟨λ_=>aJh (out _ ?_),λhc=>absurd s1 (of_decide_eq_false hc)⟩;rw[decide_eq_true_iff];constructor
     ·intro aAh;exact⟨hlt,X,bZ,(congrArg cb aAh).symm.trans s2⟩
     ·rintro⟨_,Y,hY,bm⟩
      rw[bZ]at hY;have hY:X=Y:=iH hY;subst hY;exact Go.Fd.xr ip (N3 i33).1 (s2.trans bm.symm)
    have H:∀k:List Int->Prop,(∀h,cb h=rl (cq.take 32++(r0++aL a7))->k h)->Lp SB gH r0 a7 jw k:=λk af=>by
     refine⟨⟨cF _,by decide,by rw[<-ib,ju];decide⟩,λx _ _ hx=>EE 32 0 0 (by omega) λy hy=>⟨⟨cF _,OI,by rw[uL];exact cF _⟩,λw _ _ hw=>?_⟩⟩;have hx:aL x=cq.take 32:=by rw[l4 (iB hx (by rw[<-ib,ju];rfl)),ha]
     have hy:aL y=r0:=by rw[hy,sJ,eM,kL,oo (by omega)]
     have hw:=iB hw uL;refine⟨λq ai=>?_,λh _ s=>af h ?_⟩
     ·simp only[List.mem_cons,List.not_mem_nil,or_false]at ai;rcases ai with rfl|rfl|rfl
      ·rw[<-ib,hx,p6];omega
      ·rw[<-ib,hy];omega
      ·rw[hw];exact hp
     ·have s:cb h=rl (aL x++(aL y++aL w)):=s;rw[s,hx,hy,l4 hw]
    exact⟨H _ λh ae=>⟨K8 ⟨M h ae,M h ae⟩,K8 (M h ae)⟩,⟨K8 ⟨H _ λh ae=>⟨M h ae,M h ae⟩,H _ λh ae=>M h ae⟩,⟨H _ λh ae=>K8 (M h ae),K8 (H _ λh ae=>M h ae)⟩⟩⟩
theorem aF4:agA SB (gV SB [.d .bool] 729):=by
 intro r0 i0 a7 _ _ cq i33 xQ _ xR _ _ jw OI _ uL tp _ _ aF;have uL:jw=((aj a7).length:Int):=uL;have aF:tp=1:=aF;have jF:∀b:Bool,b=true->gV SB [.d .bool] 729 [r0,[a7],cq] [[cond b 1 0]]:=λb h=>by subst h;exact⟨⟨by decide,by decide,trivial⟩,(rfl:(1:Int)=1)⟩
 refine⟨λh=>(by rw[aF]at h;cases h),λ_=>⟨λ_=>jF true rfl,λh=>?_⟩⟩;have h:=of_decide_eq_false h;have hb:∀z:Int,aj z=aj a7->(aj z).length<=100000000:=λz e=>by rw[e];omega
 have sK:az 22 [a7,0,jw]:=⟨cF _,OI,by rw[uL];exact cF _⟩;refine⟨sK,λzq _ _ RY=>?_⟩;have RY:=iB RY uL;refine⟨Y9 i0 i33 (hb _ RY),λxO _ _ s1=>⟨sK,λzr _ _ RZ=>?_⟩⟩;have RZ:=iB RZ uL;refine⟨Y9 i0 i33 (hb _ RZ),λxP _ _ s2=>jF _ ?_⟩;have s1:xO=1↔Ae r0 (aL zq) cq:=s1;have s2:xP=1↔Ae r0 (aL zr) cq:=s2;rw[l4 RY]at s1;rw[l4 RZ]at s2;rw[show decide (xO=1)=decide (xP=1) from decide_eq_decide.2 (s1.trans s2.symm),beq_self_eq_true]
end Go.eF
set_option maxRecDepth 20000
namespace Go.Fd
open Go.bX
def Xm (S:zzS) (K:zzK):Prop:=
 dj 5 S 34 [[N9,Oa,Ob,Oc,N5],[N9,Oa,Ob,Oc,N5]] λr0=>
 K [] [r0]
theorem aHk (G):Xm (fk G) (eT vN.res 100):=by
 simp(maxSteps:=4000000) only[Xm,dj,N9,Oa,Ob,Oc,N5];intro r0 i0 aF;have aF:v5 r0% 57896044618658097711785492504343953926634992332820282019728792003956564819949=(v5 [929955233495203,466365720129213,1662059464998953,2033849074728123,1442794654840575]+v5 [929955233495203,466365720129213,1662059464998953,2033849074728123,1442794654840575])% 57896044618658097711785492504343953926634992332820282019728792003956564819949:=aF.1;refine⟨ld i0,?_⟩;show v5 r0% 57896044618658097711785492504343953926634992332820282019728792003956564819949=2*dt% 57896044618658097711785492504343953926634992332820282019728792003956564819949;rw[aF,aoI,<-Int.two_mul]
def WG (S:zzS) (K:zzK):Prop:=
 bF 5 λr0=>bF 5 λaE=>
 dj 5 S 33 [r0,aE] λcv=>
 K [r0,aE] [r0,aE,[1,0,0,0,0],cv]
theorem aF5 (G):WG (fk G) (eT o8.res 101):=by
 simp(maxSteps:=4000000) only[WG,dj,bF];intro r0 i0 aE i5 cv i10 aF;have aF:v5 cv% 57896044618658097711785492504343953926634992332820282019728792003956564819949=v5 r0*v5 aE% 57896044618658097711785492504343953926634992332820282019728792003956564819949:=aF.1;exact⟨HC i0 i5 aBG i10,rfl,rfl,by decide,aF⟩
def Wx (S:zzS) (K:zzK):Prop:=
 bF 5 λr0=>bF 5 λaE=>bF 5 λcv=>bF 5 λeL=>S 101 [[amM,amN,amO,amP,amQ],[amR,amS,amT,amU,amV]] [r0,aE,cv,eL]->
 K [] [r0,aE,cv,eL]
theorem aFL (G):Wx (fk G) (eT s8.res 102):=by
 simp(maxSteps:=4000000) only[Wx,bF,amM,amN,amO,amP,amQ,amR,amS,amT,amU,amV];intro r0 i0 aE i5 cv i10 eL i15 aF;have aF:PW [[1738742601995546,1146398526822698,2070867633025821,562264141797630,587772402128613],[1801439850948184,1351079888211148,450359962737049,900719925474099,1801439850948198]] [r0,aE,cv,eL]:=aF.1;exact⟨HC i0 i5 i10 i15,aF.1.trans (by decide),aF.2.1.trans (by decide),aF.2.2.1,aF.2.2.2.trans (by decide)⟩
def WD (S:zzS) (K:zzK):Prop:=
 bF 5 λr0=>bF 5 λaE=>bF 5 λcv=>bF 5 λeL=>S 101 [[0,0,0,0,0],[1,0,0,0,0]] [r0,aE,cv,eL]->
 K [] [r0,aE,cv,eL]
theorem aFT (G):WD (fk G) (eT vJ.res 103):=by
 simp(maxSteps:=4000000) only[WD,bF];intro r0 i0 aE i5 cv i10 eL i15 aF;have aF:PW [[0,0,0,0,0],[1,0,0,0,0]] [r0,aE,cv,eL]:=aF.1;exact⟨HC i0 i5 i10 i15,aF.1.trans (by decide),aF.2.1.trans (by decide),aF.2.2.1,aF.2.2.2.trans (by decide)⟩
def WB (S:zzS) (K:zzK):Prop:=
 bF 5 λr0=>bF 5 λaE=>bF 5 λcv=>bF 5 λeL=>
 dj 5 S 33 [r0,aE] λdM=>
 dj 5 S 33 [cv,eL] λdP=>
 dj 5 S 33 [aE,cv] λsq=>
 dj 5 S 33 [r0,eL] λnG=>
 K [r0,aE,cv,eL] [dM,dP,sq,nG]
theorem aFR (G):WB (fk G) (eT r8.res 104):=by
 simp(maxSteps:=4000000) only[WB,dj,bF];intro r0 i0 aE i5 cv i10 eL i15 dM i20 aF dP i25 s1 sq i30 s2 nG i35 bm;have aF:v5 dM% 57896044618658097711785492504343953926634992332820282019728792003956564819949=v5 r0*v5 aE% 57896044618658097711785492504343953926634992332820282019728792003956564819949:=aF.1;have s1:v5 dP% 57896044618658097711785492504343953926634992332820282019728792003956564819949=v5 cv*v5 eL% 57896044618658097711785492504343953926634992332820282019728792003956564819949:=s1.1;have s2:v5 sq% 57896044618658097711785492504343953926634992332820282019728792003956564819949=v5 aE*v5 cv% 57896044618658097711785492504343953926634992332820282019728792003956564819949:=s2.1;have bm:v5 nG% 57896044618658097711785492504343953926634992332820282019728792003956564819949=v5 r0*v5 eL% 57896044618658097711785492504343953926634992332820282019728792003956564819949:=bm.1;exact⟨HC i20 i25 i30 i35,aF,s1,s2,bm⟩
def WC (S:zzS) (K:zzK):Prop:=
 bF 5 λr0=>bF 5 λaE=>bF 5 λcv=>bF 5 λeL=>bF 5 λdM=>bF 5 λdP=>bF 5 λsq=>bF 5 λnG=>
 dj 5 S 32 [aE,r0] λiz=>
 dj 5 S 32 [dP,dM] λrq=>
 dj 5 S 33 [iz,rq] λpW=>
 dj 5 S 34 [aE,r0] λud=>
 dj 5 S 34 [dP,dM] λqG=>
 dj 5 S 33 [ud,qG] λue=>
 dj 5 S 33 [eL,nG] λho=>
 dj 5 S 100 [] λvU=>
 dj 5 S 33 [ho,vU] λu7=>
 dj 5 S 33 [cv,sq] λK6=>
 dj 5 S 34 [K6,K6] λK7=>
 dj 5 S 32 [ue,pW] λxw=>
 dj 5 S 32 [K7,u7] λB2=>
 dj 5 S 34 [K7,u7] λUo=>
 dj 5 S 34 [ue,pW] λUp=>
 bF 5 λUq=>bF 5 λUr=>bF 5 λB3=>bF 5 λUs=>S 104 [xw,B2,Uo,Up] [Uq,Ur,B3,Us]->
 K [r0,aE,cv,eL,dM,dP,sq,nG] [Uq,Ur,B3,Us]
theorem aFS (G):WC (fk G) (eT s9.res 105):=by
 simp(maxSteps:=4000000) only[WC,dj,bF];intro r0 i0 aE i5 cv i10 eL i15 dM i20 dP i25 sq i30 nG i35 iz i40 aF rq i45 s1 pW i50 s2 ud i55 bm qG i60 cr ue i65 dJ ho i70 ee vU i75 eU u7 i80 gG K6 i85 hG K7 i90 ka xw i95 ph B2 i100 Iq Uo i105 Ir Up i110 Is Uq i115 Ur i120 B3 i125 Us i130 B7;have aF:v5 iz% 57896044618658097711785492504343953926634992332820282019728792003956564819949=(v5 aE-v5 r0)% 57896044618658097711785492504343953926634992332820282019728792003956564819949:=aF.1;have s1:v5 rq% 57896044618658097711785492504343953926634992332820282019728792003956564819949=(v5 dP-v5 dM)% 57896044618658097711785492504343953926634992332820282019728792003956564819949:=s1.1;have s2:v5 pW% 57896044618658097711785492504343953926634992332820282019728792003956564819949=v5 iz*v5 rq% 57896044618658097711785492504343953926634992332820282019728792003956564819949:=s2.1;have bm:v5 ud% 57896044618658097711785492504343953926634992332820282019728792003956564819949=(v5 aE+v5 r0)% 57896044618658097711785492504343953926634992332820282019728792003956564819949:=bm.1;have cr:v5 qG% 57896044618658097711785492504343953926634992332820282019728792003956564819949=(v5 dP+v5 dM)% 57896044618658097711785492504343953926634992332820282019728792003956564819949:=cr.1;have dJ:v5 ue% 57896044618658097711785492504343953926634992332820282019728792003956564819949=v5 ud*v5 qG% 57896044618658097711785492504343953926634992332820282019728792003956564819949:=dJ.1;have ee:v5 ho% 57896044618658097711785492504343953926634992332820282019728792003956564819949=v5 eL*v5 nG% 57896044618658097711785492504343953926634992332820282019728792003956564819949:=ee.1;have eU:apW [] [vU]:=eU.1;have gG:v5 u7% 57896044618658097711785492504343953926634992332820282019728792003956564819949=v5 ho*v5 vU% 57896044618658097711785492504343953926634992332820282019728792003956564819949:=gG.1;have hG:v5 K6% 57896044618658097711785492504343953926634992332820282019728792003956564819949=v5 cv*v5 sq% 57896044618658097711785492504343953926634992332820282019728792003956564819949:=hG.1;have ka:v5 K7% 57896044618658097711785492504343953926634992332820282019728792003956564819949=(v5 K6+v5 K6)% 57896044618658097711785492504343953926634992332820282019728792003956564819949:=ka.1;have ph:v5 xw% 57896044618658097711785492504343953926634992332820282019728792003956564819949=(v5 ue-v5 pW)% 57896044618658097711785492504343953926634992332820282019728792003956564819949:=ph.1;have Iq:v5 B2% 57896044618658097711785492504343953926634992332820282019728792003956564819949=(v5 K7-v5 u7)% 57896044618658097711785492504343953926634992332820282019728792003956564819949:=Iq.1;have Ir:v5 Uo% 57896044618658097711785492504343953926634992332820282019728792003956564819949=(v5 K7+v5 u7)% 57896044618658097711785492504343953926634992332820282019728792003956564819949:=Ir.1;have Is:v5 Up% 57896044618658097711785492504343953926634992332820282019728792003956564819949=(v5 ue+v5 pW)% 57896044618658097711785492504343953926634992332820282019728792003956564819949:=Is.1
 have B7:aeo [xw,B2,Uo,Up] [Uq,Ur,B3,Us]:=B7.1;refine⟨HC i115 i120 i125 i130,?_⟩;intro A B aQ dm a1 bB;exact aJr aQ dm a1 bB aF s1 s2 bm cr dJ ee eU gG hG ka ph Iq Ir Is B7.1 B7.2.1 B7.2.2.1 B7.2.2.2
def WE (S:zzS) (K:zzK):Prop:=
 bF 5 λr0=>bF 5 λaE=>bF 5 λcv=>
 dj 5 S 47 [r0] λeL=>
 dj 5 S 47 [aE] λdM=>
 dj 5 S 47 [cv] λdP=>
 dj 5 S 34 [dP,dP] λsq=>
 dj 5 S 34 [eL,dM] λnG=>
 dj 5 S 34 [r0,aE] λiz=>
 dj 5 S 47 [iz] λrq=>
 dj 5 S 32 [nG,rq] λpW=>
 dj 5 S 32 [eL,dM] λud=>
 dj 5 S 34 [sq,ud] λqG=>
 bF 5 λue=>bF 5 λho=>bF 5 λvU=>bF 5 λu7=>S 104 [pW,qG,ud,nG] [ue,ho,vU,u7]->
 K [r0,aE,cv] [ue,ho,vU,u7]
theorem aFW (G):WE (fk G) (eT vK.res 106):=by
 simp(maxSteps:=4000000) only[WE,dj,bF];intro r0 i0 aE i5 cv i10 eL i15 aF dM i20 s1 dP i25 s2 sq i30 bm nG i35 cr iz i40 dJ rq i45 ee pW i50 eU ud i55 gG qG i60 hG ue i65 ho i70 vU i75 u7 i80 ka;have aF:v5 eL% 57896044618658097711785492504343953926634992332820282019728792003956564819949=v5 r0*v5 r0% 57896044618658097711785492504343953926634992332820282019728792003956564819949:=aF.1;have s1:v5 dM% 57896044618658097711785492504343953926634992332820282019728792003956564819949=v5 aE*v5 aE% 57896044618658097711785492504343953926634992332820282019728792003956564819949:=s1.1;have s2:v5 dP% 57896044618658097711785492504343953926634992332820282019728792003956564819949=v5 cv*v5 cv% 57896044618658097711785492504343953926634992332820282019728792003956564819949:=s2.1;have bm:v5 sq% 57896044618658097711785492504343953926634992332820282019728792003956564819949=(v5 dP+v5 dP)% 57896044618658097711785492504343953926634992332820282019728792003956564819949:=bm.1;have cr:v5 nG% 57896044618658097711785492504343953926634992332820282019728792003956564819949=(v5 eL+v5 dM)% 57896044618658097711785492504343953926634992332820282019728792003956564819949:=cr.1;have dJ:v5 iz% 57896044618658097711785492504343953926634992332820282019728792003956564819949=(v5 r0+v5 aE)% 57896044618658097711785492504343953926634992332820282019728792003956564819949:=dJ.1;have ee:v5 rq% 57896044618658097711785492504343953926634992332820282019728792003956564819949=v5 iz*v5 iz% 57896044618658097711785492504343953926634992332820282019728792003956564819949:=ee.1;have eU:v5 pW% 57896044618658097711785492504343953926634992332820282019728792003956564819949=(v5 nG-v5 rq)% 57896044618658097711785492504343953926634992332820282019728792003956564819949:=eU.1;have gG:v5 ud% 57896044618658097711785492504343953926634992332820282019728792003956564819949=(v5 eL-v5 dM)% 57896044618658097711785492504343953926634992332820282019728792003956564819949:=gG.1;have hG:v5 qG% 57896044618658097711785492504343953926634992332820282019728792003956564819949=(v5 sq+v5 ud)% 57896044618658097711785492504343953926634992332820282019728792003956564819949:=hG.1;have ka:aeo [pW,qG,ud,nG] [ue,ho,vU,u7]:=ka.1;refine⟨HC i65 i70 i75 i80,?_⟩;intro A aQ a1;exact aJo aQ a1 aF s1 s2 bm cr dJ ee eU gG hG ka.1 ka.2.1 ka.2.2.1 ka.2.2.2
def WK (S:zzS) (K:zzK):Prop:=
 bF 5 λr0=>bF 5 λaE=>bF 5 λcv=>bF 5 λeL=>lA 32 λdM=>
 bF 5 λmz=>bF 5 λrr=>bF 5 λko=>bF 5 λB5=>S 103 [] [mz,rr,ko,B5]->
 ∃(QN:List (List Int)->Prop) (Wq:List (List Int)->Nat),QN [[255],mz,rr,ko,B5]/\(hP (-1) 255 λgO=>bF 5 λk6=>bF 5 λsr=>bF 5 λuf=>bF 5 λIa=>QN [[gO],k6,sr,uf,Ia]->
  (((decide (0<=gO))=true->
   bF 5 λyP=>bF 5 λyQ=>bF 5 λsk=>bF 5 λsm=>S 106 [k6,sr,uf] [yP,yQ,sk,sm]->
   au 0 31 gO 8 λIM=>
   dS 255 (I dM (IM).toNat 0) λIN=>
   au 0 31 gO 8 λz116=>
   dS 255 (IN/2^((gO+((-8)*z116))).toNat) λz117=>
   au 0 127 z117 2 λIP=>
   (((decide ((z117+((-2)*IP))=1))=true->
    bF 5 λFR=>bF 5 λFT=>bF 5 λvS=>bF 5 λFU=>S 105 [yP,yQ,sk,sm,r0,aE,cv,eL] [FR,FT,vS,FU]->
    (QN [[(gO+(-1))],FR,FT,vS,FU]/\Wq [[(gO+(-1))],FR,FT,vS,FU]<Wq [[gO],k6,sr,uf,Ia])
   )/\((decide ((z117+((-2)*IP))=1))=false->
    (QN [[(gO+(-1))],yP,yQ,sk,sm]/\Wq [[(gO+(-1))],yP,yQ,sk,sm]<Wq [[gO],k6,sr,uf,Ia])
   ))
  )/\((decide (0<=gO))=false->
   K [r0,aE,cv,eL,dM] [k6,sr,uf,Ia]
  ))
 )
theorem aGh (G):WK (fk G) (XB G):=by
 simp(maxSteps:=4000000) only[WK,dS,hP,au,lA,bF];intro r0 i0 aE i5 cv i10 eL i15 dM i20 mz i52 rr i57 ko i62 B5 i67 aF;have Lc:=aF.2;have aF:aeq [] [mz,rr,ko,B5]:=aF.1;refine⟨λl=>match l with|[[i],x,y,z,t]=>(∀A,on A->m8 (v5 r0) (v5 aE) (v5 cv) (v5 eL) A->m8 (v5 x) (v5 y) (v5 z) (v5 t) (eo ((nb dM).toNat/2^(i+1).toNat) A))/\[x,y,z,t].flatten=xp G [r0,aE,cv,eL].flatten (nb dM).toNat (255-i).toNat|_=>False,λl=>match l with|[[i],_,_,_,_]=>(i+1).toNat|_=>0,?_,?_⟩
 ·show(∀A,on A->m8 (v5 r0) (v5 aE) (v5 cv) (v5 eL) A->m8 (v5 mz) (v5 rr) (v5 ko) (v5 B5) (eo ((nb dM).toNat/2^(255+1:Int).toNat) A))/\[mz,rr,ko,B5].flatten=xp G [r0,aE,cv,eL].flatten (nb dM).toNat (255-255:Int).toNat;refine⟨λA aQ ai=>?_,Lc⟩;rw[aqq i20];exact aOt aF
 ·intro gO zG wK k6 i74 sr i79 uf i84 Ia i89 dU;have dU:(∀A,on A->m8 (v5 r0) (v5 aE) (v5 cv) (v5 eL) A->m8 (v5 k6) (v5 sr) (v5 uf) (v5 Ia) (eo ((nb dM).toNat/2^(gO+1).toNat) A))/\[k6,sr,uf,Ia].flatten=xp G [r0,aE,cv,eL].flatten (nb dM).toNat (255-gO).toNat:=dU;refine⟨λh0=>?_,λh0=>?_⟩
  ·skip
   simp only[cy,c5,cL,c9,decide_eq_true_eq,decide_eq_false_iff_not]at h0;intro yP i94 yQ i99 sk i104 sm i109 s1 IM Yb YD aji d114 IN Yc YE aj4 z116 a116 YF ajj d116 z117 a117 aij aj5 IP ahv aik ajk d118;have It:=s1.2;have s1:apR [k6,sr,uf] [yP,yQ,sk,sm]:=s1.1;refine⟨λh1=>?_,λh1=>?_⟩
   ·skip
    simp only[cy,c5,cL,c9,decide_eq_true_eq,decide_eq_false_iff_not]at h1;intro FR i119 FT i124 vS i129 FU i134 s2;have aem:=s2.2;have s2:UK [yP,yQ,sk,sm,r0,aE,cv,eL] [FR,FT,vS,FU]:=s2.1;obtain⟨i,rfl⟩:=oP h0;have hb:=Q8 i20 wK aji d114 aj4 ajj d116 aj5 ajk d118;have nv:((i:Int)+1).toNat=i+1:=by omega
    have uH:((i:Int)+(-1)+1).toNat=i:=by omega
    obtain⟨dU,hF⟩:=dU;rw[nv]at dU;have sW:(255-(i:Int)).toNat=255-i:=by omega
    have zV:(255-((i:Int)+(-1))).toNat=(255-i)+1:=by omega
    have zW:255-(255-i)=i:=by omega
    rw[sW]at hF;have g0:[yP,yQ,sk,sm].flatten=G 106 [k6,sr,uf].flatten:=It;rw[<-aqk i74 i79 i84 i89,hF]at g0;have g1:[FR,FT,vS,FU].flatten=G 105 [yP,yQ,sk,sm,r0,aE,cv,eL].flatten:=aem;rw[awS,g0]at g1;have cB:(nb dM).toNat/2^i% 2=1:=by omega
    refine⟨⟨λA aQ ai=>?_,?_⟩,?_⟩
    ·show m8 (v5 FR) (v5 FT) (v5 vS) (v5 FU) (eo ((nb dM).toNat/2^((i:Int)+(-1)+1).toNat) A);rw[uH,aoi aQ cB];have k1:=s1 _ (jc aQ _) (dU A aQ ai).j;exact s2 _ _ (vt (jc aQ _) (jc aQ _)) aQ k1 ai
    ·show [FR,FT,vS,FU].flatten=xp G [r0,aE,cv,eL].flatten (nb dM).toNat (255-((i:Int)+(-1))).toNat;rw[zV,xp,zW];have:((nb dM).toNat/2^i% 2==1)=true:=by simpa using cB
     rw[this,cond_true];exact g1
    ·show((i:Int)+(-1)+1).toNat<((i:Int)+1).toNat;omega
   ·skip
    simp only[cy,c5,cL,c9,decide_eq_true_eq,decide_eq_false_iff_not]at h1;obtain⟨i,rfl⟩:=oP h0;have hb:=Q8 i20 wK aji d114 aj4 ajj d116 aj5 ajk d118;have nv:((i:Int)+1).toNat=i+1:=by omega
    have uH:((i:Int)+(-1)+1).toNat=i:=by omega
    obtain⟨dU,hF⟩:=dU;rw[nv]at dU;have sW:(255-(i:Int)).toNat=255-i:=by omega
    have zV:(255-((i:Int)+(-1))).toNat=(255-i)+1:=by omega
    have zW:255-(255-i)=i:=by omega
    rw[sW]at hF;have g0:[yP,yQ,sk,sm].flatten=G 106 [k6,sr,uf].flatten:=It;rw[<-aqk i74 i79 i84 i89,hF]at g0;have cB:(nb dM).toNat/2^i% 2≠1:=by omega
    refine⟨⟨λA aQ ai=>?_,?_⟩,?_⟩
    ·show m8 (v5 yP) (v5 yQ) (v5 sk) (v5 sm) (eo ((nb dM).toNat/2^((i:Int)+(-1)+1).toNat) A);rw[uH,aoh aQ cB];exact s1 _ (jc aQ _) (dU A aQ ai).j
    ·show [yP,yQ,sk,sm].flatten=xp G [r0,aE,cv,eL].flatten (nb dM).toNat (255-((i:Int)+(-1))).toNat;rw[zV,xp,zW];have:((nb dM).toNat/2^i% 2==1)=false:=by simpa using cB
     rw[this,cond_false];exact g0
    ·show((i:Int)+(-1)+1).toNat<((i:Int)+1).toNat;omega
  ·skip
   simp only[cy,c5,cL,c9,decide_eq_true_eq,decide_eq_false_iff_not]at h0;obtain⟨dU,hF⟩:=dU;have nv:(gO+1).toNat=0:=by omega
   have sW:(255-gO).toNat=256:=by omega
   rw[nv]at dU;rw[sW]at hF;refine⟨⟨HC i74 i79 i84 i89,?_⟩,hF⟩;intro A aQ ai;have dU:=dU A aQ ai
   rwa [Nat.pow_zero,Nat.div_one]at dU
def Wy (S:zzS) (K:zzK):Prop:=
 bF 5 λr0=>bF 5 λaE=>bF 5 λcv=>
 dj 5 S 35 [cv] λeL=>
 dj 5 S 33 [aE,eL] λdM=>
 nF 32 S 31 [dM] λdP=>
 dj 5 S 33 [r0,eL] λrr=>
 de λfC=>S 49 [rr] [[fC]]->
 (((decide (fC=1))=true->
  ∀dY:Int,0<=dY->dY<=hU .u8->dY=ca .or .u8 (I dP 31 0) 128->
  K [r0,aE,cv] [[(I dP 0 0),(I dP 1 0),(I dP 2 0),(I dP 3 0),(I dP 4 0),(I dP 5 0),(I dP 6 0),(I dP 7 0),(I dP 8 0),(I dP 9 0),(I dP 10 0),(I dP 11 0),(I dP 12 0),(I dP 13 0),(I dP 14 0),(I dP 15 0),(I dP 16 0),(I dP 17 0),(I dP 18 0),(I dP 19 0),(I dP 20 0),(I dP 21 0),(I dP 22 0),(I dP 23 0),(I dP 24 0),(I dP 25 0),(I dP 26 0),(I dP 27 0),(I dP 28 0),(I dP 29 0),(I dP 30 0),dY]]
 )/\((decide (fC=1))=false->
  K [r0,aE,cv] [dP]
 ))
theorem aFM (G):Wy (fk G) (eT qA.res 108):=by
 simp(maxSteps:=4000000) only[Wy,de,nF,dj,bF];intro r0 i0 aE i5 cv i10 eL i15 aF dM i20 s1 dP i25 s2 rr i57 bm fC nd mL cr;have aF:v5 eL% 57896044618658097711785492504343953926634992332820282019728792003956564819949=cn (v5 cv) tF:=aF.1;have s1:v5 dM% 57896044618658097711785492504343953926634992332820282019728792003956564819949=v5 aE*v5 eL% 57896044618658097711785492504343953926634992332820282019728792003956564819949:=s1.1;have s2:nb dP=v5 dM% 57896044618658097711785492504343953926634992332820282019728792003956564819949:=s2.1;have bm:v5 rr% 57896044618658097711785492504343953926634992332820282019728792003956564819949=v5 r0*v5 eL% 57896044618658097711785492504343953926634992332820282019728792003956564819949:=bm.1;have cr:fC=v5 rr% 57896044618658097711785492504343953926634992332820282019728792003956564819949% 2:=cr.1;refine⟨λh0=>?_,λh0=>?_⟩
 ·skip
  simp only[cy,c5,cL,c9,decide_eq_true_eq,decide_eq_false_iff_not]at h0;intro dY pC qa oC;have er:v5 dM% 57896044618658097711785492504343953926634992332820282019728792003956564819949=v5 aE*ma (v5 cv)% 57896044618658097711785492504343953926634992332820282019728792003956564819949:=s1.trans (gn rfl (aF.trans (O1 _ _).symm));have a1:v5 rr% 57896044618658097711785492504343953926634992332820282019728792003956564819949=v5 r0*ma (v5 cv)% 57896044618658097711785492504343953926634992332820282019728792003956564819949:=bm.trans (gn rfl (aF.trans (O1 _ _).symm));rw[er]at s2;rw[a1]at cr;have hlt:nb dP<ew:=by rw[s2];exact Int.lt_trans (pb _).2 (by decide)
  have aA:=aqo i25 hlt;have hg:=akR i25;rw[aFC hg.1 aA]at oC;subst oC;refine⟨amG i25 (by omega) (by omega),?_⟩;show nb _=Bq (v5 r0) (v5 aE) (v5 cv);rw[ac6 i25];unfold Bq;rw[<-cr,s2,h0];unfold ew;omega
 ·skip
  simp only[cy,c5,cL,c9,decide_eq_true_eq,decide_eq_false_iff_not]at h0;have er:v5 dM% 57896044618658097711785492504343953926634992332820282019728792003956564819949=v5 aE*ma (v5 cv)% 57896044618658097711785492504343953926634992332820282019728792003956564819949:=s1.trans (gn rfl (aF.trans (O1 _ _).symm));have a1:v5 rr% 57896044618658097711785492504343953926634992332820282019728792003956564819949=v5 r0*ma (v5 cv)% 57896044618658097711785492504343953926634992332820282019728792003956564819949:=bm.trans (gn rfl (aF.trans (O1 _ _).symm));rw[er]at s2;rw[a1]at cr;have hlt:nb dP<ew:=by rw[s2];exact Int.lt_trans (pb _).2 (by decide)
  refine⟨ld i25,?_⟩;show nb dP=Bq (v5 r0) (v5 aE) (v5 cv);unfold Bq;rw[<-cr,s2,show fC=0 by clear s2 cr er a1 hlt;omega,Int.mul_zero,xV]
def WZ (S:zzS) (K:zzK):Prop:=
 lA 32 λr0=>
 bo (I r0 31 0) 128 λa7=>
 bo (I r0 31 0) 128 λbR=>
 de λcf=>S 22 [[(I r0 0 0),(I r0 1 0),(I r0 2 0),(I r0 3 0),(I r0 4 0),(I r0 5 0),(I r0 6 0),(I r0 7 0),(I r0 8 0),(I r0 9 0),(I r0 10 0),(I r0 11 0),(I r0 12 0),(I r0 13 0),(I r0 14 0),(I r0 15 0),(I r0 16 0),(I r0 17 0),(I r0 18 0),(I r0 19 0),(I r0 20 0),(I r0 21 0),(I r0 22 0),(I r0 23 0),(I r0 24 0),(I r0 25 0),(I r0 26 0),(I r0 27 0),(I r0 28 0),(I r0 29 0),(I r0 30 0),((I r0 31 0)+((-128)*bR))]] [[cf]]->
 ((((!(decide (cf=1))))=true->
  K [r0] [[0,0,0,0,0],[0,0,0,0,0],[0,0,0,0,0],[0,0,0,0,0],[(cond (false) 1 0)]]
 )/\(((!(decide (cf=1))))=false->
  dj 5 S 29 [[(I r0 0 0),(I r0 1 0),(I r0 2 0),(I r0 3 0),(I r0 4 0),(I r0 5 0),(I r0 6 0),(I r0 7 0),(I r0 8 0),(I r0 9 0),(I r0 10 0),(I r0 11 0),(I r0 12 0),(I r0 13 0),(I r0 14 0),(I r0 15 0),(I r0 16 0),(I r0 17 0),(I r0 18 0),(I r0 19 0),(I r0 20 0),(I r0 21 0),(I r0 22 0),(I r0 23 0),(I r0 24 0),(I r0 25 0),(I r0 26 0),(I r0 27 0),(I r0 28 0),(I r0 29 0),(I r0 30 0),((I r0 31 0)+((-128)*bR))]] λnG=>
  dj 5 S 47 [nG] λiz=>
  dj 5 S 32 [iz,[1,0,0,0,0]] λrq=>
  dj 5 S 33 [iz,[N9,Oa,Ob,Oc,N5]] λpW=>
  dj 5 S 34 [pW,[1,0,0,0,0]] λud=>
  dj 5 S 35 [ud] λqG=>
  dj 5 S 33 [rq,qG] λue=>
  bF 5 λho=>de λz75=>S 30 [ue] [ho,[z75]]->
  ((((!(decide (z75=1))))=true->
   K [r0] [[0,0,0,0,0],[0,0,0,0,0],[0,0,0,0,0],[0,0,0,0,0],[(cond (false) 1 0)]]
  )/\(((!(decide (z75=1))))=false->
   ((((!(decide ((128*a7)=0))))=true->
    de λz76=>S 48 [ho,[0,0,0,0,0]] [[z76]]->
    (((decide (z76=1))=true->
     K [r0] [[0,0,0,0,0],[0,0,0,0,0],[0,0,0,0,0],[0,0,0,0,0],[(cond (false) 1 0)]]
    )/\((decide (z76=1))=false->
     dj 5 S 50 [ho] λUw=>
     bF 5 λPJ=>bF 5 λvV=>bF 5 λFV=>bF 5 λB6=>S 101 [Uw,nG] [PJ,vV,FV,B6]->
     K [r0] [PJ,vV,FV,B6,[(cond (true) 1 0)]]
    ))
   )/\(((!(decide ((128*a7)=0))))=false->
    bF 5 λDL=>bF 5 λPI=>bF 5 λUx=>bF 5 λxv=>S 101 [ho,nG] [DL,PI,Ux,xv]->
    K [r0] [DL,PI,Ux,xv,[(cond (true) 1 0)]]
   ))
  ))
 ))
theorem aGz (G):WZ (fk G) (eT tV.res 109):=by
 simp(maxSteps:=4000000) only[WZ,de,bo,dj,lA,bF,N9,Oa,Ob,Oc,N5];intro r0 i0 a7 cD gm rN d32 bR e9 fe ll d33 cf fx fA aF;have aF:cf=bit (nb [(I r0 0 0),(I r0 1 0),(I r0 2 0),(I r0 3 0),(I r0 4 0),(I r0 5 0),(I r0 6 0),(I r0 7 0),(I r0 8 0),(I r0 9 0),(I r0 10 0),(I r0 11 0),(I r0 12 0),(I r0 13 0),(I r0 14 0),(I r0 15 0),(I r0 16 0),(I r0 17 0),(I r0 18 0),(I r0 19 0),(I r0 20 0),(I r0 21 0),(I r0 22 0),(I r0 23 0),(I r0 24 0),(I r0 25 0),(I r0 26 0),(I r0 27 0),(I r0 28 0),(I r0 29 0),(I r0 30 0),((I r0 31 0)+((-128)*bR))]<57896044618658097711785492504343953926634992332820282019728792003956564819949):=aF.1;refine⟨λh0=>?_,λh0=>?_⟩
 ·skip
  simp only[cy,c5,cL,c9,decide_eq_true_eq,decide_eq_false_iff_not]at h0;have hm:=BP i0 ll d33;have hz:a7=bR:=by clear aF;omega
  rw[hm.1]at aF;refine⟨N1 yz yz yz yz (by decide),?_⟩;rw[aF]at h0;show Gr (dec (nb r0)) _ _ _ _ _;rw[ajL (GL h0)];rfl
 ·skip
  simp only[cy,c5,cL,c9,decide_eq_true_eq,decide_eq_false_iff_not]at h0;intro nG i35 s1 iz i40 s2 rq i45 bm pW i50 cr ud i55 dJ qG i60 ee ue i65 eU ho i70 z75 a75 zM gG;have s1:v5 nG% 57896044618658097711785492504343953926634992332820282019728792003956564819949=nb [(I r0 0 0),(I r0 1 0),(I r0 2 0),(I r0 3 0),(I r0 4 0),(I r0 5 0),(I r0 6 0),(I r0 7 0),(I r0 8 0),(I r0 9 0),(I r0 10 0),(I r0 11 0),(I r0 12 0),(I r0 13 0),(I r0 14 0),(I r0 15 0),(I r0 16 0),(I r0 17 0),(I r0 18 0),(I r0 19 0),(I r0 20 0),(I r0 21 0),(I r0 22 0),(I r0 23 0),(I r0 24 0),(I r0 25 0),(I r0 26 0),(I r0 27 0),(I r0 28 0),(I r0 29 0),(I r0 30 0),((I r0 31 0)+((-128)*bR))]% 57896044618658097711785492504343953926634992332820282019728792003956564819949:=s1.1;have s2:v5 iz% 57896044618658097711785492504343953926634992332820282019728792003956564819949=v5 nG*v5 nG% 57896044618658097711785492504343953926634992332820282019728792003956564819949:=s2.1;have bm:v5 rq% 57896044618658097711785492504343953926634992332820282019728792003956564819949=(v5 iz-v5 [1,0,0,0,0])% 57896044618658097711785492504343953926634992332820282019728792003956564819949:=bm.1;have cr:v5 pW% 57896044618658097711785492504343953926634992332820282019728792003956564819949=v5 iz*v5 [929955233495203,466365720129213,1662059464998953,2033849074728123,1442794654840575]% 57896044618658097711785492504343953926634992332820282019728792003956564819949:=cr.1;have dJ:v5 ud% 57896044618658097711785492504343953926634992332820282019728792003956564819949=(v5 pW+v5 [1,0,0,0,0])% 57896044618658097711785492504343953926634992332820282019728792003956564819949:=dJ.1;have ee:v5 qG% 57896044618658097711785492504343953926634992332820282019728792003956564819949=cn (v5 ud) tF:=ee.1;have eU:v5 ue% 57896044618658097711785492504343953926634992332820282019728792003956564819949=v5 rq*v5 qG% 57896044618658097711785492504343953926634992332820282019728792003956564819949:=eU.1;have gG:(v5 ho% 57896044618658097711785492504343953926634992332820282019728792003956564819949,z75)=mC (v5 ue% 57896044618658097711785492504343953926634992332820282019728792003956564819949):=gG.1;refine⟨λh1=>?_,λh1=>?_⟩
  ·skip
   simp only[cy,c5,cL,c9,decide_eq_true_eq,decide_eq_false_iff_not]at h1;have hm:=BP i0 ll d33;have hz:a7=bR:=by clear aF;omega
   rw[hm.1]at aF;have hy:nb r0% ew<57896044618658097711785492504343953926634992332820282019728792003956564819949:=wQ (by rw[<-aF];exact h0);rw[hm.1]at s1;have q:=UC s1 s2 bm cr dJ ee eU;rw[q]at gG;have af:z75=0:=by omega
   refine⟨N1 yz yz yz yz (by decide),?_⟩;show Gr (dec (nb r0)) _ _ _ _ _;rw[ajN hy gG af];rfl
  ·skip
   simp only[cy,c5,cL,c9,decide_eq_true_eq,decide_eq_false_iff_not]at h1;refine⟨λh2=>?_,λh2=>?_⟩
   ·skip
    simp only[cy,c5,cL,c9,decide_eq_true_eq,decide_eq_false_iff_not]at h2;intro z76 a76 wL hG;have hG:z76=bit (v5 ho% 57896044618658097711785492504343953926634992332820282019728792003956564819949=v5 [0,0,0,0,0]% 57896044618658097711785492504343953926634992332820282019728792003956564819949):=hG.1;refine⟨λh3=>?_,λh3=>?_⟩
    ·skip
     simp only[cy,c5,cL,c9,decide_eq_true_eq,decide_eq_false_iff_not]at h3;have hm:=BP i0 ll d33;have hz:a7=bR:=by clear aF;omega
     rw[hm.1]at aF;have hy:nb r0% ew<57896044618658097711785492504343953926634992332820282019728792003956564819949:=wQ (by rw[<-aF];exact h0);rw[hm.1]at s1;have q:=UC s1 s2 bm cr dJ ee eU;rw[q]at gG;have af:z75≠0:=by omega
     have aw:nb r0/ew=1:=by rw[<-hm.2];omega
     rw[hG]at h3;have ai:=wQ h3;have ai:v5 ho% 57896044618658097711785492504343953926634992332820282019728792003956564819949=0:=ai;refine⟨N1 yz yz yz yz (by decide),?_⟩;show Gr (dec (nb r0)) _ _ _ _ _;rw[ajP hy gG af aw ai];rfl
    ·skip
     simp only[cy,c5,cL,c9,decide_eq_true_eq,decide_eq_false_iff_not]at h3;intro Uw i77 ka PJ i82 vV i87 FV i92 B6 i97 ph;have ka:v5 Uw% 57896044618658097711785492504343953926634992332820282019728792003956564819949=(0-v5 ho)% 57896044618658097711785492504343953926634992332820282019728792003956564819949:=ka.1;have ph:PW [Uw,nG] [PJ,vV,FV,B6]:=ph.1;have hm:=BP i0 ll d33;have hz:a7=bR:=by clear aF;omega
     rw[hm.1]at aF;have hy:nb r0% ew<57896044618658097711785492504343953926634992332820282019728792003956564819949:=wQ (by rw[<-aF];exact h0);rw[hm.1]at s1;have q:=UC s1 s2 bm cr dJ ee eU;rw[q]at gG;have af:z75≠0:=by omega
     have aw:nb r0/ew=1:=by rw[<-hm.2];omega
     rw[hG]at h3;have ai:=GL h3;have ai:v5 ho% 57896044618658097711785492504343953926634992332820282019728792003956564819949≠0:=ai;refine⟨N1 i82 i87 i92 i97 (by decide),?_⟩;show Gr (dec (nb r0)) _ _ _ _ _;rw[ajO hy gG af aw ai];have mD:v5 PJ% 57896044618658097711785492504343953926634992332820282019728792003956564819949=(0-v5 ho% 57896044618658097711785492504343953926634992332820282019728792003956564819949)% 57896044618658097711785492504343953926634992332820282019728792003956564819949:=ph.1.trans (ka.trans (zQ rfl (xY _ _).symm));have tl:v5 vV% 57896044618658097711785492504343953926634992332820282019728792003956564819949=nb r0% ew:=ph.2.1.trans (s1.trans (mF (tr _ (by decide)) hy));exact⟨rfl,mD,tl,ph.2.2.1,ph.2.2.2.trans (gn (ph.1.symm.trans (mD.trans (xY _ _).symm)) s1)⟩
   ·skip
    simp only[cy,c5,cL,c9,decide_eq_true_eq,decide_eq_false_iff_not]at h2;intro DL i76 PI i81 Ux i86 xv i91 hG;have hG:PW [ho,nG] [DL,PI,Ux,xv]:=hG.1;have hm:=BP i0 ll d33;have hz:a7=bR:=by clear aF;omega
    rw[hm.1]at aF;have hy:nb r0% ew<57896044618658097711785492504343953926634992332820282019728792003956564819949:=wQ (by rw[<-aF];exact h0);rw[hm.1]at s1;have q:=UC s1 s2 bm cr dJ ee eU;rw[q]at gG;have af:z75≠0:=by omega
    have aw:¬nb r0/ew=1:=by rw[<-hm.2];omega
    refine⟨N1 i76 i81 i86 i91 (by decide),?_⟩;show Gr (dec (nb r0)) _ _ _ _ _;rw[ajM hy gG af aw];have tl:v5 PI% 57896044618658097711785492504343953926634992332820282019728792003956564819949=nb r0% ew:=hG.2.1.trans (s1.trans (mF (tr _ (by decide)) hy));exact⟨rfl,hG.1,tl,hG.2.2.1,hG.2.2.2.trans (gn (xY _ _).symm s1)⟩
def WA (S:zzS) (K:zzK):Prop:=
 lA 32 λr0=>
 bF 5 λb8=>bF 5 λlR=>bF 5 λm1=>bF 5 λDI=>de λdc=>S 109 [r0] [b8,lR,m1,DI,[dc]]->
 ((((!(decide (dc=1))))=true->
  K [r0] [[0,0,0,0,0,0,0,0,0,0,0,0,0,0,0,0,0,0,0,0,0,0,0,0,0,0,0,0,0,0,0,0],[1]]
 )/\(((!(decide (dc=1))))=false->
  ((
   dj 5 S 50 [b8] λDJ=>
   nF 32 S 108 [DJ,lR,m1] λmf=>
   K [r0] [mf,[0]]
  )/\(
   dj 5 S 50 [b8] λDJ=>
   nF 32 S 108 [DJ,lR,m1] λmf=>
   K [r0] [mf,[0]]
  ))
 ))
theorem aFQ (G):WA (fk G) (eT Au.res 112):=by
 simp(maxSteps:=4000000) only[WA,de,nF,dj,lA,bF];intro r0 i0 b8 i32 lR i37 m1 i42 DI i47 dc kQ kW aF;have aF:PX [r0] [b8,lR,m1,DI,[dc]]:=aF.1;refine⟨λh0=>?_,λh0=>?_⟩
 ·skip
  simp only[cy,c5,cL,c9,decide_eq_true_eq,decide_eq_false_iff_not]at h0;have e:=ao9 aF h0;refine⟨BK SK (by decide),?_⟩;show pz _ _ _;rw[e];exact⟨rfl,by decide⟩
 ·skip
  simp only[cy,c5,cL,c9,decide_eq_true_eq,decide_eq_false_iff_not]at h0;refine⟨?_,?_⟩
  ·skip
   intro DJ i53 s1 mf i58 s2;have s1:v5 DJ% 57896044618658097711785492504343953926634992332820282019728792003956564819949=(0-v5 b8)% 57896044618658097711785492504343953926634992332820282019728792003956564819949:=s1.1;have s2:Ld [DJ,lR,m1] [mf]:=s2.1;obtain⟨zD,ar,a1⟩:=rd_some aF h0;have o1:=CU ar;refine⟨BK i58 (by decide),?_⟩;show pz _ _ _;rw[ar];exact⟨rfl,s2.trans (Ig (BT o1) (ac7 (s1) a1.j))⟩
  ·skip
   intro DJ i53 s1 mf i58 s2;have s1:v5 DJ% 57896044618658097711785492504343953926634992332820282019728792003956564819949=(0-v5 b8)% 57896044618658097711785492504343953926634992332820282019728792003956564819949:=s1.1;have s2:Ld [DJ,lR,m1] [mf]:=s2.1;obtain⟨zD,ar,a1⟩:=rd_some aF h0;have o1:=CU ar;refine⟨BK i58 (by decide),?_⟩;show pz _ _ _;rw[ar];exact⟨rfl,s2.trans (Ig (BT o1) (ac7 (s1) a1.j))⟩
def Wu (S:zzS) (K:zzK):Prop:=
 lA 32 λr0=>
 bF 5 λb8=>bF 5 λlR=>bF 5 λm1=>bF 5 λDI=>S 102 [] [b8,lR,m1,DI]->
 bF 5 λmz=>bF 5 λrr=>bF 5 λko=>bF 5 λB5=>S 107 [b8,lR,m1,DI,r0] [mz,rr,ko,B5]->
 nF 32 S 108 [mz,rr,ko] λDK=>
 K [r0] [DK]
theorem aFJ (G):Wu (fk G) (eT As.res 114):=by
 simp(maxSteps:=4000000) only[Wu,nF,lA,bF];intro r0 i0 b8 i32 lR i37 m1 i42 DI i47 aF mz i52 rr i57 ko i62 B5 i67 s1 DK i72 s2;have aF:PV [] [b8,lR,m1,DI]:=aF.1;have s1:Le [b8,lR,m1,DI,r0] [mz,rr,ko,B5]:=s1.1;have s2:Ld [mz,rr,ko] [DK]:=s2.1;exact⟨ld i72,s2.trans (Ig (jc mM _) (s1 _ mM (YK aF)).j)⟩
def Wz (S:zzS) (K:zzK):Prop:=
 lA 32 λr0=>lA 32 λb8=>lA 32 λlS=>
 bF 5 λxx=>bF 5 λqF=>bF 5 λH4=>bF 5 λH5=>de λz116=>S 109 [b8] [xx,qF,H4,H5,[z116]]->
 ((((!(decide (z116=1))))=true->
  K [r0,b8,lS] [[0,0,0,0,0,0,0,0,0,0,0,0,0,0,0,0,0,0,0,0,0,0,0,0,0,0,0,0,0,0,0,0],[1]]
 )/\(((!(decide (z116=1))))=false->
  ((
   bF 5 λtg=>bF 5 λAB=>bF 5 λAD=>bF 5 λkG=>S 107 [xx,qF,H4,H5,r0] [tg,AB,AD,kG]->
   bF 5 λth=>bF 5 λAE=>bF 5 λAF=>bF 5 λAG=>S 102 [] [th,AE,AF,AG]->
   bF 5 λu3=>bF 5 λAH=>bF 5 λdv=>bF 5 λAI=>S 107 [th,AE,AF,AG,lS] [u3,AH,dv,AI]->
   bF 5 λAJ=>bF 5 λAK=>bF 5 λAL=>bF 5 λH6=>S 105 [tg,AB,AD,kG,u3,AH,dv,AI] [AJ,AK,AL,H6]->
   nF 32 S 108 [AJ,AK,AL] λpU=>
   K [r0,b8,lS] [pU,[0]]
  )/\(
   bF 5 λtg=>bF 5 λAB=>bF 5 λAD=>bF 5 λkG=>S 107 [xx,qF,H4,H5,r0] [tg,AB,AD,kG]->
   bF 5 λth=>bF 5 λAE=>bF 5 λAF=>bF 5 λAG=>S 102 [] [th,AE,AF,AG]->
   bF 5 λu3=>bF 5 λAH=>bF 5 λdv=>bF 5 λAI=>S 107 [th,AE,AF,AG,lS] [u3,AH,dv,AI]->
   bF 5 λAJ=>bF 5 λAK=>bF 5 λAL=>bF 5 λH6=>S 105 [tg,AB,AD,kG,u3,AH,dv,AI] [AJ,AK,AL,H6]->
   nF 32 S 108 [AJ,AK,AL] λpU=>
   K [r0,b8,lS] [pU,[0]]
  ))
 ))
theorem aFP (G):Wz (fk G) (eT At.res 115):=by
 simp(maxSteps:=4000000) only[Wz,de,nF,lA,bF];intro r0 i0 b8 i32 lS i64 xx i96 qF i101 H4 i106 H5 i111 z116 a116 YF aF;have aF:PX [b8] [xx,qF,H4,H5,[z116]]:=aF.1;refine⟨λh0=>?_,λh0=>?_⟩
 ·skip
  simp only[cy,c5,cL,c9,decide_eq_true_eq,decide_eq_false_iff_not]at h0;have e:=ao9 aF h0;refine⟨BK SK (by decide),?_⟩;show pz _ _ _;rw[e];exact⟨rfl,by decide⟩
 ·skip
  simp only[cy,c5,cL,c9,decide_eq_true_eq,decide_eq_false_iff_not]at h0;refine⟨?_,?_⟩
  ·skip
   intro tg i117 AB i122 AD i127 kG i132 s1 th i137 AE i142 AF i147 AG i152 s2 u3 i157 AH i162 dv i167 AI aBi bm AJ aBj AK aBk AL aBl H6 aBm cr pU SG dJ;have s1:Le [xx,qF,H4,H5,r0] [tg,AB,AD,kG]:=s1.1;have s2:PV [] [th,AE,AF,AG]:=s2.1;have bm:Le [th,AE,AF,AG,lS] [u3,AH,dv,AI]:=bm.1;have cr:UK [tg,AB,AD,kG,u3,AH,dv,AI] [AJ,AK,AL,H6]:=cr.1;have dJ:Ld [AJ,AK,AL] [pU]:=dJ.1;obtain⟨zD,ar,a1⟩:=rd_some aF h0;have o1:=CU ar;refine⟨BK SG (by decide),?_⟩;show pz _ _ _;rw[ar];have k1:=s1 _ o1 a1;have k2:=bm _ mM (YK s2);exact⟨rfl,dJ.trans (Ig (vt (jc o1 _) (jc mM _)) (cr _ _ (jc o1 _) (jc mM _) k1 k2).j)⟩
  ·skip
   intro tg i117 AB i122 AD i127 kG i132 s1 th i137 AE i142 AF i147 AG i152 s2 u3 i157 AH i162 dv i167 AI aBi bm AJ aBj AK aBk AL aBl H6 aBm cr pU SG dJ;have s1:Le [xx,qF,H4,H5,r0] [tg,AB,AD,kG]:=s1.1;have s2:PV [] [th,AE,AF,AG]:=s2.1;have bm:Le [th,AE,AF,AG,lS] [u3,AH,dv,AI]:=bm.1;have cr:UK [tg,AB,AD,kG,u3,AH,dv,AI] [AJ,AK,AL,H6]:=cr.1;have dJ:Ld [AJ,AK,AL] [pU]:=dJ.1;obtain⟨zD,ar,a1⟩:=rd_some aF h0;have o1:=CU ar;refine⟨BK SG (by decide),?_⟩;show pz _ _ _;rw[ar];have k1:=s1 _ o1 a1;have k2:=bm _ mM (YK s2);exact⟨rfl,dJ.trans (Ig (vt (jc o1 _) (jc mM _)) (cr _ _ (jc o1 _) (jc mM _) k1 k2).j)⟩
end Go.Fd
namespace Go.Fd
open Go.bX
def WX (S:zzS) (K:zzK):Prop:=
 K [] [[8496970652267935907,31536524315187371,10144147576115030168,5909686906226998899]]
theorem aGx (G):WX (fk G) (eT rf.res 120):=by
 unfold WX;exact⟨by simp[rf,aU,D.bds,dA,ay,aS],by show aa _=dt;decide⟩
def Xi (S:zzS) (K:zzK):Prop:=
 K [] [[0,0,0,0],[1,0,0,0],[1,0,0,0]]
theorem aG9 (G):Xi (fk G) (eT vM.res 121):=by
 unfold Xi;exact⟨abG Am SJ SJ,by decide,by decide,by decide⟩
def WV (S:zzS) (K:zzK):Prop:=
 cz 4 λr0=>cz 4 λaZ=>cz 4 λet=>cz 4 λjv=>cz 4 λdV=>cz 4 λdM=>
 dI 4 S 36 [et,dM] λhE=>
 dI 4 S 36 [hE,hE] λmY=>
 dI 4 S 36 [r0,jv] λb8=>
 dI 4 S 36 [aZ,dV] λj9=>
 dI 4 S 120 [] λiz=>
 dI 4 S 36 [b8,j9] λyN=>
 dI 4 S 36 [iz,yN] λti=>
 dI 4 S 41 [mY,ti] λmz=>
 dI 4 S 40 [mY,ti] λH8=>
 dI 4 S 36 [r0,dV] λqG=>
 dI 4 S 36 [aZ,jv] λlS=>
 dI 4 S 40 [qG,lS] λu6=>
 dI 4 S 40 [j9,b8] λDK=>
 dI 4 S 36 [hE,mz] λDL=>
 dI 4 S 36 [DL,u6] λu7=>
 dI 4 S 36 [hE,H8] λuf=>
 dI 4 S 36 [uf,DK] λadY=>
 dI 4 S 36 [mz,H8] λFV=>
 K [r0,aZ,et,jv,dV,dM] [u7,adY,FV]
theorem aGu (G):WV (fk G) (eT sc.res 122):=by
 simp(maxSteps:=4000000) only[WV,dI,cz];intro r0 i0 aZ i4 et i8 jv i12 dV i16 dM i20 hE i24 aF mY i28 s1 b8 i32 s2 j9 i36 bm iz i40 cr yN i44 dJ ti i48 ee mz i52 eU H8 i56 gG qG i60 hG lS i64 ka u6 i68 ph DK i72 Iq DL i76 Ir u7 i80 Is uf i84 B7 adY i88 aek FV i92 ael;have aF:aa hE=aa et*aa dM% 57896044618658097711785492504343953926634992332820282019728792003956564819949:=aF.1;have s1:aa mY=aa hE*aa hE% 57896044618658097711785492504343953926634992332820282019728792003956564819949:=s1.1;have s2:aa b8=aa r0*aa jv% 57896044618658097711785492504343953926634992332820282019728792003956564819949:=s2.1;have bm:aa j9=aa aZ*aa dV% 57896044618658097711785492504343953926634992332820282019728792003956564819949:=bm.1;have cr:aa iz=dt:=cr.1;have dJ:aa yN=aa b8*aa j9% 57896044618658097711785492504343953926634992332820282019728792003956564819949:=dJ.1;have ee:aa ti=aa iz*aa yN% 57896044618658097711785492504343953926634992332820282019728792003956564819949:=ee.1;have eU:aa mz=(aa mY-aa ti+(if aa mY<aa ti then 57896044618658097711785492504343953926634992332820282019728792003956564819949 else 0))% 115792089237316195423570985008687907853269984665640564039457584007913129639936:=eU.1;have gG:aa H8=(aa mY+aa ti)% 115792089237316195423570985008687907853269984665640564039457584007913129639936% 57896044618658097711785492504343953926634992332820282019728792003956564819949:=gG.1;have hG:aa qG=aa r0*aa dV% 57896044618658097711785492504343953926634992332820282019728792003956564819949:=hG.1;have ka:aa lS=aa aZ*aa jv% 57896044618658097711785492504343953926634992332820282019728792003956564819949:=ka.1;have ph:aa u6=(aa qG+aa lS)% 115792089237316195423570985008687907853269984665640564039457584007913129639936% 57896044618658097711785492504343953926634992332820282019728792003956564819949:=ph.1;have Iq:aa DK=(aa j9+aa b8)% 115792089237316195423570985008687907853269984665640564039457584007913129639936% 57896044618658097711785492504343953926634992332820282019728792003956564819949:=Iq.1;have Ir:aa DL=aa hE*aa mz% 57896044618658097711785492504343953926634992332820282019728792003956564819949:=Ir.1;have Is:aa u7=aa DL*aa u6% 57896044618658097711785492504343953926634992332820282019728792003956564819949:=Is.1;have B7:aa uf=aa hE*aa H8% 57896044618658097711785492504343953926634992332820282019728792003956564819949:=B7.1;have aek:aa adY=aa uf*aa DK% 57896044618658097711785492504343953926634992332820282019728792003956564819949:=aek.1;have ael:aa FV=aa mz*aa H8% 57896044618658097711785492504343953926634992332820282019728792003956564819949:=ael.1;refine⟨abG i80 i88 i92,?_⟩;intro A B aQ dm a1 bB;have akX:=FN s1;have akY:=FN ee;have axY:=FN hG;have axV:=FN ka;have axX:=FN bm;have axW:=FN s2;have k1:aa ti% 57896044618658097711785492504343953926634992332820282019728792003956564819949=dt*aa yN% 57896044618658097711785492504343953926634992332820282019728792003956564819949:=by rw[ee,cr];exact xY _ _
 have k2:aa mz% 57896044618658097711785492504343953926634992332820282019728792003956564819949=(aa mY-aa ti)% 57896044618658097711785492504343953926634992332820282019728792003956564819949:=by rw[eU];exact aj3 akX akY
 have k3:aa H8% 57896044618658097711785492504343953926634992332820282019728792003956564819949=(aa mY+aa ti)% 57896044618658097711785492504343953926634992332820282019728792003956564819949:=by rw[gG];exact smod akX akY
 have k4:aa u6% 57896044618658097711785492504343953926634992332820282019728792003956564819949=(aa qG+aa lS)% 57896044618658097711785492504343953926634992332820282019728792003956564819949:=by rw[ph];exact smod axY axV
 have tS:aa DK% 57896044618658097711785492504343953926634992332820282019728792003956564819949=(aa j9+aa b8)% 57896044618658097711785492504343953926634992332820282019728792003956564819949:=by rw[Iq];exact smod axX axW
 exact apf aQ dm a1 bB (uc aF) (uc s1) (uc s2) (uc bm) (uc dJ) k1 k2 k3 (uc hG) (uc ka) k4 tS (uc Ir) (uc Is) (uc B7) (uc aek) (uc ael)
def W8 (S:zzS) (K:zzK):Prop:=
 lA 32 λr0=>cz 4 λb8=>cz 4 λj9=>cz 4 λiz=>
 cz 4 λyN=>cz 4 λti=>cz 4 λmz=>S 121 [] [yN,ti,mz]->
 ∃(QL:List (List Int)->Prop) (Wo:List (List Int)->Nat),QL [[255],yN,ti,mz]/\(hP (-1) 255 λcO=>cz 4 λmf=>cz 4 λko=>cz 4 λqH=>QL [[cO],mf,ko,qH]->
  (((decide (0<=cO))=true->
   cz 4 λho=>cz 4 λk6=>cz 4 λyO=>S 122 [mf,ko,qH,mf,ko,qH] [ho,k6,yO]->
   au 0 31 cO 8 λlD=>
   dS 255 (I r0 (lD).toNat 0) λjI=>
   au 0 31 cO 8 λlV=>
   dS 255 (jI/2^((cO+((-8)*lV))).toNat) λz85=>
   au 0 127 z85 2 λlE=>
   (((decide ((z85+((-2)*lE))=1))=true->
    cz 4 λvV=>cz 4 λxv=>cz 4 λxw=>S 122 [ho,k6,yO,b8,j9,iz] [vV,xv,xw]->
    (QL [[(cO+(-1))],vV,xv,xw]/\Wo [[(cO+(-1))],vV,xv,xw]<Wo [[cO],mf,ko,qH])
   )/\((decide ((z85+((-2)*lE))=1))=false->
    (QL [[(cO+(-1))],ho,k6,yO]/\Wo [[(cO+(-1))],ho,k6,yO]<Wo [[cO],mf,ko,qH])
   ))
  )/\((decide (0<=cO))=false->
   K [r0,b8,j9,iz] [mf,ko,qH]
  ))
 )
theorem aGG (G):W8 (fk G) (XC G):=by
 simp(maxSteps:=4000000) only[W8,dS,hP,au,lA,cz];intro r0 i0 b8 i32 j9 i36 iz i40 yN i44 ti i48 mz i52 aF;have Lc:=aF.2;have aF:aeu [] [yN,ti,mz]:=aF.1;refine⟨λl=>match l with|[[i],x,y,z]=>(∀A,on A->lX (aa b8) (aa j9) (aa iz) A->lX (aa x) (aa y) (aa z) (eo ((nb r0).toNat/2^(i+1).toNat) A))/\[x,y,z].flatten=u9 G [b8,j9,iz].flatten (nb r0).toNat (255-i).toNat|_=>False,λl=>match l with|[[i],_,_,_]=>(i+1).toNat|_=>0,?_,?_⟩
 ·show(∀A,on A->lX (aa b8) (aa j9) (aa iz) A->lX (aa yN) (aa ti) (aa mz) (eo ((nb r0).toNat/2^(255+1:Int).toNat) A))/\[yN,ti,mz].flatten=u9 G [b8,j9,iz].flatten (nb r0).toNat (255-255:Int).toNat;refine⟨λA aQ ai=>?_,Lc⟩;rw[aqq i0];exact aJ5 aF
 ·intro cO kv kj mf i58 ko i62 qH i66 dU;have dU:(∀A,on A->lX (aa b8) (aa j9) (aa iz) A->lX (aa mf) (aa ko) (aa qH) (eo ((nb r0).toNat/2^(cO+1).toNat) A))/\[mf,ko,qH].flatten=u9 G [b8,j9,iz].flatten (nb r0).toNat (255-cO).toNat:=dU;refine⟨λh0=>?_,λh0=>?_⟩
  ·skip
   simp only[cy,c5,cL,c9,decide_eq_true_eq,decide_eq_false_iff_not]at h0;intro ho i70 k6 i74 yO i78 s1 lD wC wM EB d82 jI wD wN G4 lV wE wO EC d84 z85 a85 zN JF lE CJ CM GQ d86;have It:=s1.2;have s1:UL [mf,ko,qH,mf,ko,qH] [ho,k6,yO]:=s1.1;refine⟨λh1=>?_,λh1=>?_⟩
   ·skip
    simp only[cy,c5,cL,c9,decide_eq_true_eq,decide_eq_false_iff_not]at h1;intro vV i87 xv i91 xw i95 s2;have aem:=s2.2;have s2:UL [ho,k6,yO,b8,j9,iz] [vV,xv,xw]:=s2.1;obtain⟨i,rfl⟩:=oP h0;have hb:=Q8 i0 kj EB d82 G4 EC d84 JF GQ d86;have nv:((i:Int)+1).toNat=i+1:=by omega
    have uH:((i:Int)+(-1)+1).toNat=i:=by omega
    obtain⟨dU,hF⟩:=dU;rw[nv]at dU;have sW:(255-(i:Int)).toNat=255-i:=by omega
    have zV:(255-((i:Int)+(-1))).toNat=(255-i)+1:=by omega
    have zW:255-(255-i)=i:=by omega
    rw[sW]at hF;have g0:[ho,k6,yO].flatten=G 122 [mf,ko,qH,mf,ko,qH].flatten:=It;rw[ZM,hF]at g0;have g1:[vV,xv,xw].flatten=G 122 [ho,k6,yO,b8,j9,iz].flatten:=aem;rw[ZM,g0]at g1;have cB:(nb r0).toNat/2^i% 2=1:=by omega
    refine⟨⟨λA aQ ai=>?_,?_⟩,?_⟩
    ·show lX (aa vV) (aa xv) (aa xw) (eo ((nb r0).toNat/2^((i:Int)+(-1)+1).toNat) A);rw[uH,aoi aQ cB];have s6:=dU A aQ ai;have k1:=s1 _ _ (jc aQ _) (jc aQ _) s6 s6;exact s2 _ _ (vt (jc aQ _) (jc aQ _)) aQ k1 ai
    ·show [vV,xv,xw].flatten=u9 G [b8,j9,iz].flatten (nb r0).toNat (255-((i:Int)+(-1))).toNat;rw[zV,u9,zW];have:((nb r0).toNat/2^i% 2==1)=true:=by simpa using cB
     rw[this,cond_true];exact g1
    ·show((i:Int)+(-1)+1).toNat<((i:Int)+1).toNat;omega
   ·skip
    simp only[cy,c5,cL,c9,decide_eq_true_eq,decide_eq_false_iff_not]at h1;obtain⟨i,rfl⟩:=oP h0;have hb:=Q8 i0 kj EB d82 G4 EC d84 JF GQ d86;have nv:((i:Int)+1).toNat=i+1:=by omega
    have uH:((i:Int)+(-1)+1).toNat=i:=by omega
    obtain⟨dU,hF⟩:=dU;rw[nv]at dU;have sW:(255-(i:Int)).toNat=255-i:=by omega
    have zV:(255-((i:Int)+(-1))).toNat=(255-i)+1:=by omega
    have zW:255-(255-i)=i:=by omega
    rw[sW]at hF;have g0:[ho,k6,yO].flatten=G 122 [mf,ko,qH,mf,ko,qH].flatten:=It;rw[ZM,hF]at g0;have cB:(nb r0).toNat/2^i% 2≠1:=by omega
    refine⟨⟨λA aQ ai=>?_,?_⟩,?_⟩
    ·show lX (aa ho) (aa k6) (aa yO) (eo ((nb r0).toNat/2^((i:Int)+(-1)+1).toNat) A);rw[uH,aoh aQ cB];have s6:=dU A aQ ai;exact s1 _ _ (jc aQ _) (jc aQ _) s6 s6
    ·show [ho,k6,yO].flatten=u9 G [b8,j9,iz].flatten (nb r0).toNat (255-((i:Int)+(-1))).toNat;rw[zV,u9,zW];have:((nb r0).toNat/2^i% 2==1)=false:=by simpa using cB
     rw[this,cond_false];exact g0
    ·show((i:Int)+(-1)+1).toNat<((i:Int)+1).toNat;omega
  ·skip
   simp only[cy,c5,cL,c9,decide_eq_true_eq,decide_eq_false_iff_not]at h0;obtain⟨dU,hF⟩:=dU;have nv:(cO+1).toNat=0:=by omega
   have sW:(255-cO).toNat=256:=by omega
   rw[nv]at dU;rw[sW]at hF;refine⟨⟨abG i58 i62 i66,?_⟩,hF⟩;intro A aQ ai;have dU:=dU A aQ ai
   rwa [Nat.pow_zero,Nat.div_one]at dU
def WS (S:zzS) (K:zzK):Prop:=
 cz 4 λr0=>cz 4 λaZ=>cz 4 λet=>
 dI 4 S 45 [et] λjv=>
 dI 4 S 36 [r0,jv] λdV=>
 dI 4 S 36 [aZ,jv] λdM=>
 nF 32 S 27 [dM] λhE=>
 au 0 xk (I dV 0 0) 2 λeg=>
 bo ((128*(I dV 0 0))+((I hE 31 0)+((-256)*eg))) 256 λcO=>
 K [r0,aZ,et] [[(I hE 0 0),(I hE 1 0),(I hE 2 0),(I hE 3 0),(I hE 4 0),(I hE 5 0),(I hE 6 0),(I hE 7 0),(I hE 8 0),(I hE 9 0),(I hE 10 0),(I hE 11 0),(I hE 12 0),(I hE 13 0),(I hE 14 0),(I hE 15 0),(I hE 16 0),(I hE 17 0),(I hE 18 0),(I hE 19 0),(I hE 20 0),(I hE 21 0),(I hE 22 0),(I hE 23 0),(I hE 24 0),(I hE 25 0),(I hE 26 0),(I hE 27 0),(I hE 28 0),(I hE 29 0),(I hE 30 0),((128*(I dV 0 0))+((I hE 31 0)+(((-256)*eg)+((-256)*cO))))]]
theorem aGr (G):WS (fk G) (eT sb.res 124):=by
 simp(maxSteps:=4000000) only[WS,au,bo,nF,dI,cz,xk];intro r0 i0 aZ i4 et i8 jv i12 aF dV i16 s1 dM i20 s2 hE i24 bm eg kR lj sR d56 cO kv kj qZ d57;have aF:aa jv=cn (aa et) tF:=aF.1;have s1:aa dV=aa r0*aa jv% 57896044618658097711785492504343953926634992332820282019728792003956564819949:=s1.1;have s2:aa dM=aa aZ*aa jv% 57896044618658097711785492504343953926634992332820282019728792003956564819949:=s2.1;have bm:nb hE=aa dM:=bm.1;have er:aa dM=aa aZ*ma (aa et)% 57896044618658097711785492504343953926634992332820282019728792003956564819949:=s2.trans (by rw[aF];rfl);have a1:aa dV=aa r0*ma (aa et)% 57896044618658097711785492504343953926634992332820282019728792003956564819949:=s1.trans (by rw[aF];rfl);rw[er]at bm;have hlt:nb hE<ew:=by rw[bm];exact Int.lt_trans (pb _).2 (by decide)
 have aA:=aqo i24 hlt;have hg:=akR i24;have hp:=OS dV;have hz:cO=0:=by clear aF s1 s2 bm er a1 hlt;omega
 subst hz;refine⟨amG i24 (by clear aF s1 s2 bm er a1 hlt;omega) (by clear aF s1 s2 bm er a1 hlt;omega),?_⟩;show nb _=Bq (aa r0) (aa aZ) (aa et);rw[ac6 i24];unfold Bq;rw[<-a1,bm,hp];unfold ew;clear aF s1 s2 bm er a1 hlt;omega
def Xe (S:zzS) (K:zzK):Prop:=
 lA 32 λr0=>
 bo (I r0 31 0) 128 λa7=>
 dI 4 S 37 [[(I r0 0 0),(I r0 1 0),(I r0 2 0),(I r0 3 0),(I r0 4 0),(I r0 5 0),(I r0 6 0),(I r0 7 0),(I r0 8 0),(I r0 9 0),(I r0 10 0),(I r0 11 0),(I r0 12 0),(I r0 13 0),(I r0 14 0),(I r0 15 0),(I r0 16 0),(I r0 17 0),(I r0 18 0),(I r0 19 0),(I r0 20 0),(I r0 21 0),(I r0 22 0),(I r0 23 0),(I r0 24 0),(I r0 25 0),(I r0 26 0),(I r0 27 0),(I r0 28 0),(I r0 29 0),(I r0 30 0),((I r0 31 0)+((-128)*a7))]] λcq=>
 dI 4 S 28 [] λlR=>
 de λcI=>S 42 [cq,lR] [[cI]]->
 ((((!(decide (cI=1))))=true->
  K [r0] [[0,0,0,0],[0,0,0,0],[0,0,0,0],[(cond (false) 1 0)]]
 )/\(((!(decide (cI=1))))=false->
  dI 4 S 36 [cq,cq] λm1=>
  dI 4 S 120 [] λUt=>
  dI 4 S 36 [Ut,m1] λpW=>
  dI 4 S 40 [pW,[1,0,0,0]] λUu=>
  dI 4 S 41 [m1,[1,0,0,0]] λmf=>
  dI 4 S 45 [Uu] λko=>
  dI 4 S 36 [mf,ko] λqH=>
  cz 4 λho=>de λjq=>S 38 [qH] [ho,[jq]]->
  ((((!(decide (jq=1))))=true->
   K [r0] [[0,0,0,0],[0,0,0,0],[0,0,0,0],[(cond (false) 1 0)]]
  )/\(((!(decide (jq=1))))=false->
   (((decide (128<=(I r0 31 0)))=true->
    (((decide (ho=[0,0,0,0]))=true->
     K [r0] [[0,0,0,0],[0,0,0,0],[0,0,0,0],[(cond (false) 1 0)]]
    )/\((decide (ho=[0,0,0,0]))=false->
     dI 4 S 41 [[0,0,0,0],ho] λvU=>
     K [r0] [vU,cq,[1,0,0,0],[(cond (true) 1 0)]]
    ))
   )/\((decide (128<=(I r0 31 0)))=false->
    K [r0] [ho,cq,[1,0,0,0],[(cond (true) 1 0)]]
   ))
  ))
 ))
theorem aGS (G):Xe (fk G) (eT sf.res 125):=by
 simp(maxSteps:=4000000) only[Xe,de,bo,dI,lA,cz];intro r0 i0 a7 cD gm rN d32 cq i33 aF lR i37 s1 cI jM jO s2;have aF:aa cq=nb [(I r0 0 0),(I r0 1 0),(I r0 2 0),(I r0 3 0),(I r0 4 0),(I r0 5 0),(I r0 6 0),(I r0 7 0),(I r0 8 0),(I r0 9 0),(I r0 10 0),(I r0 11 0),(I r0 12 0),(I r0 13 0),(I r0 14 0),(I r0 15 0),(I r0 16 0),(I r0 17 0),(I r0 18 0),(I r0 19 0),(I r0 20 0),(I r0 21 0),(I r0 22 0),(I r0 23 0),(I r0 24 0),(I r0 25 0),(I r0 26 0),(I r0 27 0),(I r0 28 0),(I r0 29 0),(I r0 30 0),((I r0 31 0)+((-128)*a7))]:=aF.1;have s1:aa lR=57896044618658097711785492504343953926634992332820282019728792003956564819949:=s1.1;have s2:cI=bit (aa cq<aa lR):=s2.1;refine⟨λh0=>?_,λh0=>?_⟩
 ·skip
  simp only[cy,c5,cL,c9,decide_eq_true_eq,decide_eq_false_iff_not]at h0;have hm:=BP i0 rN d32;rw[hm.1]at aF;rw[aF,s1]at s2;refine⟨N2 Am Am Am (by decide),?_⟩;rw[s2]at h0;show Em (dec (nb r0)) _ _ _ _;rw[ajL (GL h0)];rfl
 ·skip
  simp only[cy,c5,cL,c9,decide_eq_true_eq,decide_eq_false_iff_not]at h0;intro m1 i42 bm Ut i46 cr pW i50 dJ Uu i54 ee mf i58 eU ko i62 gG qH i66 hG ho i70 jq zH zL ka;have bm:aa m1=aa cq*aa cq% 57896044618658097711785492504343953926634992332820282019728792003956564819949:=bm.1;have cr:aa Ut=dt:=cr.1;have dJ:aa pW=aa Ut*aa m1% 57896044618658097711785492504343953926634992332820282019728792003956564819949:=dJ.1;have ee:aa Uu=(aa pW+aa [1,0,0,0])% 115792089237316195423570985008687907853269984665640564039457584007913129639936% 57896044618658097711785492504343953926634992332820282019728792003956564819949:=ee.1;have eU:aa mf=(aa m1-aa [1,0,0,0]+(if aa m1<aa [1,0,0,0]then 57896044618658097711785492504343953926634992332820282019728792003956564819949 else 0))% 115792089237316195423570985008687907853269984665640564039457584007913129639936:=eU.1;have gG:aa ko=cn (aa Uu) tF:=gG.1;have hG:aa qH=aa mf*aa ko% 57896044618658097711785492504343953926634992332820282019728792003956564819949:=hG.1;have ka:(aa ho,jq)=qJ (aa qH):=ka.1;refine⟨λh1=>?_,λh1=>?_⟩
  ·skip
   simp only[cy,c5,cL,c9,decide_eq_true_eq,decide_eq_false_iff_not]at h1;have hm:=BP i0 rN d32;rw[hm.1]at aF;rw[aF,s1]at s2;have hy:nb r0% ew<57896044618658097711785492504343953926634992332820282019728792003956564819949:=wQ (by rw[<-s2];exact h0);have q:=UH aF bm cr dJ ee eU gG hG;rw[q,<-UU (pb _).1 (pb _).2]at ka;have af:jq=0:=by omega
   refine⟨N2 Am Am Am (by decide),?_⟩;show Em (dec (nb r0)) _ _ _ _;rw[ajN hy ka af];rfl
  ·skip
   simp only[cy,c5,cL,c9,decide_eq_true_eq,decide_eq_false_iff_not]at h1;refine⟨λh2=>?_,λh2=>?_⟩
   ·skip
    simp only[cy,c5,cL,c9,decide_eq_true_eq,decide_eq_false_iff_not]at h2;refine⟨λh3=>?_,λh3=>?_⟩
    ·skip
     simp only[cy,c5,cL,c9,decide_eq_true_eq,decide_eq_false_iff_not]at h3;have hm:=BP i0 rN d32;rw[hm.1]at aF;rw[aF,s1]at s2;have hy:nb r0% ew<57896044618658097711785492504343953926634992332820282019728792003956564819949:=wQ (by rw[<-s2];exact h0);have q:=UH aF bm cr dJ ee eU gG hG;rw[q,<-UU (pb _).1 (pb _).2]at ka;have af:jq≠0:=by omega
     have aw:nb r0/ew=1:=by rw[<-hm.2];omega
     have ai:aa ho=0:=by rw[h3];decide
     refine⟨N2 Am Am Am (by decide),?_⟩;show Em (dec (nb r0)) _ _ _ _;rw[ajP hy ka af aw ai];rfl
    ·skip
     simp only[cy,c5,cL,c9,decide_eq_true_eq,decide_eq_false_iff_not]at h3;intro vU i75 ph;have ph:aa vU=(aa [0,0,0,0]-aa ho+(if aa [0,0,0,0]<aa ho then 57896044618658097711785492504343953926634992332820282019728792003956564819949 else 0))% 115792089237316195423570985008687907853269984665640564039457584007913129639936:=ph.1;have hm:=BP i0 rN d32;rw[hm.1]at aF;rw[aF,s1]at s2;have hy:nb r0% ew<57896044618658097711785492504343953926634992332820282019728792003956564819949:=wQ (by rw[<-s2];exact h0);have q:=UH aF bm cr dJ ee eU gG hG;rw[q,<-UU (pb _).1 (pb _).2]at ka;have af:jq≠0:=by omega
     have aw:nb r0/ew=1:=by rw[<-hm.2];omega
     have ai:aa ho≠0:=λh=>h3 (vP i70 Am (h.trans (by decide)));refine⟨N2 i75 i33 SJ (by decide),?_⟩;show Em (dec (nb r0)) _ _ _ _;rw[ajO hy ka af aw ai];have hr:=aKT ka;have mD:aa vU=(0-aa ho)% 57896044618658097711785492504343953926634992332820282019728792003956564819949:=ph.trans (by rw[show aa [0,0,0,0]=0 by decide];exact diff_eq (by decide) hr);exact⟨rfl,mD,aF,by decide⟩
   ·skip
    simp only[cy,c5,cL,c9,decide_eq_true_eq,decide_eq_false_iff_not]at h2;have hm:=BP i0 rN d32;rw[hm.1]at aF;rw[aF,s1]at s2;have hy:nb r0% ew<57896044618658097711785492504343953926634992332820282019728792003956564819949:=wQ (by rw[<-s2];exact h0);have q:=UH aF bm cr dJ ee eU gG hG;rw[q,<-UU (pb _).1 (pb _).2]at ka;have af:jq≠0:=by omega
    have aw:¬nb r0/ew=1:=by rw[<-hm.2];omega
    refine⟨N2 i70 i33 SJ (by decide),?_⟩;show Em (dec (nb r0)) _ _ _ _;rw[ajM hy ka af aw];exact⟨rfl,rfl,aF,by decide⟩
def W1 (S:zzS) (K:zzK):Prop:=
 K [] [[amY,amZ,am0,am1],[am2,SP,SP,SP],[1,0,0,0]]
theorem aGB (G):W1 (fk G) (eT uW.res 126):=by
 simp(maxSteps:=4000000) only[W1,amY,amZ,am0,am1,am2,SP];exact⟨by simp[uW,aU,D.bds,aV.ia,vW,ay,aS],by decide,by decide,by decide⟩
def WU (S:zzS) (K:zzK):Prop:=
 lA 32 λr0=>
 cz 4 λb8=>cz 4 λj9=>cz 4 λiz=>de λdL=>S 125 [r0] [b8,j9,iz,[dL]]->
 ((((!(decide (dL=1))))=true->
  K [r0] [[0,0,0,0,0,0,0,0,0,0,0,0,0,0,0,0,0,0,0,0,0,0,0,0,0,0,0,0,0,0,0,0],[1]]
 )/\(((!(decide (dL=1))))=false->
  dI 4 S 41 [[0,0,0,0],b8] λrq=>
  nF 32 S 124 [rq,j9,iz] λadX=>
  K [r0] [adX,[0]]
 ))
theorem aGt (G):WU (fk G) (eT Aw.res 129):=by
 simp(maxSteps:=4000000) only[WU,de,nF,dI,lA,cz];intro r0 i0 b8 i32 j9 i36 iz i40 dL kN ky aF;have aF:Lf [r0] [b8,j9,iz,[dL]]:=aF.1;refine⟨λh0=>?_,λh0=>?_⟩
 ·skip
  simp only[cy,c5,cL,c9,decide_eq_true_eq,decide_eq_false_iff_not]at h0;have e:=apz aF h0;refine⟨BK SK (by decide),?_⟩;show pz _ _ _;rw[e];exact⟨rfl,by decide⟩
 ·skip
  simp only[cy,c5,cL,c9,decide_eq_true_eq,decide_eq_false_iff_not]at h0;intro rq i45 s1 adX i49 s2;have s1:aa rq=(aa [0,0,0,0]-aa b8+(if aa [0,0,0,0]<aa b8 then 57896044618658097711785492504343953926634992332820282019728792003956564819949 else 0))% 115792089237316195423570985008687907853269984665640564039457584007913129639936:=s1.1;have s2:aer [rq,j9,iz] [adX]:=s2.1;obtain⟨zD,ar,a1⟩:=apA aF h0;have o1:=CU ar;refine⟨BK i49 (by decide),?_⟩;show pz _ _ _;rw[ar];exact⟨rfl,s2.trans (Ig (BT o1) (ac7 (aJy (s1) (aJG aF ar)) a1))⟩
def WT (S:zzS) (K:zzK):Prop:=
 lA 32 λr0=>lA 32 λb8=>lA 32 λlS=>
 cz 4 λxx=>cz 4 λB2=>cz 4 λsk=>de λD2=>S 125 [b8] [xx,B2,sk,[D2]]->
 ((((!(decide (D2=1))))=true->
  K [r0,b8,lS] [[0,0,0,0,0,0,0,0,0,0,0,0,0,0,0,0,0,0,0,0,0,0,0,0,0,0,0,0,0,0,0,0],[1]]
 )/\(((!(decide (D2=1))))=false->
  cz 4 λsm=>cz 4 λPy=>cz 4 λtg=>S 123 [r0,xx,B2,sk] [sm,Py,tg]->
  cz 4 λPz=>cz 4 λB3=>cz 4 λvS=>S 126 [] [Pz,B3,vS]->
  cz 4 λPA=>cz 4 λth=>cz 4 λPB=>S 123 [lS,Pz,B3,vS] [PA,th,PB]->
  cz 4 λPC=>cz 4 λPD=>cz 4 λPE=>S 122 [sm,Py,tg,PA,th,PB] [PC,PD,PE]->
  nF 32 S 124 [PC,PD,PE] λu3=>
  K [r0,b8,lS] [u3,[0]]
 ))
theorem aGs (G):WT (fk G) (eT Av.res 132):=by
 simp(maxSteps:=4000000) only[WT,de,nF,lA,cz];intro r0 i0 b8 i32 lS i64 xx i96 B2 i100 sk i104 D2 ahs aif aF;have aF:Lf [b8] [xx,B2,sk,[D2]]:=aF.1;refine⟨λh0=>?_,λh0=>?_⟩
 ·skip
  simp only[cy,c5,cL,c9,decide_eq_true_eq,decide_eq_false_iff_not]at h0;have e:=apz aF h0;refine⟨BK SK (by decide),?_⟩;show pz _ _ _;rw[e];exact⟨rfl,by decide⟩
 ·skip
  simp only[cy,c5,cL,c9,decide_eq_true_eq,decide_eq_false_iff_not]at h0;intro sm i109 Py i113 tg i117 s1 Pz i121 B3 i125 vS i129 s2 PA i133 th i137 PB i141 bm PC i145 PD i149 PE i153 cr u3 i157 dJ;have s1:aet [r0,xx,B2,sk] [sm,Py,tg]:=s1.1;have s2:aes [] [Pz,B3,vS]:=s2.1;have bm:aet [lS,Pz,B3,vS] [PA,th,PB]:=bm.1;have cr:UL [sm,Py,tg,PA,th,PB] [PC,PD,PE]:=cr.1;have dJ:aer [PC,PD,PE] [u3]:=dJ.1;obtain⟨zD,ar,a1⟩:=apA aF h0;have o1:=CU ar;refine⟨BK i157 (by decide),?_⟩;show pz _ _ _;rw[ar];have k1:=s1 _ o1 a1;have k2:=bm _ mM (awQ s2);exact⟨rfl,dJ.trans (Ig (vt (jc o1 _) (jc mM _)) (cr _ _ (jc o1 _) (jc mM _) k1 k2))⟩
def W6 (S:zzS) (K:zzK):Prop:=
 K [] [[6346243789798364141,1503914060200516822,0,1152921504606846976]]
theorem aGE (G):W6 (fk G) (eT yC.res 133):=by
 unfold W6;exact⟨by simp[yC,aU,D.bds,dA,ay,aS],by show aa _=(eK:Int);decide⟩
end Go.Fd
namespace Go.ot
open Go.bX
def XU (S:Nat->List Int->List Int->Prop) (K:List Int->List Int->Prop):Prop:=
 aq λz0=>
 aq λav=>
 aq λz2=>
 aq λz3=>
 aq λz4=>
 aq λz5=>
 aq λbb=>
 aq λaJ=>
 aq λaD=>
 aq λz9=>
 aq λaW=>
 aq λaI=>
 aq λz12=>
 aq λaY=>
 aq λaM=>
 aq λaT=>
 aq λbd=>
 aq λaX=>
 aq λbj=>
 aq λbn=>
 aq λz20=>
 aq λz21=>
 aq λz22=>
 aq λbJ=>
 aq λz24=>
 aq λb6=>
 aq λz26=>
 aq λbW=>
 aq λz28=>
 aq λb3=>
 aq λcj=>
 aq λz31=>
 K [z0,av,z2,z3,z4,z5,bb,aJ,aD,z9,aW,aI,z12,aY,aM,aT,bd,aX,bj,bn,z20,z21,z22,bJ,z24,b6,z26,bW,z28,b3,cj,z31] [((1*z0+(256*av+(65536*z2+(iX*z3+(iY*z4+(iZ*z5+(ja*bb+(jt*aJ+0))))))))+0),((1*aD+(256*z9+(65536*aW+(iX*aI+(iY*z12+(iZ*aY+(ja*aM+(jt*aT+0))))))))+0),((1*bd+(256*aX+(65536*bj+(iX*bn+(iY*z20+(iZ*z21+(ja*z22+(jt*bJ+0))))))))+0),((1*z24+(256*b6+(65536*z26+(iX*bW+(iY*z28+(iZ*b3+(ja*cj+(jt*z31+0))))))))+0)]
theorem adx:XU cC λzs rs=>ay (aU lv.res) rs/\cC 22 zs rs:=by
 simp(maxSteps:=4000000) only[XU,aq,iX,iY,iZ,ja,jt];intros;simp only[lv,aU,b5,D.bds,aS,jJ,eM,iq,ay,and_true,cC,vb,num];omega
def XV (S:Nat->List Int->List Int->Prop) (K:List Int->List Int->Prop):Prop:=
 aq λz0=>
 aq λav=>
 aq λz2=>
 aq λz3=>
 aq λz4=>
 aq λz5=>
 aq λbb=>
 aq λaJ=>
 aq λaD=>
 aq λz9=>
 aq λaW=>
 aq λaI=>
 aq λz12=>
 aq λaY=>
 aq λaM=>
 aq λaT=>
 aq λbd=>
 aq λaX=>
 aq λbj=>
 aq λbn=>
 aq λz20=>
 aq λz21=>
 aq λz22=>
 aq λbJ=>
 aq λz24=>
 aq λb6=>
 aq λz26=>
 aq λbW=>
 aq λz28=>
 aq λb3=>
 aq λcj=>
 aq λz31=>
 aq λa7=>
 aq λbR=>
 aq λcf=>
 aq λb7=>
 aq λck=>
 aq λz37=>
 aq λcS=>
 aq λcG=>
 aq λz40=>
 aq λcI=>
 aq λc7=>
 aq λdf=>
 aq λdL=>
 aq λdx=>
 aq λz46=>
 aq λdp=>
 aq λdC=>
 aq λz49=>
 aq λey=>
 aq λz51=>
 aq λdc=>
 aq λz53=>
 aq λef=>
 aq λez=>
 aq λeg=>
 aq λcO=>
 aq λeE=>
 aq λz59=>
 aq λeY=>
 aq λfi=>
 aq λfC=>
 aq λdY=>
 K [z0,av,z2,z3,z4,z5,bb,aJ,aD,z9,aW,aI,z12,aY,aM,aT,bd,aX,bj,bn,z20,z21,z22,bJ,z24,b6,z26,bW,z28,b3,cj,z31,a7,bR,cf,b7,ck,z37,cS,cG,z40,cI,c7,df,dL,dx,z46,dp,dC,z49,ey,z51,dc,z53,ef,ez,eg,cO,eE,z59,eY,fi,fC,dY] [((1*z0+(256*av+(65536*z2+(iX*z3+(iY*z4+(iZ*z5+(ja*bb+(jt*aJ+0))))))))+0),((1*aD+(256*z9+(65536*aW+(iX*aI+(iY*z12+(iZ*aY+(ja*aM+(jt*aT+0))))))))+0),((1*bd+(256*aX+(65536*bj+(iX*bn+(iY*z20+(iZ*z21+(ja*z22+(jt*bJ+0))))))))+0),((1*z24+(256*b6+(65536*z26+(iX*bW+(iY*z28+(iZ*b3+(ja*cj+(jt*z31+0))))))))+0)]
theorem aGf:XV cC λzs rs=>ay (aU BM.res) rs/\cC 122 zs rs:=by
 simp(maxSteps:=4000000) only[XV,aq,iX,iY,iZ,ja,jt];intros;simp only[BM,aU,b5,D.bds,aS,jJ,eM,iq,ay,and_true,cC,yU,num,mG,qS];omega
def XW (S:Nat->List Int->List Int->Prop) (K:List Int->List Int->Prop):Prop:=
 aq λz0=>
 aq λav=>
 aq λz2=>
 aq λz3=>
 aq λz4=>
 aq λz5=>
 aq λbb=>
 aq λaJ=>
 aq λaD=>
 aq λz9=>
 aq λaW=>
 aq λaI=>
 aq λz12=>
 aq λaY=>
 aq λaM=>
 aq λaT=>
 aq λbd=>
 aq λaX=>
 aq λbj=>
 aq λbn=>
 aq λz20=>
 aq λz21=>
 aq λz22=>
 aq λbJ=>
 aq λz24=>
 aq λb6=>
 aq λz26=>
 aq λbW=>
 aq λz28=>
 aq λb3=>
 aq λcj=>
 aq λz31=>
 aq λa7=>
 aq λbR=>
 aq λcf=>
 aq λb7=>
 aq λck=>
 aq λz37=>
 aq λcS=>
 aq λcG=>
 aq λz40=>
 aq λcI=>
 aq λc7=>
 aq λdf=>
 aq λdL=>
 aq λdx=>
 aq λz46=>
 aq λdp=>
 aq λdC=>
 aq λz49=>
 aq λey=>
 aq λz51=>
 aq λdc=>
 aq λz53=>
 aq λef=>
 aq λez=>
 aq λeg=>
 aq λcO=>
 aq λeE=>
 aq λz59=>
 aq λeY=>
 aq λfi=>
 aq λfC=>
 aq λdY=>
 K [z0,av,z2,z3,z4,z5,bb,aJ,aD,z9,aW,aI,z12,aY,aM,aT,bd,aX,bj,bn,z20,z21,z22,bJ,z24,b6,z26,bW,z28,b3,cj,z31,a7,bR,cf,b7,ck,z37,cS,cG,z40,cI,c7,df,dL,dx,z46,dp,dC,z49,ey,z51,dc,z53,ef,ez,eg,cO,eE,z59,eY,fi,fC,dY] [((1*a7+(256*bR+(65536*cf+(iX*b7+(iY*ck+(iZ*z37+(ja*cS+(jt*cG+0))))))))+0),((1*z40+(256*cI+(65536*c7+(iX*df+(iY*dL+(iZ*dx+(ja*z46+(jt*dp+0))))))))+0),((1*dC+(256*z49+(65536*ey+(iX*z51+(iY*dc+(iZ*z53+(ja*ef+(jt*ez+0))))))))+0),((1*eg+(256*cO+(65536*eE+(iX*z59+(iY*eY+(iZ*fi+(ja*fC+(jt*dY+0))))))))+0)]
theorem aGg:XW cC λzs rs=>ay (aU Dp.res) rs/\cC 222 zs rs:=by
 simp(maxSteps:=4000000) only[XW,aq,iX,iY,iZ,ja,jt];intros;simp only[Dp,aU,b5,D.bds,aS,jJ,eM,iq,ay,and_true,cC,yV,num,ur,kL];omega
def XX (S:Nat->List Int->List Int->Prop) (K:List Int->List Int->Prop):Prop:=
 aK λz0=>
 aK λav=>
 aK λz2=>
 aK λz3=>
 aK λz4=>
 aK λz5=>
 aK λbb=>
 aK λaJ=>
 au (-1) 0 ((1*z0+((-1)*z4+0))+0) a8 λaD=>
 au (-1) 0 ((1*av+((-1)*z5+(1*aD+0)))+0) a8 λz9=>
 au (-1) 0 ((1*z2+((-1)*bb+(1*z9+0)))+0) a8 λaW=>
 au (-1) 0 ((1*z3+((-1)*aJ+(1*aW+0)))+0) a8 λaI=>
 K [z0,av,z2,z3,z4,z5,bb,aJ] [((1*z0+((-1)*z4+(ab*aD+0)))+0),((1*av+((-1)*z5+(1*aD+(ab*z9+0))))+0),((1*z2+((-1)*bb+(1*z9+(ab*aW+0))))+0),((1*z3+((-1)*aJ+(1*aW+(ab*aI+0))))+0),(cond (decide ((((-1)*aI+0)+0)=(0+1))) 1 0)]
theorem ady:XX cC λzs rs=>ay (aU jk.res) rs/\cC 29 zs rs:=by
 simp(maxSteps:=4000000) only[XX,aK,au,ab,a8];intros;simp only[jk,aU,b5,D.bds,aS,jJ,eM,iq,ay,and_true,cC,ru,num,mG,qS,ur,kL,h9,gP,Bool.cond_decide];split<;>omega
def XZ (S:Nat->List Int->List Int->Prop) (K:List Int->List Int->Prop):Prop:=
 aK λz0=>
 aK λav=>
 aK λz2=>
 aK λz3=>
 aK λz4=>
 aK λz5=>
 aK λbb=>
 aK λaJ=>
 bo ((1*z0+(1*z4+0))+0) a8 λaD=>
 bo ((1*av+(1*z5+(1*aD+0)))+0) a8 λz9=>
 bo ((1*z2+(1*bb+(1*z9+0)))+0) a8 λaW=>
 bo ((1*z3+(1*aJ+(1*aW+0)))+0) a8 λaI=>
 K [z0,av,z2,z3,z4,z5,bb,aJ] [((1*z0+(1*z4+(ab*aD+0)))+0),((1*av+(1*z5+(1*aD+(ab*z9+0))))+0),((1*z2+(1*bb+(1*z9+(ab*aW+0))))+0),((1*z3+(1*aJ+(1*aW+(ab*aI+0))))+0),((1*aI+0)+0)]
theorem adz:XZ cC λzs rs=>ay (aU jl.res) rs/\cC 24 zs rs:=by
 simp(maxSteps:=4000000) only[XZ,aK,bo,ab,a8];intros;simp only[jl,aU,b5,c1,D.bds,aS,jJ,eM,iq,ay,and_true,cC,rv,num,mG,qS,ur,kL,h9,gP];omega
def XQ (S:Nat->List Int->List Int->Prop) (K:List Int->List Int->Prop):Prop:=
 aK λz0=>
 aK λav=>
 aK λz2=>
 aK λz3=>
 au 0 r6 ((1*z0+0)+0) 256 λz4=>
 au 0 r6 ((1*z0+0)+0) 256 λz5=>
 au 0 r7 ((1*z5+0)+0) 256 λbb=>
 au 0 r7 ((1*z0+0)+0) 65536 λaJ=>
 au 0 j6 ((1*aJ+0)+0) 256 λaD=>
 au 0 j6 ((1*z0+0)+0) iX λz9=>
 au 0 r4 ((1*z9+0)+0) 256 λaW=>
 au 0 r4 ((1*z0+0)+0) iY λaI=>
 au 0 r5 ((1*aI+0)+0) 256 λz12=>
 au 0 r5 ((1*z0+0)+0) iZ λaY=>
 au 0 65535 ((1*aY+0)+0) 256 λaM=>
 au 0 65535 ((1*z0+0)+0) ja λaT=>
 au 0 255 ((1*aT+0)+0) 256 λbd=>
 au 0 255 ((1*z0+0)+0) jt λaX=>
 au 0 r6 ((1*av+0)+0) 256 λbj=>
 au 0 r6 ((1*av+0)+0) 256 λbn=>
 au 0 r7 ((1*bn+0)+0) 256 λz20=>
 au 0 r7 ((1*av+0)+0) 65536 λz21=>
 au 0 j6 ((1*z21+0)+0) 256 λz22=>
 au 0 j6 ((1*av+0)+0) iX λbJ=>
 au 0 r4 ((1*bJ+0)+0) 256 λz24=>
 au 0 r4 ((1*av+0)+0) iY λb6=>
 au 0 r5 ((1*b6+0)+0) 256 λz26=>
 au 0 r5 ((1*av+0)+0) iZ λbW=>
 au 0 65535 ((1*bW+0)+0) 256 λz28=>
 au 0 65535 ((1*av+0)+0) ja λb3=>
 au 0 255 ((1*b3+0)+0) 256 λcj=>
 au 0 255 ((1*av+0)+0) jt λz31=>
 au 0 r6 ((1*z2+0)+0) 256 λa7=>
 au 0 r6 ((1*z2+0)+0) 256 λbR=>
 au 0 r7 ((1*bR+0)+0) 256 λcf=>
 au 0 r7 ((1*z2+0)+0) 65536 λb7=>
 au 0 j6 ((1*b7+0)+0) 256 λck=>
 au 0 j6 ((1*z2+0)+0) iX λz37=>
 au 0 r4 ((1*z37+0)+0) 256 λcS=>
 au 0 r4 ((1*z2+0)+0) iY λcG=>
 au 0 r5 ((1*cG+0)+0) 256 λz40=>
 au 0 r5 ((1*z2+0)+0) iZ λcI=>
 au 0 65535 ((1*cI+0)+0) 256 λc7=>
 au 0 65535 ((1*z2+0)+0) ja λdf=>
 au 0 255 ((1*df+0)+0) 256 λdL=>
 au 0 255 ((1*z2+0)+0) jt λdx=>
 au 0 r6 ((1*z3+0)+0) 256 λz46=>
 au 0 r6 ((1*z3+0)+0) 256 λdp=>
 au 0 r7 ((1*dp+0)+0) 256 λdC=>
 au 0 r7 ((1*z3+0)+0) 65536 λz49=>
 au 0 j6 ((1*z49+0)+0) 256 λey=>
 au 0 j6 ((1*z3+0)+0) iX λz51=>
 au 0 r4 ((1*z51+0)+0) 256 λdc=>
 au 0 r4 ((1*z3+0)+0) iY λz53=>
 au 0 r5 ((1*z53+0)+0) 256 λef=>
 au 0 r5 ((1*z3+0)+0) iZ λez=>
 au 0 65535 ((1*ez+0)+0) 256 λeg=>
 au 0 65535 ((1*z3+0)+0) ja λcO=>
 au 0 255 ((1*cO+0)+0) 256 λeE=>
 au 0 255 ((1*z3+0)+0) jt λz59=>
 K [z0,av,z2,z3] [((1*z0+((-256)*z4+0))+0),((1*z5+((-256)*bb+0))+0),((1*aJ+((-256)*aD+0))+0),((1*z9+((-256)*aW+0))+0),((1*aI+((-256)*z12+0))+0),((1*aY+((-256)*aM+0))+0),((1*aT+((-256)*bd+0))+0),((1*aX+0)+0),((1*av+((-256)*bj+0))+0),((1*bn+((-256)*z20+0))+0),((1*z21+((-256)*z22+0))+0),((1*bJ+((-256)*z24+0))+0),((1*b6+((-256)*z26+0))+0),((1*bW+((-256)*z28+0))+0),((1*b3+((-256)*cj+0))+0),((1*z31+0)+0),((1*z2+((-256)*a7+0))+0),((1*bR+((-256)*cf+0))+0),((1*b7+((-256)*ck+0))+0),((1*z37+((-256)*cS+0))+0),((1*cG+((-256)*z40+0))+0),((1*cI+((-256)*c7+0))+0),((1*df+((-256)*dL+0))+0),((1*dx+0)+0),((1*z3+((-256)*z46+0))+0),((1*dp+((-256)*dC+0))+0),((1*z49+((-256)*ey+0))+0),((1*z51+((-256)*dc+0))+0),((1*z53+((-256)*ef+0))+0),((1*ez+((-256)*eg+0))+0),((1*cO+((-256)*eE+0))+0),((1*z59+0)+0)]
theorem adw:XQ cC λzs rs=>ay (aU jb.res) rs/\cC 26 zs rs:=by
 simp(maxSteps:=4000000) only[XQ,aK,au,iX,iY,iZ,ja,jt,r6,r7,j6,r4,r5];simp only[xW,xV,Cr];intro z0 pa vi av l1 mD z2 l2 tl z3 oG Cc z4 xo Vu a4 mI z5 uY aqv a5 mJ bb anm aqw pB pE aJ HO aqG p9 qc aD yE u8 jN jP z9 Dt Vx a9 fJ aW Tg U1 iQ iE aI xn U2 e8 fc z12 Th U3 a12 iJ aY Ti U4 fP fT aM Tj U5 jf jg aT Ft U6 fF fH bd Tk u16 jx jz aX Tl U7 fG fU bj Tm U8 gd gu bn Tn U9 gf gh z20 To Vb a20 fI z21 Tp Vc a21 fy z22 Tq Vd a22 fp bJ Tr Ve fw dT z24 Ts Vf a24 eG b6 Tt Vg fQ fV z26 Tu Vh a26 fW bW Tv Vi fR gi z28 Tw Vj a28 gA b3 Tx Vk gg gj cj Ty Vl gr gk z31 Tz Vm a31 gK a7 TA u32 cD gm bR Fu Vn e9 fe cf TB Vo fx fA b7 HN Vp fm fq ck TC Vq fa e0 z37 TD Vr a37 fX cS TE Vs fb fr cG TF Vt fo fB z40 TG Vv a40 gL cI ack aeZ jM jO c7 acm ae0 jy iF df acn ae1 kM kS dL aco ae2 kN ky dx acp ae3 lZ ml z46 acq ae4 a46 l3 dp acr ae5 kO kT dC acs ae6 kP kU z49 acu ae7 a49 kV ey acv ae8 l0 mm z51 acw ae9 a51 lf dc acx afa kQ kW z53 acy afb a53 lg ef acz afc lJ lh ez acA afd mi mn eg acB afe kR lj cO acC aff kv kj eE acD afg mj mK z59 acE afh a59 lk;have hX:z4=z5:=Iy (by decide) a4 mI a5 mJ;have oB:bj=bn:=Iy (by decide) gd gu gf gh;have JB:a7=bR:=Iy (by decide) cD gm e9 fe;have EP:z46=dp:=Iy (by decide) a46 l3 kO kT;have wT:bb=aJ:=nT (by decide) a5 mJ pB pE p9 qc;have pH:aD=z9:=nT (by decide) p9 qc jN jP a9 fJ;have qk:aW=aI:=nT (by decide) a9 fJ iQ iE e8 fc;have EJ:z12=aY:=nT (by decide) e8 fc a12 iJ fP fT;have zS:aM=aT:=nT (by decide) fP fT jf jg fF fH;have mP:bd=aX:=nT (by decide) fF fH jx jz fG fU;have EL:z20=z21:=nT (by decide) gf gh a20 fI a21 fy;have ql:z22=bJ:=nT (by decide) a21 fy a22 fp fw dT;have EM:z24=b6:=nT (by decide) fw dT a24 eG fQ fV;have Bl:z26=bW:=nT (by decide) fQ fV a26 fW fR gi;have Mx:z28=b3:=nT (by decide) fR gi a28 gA gg gj;have My:cj=z31:=nT (by decide) gg gj gr gk a31 gK;have Mz:cf=b7:=nT (by decide) e9 fe fx fA fm fq;have GY:ck=z37:=nT (by decide) fm fq fa e0 a37 fX;have EO:cS=cG:=nT (by decide) a37 fX fb fr fo fB;have sU:z40=cI:=nT (by decide) fo fB a40 gL jM jO;have MA:c7=df:=nT (by decide) jM jO jy iF kM kS;have Bm:dL=dx:=nT (by decide) kM kS kN ky lZ ml;have MC:dC=z49:=nT (by decide) kO kT kP kU a49 kV;have qn:ey=z51:=nT (by decide) a49 kV l0 mm a51 lf;have MD:dc=z53:=nT (by decide) a51 lf kQ kW a53 lg;have G0:ef=ez:=nT (by decide) a53 lg lJ lh mi mn;have ES:eg=cO:=nT (by decide) mi mn kR lj kv kj;have sV:eE=z59:=nT (by decide) kv kj mj mK a59 lk;clear pB pE jN jP iQ iE a12 iJ jf jg jx jz a20 fI a22 fp a24 eG a26 fW a28 gA gr gk fx fA fa e0 fb fr a40 gL jy iF kN ky kP kU l0 mm kQ kW lJ lh kR lj mj mK;simp only[hX,oB,JB,EP,wT,pH,qk,EJ,zS,mP,EL,ql,EM,Bl,Mx,My,Mz,GY,EO,sU,MA,Bm,MC,qn,MD,G0,ES,sV];refine⟨?_,?_⟩
 ·simp only[jb,aU,gC,D.bds,aS,jJ,eM,iq,ay,and_true];refine⟨?_,?_,?_,?_,?_,?_,?_,?_,?_,?_,?_,?_,?_,?_,?_,?_,?_,?_,?_,?_,?_,?_,?_,?_,?_,?_,?_,?_,?_,?_,?_,?_,?_,?_,?_,?_,?_,?_,?_,?_,?_,?_,?_,?_,?_,?_,?_,?_,?_,?_,?_,?_,?_,?_,?_,?_,?_,?_,?_,?_,?_,?_,?_,?_⟩<;>omega
 ·simp only[cC,va,num];omega
def X0 (S:Nat->List Int->List Int->Prop) (K:List Int->List Int->Prop):Prop:=
 aK λz0=>
 aK λav=>
 aK λz2=>
 aK λz3=>
 aK λz4=>
 aK λz5=>
 aK λbb=>
 aK λaJ=>
 dS j5 (((1*z0+0)+0)*((1*z4+0)+0)) λaD=>
 au 0 ji ((1*aD+0)+0) a8 λz9=>
 dS j5 (((1*z0+0)+0)*((1*z5+0)+0)) λaW=>
 au 0 ji ((1*aW+0)+0) a8 λaI=>
 bo ((1*z9+(1*aW+(ab*aI+0)))+0) a8 λz12=>
 dS j5 (((1*z0+0)+0)*((1*bb+0)+0)) λaY=>
 au 0 ji ((1*aY+0)+0) a8 λaM=>
 bo ((1*aI+(1*z12+(1*aY+(ab*aM+0))))+0) a8 λaT=>
 dS j5 (((1*z0+0)+0)*((1*aJ+0)+0)) λbd=>
 au 0 ji ((1*bd+0)+0) a8 λaX=>
 bo ((1*aM+(1*aT+(1*bd+(ab*aX+0))))+0) a8 λbj=>
 dS j5 (((1*av+0)+0)*((1*z4+0)+0)) λbn=>
 au 0 ji ((1*bn+0)+0) a8 λz20=>
 bo ((1*z9+(1*aW+(ab*aI+(ab*z12+(1*bn+(ab*z20+0))))))+0) a8 λz21=>
 dS j5 (((1*av+0)+0)*((1*z5+0)+0)) λz22=>
 au 0 ji ((1*z22+0)+0) a8 λbJ=>
 bo ((1*aI+(1*z12+(1*aY+(ab*aM+(ab*aT+(1*z22+(ab*bJ+0)))))))+0) a8 λz24=>
 bo ((1*aI+(1*z12+(1*aY+(ab*aM+(ab*aT+(1*z20+(1*z21+(1*z22+(ab*bJ+(ab*z24+0))))))))))+0) a8 λb6=>
 bo ((1*bJ+(1*z24+(1*b6+0)))+0) a8 λz26=>
 dS j5 (((1*av+0)+0)*((1*bb+0)+0)) λbW=>
 au 0 ji ((1*bW+0)+0) a8 λz28=>
 bo ((1*aM+(1*aT+(1*bd+(ab*aX+(ab*bj+(1*bW+(ab*z28+0)))))))+0) a8 λb3=>
 bo ((1*aM+(1*aT+(1*bd+(ab*aX+(ab*bj+(1*bJ+(1*z24+(1*b6+(ab*z26+(1*bW+(ab*z28+(ab*b3+0))))))))))))+0) a8 λcj=>
 bo ((1*z28+(1*b3+(1*cj+0)))+0) a8 λz31=>
 dS j5 (((1*av+0)+0)*((1*aJ+0)+0)) λa7=>
 au 0 ji ((1*a7+0)+0) a8 λbR=>
 bo ((1*aX+(1*bj+(1*a7+(ab*bR+0))))+0) a8 λcf=>
 bo ((1*aX+(1*bj+(1*z28+(1*b3+(1*cj+(ab*z31+(1*a7+(ab*bR+(ab*cf+0)))))))))+0) a8 λb7=>
 bo ((1*bR+(1*cf+(1*b7+0)))+0) a8 λck=>
 dS j5 (((1*z2+0)+0)*((1*z4+0)+0)) λz37=>
 au 0 ji ((1*z37+0)+0) a8 λcS=>
 bo ((1*aI+(1*z12+(1*aY+(ab*aM+(ab*aT+(1*z20+(1*z21+(1*z22+(ab*bJ+(ab*z24+(ab*b6+(1*z37+(ab*cS+0)))))))))))))+0) a8 λcG=>
 dS j5 (((1*z2+0)+0)*((1*z5+0)+0)) λz40=>
 au 0 ji ((1*z40+0)+0) a8 λcI=>
 bo ((1*aM+(1*aT+(1*bd+(ab*aX+(ab*bj+(1*bJ+(1*z24+(1*b6+(ab*z26+(1*bW+(ab*z28+(ab*b3+(ab*cj+(1*z40+(ab*cI+0)))))))))))))))+0) a8 λc7=>
 bo ((1*aM+(1*aT+(1*bd+(ab*aX+(ab*bj+(1*bJ+(1*z24+(1*b6+(ab*z26+(1*bW+(ab*z28+(ab*b3+(ab*cj+(1*cS+(1*cG+(1*z40+(ab*cI+(ab*c7+0))))))))))))))))))+0) a8 λdf=>
 bo ((1*cI+(1*c7+(1*df+0)))+0) a8 λdL=>
 dS j5 (((1*z2+0)+0)*((1*bb+0)+0)) λdx=>
 au 0 ji ((1*dx+0)+0) a8 λz46=>
 bo ((1*aX+(1*bj+(1*z28+(1*b3+(1*cj+(ab*z31+(1*a7+(ab*bR+(ab*cf+(ab*b7+(1*dx+(ab*z46+0))))))))))))+0) a8 λdp=>
 bo ((1*aX+(1*bj+(1*z28+(1*b3+(1*cj+(ab*z31+(1*a7+(ab*bR+(ab*cf+(ab*b7+(1*cI+(1*c7+(1*df+(ab*dL+(1*dx+(ab*z46+(ab*dp+0)))))))))))))))))+0) a8 λdC=>
 bo ((1*z46+(1*dp+(1*dC+0)))+0) a8 λz49=>
 dS j5 (((1*z2+0)+0)*((1*aJ+0)+0)) λey=>
 au 0 ji ((1*ey+0)+0) a8 λz51=>
 bo ((1*bR+(1*cf+(1*b7+(ab*ck+(1*ey+(ab*z51+0))))))+0) a8 λdc=>
 bo ((1*bR+(1*cf+(1*b7+(ab*ck+(1*z46+(1*dp+(1*dC+(ab*z49+(1*ey+(ab*z51+(ab*dc+0)))))))))))+0) a8 λz53=>
 bo ((1*z51+(1*dc+(1*z53+0)))+0) a8 λef=>
 dS j5 (((1*z3+0)+0)*((1*z4+0)+0)) λez=>
 au 0 ji ((1*ez+0)+0) a8 λeg=>
 bo ((1*aM+(1*aT+(1*bd+(ab*aX+(ab*bj+(1*bJ+(1*z24+(1*b6+(ab*z26+(1*bW+(ab*z28+(ab*b3+(ab*cj+(1*cS+(1*cG+(1*z40+(ab*cI+(ab*c7+(ab*df+(1*ez+(ab*eg+0)))))))))))))))))))))+0) a8 λcO=>
 dS j5 (((1*z3+0)+0)*((1*z5+0)+0)) λeE=>
 au 0 ji ((1*eE+0)+0) a8 λz59=>
 bo ((1*aX+(1*bj+(1*z28+(1*b3+(1*cj+(ab*z31+(1*a7+(ab*bR+(ab*cf+(ab*b7+(1*cI+(1*c7+(1*df+(ab*dL+(1*dx+(ab*z46+(ab*dp+(ab*dC+(1*eE+(ab*z59+0))))))))))))))))))))+0) a8 λeY=>
 bo ((1*aX+(1*bj+(1*z28+(1*b3+(1*cj+(ab*z31+(1*a7+(ab*bR+(ab*cf+(ab*b7+(1*cI+(1*c7+(1*df+(ab*dL+(1*dx+(ab*z46+(ab*dp+(ab*dC+(1*eg+(1*cO+(1*eE+(ab*z59+(ab*eY+0)))))))))))))))))))))))+0) a8 λfi=>
 bo ((1*z59+(1*eY+(1*fi+0)))+0) a8 λfC=>
 dS j5 (((1*z3+0)+0)*((1*bb+0)+0)) λdY=>
 au 0 ji ((1*dY+0)+0) a8 λfN=>
 bo ((1*bR+(1*cf+(1*b7+(ab*ck+(1*z46+(1*dp+(1*dC+(ab*z49+(1*ey+(ab*z51+(ab*dc+(ab*z53+(1*dY+(ab*fN+0))))))))))))))+0) a8 λgN=>
 bo ((1*bR+(1*cf+(1*b7+(ab*ck+(1*z46+(1*dp+(1*dC+(ab*z49+(1*ey+(ab*z51+(ab*dc+(ab*z53+(1*z59+(1*eY+(1*fi+(ab*fC+(1*dY+(ab*fN+(ab*gN+0)))))))))))))))))))+0) a8 λgI=>
 bo ((1*fN+(1*gN+(1*gI+0)))+0) a8 λgp=>
 dS j5 (((1*z3+0)+0)*((1*aJ+0)+0)) λhS=>
 au 0 ji ((1*hS+0)+0) a8 λgq=>
 bo ((1*z51+(1*dc+(1*z53+(ab*ef+(1*hS+(ab*gq+0))))))+0) a8 λz70=>
 bo ((1*z51+(1*dc+(1*z53+(ab*ef+(1*fN+(1*gN+(1*gI+(ab*gp+(1*hS+(ab*gq+(ab*z70+0)))))))))))+0) a8 λhT=>
 bo ((1*gq+(1*z70+(1*hT+0)))+0) a8 λz72=>
 K [z0,av,z2,z3,z4,z5,bb,aJ] [((1*aD+(ab*z9+0))+0),((1*z9+(1*aW+(ab*aI+(ab*z12+(1*bn+(ab*z20+(ab*z21+0)))))))+0),((1*aI+(1*z12+(1*aY+(ab*aM+(ab*aT+(1*z20+(1*z21+(1*z22+(ab*bJ+(ab*z24+(ab*b6+(1*z37+(ab*cS+(ab*cG+0))))))))))))))+0),((1*aM+(1*aT+(1*bd+(ab*aX+(ab*bj+(1*bJ+(1*z24+(1*b6+(ab*z26+(1*bW+(ab*z28+(ab*b3+(ab*cj+(1*cS+(1*cG+(1*z40+(ab*cI+(ab*c7+(ab*df+(1*ez+(ab*eg+(ab*cO+0))))))))))))))))))))))+0),((1*aX+(1*bj+(1*z28+(1*b3+(1*cj+(ab*z31+(1*a7+(ab*bR+(ab*cf+(ab*b7+(1*cI+(1*c7+(1*df+(ab*dL+(1*dx+(ab*z46+(ab*dp+(ab*dC+(1*eg+(1*cO+(1*eE+(ab*z59+(ab*eY+(ab*fi+0))))))))))))))))))))))))+0),((1*bR+(1*cf+(1*b7+(ab*ck+(1*z46+(1*dp+(1*dC+(ab*z49+(1*ey+(ab*z51+(ab*dc+(ab*z53+(1*z59+(1*eY+(1*fi+(ab*fC+(1*dY+(ab*fN+(ab*gN+(ab*gI+0))))))))))))))))))))+0),((1*z51+(1*dc+(1*z53+(ab*ef+(1*fN+(1*gN+(1*gI+(ab*gp+(1*hS+(ab*gq+(ab*z70+(ab*hT+0))))))))))))+0),((1*gq+(1*z70+(1*hT+(ab*z72+0))))+0)]
theorem aGn:X0 cC λzs rs=>ay (aU Dq.res) rs/\cC 21 zs rs:=by
 simp(maxSteps:=4000000) only[X0,dS,aK,au,bo,ab,a8,j5,ji];simp only[xW,xV,Cr];intro z0 pa vi av l1 mD z2 l2 tl z3 oG Cc z4 xo Vu z5 uY aqv bb anm aqw aJ HO aqG aD yE u8 an3 z9 Dt Vx a9 fJ aW Tg U1 anP aI xn U2 e8 fc z12 Th U3 a12 iJ aY Ti U4 anQ aM Tj U5 jf jg aT Ft U6 fF fH bd Tk u16 anR aX Tl U7 fG fU bj Tm U8 gd gu bn Tn U9 anS z20 To Vb a20 fI z21 Tp Vc a21 fy z22 Tq Vd anT bJ Tr Ve fw dT z24 Ts Vf a24 eG b6 Tt Vg fQ fV z26 Tu Vh a26 fW bW Tv Vi anU z28 Tw Vj a28 gA b3 Tx Vk gg gj cj Ty Vl gr gk z31 Tz Vm a31 gK a7 TA u32 m32 bR Fu Vn e9 fe cf TB Vo fx fA b7 HN Vp fm fq ck TC Vq fa e0 z37 TD Vr anV cS TE Vs fb fr cG TF Vt fo fB z40 TG Vv anW cI ack aeZ jM jO c7 acm ae0 jy iF df acn ae1 kM kS dL aco ae2 kN ky dx acp ae3 anX z46 acq ae4 a46 l3 dp acr ae5 kO kT dC acs ae6 kP kU z49 acu ae7 a49 kV ey acv ae8 anY z51 acw ae9 a51 lf dc acx afa kQ kW z53 acy afb a53 lg ef acz afc lJ lh ez acA afd anZ eg acB afe kR lj cO acC aff kv kj eE acD afg an0 z59 acE afh a59 lk eY ann aqx na nj fi ano aqy nc nk fC anp aqz nd mL dY anq aqA an1 fN acF u64 ir nm gN anr aqB nf nn gI ans aqC ng np gp ant aqD nL nq hS TH aqE an2 gq anu aqF nM nO z70 anv aqH a70 nP hT anw aqI nN nQ z72 anx aqJ a72 nR;have Cj:=tN yE u8 an3;have IK:=ct Dt Vx a9 fJ;have DZ:=tN Tg U1 anP;have Lq:=ct xn U2 e8 fc
 have IE:=ct Th U3 a12 iJ;have Lr:=tN Ti U4 anQ;have P4:=ct Tj U5 jf jg;have P5:=ct Ft U6 fF fH
 have P6:=tN Tk u16 anR;have P7:=ct Tl U7 fG fU;have zo:=ct Tm U8 gd gu;have P8:=tN Tn U9 anS
 have Ce:=ct To Vb a20 fI;have IF:=ct Tp Vc a21 fy;have Cf:=tN Tq Vd anT;have VD:=ct Tr Ve fw dT
 have IG:=ct Ts Vf a24 eG;have P9:=ct Tt Vg fQ fV;have F8:=ct Tu Vh a26 fW;have Ls:=tN Tv Vi anU
 have Qa:=ct Tw Vj a28 gA;have VE:=ct Tx Vk gg gj;have Lt:=ct Ty Vl gr gk;have Lu:=ct Tz Vm a31 gK
 have zp:=tN TA u32 m32;have VF:=ct Fu Vn e9 fe;have D0:=ct TB Vo fx fA;have Lv:=ct HN Vp fm fq
 have Cg:=ct TC Vq fa e0;have Qb:=tN TD Vr anV;have F9:=ct TE Vs fb fr;have IH:=ct TF Vt fo fB
 have Ga:=tN TG Vv anW;have VG:=ct ack aeZ jM jO;have Qc:=ct acm ae0 jy iF;have Qd:=ct acn ae1 kM kS
 have Lw:=ct aco ae2 kN ky;have Lx:=tN acp ae3 anX;have Ch:=ct acq ae4 a46 l3;have VH:=ct acr ae5 kO kT
 have AR:=ct acs ae6 kP kU;have Ly:=ct acu ae7 a49 kV;have Ci:=tN acv ae8 anY;have VJ:=ct acw ae9 a51 lf
 have II:=ct acx afa kQ kW;have Lz:=ct acy afb a53 lg;have Gb:=ct acz afc lJ lh;have Qe:=tN acA afd anZ
 have LA:=ct acB afe kR lj;have IJ:=ct acC aff kv kj;have LB:=tN acD afg an0;have VK:=ct acE afh a59 lk
 have aSM:=ct ann aqx na nj;have afl:=ct ano aqy nc nk;have arU:=ct anp aqz nd mL;have arV:=tN anq aqA an1
 have aSN:=ct acF u64 ir nm;have aSO:=ct anr aqB nf nn;have afm:=ct ans aqC ng np;have arW:=ct ant aqD nL nq
 have arX:=tN TH aqE an2;have aSP:=ct anu aqF nM nO;have aSQ:=ct anv aqH a70 nP;have afn:=ct anw aqI nN nQ
 have afo:=ct anx aqJ a72 nR;clear yE u8 an3 Dt Vx a9 fJ Tg U1 anP xn U2 e8 fc Th U3 a12 iJ Ti U4 anQ Tj U5 jf jg Ft U6 fF fH Tk u16 anR Tl U7 fG fU Tm U8 gd gu Tn U9 anS To Vb a20 fI Tp Vc a21 fy Tq Vd anT Tr Ve fw dT Ts Vf a24 eG Tt Vg fQ fV Tu Vh a26 fW Tv Vi anU Tw Vj a28 gA Tx Vk gg gj Ty Vl gr gk Tz Vm a31 gK TA u32 m32 Fu Vn e9 fe TB Vo fx fA HN Vp fm fq TC Vq fa e0 TD Vr anV TE Vs fb fr TF Vt fo fB TG Vv anW ack aeZ jM jO acm ae0 jy iF acn ae1 kM kS aco ae2 kN ky acp ae3 anX acq ae4 a46 l3 acr ae5 kO kT acs ae6 kP kU acu ae7 a49 kV acv ae8 anY acw ae9 a51 lf acx afa kQ kW acy afb a53 lg acz afc lJ lh acA afd anZ acB afe kR lj acC aff kv kj acD afg an0 acE afh a59 lk ann aqx na nj ano aqy nc nk anp aqz nd mL anq aqA an1 acF u64 ir nm anr aqB nf nn ans aqC ng np ant aqD nL nq TH aqE an2 anu aqF nM nO anv aqH a70 nP anw aqI nN nQ anx aqJ a72 nR;have Bl:z26=0:=by have:=P5.h.2.2.2;have:=Ce.h.2.1;have:=IF.h.2.1;have:=Cf.h.2.1;have:=P9.h.2.2.1;have:=F8.h;omega
 have GX:z31=0:=by have:=zo.h.2.2.2;have:=F8.h.2.2.2;have:=Ls.h.2.1;have:=Lt.h.2.2.1;have:=Lu.h;omega
 have GY:ck=0:=by have:=P7.h.2.1;have:=zo.h.2.1;have:=Lu.h.2.2.2;have:=zp.h.2.1;have:=Lv.h.2.2.1;have:=Cg.h;omega
 have Bm:dL=0:=by have:=Lt.h.2.2.2;have:=F9.h.2.1;have:=IH.h.2.1;have:=Ga.h.2.1;have:=Qd.h.2.2.1;have:=Lw.h;omega
 have zT:z49=0:=by have:=Lv.h.2.2.2;have:=Lw.h.2.2.2;have:=Lx.h.2.1;have:=AR.h.2.2.1;have:=Ly.h;omega
 have G0:ef=0:=by have:=Cg.h.2.2.2;have:=Ly.h.2.2.2;have:=Ci.h.2.1;have:=Lz.h.2.2.1;have:=Gb.h;omega
 have ET:fC=0:=by have:=AR.h.2.2.2;have:=LA.h.2.1;have:=IJ.h.2.1;have:=LB.h.2.1;have:=afl.h.2.2.1;have:=arU.h;omega
 have EU:gp=0:=by have:=Lz.h.2.2.2;have:=arU.h.2.2.2;have:=arV.h.2.1;have:=afm.h.2.2.1;have:=arW.h;omega
 have MG:z72=0:=by have:=Gb.h.2.2.2;have:=arW.h.2.2.2;have:=arX.h.2.1;have:=afn.h.2.2.1;have:=afo.h;omega
 refine⟨?_,?_⟩
 ·simp only[Dq,aU,y5,D.bds,aS,jJ,eM,iq,ay,and_true];clear Bl GX GY Bm zT G0 ET EU MG;exact⟨by have:=IK.h;omega,by have:=IK.h;omega,by have:=IF.h;omega,by have:=IF.h;omega,by have:=IH.h;omega,by have:=IH.h;omega,by have:=IJ.h;omega,by have:=IJ.h;omega,by have:=afl.h;omega,by have:=afl.h;omega,by have:=afm.h;omega,by have:=afm.h;omega,by have:=afn.h;omega,by have:=afn.h;omega,by have:=afo.h;omega,by have:=afo.h;omega⟩
 ·simp only[cC,yY,num,mG,qS,ur,kL];rw[adE,<-Cj.h.2.2,<-DZ.h.2.2,<-Lr.h.2.2,<-P6.h.2.2,<-P8.h.2.2,<-Cf.h.2.2,<-Ls.h.2.2,<-zp.h.2.2,<-Qb.h.2.2,<-Ga.h.2.2,<-Lx.h.2.2,<-Ci.h.2.2,<-Qe.h.2.2,<-LB.h.2.2,<-arV.h.2.2,<-arX.h.2.2]
  skip
  omega
def XS (S:Nat->List Int->List Int->Prop) (K:List Int->List Int->Prop):Prop:=
 aK λz0=>
 aK λav=>
 aK λz2=>
 aK λz3=>
 aK λz4=>
 aK λz5=>
 aK λbb=>
 aK λaJ=>
 au 0 15 ((1*z3+0)+0) xi λaD=>
 au 0 15 ((1*z3+0)+0) xi λz9=>
 au 0 15 ((16*z4+0)+0) a8 λaW=>
 au 0 15 ((1*z4+0)+0) xi λaI=>
 au 0 15 ((16*z5+0)+0) a8 λz12=>
 au 0 15 ((1*z5+0)+0) xi λaY=>
 au 0 15 ((16*bb+0)+0) a8 λaM=>
 au 0 15 ((1*bb+0)+0) xi λaT=>
 au 0 15 ((16*aJ+0)+0) a8 λbd=>
 au 0 15 ((1*aJ+0)+0) xi λaX=>
 au 0 N6 ((nC*z4+(jj*z9+(nB*aW+0)))+0) a8 λbj=>
 au 0 N6 ((nC*z5+(jj*aI+(nB*z12+0)))+0) a8 λbn=>
 bo ((nC*z5+(jj*aI+(nB*z12+(1*bj+(ab*bn+0)))))+0) a8 λz20=>
 au 0 N6 ((nC*bb+(jj*aY+(nB*aM+0)))+0) a8 λz21=>
 bo ((nC*bb+(jj*aY+(nB*aM+(1*bn+(1*z20+(ab*z21+0))))))+0) a8 λz22=>
 au 0 N6 ((nC*aJ+(jj*aT+(nB*bd+0)))+0) a8 λbJ=>
 bo ((nC*aJ+(jj*aT+(nB*bd+(1*z21+(1*z22+(ab*bJ+0))))))+0) a8 λz24=>
 au 0 5 ((jj*aX+0)+0) a8 λb6=>
 bo ((jj*aX+(1*bJ+(1*z24+(ab*b6+0))))+0) a8 λz26=>
 au 0 N7 ((n2*z4+(jE*z9+(n1*aW+0)))+0) a8 λbW=>
 bo ((n2*z4+(nC*z5+(jE*z9+(n1*aW+(jj*aI+(nB*z12+(1*bj+(ab*bn+(ab*z20+(ab*bW+0))))))))))+0) a8 λz28=>
 au 0 N7 ((n2*z5+(jE*aI+(n1*z12+0)))+0) a8 λb3=>
 bo ((n2*z5+(nC*bb+(jE*aI+(n1*z12+(jj*aY+(nB*aM+(1*bn+(1*z20+(ab*z21+(ab*z22+(ab*b3+0)))))))))))+0) a8 λcj=>
 bo ((n2*z5+(nC*bb+(jE*aI+(n1*z12+(jj*aY+(nB*aM+(1*bn+(1*z20+(ab*z21+(ab*z22+(1*bW+(1*z28+(ab*b3+(ab*cj+0))))))))))))))+0) a8 λz31=>
 au 0 N7 ((n2*bb+(jE*aY+(n1*aM+0)))+0) a8 λa7=>
 bo ((n2*bb+(nC*aJ+(jE*aY+(n1*aM+(jj*aT+(nB*bd+(1*z21+(1*z22+(ab*bJ+(ab*z24+(ab*a7+0)))))))))))+0) a8 λbR=>
 bo ((n2*bb+(nC*aJ+(jE*aY+(n1*aM+(jj*aT+(nB*bd+(1*z21+(1*z22+(ab*bJ+(ab*z24+(1*b3+(1*cj+(1*z31+(ab*a7+(ab*bR+0)))))))))))))))+0) a8 λcf=>
 au 0 N7 ((n2*aJ+(jE*aT+(n1*bd+0)))+0) a8 λb7=>
 bo ((n2*aJ+(jE*aT+(n1*bd+(jj*aX+(1*bJ+(1*z24+(ab*b6+(ab*z26+(ab*b7+0)))))))))+0) a8 λck=>
 bo ((n2*aJ+(jE*aT+(n1*bd+(jj*aX+(1*bJ+(1*z24+(ab*b6+(ab*z26+(1*a7+(1*bR+(1*cf+(ab*b7+(ab*ck+0)))))))))))))+0) a8 λz37=>
 bo ((jE*aX+0)+0) a8 λcS=>
 bo ((jE*aX+(1*b6+(1*z26+(ab*cS+0))))+0) a8 λcG=>
 bo ((jE*aX+(1*b6+(1*z26+(1*b7+(1*ck+(1*z37+(ab*cS+(ab*cG+0))))))))+0) a8 λz40=>
 ((
  ((
   K [z0,av,z2,z3,z4,z5,bb,aJ] [((1*z0+0)+0),((1*av+0)+0),((1*z2+0)+0),((1*z3+(SQ*aD+0))+0),((nC*z4+(jj*z9+(nB*aW+(ab*bj+0))))+0),((n2*z4+(nC*z5+(jE*z9+(n1*aW+(jj*aI+(nB*z12+(1*bj+(ab*bn+(ab*z20+(ab*bW+(ab*z28+0)))))))))))+0),((n2*z5+(nC*bb+(jE*aI+(n1*z12+(jj*aY+(nB*aM+(1*bn+(1*z20+(ab*z21+(ab*z22+(1*bW+(1*z28+(ab*b3+(ab*cj+(ab*z31+0)))))))))))))))+0),((n2*bb+(nC*aJ+(jE*aY+(n1*aM+(jj*aT+(nB*bd+(1*z21+(1*z22+(ab*bJ+(ab*z24+(1*b3+(1*cj+(1*z31+(ab*a7+(ab*bR+(ab*cf+0))))))))))))))))+0),((n2*aJ+(jE*aT+(n1*bd+(jj*aX+(1*bJ+(1*z24+(ab*b6+(ab*z26+(1*a7+(1*bR+(1*cf+(ab*b7+(ab*ck+(ab*z37+0))))))))))))))+0),((jE*aX+(1*b6+(1*z26+(1*b7+(1*ck+(1*z37+(ab*cS+(ab*cG+(ab*z40+0)))))))))+0),((1*cS+(1*cG+(1*z40+0)))+0),(0+0)]
  )/\(
   K [z0,av,z2,z3,z4,z5,bb,aJ] [((1*z0+0)+0),((1*av+0)+0),((1*z2+0)+0),((1*z3+(SQ*aD+0))+0),((nC*z4+(jj*z9+(nB*aW+(ab*bj+0))))+0),((n2*z4+(nC*z5+(jE*z9+(n1*aW+(jj*aI+(nB*z12+(1*bj+(ab*bn+(ab*z20+(ab*bW+(ab*z28+0)))))))))))+0),((n2*z5+(nC*bb+(jE*aI+(n1*z12+(jj*aY+(nB*aM+(1*bn+(1*z20+(ab*z21+(ab*z22+(1*bW+(1*z28+(ab*b3+(ab*cj+(ab*z31+0)))))))))))))))+0),((n2*bb+(nC*aJ+(jE*aY+(n1*aM+(jj*aT+(nB*bd+(1*z21+(1*z22+(ab*bJ+(ab*z24+(1*b3+(1*cj+(1*z31+(ab*a7+(ab*bR+(ab*cf+0))))))))))))))))+0),((n2*aJ+(jE*aT+(n1*bd+(jj*aX+(1*bJ+(1*z24+(ab*b6+(ab*z26+(1*a7+(1*bR+(1*cf+(ab*b7+(ab*ck+(ab*z37+0))))))))))))))+0),((jE*aX+(1*b6+(1*z26+(1*b7+(1*ck+(1*z37+(ab*cS+(ab*cG+(ab*z40+0)))))))))+0),((1*cS+(1*cG+(1*z40+0)))+0),(0+0)]
  ))
 )/\(
  K [z0,av,z2,z3,z4,z5,bb,aJ] [((1*z0+0)+0),((1*av+0)+0),((1*z2+0)+0),((1*z3+(SQ*aD+0))+0),((nC*z4+(jj*z9+(nB*aW+(ab*bj+0))))+0),((n2*z4+(nC*z5+(jE*z9+(n1*aW+(jj*aI+(nB*z12+(1*bj+(ab*bn+(ab*z20+(ab*bW+(ab*z28+0)))))))))))+0),((n2*z5+(nC*bb+(jE*aI+(n1*z12+(jj*aY+(nB*aM+(1*bn+(1*z20+(ab*z21+(ab*z22+(1*bW+(1*z28+(ab*b3+(ab*cj+(ab*z31+0)))))))))))))))+0),((n2*bb+(nC*aJ+(jE*aY+(n1*aM+(jj*aT+(nB*bd+(1*z21+(1*z22+(ab*bJ+(ab*z24+(1*b3+(1*cj+(1*z31+(ab*a7+(ab*bR+(ab*cf+0))))))))))))))))+0),((n2*aJ+(jE*aT+(n1*bd+(jj*aX+(1*bJ+(1*z24+(ab*b6+(ab*z26+(1*a7+(1*bR+(1*cf+(ab*b7+(ab*ck+(ab*z37+0))))))))))))))+0),((jE*aX+(1*b6+(1*z26+(1*b7+(1*ck+(1*z37+(ab*cS+(ab*cG+(ab*z40+0)))))))))+0),((1*cS+(1*cG+(1*z40+0)))+0),(0+0)]
 ))
theorem aF6:XS cC λzs rs=>ay (aU Dh.res) rs/\cC 35 zs rs:=by
 simp(maxSteps:=4000000) only[XS,aK,au,bo,ab,a8,nB,n1,SQ,xi,N6,nC,jj,N7,n2,jE];simp only[xW,xV,Cr];intro z0 pa vi av l1 mD z2 l2 tl z3 oG Cc z4 xo Vu z5 uY aqv bb anm aqw aJ HO aqG aD yE u8 jN jP z9 Dt Vx a9 fJ aW Tg U1 iQ iE aI xn U2 e8 fc z12 Th U3 a12 iJ aY Ti U4 fP fT aM Tj U5 jf jg aT Ft U6 fF fH bd Tk u16 jx jz aX Tl U7 fG fU bj Tm U8 gd gu bn Tn U9 gf gh z20 To Vb a20 fI z21 Tp Vc a21 fy z22 Tq Vd a22 fp bJ Tr Ve fw dT z24 Ts Vf a24 eG b6 Tt Vg fQ fV z26 Tu Vh a26 fW bW Tv Vi fR gi z28 Tw Vj a28 gA b3 Tx Vk gg gj cj Ty Vl gr gk z31 Tz Vm a31 gK a7 TA u32 cD gm bR Fu Vn e9 fe cf TB Vo fx fA b7 HN Vp fm fq ck TC Vq fa e0 z37 TD Vr a37 fX cS TE Vs fb fr cG TF Vt fo fB z40 TG Vv a40 gL;have pH:aD=z9:=Iy (by decide) jN jP a9 fJ;have qk:aW=aI:=UQ iQ iE e8 fc;have EJ:z12=aY:=UQ a12 iJ fP fT;have zS:aM=aT:=UQ jf jg fF fH;have mP:bd=aX:=UQ jx jz fG fU;subst pH;subst qk;subst EJ;subst zS;subst mP;refine⟨⟨?_,?_⟩,?_⟩<;>
 ·simp only[Dh,aU,b5,y5,D.bds,aS,jJ,eM,iq,ay,and_true,cC,vX,num,mG,qS,ur,kL];have ai:(z0+18446744073709551616*(av+18446744073709551616*(z2+18446744073709551616*(z3+18446744073709551616*(z4+18446744073709551616*(z5+18446744073709551616*(bb+18446744073709551616*(aJ+18446744073709551616*0))))))))/7237005577332262213973186563042994240829374041602535252466099000494570602496=aD+16*(z4+18446744073709551616*(z5+18446744073709551616*(bb+18446744073709551616*aJ))):=by
   clear gd gu gf gh a20 fI a21 fy a22 fp fw dT a24 eG fQ fV a26 fW fR gi a28 gA gg gj gr gk a31 gK cD gm e9 fe fx fA fm fq fa e0 a37 fX fb fr fo fB a40 gL;omega
  refine⟨⟨pa,vi,l1,mD,l2,tl,by clear ai e8 fc fP fT fF fH fG fU gd gu gf gh a20 fI a21 fy a22 fp fw dT a24 eG fQ fV a26 fW fR gi a28 gA gg gj gr gk a31 gK cD gm e9 fe fx fA fm fq fa e0 a37 fX fb fr fo fB a40 gL;omega,by clear ai e8 fc fP fT fF fH fG fU gd gu gf gh a20 fI a21 fy a22 fp fw dT a24 eG fQ fV a26 fW fR gi a28 gA gg gj gr gk a31 gK cD gm e9 fe fx fA fm fq fa e0 a37 fX fb fr fo fB a40 gL;omega,by clear ai a9 fJ e8 fc fP fT fF fH fG fU gf gh a20 fI a21 fy a22 fp fw dT a24 eG fQ fV a26 fW fR gi a28 gA gg gj gr gk a31 gK cD gm e9 fe fx fA fm fq fa e0 a37 fX fb fr fo fB a40 gL;omega,by clear ai a9 fJ e8 fc fP fT fF fH fG fU gf gh a20 fI a21 fy a22 fp fw dT a24 eG fQ fV a26 fW fR gi a28 gA gg gj gr gk a31 gK cD gm e9 fe fx fA fm fq fa e0 a37 fX fb fr fo fB a40 gL;omega,by clear ai a9 fJ e8 fc fP fT fF fH fG fU gd gu gf gh a20 fI a21 fy a22 fp fw dT a24 eG fQ fV a26 fW fR gi gg gj gr gk a31 gK cD gm e9 fe fx fA fm fq fa e0 a37 fX fb fr fo fB a40 gL;omega,by clear ai a9 fJ e8 fc fP fT fF fH fG fU gd gu gf gh a20 fI a21 fy a22 fp fw dT a24 eG fQ fV a26 fW fR gi gg gj gr gk a31 gK cD gm e9 fe fx fA fm fq fa e0 a37 fX fb fr fo fB a40 gL;omega,by clear ai a9 fJ e8 fc fP fT fF fH fG fU gd gu gf gh a20 fI a21 fy a22 fp fw dT a24 eG fQ fV a26 fW fR gi a28 gA gg gj gr gk cD gm e9 fe fx fA fm fq fa e0 a37 fX fb fr fo fB a40 gL;omega,by clear ai a9 fJ e8 fc fP fT fF fH fG fU gd gu gf gh a20 fI a21 fy a22 fp fw dT a24 eG fQ fV a26 fW fR gi a28 gA gg gj gr gk cD gm e9 fe fx fA fm fq fa e0 a37 fX fb fr fo fB a40 gL;omega,by clear ai a9 fJ e8 fc fP fT fF fH fG fU gd gu gf gh a20 fI a21 fy a22 fp fw dT a24 eG fQ fV a26 fW fR gi a28 gA gg gj gr gk a31 gK cD gm e9 fe fm fq fa e0 a37 fX fb fr fo fB a40 gL;omega,by clear ai a9 fJ e8 fc fP fT fF fH fG fU gd gu gf gh a20 fI a21 fy a22 fp fw dT a24 eG fQ fV a26 fW fR gi a28 gA gg gj gr gk a31 gK cD gm e9 fe fm fq fa e0 a37 fX fb fr fo fB a40 gL;omega,by clear ai a9 fJ e8 fc fP fT fF fH fG fU gd gu gf gh a20 fI a21 fy a22 fp fw dT a24 eG fQ fV a26 fW fR gi a28 gA gg gj gr gk a31 gK cD gm e9 fe fx fA fm fq fa e0 fb fr fo fB a40 gL;omega,by clear ai a9 fJ e8 fc fP fT fF fH fG fU gd gu gf gh a20 fI a21 fy a22 fp fw dT a24 eG fQ fV a26 fW fR gi a28 gA gg gj gr gk a31 gK cD gm e9 fe fx fA fm fq fa e0 fb fr fo fB a40 gL;omega,by clear ai a9 fJ e8 fc fP fT fF fH fG fU gd gu gf gh a20 fI a21 fy a22 fp fw dT a24 eG fQ fV a26 fW fR gi a28 gA gg gj gr gk a31 gK cD gm e9 fe fx fA fm fq fa e0 a37 fX fb fr fo fB;omega,by clear ai a9 fJ e8 fc fP fT fF fH fG fU gd gu gf gh a20 fI a21 fy a22 fp fw dT a24 eG fQ fV a26 fW fR gi a28 gA gg gj gr gk a31 gK cD gm e9 fe fx fA fm fq fa e0 a37 fX fb fr fo fB;omega,by clear ai a9 fJ e8 fc fP fT fF fH fG fU gd gu gf gh a20 fI a21 fy a22 fp fw dT a24 eG fQ fV a26 fW fR gi a28 gA gg gj gr gk a31 gK cD gm e9 fe fx fA fm fq fa e0 a37 fX fb fr fo fB a40 gL;omega,by clear ai a9 fJ e8 fc fP fT fF fH fG fU gd gu gf gh a20 fI a21 fy a22 fp fw dT a24 eG fQ fV a26 fW fR gi a28 gA gg gj gr gk a31 gK cD gm e9 fe fx fA fm fq fa e0 a37 fX fb fr fo fB a40 gL;omega,by decide,by decide⟩,?_,?_⟩
  ·rw[Int.emod_def,ai];clear ai a9 fJ e8 fc fP fT fF fH fG fU gd gu gf gh a20 fI a21 fy a22 fp fw dT a24 eG fQ fV a26 fW fR gi a28 gA gg gj gr gk a31 gK cD gm e9 fe fx fA fm fq fa e0 a37 fX fb fr fo fB a40 gL;omega
  ·rw[ai];clear ai a9 fJ e8 fc fP fT fF fH fG fU gd gu gf gh a20 fI a21 fy a22 fp fw dT a24 eG fQ fV a26 fW fR gi a28 gA gg gj gr gk a31 gK cD gm e9 fe fx fA fm fq fa e0 a37 fX fb fr fo fB a40 gL;omega
def XT (S:Nat->List Int->List Int->Prop) (K:List Int->List Int->Prop):Prop:=
 aK λz0=>
 aK λav=>
 aK λz2=>
 aK λz3=>
 aK λz4=>aK λz5=>aK λbb=>aK λaJ=>S 23 [((1*z0+0)+0),((1*av+0)+0),((1*z2+0)+0),((1*z3+0)+0),(0+0),(0+0),(0+0),(0+0)] [z4,z5,bb,aJ]->
 K [z0,av,z2,z3] [((1*z4+0)+0),((1*z5+0)+0),((1*bb+0)+0),((1*aJ+0)+0)]
theorem aGe:XT cC λzs rs=>ay (aU Dn.res) rs/\cC 25 zs rs:=by
 simp(maxSteps:=4000000) only[XT,aK];simp(maxSteps:=4000000) only[xW,xV,Cr];intro z0 a0 dq av bG bQ z2 a2 b9 z3 a3 dh z4 a4 mI z5 a5 mJ bb pB pE aJ p9 qc aF;simp(maxSteps:=2000000) only[cC,vb,yU,yV,ru,rv,va,yY,vX,yT,AO,vd,yX,vc,yW,xC,AN,xD,xE,yZ,xF,mG,qS,ur,kL,gP,h9]at aF;rw[aDx]at aF;refine⟨?_,?_⟩
 ·simp only[Dn,aU,b5,D.bds,aS,jJ,eM,iq,ay,and_true];exact⟨a4,mI,a5,mJ,pB,pE,p9,qc⟩
 ·exact aF
def X2 (S:Nat->List Int->List Int->Prop) (K:List Int->List Int->Prop):Prop:=
 aK λz0=>
 aK λav=>
 aK λz2=>
 aK λz3=>
 aK λz4=>
 aK λz5=>
 aK λbb=>
 aK λaJ=>
 aK λaD=>aK λz9=>aK λaW=>aK λaI=>aK λz12=>aK λaY=>aK λaM=>aK λaT=>aK λbd=>aK λaX=>aK λbj=>aK λbn=>S 35 [((1*z0+0)+0),((1*av+0)+0),((1*z2+0)+0),((1*z3+0)+0),((1*z4+0)+0),((1*z5+0)+0),((1*bb+0)+0),((1*aJ+0)+0)] [aD,z9,aW,aI,z12,aY,aM,aT,bd,aX,bj,bn]->
 aK λz20=>aK λz21=>aK λz22=>aK λbJ=>de λz24=>S 24 [(0+0),(0+0),(0+0),(0+0),((1*aD+0)+0),((1*z9+0)+0),((1*aW+0)+0),((1*aI+0)+0)] [z20,z21,z22,bJ,z24]->
 aK λb6=>aK λz26=>aK λbW=>aK λz28=>aK λb3=>aK λcj=>aK λz31=>aK λa7=>aK λbR=>aK λcf=>aK λb7=>aK λck=>S 35 [((1*z12+0)+0),((1*aY+0)+0),((1*aM+0)+0),((1*aT+0)+0),((1*bd+0)+0),((1*aX+0)+0),((1*bj+0)+0),((1*bn+0)+0)] [b6,z26,bW,z28,b3,cj,z31,a7,bR,cf,b7,ck]->
 aK λz37=>aK λcS=>aK λcG=>aK λz40=>de λcI=>S 24 [((1*z20+0)+0),((1*z21+0)+0),((1*z22+0)+0),((1*bJ+0)+0),(0+jj),(0+jE),(0+0),(0+xi)] [z37,cS,cG,z40,cI]->
 aK λc7=>aK λdf=>aK λdL=>aK λdx=>de λz46=>S 29 [((1*z37+0)+0),((1*cS+0)+0),((1*cG+0)+0),((1*z40+0)+0),((1*b6+0)+0),((1*z26+0)+0),((1*bW+0)+0),((1*z28+0)+0)] [c7,df,dL,dx,z46]->
 aK λdp=>aK λdC=>aK λz49=>aK λey=>aK λz51=>aK λdc=>aK λz53=>aK λef=>aK λez=>aK λeg=>aK λcO=>aK λeE=>S 35 [((1*b3+0)+0),((1*cj+0)+0),((1*z31+0)+0),((1*a7+0)+0),((1*bR+0)+0),((1*cf+0)+0),((1*b7+0)+0),((1*ck+0)+0)] [dp,dC,z49,ey,z51,dc,z53,ef,ez,eg,cO,eE]->
 aK λz59=>aK λeY=>aK λfi=>aK λfC=>de λdY=>S 24 [((1*c7+0)+0),((1*df+0)+0),((1*dL+0)+0),((1*dx+0)+0),((1*dp+0)+0),((1*dC+0)+0),((1*z49+0)+0),((1*ey+0)+0)] [z59,eY,fi,fC,dY]->
 aK λfN=>aK λgN=>aK λgI=>aK λgp=>aK λhS=>aK λgq=>aK λz70=>aK λhT=>aK λz72=>aK λgO=>aK λjq=>aK λz75=>S 35 [((1*z51+0)+0),((1*dc+0)+0),((1*z53+0)+0),((1*ef+0)+0),((1*ez+0)+0),((1*eg+0)+0),((1*cO+0)+0),((1*eE+0)+0)] [fN,gN,gI,gp,hS,gq,z70,hT,z72,gO,jq,z75]->
 aK λz76=>aK λk9=>aK λkc=>aK λke=>de λlC=>S 24 [((1*z59+0)+0),((1*eY+0)+0),((1*fi+0)+0),((1*fC+0)+0),(0+jj),(0+jE),(0+0),(0+xi)] [z76,k9,kc,ke,lC]->
 aK λmE=>aK λlD=>aK λjI=>aK λlV=>de λz85=>S 29 [((1*z76+0)+0),((1*k9+0)+0),((1*kc+0)+0),((1*ke+0)+0),((1*fN+0)+0),((1*gN+0)+0),((1*gI+0)+0),((1*gp+0)+0)] [mE,lD,jI,lV,z85]->
 ∃(XA:List Int->Prop) (asI:List Int->Nat),XA [((1*mE+0)+0),((1*lD+0)+0),((1*jI+0)+0),((1*lV+0)+0)]/\(aK λz87=>aK λnH=>aK λlF=>aK λoi=>XA [z87,nH,lF,oi]->
  aK λz91=>aK λlW=>aK λz93=>aK λoN=>de λqN=>S 29 [((1*z87+0)+0),((1*nH+0)+0),((1*lF+0)+0),((1*oi+0)+0),(0+jj),(0+jE),(0+0),(0+xi)] [z91,lW,z93,oN,qN]->
  (((decide (((1*qN+0)+0)=(0+1)))=true->
   K [z0,av,z2,z3,z4,z5,bb,aJ] [((1*z87+0)+0),((1*nH+0)+0),((1*lF+0)+0),((1*oi+0)+0)]
  )/\((decide (((1*qN+0)+0)=(0+1)))=false->
   (XA [((1*z91+0)+0),((1*lW+0)+0),((1*z93+0)+0),((1*oN+0)+0)]/\asI [((1*z91+0)+0),((1*lW+0)+0),((1*z93+0)+0),((1*oN+0)+0)]<asI [z87,nH,lF,oi])
  ))
 )
theorem aGA:X2 cC λzs rs=>ay (aU xl.res) rs/\cC 23 zs rs:=by
 simp(maxSteps:=4000000) only[X2,aK,de,xi,jj,jE];simp(maxSteps:=4000000) only[xW,xV,Cr];intro z0 a0 dq av bG bQ z2 a2 b9 z3 a3 dh z4 a4 mI z5 a5 mJ bb pB pE aJ p9 qc aD jN jP z9 a9 fJ aW iQ iE aI e8 fc z12 a12 iJ aY fP fT aM jf jg aT fF fH bd jx jz aX fG fU bj gd gu bn gf gh aF z20 a20 fI z21 a21 fy z22 a22 fp bJ fw dT z24 a24 eG s1 b6 fQ fV z26 a26 fW bW fR gi z28 a28 gA b3 gg gj cj gr gk z31 a31 gK a7 cD gm bR e9 fe cf fx fA b7 fm fq ck fa e0 s2 z37 a37 fX cS fb fr cG fo fB z40 a40 gL cI jM jO bm c7 jy iF df kM kS dL kN ky dx lZ ml z46 a46 l3 cr dp kO kT dC kP kU z49 a49 kV ey l0 mm z51 a51 lf dc kQ kW z53 a53 lg ef lJ lh ez mi mn eg kR lj cO kv kj eE mj mK dJ z59 a59 lk eY na nj fi nc nk fC nd mL dY pC qa ee fN ir nm gN nf nn gI ng np gp nL nq hS pD qb gq nM nO z70 a70 nP hT nN nQ z72 a72 nR gO zG wK jq zH zL z75 a75 zM eU z76 a76 wL k9 x4 x9 kc x5 ya ke x6 yb lC Bb Bf gG mE x7 yc lD wC wM jI wD wN lV wE wO z85 a85 zN hG;simp(maxSteps:=2000000) only[cC,vb,yU,yV,ru,rv,va,yY,vX,yT,AO,vd,yX,vc,yW,xC,AN,xD,xE,yZ,xF,mG,qS,ur,kL,gP,h9]at aF s1 s2 bm cr dJ ee eU gG hG;simp only[ada,aDw]at*;have TR:=mX a20 fI a21 fy a22 fp fw dT;have ac3:=mX a37 fX fb fr fo fB a40 gL;have aom:=mX jy iF kM kS kN ky lZ ml;have aon:=mX a59 lk na nj nc nk nd mL;have aoo:=mX a76 wL x4 x9 x5 ya x6 yb;have aop:=mX x7 yc wC wM wD wN wE wO;have TS:=mX jN jP a9 fJ iQ iE e8 fc;have aol:=mX fQ fV a26 fW fR gi a28 gA;have aDk:=mX kO kT kP kU a49 kV l0 mm;have aDl:=mX ir nm nf nn ng np nL nq;have gE:=aDv a0 dq bG bQ a2 b9 a3 dh a4 mI a5 mJ pB pE p9 qc;obtain⟨f0,g0⟩:=aF;obtain⟨f2,g2⟩:=s2;obtain⟨f5,g5⟩:=dJ;obtain⟨f7,g7⟩:=eU;refine⟨λl=>(aa l-aa [z0,av,z2,z3,z4,z5,bb,aJ])% 7237005577332262213973186563042994240857116359379907606001950938285454250989=0,λl=>(aa l).toNat,?_,?_⟩
 ·show(aa _-aa _)% 7237005577332262213973186563042994240857116359379907606001950938285454250989=0;clear a0 dq bG bQ a2 b9 a3 dh a4 mI a5 mJ pB pE p9 qc jN jP a9 fJ iQ iE e8 fc a12 iJ fP fT jf jg fF fH jx jz fG fU gd gu gf gh a20 fI a21 fy a22 fp fw dT fQ fV a26 fW fR gi a28 gA gg gj gr gk a31 gK cD gm e9 fe fx fA fm fq fa e0 a37 fX fb fr fo fB a40 gL jy iF kM kS kN ky lZ ml kO kT kP kU a49 kV l0 mm a51 lf kQ kW a53 lg lJ lh mi mn kR lj kv kj mj mK a59 lk na nj nc nk nd mL ir nm nf nn ng np nL nq pD qb nM nO a70 nP nN nQ a72 nR zG wK zH zL a75 zM a76 wL x4 x9 x5 ya x6 yb x7 yc wC wM wD wN wE wO;generalize aa [aD,z9,aW,aI]=atP at*;generalize aa [z20,z21,z22,bJ]=aPL at*;generalize aa [b6,z26,bW,z28]=aPM at*;generalize aa [z37,cS,cG,z40]=atO at*;generalize aa [c7,df,dL,dx]=aPP at*;generalize aa [dp,dC,z49,ey]=aPQ at*;generalize aa [z59,eY,fi,fC]=aPS at*;generalize aa [fN,gN,gI,gp]=aPT at*;generalize aa [z76,k9,kc,ke]=aPV at*;generalize aa [mE,lD,jI,lV]=aPW at*;generalize aa [z0,av,z2,z3,z4,z5,bb,aJ]=vr at*;generalize aa [z12,aY,aM,aT,bd,aX,bj,bn]=aPH at*;generalize aa [b3,cj,z31,a7,bR,cf,b7,ck]=aPN at*;generalize aa [z51,dc,z53,ef,ez,eg,cO,eE]=aPR at*;generalize aa [hS,gq,z70,hT,z72,gO,jq,z75]=aPU at*;exact aJl gE f0 g0 f2 g2 f5 g5 f7 g7 (by simpa using s1) bm cr ee gG hG a24 eG jM jO a46 l3 pC qa Bb Bf a85 zN TR ac3 aom aon aoo aop
 ·clear jN jP a9 fJ iQ iE e8 fc a12 iJ fP fT jf jg fF fH jx jz fG fU gd gu gf gh a20 fI a21 fy a22 fp fw dT fQ fV a26 fW fR gi a28 gA gg gj gr gk a31 gK cD gm e9 fe fx fA fm fq fa e0 a37 fX fb fr fo fB a40 gL jy iF kM kS kN ky lZ ml kO kT kP kU a49 kV l0 mm a51 lf kQ kW a53 lg lJ lh mi mn kR lj kv kj mj mK a59 lk na nj nc nk nd mL ir nm nf nn ng np nL nq pD qb nM nO a70 nP nN nQ a72 nR zG wK zH zL a75 zM a76 wL x4 x9 x5 ya x6 yb x7 yc wC wM wD wN wE wO;intro z87 a87 Ev nH En Ew lF Eo Ex oi Ep Ey dU z91 a91 GF lW Gx GG z93 a93 GH oN Gy GI qN Jh Jn s;simp(maxSteps:=2000000) only[cC,vb,yU,yV,ru,rv,va,yY,vX,yT,AO,vd,yX,vc,yW,xC,AN,xD,xE,yZ,xF,mG,qS,ur,kL,gP,h9]at s;simp only[ada]at s;have aRW:=mX a87 Ev En Ew Eo Ex Ep Ey;have aRX:=mX a91 GF Gx GG a93 GH Gy GI;clear s1 bm cr ee gG hG f0 g0 f2 g2 f5 g5 f7 g7 TS TR aol ac3 aom aDk aon aDl aoo aop a0 dq bG bQ a2 b9 a3 dh a4 mI a5 mJ pB pE p9 qc;refine⟨λh=>⟨?_,?_⟩,λh=>⟨?_,?_⟩⟩
  ·simp only[xl,aU,b5,D.bds,aS,jJ,eM,iq,ay,and_true];exact⟨a87,Ev,En,Ew,Eo,Ex,Ep,Ey⟩
  ·simp only[decide_eq_true_eq]at h;simp only[cC,vb,yU,yV,ru,rv,va,yY,vX,yT,AO,vd,yX,vc,yW,xC,AN,xD,xE,yZ,xF];generalize aa [z87,nH,lF,oi]=ahm at*;generalize aa [z91,lW,z93,oN]=ahn at*;generalize aa [z0,av,z2,z3,z4,z5,bb,aJ]=vr at*;subst h;omega
  ·simp only[decide_eq_false_iff_not]at h;generalize aa [z87,nH,lF,oi]=ahm at*;generalize aa [z91,lW,z93,oN]=ahn at*;generalize aa [z0,av,z2,z3,z4,z5,bb,aJ]=vr at*;omega
  ·simp only[decide_eq_false_iff_not]at h;show(aa _).toNat<(aa _).toNat;generalize aa [z87,nH,lF,oi]=ahm at*;generalize aa [z91,lW,z93,oN]=ahn at*;generalize aa [z0,av,z2,z3,z4,z5,bb,aJ]=vr at*;omega
def XR (S:Nat->List Int->List Int->Prop) (K:List Int->List Int->Prop):Prop:=
 aq λz0=>
 aq λav=>
 aq λz2=>
 aq λz3=>
 aq λz4=>
 aq λz5=>
 aq λbb=>
 aq λaJ=>
 aq λaD=>
 aq λz9=>
 aq λaW=>
 aq λaI=>
 aq λz12=>
 aq λaY=>
 aq λaM=>
 aq λaT=>
 aq λbd=>
 aq λaX=>
 aq λbj=>
 aq λbn=>
 aq λz20=>
 aq λz21=>
 aq λz22=>
 aq λbJ=>
 aq λz24=>
 aq λb6=>
 aq λz26=>
 aq λbW=>
 aq λz28=>
 aq λb3=>
 aq λcj=>
 aq λz31=>
 au 0 31 ((1*z0+0)+0) 8 λa7=>
 au 0 3 ((1*z31+0)+0) 64 λbR=>
 K [z0,av,z2,z3,z4,z5,bb,aJ,aD,z9,aW,aI,z12,aY,aM,aT,bd,aX,bj,bn,z20,z21,z22,bJ,z24,b6,z26,bW,z28,b3,cj,z31] [((8*a7+0)+0),((1*av+0)+0),((1*z2+0)+0),((1*z3+0)+0),((1*z4+0)+0),((1*z5+0)+0),((1*bb+0)+0),((1*aJ+0)+0),((1*aD+0)+0),((1*z9+0)+0),((1*aW+0)+0),((1*aI+0)+0),((1*z12+0)+0),((1*aY+0)+0),((1*aM+0)+0),((1*aT+0)+0),((1*bd+0)+0),((1*aX+0)+0),((1*bj+0)+0),((1*bn+0)+0),((1*z20+0)+0),((1*z21+0)+0),((1*z22+0)+0),((1*bJ+0)+0),((1*z24+0)+0),((1*b6+0)+0),((1*z26+0)+0),((1*bW+0)+0),((1*z28+0)+0),((1*b3+0)+0),((1*cj+0)+0),((1*z31+((-64)*bR+0))+64)]
theorem aFO:XR cC λzs rs=>ay (aU Fq.res) rs/\cC 14 zs rs:=by
 simp(maxSteps:=4000000) only[XR,aq,au];simp only[xW,xV,Cr];intros;refine⟨?_,?_⟩
 ·simp only[Fq,aU,gC,D.bds,aS,jJ,eM,iq,ay,and_true];omega
 ·simp only[cC,xC,h9,gP,mG,qS,ur,kL,jJ,eM,mh,and_true,true_and];omega
def X3 (S:Nat->List Int->List Int->Prop) (K:List Int->List Int->Prop):Prop:=
 aq λz0=>
 aq λav=>
 aq λz2=>
 aq λz3=>
 aq λz4=>
 aq λz5=>
 aq λbb=>
 aq λaJ=>
 aq λaD=>
 aq λz9=>
 aq λaW=>
 aq λaI=>
 aq λz12=>
 aq λaY=>
 aq λaM=>
 aq λaT=>
 aq λbd=>
 aq λaX=>
 aq λbj=>
 aq λbn=>
 aq λz20=>
 aq λz21=>
 aq λz22=>
 aq λbJ=>
 aq λz24=>
 aq λb6=>
 aq λz26=>
 aq λbW=>
 aq λz28=>
 aq λb3=>
 aq λcj=>
 aq λz31=>
 aK λa7=>aK λbR=>aK λcf=>aK λb7=>S 22 [((1*z0+0)+0),((1*av+0)+0),((1*z2+0)+0),((1*z3+0)+0),((1*z4+0)+0),((1*z5+0)+0),((1*bb+0)+0),((1*aJ+0)+0),((1*aD+0)+0),((1*z9+0)+0),((1*aW+0)+0),((1*aI+0)+0),((1*z12+0)+0),((1*aY+0)+0),((1*aM+0)+0),((1*aT+0)+0),((1*bd+0)+0),((1*aX+0)+0),((1*bj+0)+0),((1*bn+0)+0),((1*z20+0)+0),((1*z21+0)+0),((1*z22+0)+0),((1*bJ+0)+0),((1*z24+0)+0),((1*b6+0)+0),((1*z26+0)+0),((1*bW+0)+0),((1*z28+0)+0),((1*b3+0)+0),((1*cj+0)+0),((1*z31+0)+0)] [a7,bR,cf,b7]->
 aK λck=>aK λz37=>aK λcS=>aK λcG=>de λz40=>S 29 [((1*a7+0)+0),((1*bR+0)+0),((1*cf+0)+0),((1*b7+0)+0),(0+jj),(0+jE),(0+0),(0+xi)] [ck,z37,cS,cG,z40]->
 K [z0,av,z2,z3,z4,z5,bb,aJ,aD,z9,aW,aI,z12,aY,aM,aT,bd,aX,bj,bn,z20,z21,z22,bJ,z24,b6,z26,bW,z28,b3,cj,z31] [(cond (decide (((1*z40+0)+0)=(0+1))) 1 0)]
theorem adB:X3 cC λzs rs=>ay (aU n3.res) rs/\cC 13 zs rs:=by
 simp(maxSteps:=4000000) only[X3,aq,aK,de,xi,jj,jE];simp(maxSteps:=4000000) only[xW,xV,Cr];intro z0 a0 dq av bG bQ z2 a2 b9 z3 a3 dh z4 a4 mI z5 a5 mJ bb pB pE aJ p9 qc aD jN jP z9 a9 fJ aW iQ iE aI e8 fc z12 a12 iJ aY fP fT aM jf jg aT fF fH bd jx jz aX fG fU bj gd gu bn gf gh z20 a20 fI z21 a21 fy z22 a22 fp bJ fw dT z24 a24 eG b6 fQ fV z26 a26 fW bW fR gi z28 a28 gA b3 gg gj cj gr gk z31 a31 gK a7 cD gm bR e9 fe cf fx fA b7 fm fq aF ck fa e0 z37 a37 fX cS fb fr cG fo fB z40 a40 gL s1;simp(maxSteps:=2000000) only[cC,vb,yU,yV,ru,rv,va,yY,vX,yT,AO,vd,yX,vc,yW,xC,AN,xD,xE,yZ,xF,mG,qS,ur,kL,gP,h9]at aF s1;have gE:ay (aS 0 255 32) [z0,av,z2,z3,z4,z5,bb,aJ,aD,z9,aW,aI,z12,aY,aM,aT,bd,aX,bj,bn,z20,z21,z22,bJ,z24,b6,z26,bW,z28,b3,cj,z31]:=by
  simp only[aS,ay,and_true];exact⟨a0,dq,bG,bQ,a2,b9,a3,dh,a4,mI,a5,mJ,pB,pE,p9,qc,jN,jP,a9,fJ,iQ,iE,e8,fc,a12,iJ,fP,fT,jf,jg,fF,fH,jx,jz,fG,fU,gd,gu,gf,gh,a20,fI,a21,fy,a22,fp,fw,dT,a24,eG,fQ,fV,a26,fW,fR,gi,a28,gA,gg,gj,gr,gk,a31,gK⟩
 have m0:=aor gE;have OP:=mX cD gm e9 fe fx fA fm fq;have aRU:=mX fa e0 a37 fX fb fr fo fB;rw[ada,aF]at s1;rw[aF]at OP;refine⟨?_,?_⟩
 ·by_cases h:z40=1<;>simp[h,n3,aU,D.bds,ay]
 ·simp only[cC,vb,yU,yV,ru,rv,va,yY,vX,yT,AO,vd,yX,vc,yW,xC,AN,xD,xE,yZ,xF,mh,and_true];clear gE m0 aF a0 dq bG bQ a2 b9 a3 dh a4 mI a5 mJ pB pE p9 qc jN jP a9 fJ iQ iE e8 fc a12 iJ fP fT jf jg fF fH jx jz fG fU gd gu gf gh a20 fI a21 fy a22 fp fw dT a24 eG fQ fV a26 fW fR gi a28 gA gg gj gr gk a31 gK cD gm e9 fe fx fA fm fq fa e0 a37 fX fb fr fo fB;generalize nb [z0,av,z2,z3,z4,z5,bb,aJ,aD,z9,aW,aI,z12,aY,aM,aT,bd,aX,bj,bn,z20,z21,z22,bJ,z24,b6,z26,bW,z28,b3,cj,z31]=A at*;generalize aa [ck,z37,cS,cG]=N at*;by_cases h:z40=1
  ·subst h;simp;omega
  ·simp[h];omega
def X1 (S:Nat->List Int->List Int->Prop) (K:List Int->List Int->Prop):Prop:=
 aq λz0=>
 aq λav=>
 aq λz2=>
 aq λz3=>
 aq λz4=>
 aq λz5=>
 aq λbb=>
 aq λaJ=>
 aq λaD=>
 aq λz9=>
 aq λaW=>
 aq λaI=>
 aq λz12=>
 aq λaY=>
 aq λaM=>
 aq λaT=>
 aq λbd=>
 aq λaX=>
 aq λbj=>
 aq λbn=>
 aq λz20=>
 aq λz21=>
 aq λz22=>
 aq λbJ=>
 aq λz24=>
 aq λb6=>
 aq λz26=>
 aq λbW=>
 aq λz28=>
 aq λb3=>
 aq λcj=>
 aq λz31=>
 aq λa7=>
 aq λbR=>
 aq λcf=>
 aq λb7=>
 aq λck=>
 aq λz37=>
 aq λcS=>
 aq λcG=>
 aq λz40=>
 aq λcI=>
 aq λc7=>
 aq λdf=>
 aq λdL=>
 aq λdx=>
 aq λz46=>
 aq λdp=>
 aq λdC=>
 aq λz49=>
 aq λey=>
 aq λz51=>
 aq λdc=>
 aq λz53=>
 aq λef=>
 aq λez=>
 aq λeg=>
 aq λcO=>
 aq λeE=>
 aq λz59=>
 aq λeY=>
 aq λfi=>
 aq λfC=>
 aq λdY=>
 aK λfN=>aK λgN=>aK λgI=>aK λgp=>S 122 [((1*z0+0)+0),((1*av+0)+0),((1*z2+0)+0),((1*z3+0)+0),((1*z4+0)+0),((1*z5+0)+0),((1*bb+0)+0),((1*aJ+0)+0),((1*aD+0)+0),((1*z9+0)+0),((1*aW+0)+0),((1*aI+0)+0),((1*z12+0)+0),((1*aY+0)+0),((1*aM+0)+0),((1*aT+0)+0),((1*bd+0)+0),((1*aX+0)+0),((1*bj+0)+0),((1*bn+0)+0),((1*z20+0)+0),((1*z21+0)+0),((1*z22+0)+0),((1*bJ+0)+0),((1*z24+0)+0),((1*b6+0)+0),((1*z26+0)+0),((1*bW+0)+0),((1*z28+0)+0),((1*b3+0)+0),((1*cj+0)+0),((1*z31+0)+0),((1*a7+0)+0),((1*bR+0)+0),((1*cf+0)+0),((1*b7+0)+0),((1*ck+0)+0),((1*z37+0)+0),((1*cS+0)+0),((1*cG+0)+0),((1*z40+0)+0),((1*cI+0)+0),((1*c7+0)+0),((1*df+0)+0),((1*dL+0)+0),((1*dx+0)+0),((1*z46+0)+0),((1*dp+0)+0),((1*dC+0)+0),((1*z49+0)+0),((1*ey+0)+0),((1*z51+0)+0),((1*dc+0)+0),((1*z53+0)+0),((1*ef+0)+0),((1*ez+0)+0),((1*eg+0)+0),((1*cO+0)+0),((1*eE+0)+0),((1*z59+0)+0),((1*eY+0)+0),((1*fi+0)+0),((1*fC+0)+0),((1*dY+0)+0)] [fN,gN,gI,gp]->
 aK λhS=>aK λgq=>aK λz70=>aK λhT=>S 222 [((1*z0+0)+0),((1*av+0)+0),((1*z2+0)+0),((1*z3+0)+0),((1*z4+0)+0),((1*z5+0)+0),((1*bb+0)+0),((1*aJ+0)+0),((1*aD+0)+0),((1*z9+0)+0),((1*aW+0)+0),((1*aI+0)+0),((1*z12+0)+0),((1*aY+0)+0),((1*aM+0)+0),((1*aT+0)+0),((1*bd+0)+0),((1*aX+0)+0),((1*bj+0)+0),((1*bn+0)+0),((1*z20+0)+0),((1*z21+0)+0),((1*z22+0)+0),((1*bJ+0)+0),((1*z24+0)+0),((1*b6+0)+0),((1*z26+0)+0),((1*bW+0)+0),((1*z28+0)+0),((1*b3+0)+0),((1*cj+0)+0),((1*z31+0)+0),((1*a7+0)+0),((1*bR+0)+0),((1*cf+0)+0),((1*b7+0)+0),((1*ck+0)+0),((1*z37+0)+0),((1*cS+0)+0),((1*cG+0)+0),((1*z40+0)+0),((1*cI+0)+0),((1*c7+0)+0),((1*df+0)+0),((1*dL+0)+0),((1*dx+0)+0),((1*z46+0)+0),((1*dp+0)+0),((1*dC+0)+0),((1*z49+0)+0),((1*ey+0)+0),((1*z51+0)+0),((1*dc+0)+0),((1*z53+0)+0),((1*ef+0)+0),((1*ez+0)+0),((1*eg+0)+0),((1*cO+0)+0),((1*eE+0)+0),((1*z59+0)+0),((1*eY+0)+0),((1*fi+0)+0),((1*fC+0)+0),((1*dY+0)+0)] [hS,gq,z70,hT]->
 aK λz72=>aK λgO=>aK λjq=>aK λz75=>S 23 [((1*fN+0)+0),((1*gN+0)+0),((1*gI+0)+0),((1*gp+0)+0),((1*hS+0)+0),((1*gq+0)+0),((1*z70+0)+0),((1*hT+0)+0)] [z72,gO,jq,z75]->
 aq λz76=>aq λk9=>aq λkc=>aq λke=>aq λlC=>aq λmE=>aq λlD=>aq λjI=>aq λlV=>aq λz85=>aq λlE=>aq λz87=>aq λnH=>aq λlF=>aq λoi=>aq λz91=>aq λlW=>aq λz93=>aq λoN=>aq λqN=>aq λzt=>aq λxQ=>aq λxR=>aq λjw=>aq λtp=>aq λzq=>aq λxO=>aq λzr=>aq λxP=>aq λz105=>aq λIL=>aq λz107=>S 26 [((1*z72+0)+0),((1*gO+0)+0),((1*jq+0)+0),((1*z75+0)+0)] [z76,k9,kc,ke,lC,mE,lD,jI,lV,z85,lE,z87,nH,lF,oi,z91,lW,z93,oN,qN,zt,xQ,xR,jw,tp,zq,xO,zr,xP,z105,IL,z107]->
 K [z0,av,z2,z3,z4,z5,bb,aJ,aD,z9,aW,aI,z12,aY,aM,aT,bd,aX,bj,bn,z20,z21,z22,bJ,z24,b6,z26,bW,z28,b3,cj,z31,a7,bR,cf,b7,ck,z37,cS,cG,z40,cI,c7,df,dL,dx,z46,dp,dC,z49,ey,z51,dc,z53,ef,ez,eg,cO,eE,z59,eY,fi,fC,dY] [((1*z76+0)+0),((1*k9+0)+0),((1*kc+0)+0),((1*ke+0)+0),((1*lC+0)+0),((1*mE+0)+0),((1*lD+0)+0),((1*jI+0)+0),((1*lV+0)+0),((1*z85+0)+0),((1*lE+0)+0),((1*z87+0)+0),((1*nH+0)+0),((1*lF+0)+0),((1*oi+0)+0),((1*z91+0)+0),((1*lW+0)+0),((1*z93+0)+0),((1*oN+0)+0),((1*qN+0)+0),((1*zt+0)+0),((1*xQ+0)+0),((1*xR+0)+0),((1*jw+0)+0),((1*tp+0)+0),((1*zq+0)+0),((1*xO+0)+0),((1*zr+0)+0),((1*xP+0)+0),((1*z105+0)+0),((1*IL+0)+0),((1*z107+0)+0)]
theorem adA:X1 cC λzs rs=>ay (aU oF.res) rs/\cC 11 zs rs:=by
 simp(maxSteps:=4000000) only[X1,aq,aK];simp(maxSteps:=4000000) only[xW,xV,Cr];intro z0 a0 dq av bG bQ z2 a2 b9 z3 a3 dh z4 a4 mI z5 a5 mJ bb pB pE aJ p9 qc aD jN jP z9 a9 fJ aW iQ iE aI e8 fc z12 a12 iJ aY fP fT aM jf jg aT fF fH bd jx jz aX fG fU bj gd gu bn gf gh z20 a20 fI z21 a21 fy z22 a22 fp bJ fw dT z24 a24 eG b6 fQ fV z26 a26 fW bW fR gi z28 a28 gA b3 gg gj cj gr gk z31 a31 gK a7 cD gm bR e9 fe cf fx fA b7 fm fq ck fa e0 z37 a37 fX cS fb fr cG fo fB z40 a40 gL cI jM jO c7 jy iF df kM kS dL kN ky dx lZ ml z46 a46 l3 dp kO kT dC kP kU z49 a49 kV ey l0 mm z51 a51 lf dc kQ kW z53 a53 lg ef lJ lh ez mi mn eg kR lj cO kv kj eE mj mK z59 a59 lk eY na nj fi nc nk fC nd mL dY pC qa fN ir nm gN nf nn gI ng np gp nL nq aF hS pD qb gq nM nO z70 a70 nP hT nN nQ s1 z72 a72 nR gO zG wK jq zH zL z75 a75 zM s2 z76 a76 wL k9 x4 x9 kc x5 ya ke x6 yb lC Bb Bf mE x7 yc lD wC wM jI wD wN lV wE wO z85 a85 zN lE CJ CM z87 a87 Ev nH En Ew lF Eo Ex oi Ep Ey z91 a91 GF lW Gx GG z93 a93 GH oN Gy GI qN Jh Jn zt L9 Me xQ Yd YG xR Ye YH jw Yf YI tp X5 Yv zq X6 Yw xO X7 Yx zr X8 Yy xP X9 Yz z105 a105 YA IL Ya YB z107 a107 YC bm;simp(maxSteps:=2000000) only[cC,vb,yU,yV,ru,rv,va,yY,vX,yT,AO,vd,yX,vc,yW,xC,AN,xD,xE,yZ,xF,mG,qS,ur,kL,gP,h9]at aF s1 s2 bm;refine⟨?_,?_⟩
 ·simp only[oF,aU,gC,D.bds,aS,jJ,eM,iq,ay,and_true];exact⟨a76,wL,x4,x9,x5,ya,x6,yb,Bb,Bf,x7,yc,wC,wM,wD,wN,wE,wO,a85,zN,CJ,CM,a87,Ev,En,Ew,Eo,Ex,Ep,Ey,a91,GF,Gx,GG,a93,GH,Gy,GI,Jh,Jn,L9,Me,Yd,YG,Ye,YH,Yf,YI,X5,Yv,X6,Yw,X7,Yx,X8,Yy,X9,Yz,a105,YA,Ya,YB,a107,YC⟩
 ·simp only[cC,vb,yU,yV,ru,rv,va,yY,vX,yT,AO,vd,yX,vc,yW,xC,AN,xD,xE,yZ,xF];rw[bm,s2];have ar:aa [fN,gN,gI,gp,hS,gq,z70,hT]=aa [fN,gN,gI,gp]+115792089237316195423570985008687907853269984665640564039457584007913129639936*aa [hS,gq,z70,hT]:=by simp only[num];omega
  have aG:nb [z0,av,z2,z3,z4,z5,bb,aJ,aD,z9,aW,aI,z12,aY,aM,aT,bd,aX,bj,bn,z20,z21,z22,bJ,z24,b6,z26,bW,z28,b3,cj,z31,a7,bR,cf,b7,ck,z37,cS,cG,z40,cI,c7,df,dL,dx,z46,dp,dC,z49,ey,z51,dc,z53,ef,ez,eg,cO,eE,z59,eY,fi,fC,dY]=nb [z0,av,z2,z3,z4,z5,bb,aJ,aD,z9,aW,aI,z12,aY,aM,aT,bd,aX,bj,bn,z20,z21,z22,bJ,z24,b6,z26,bW,z28,b3,cj,z31]+115792089237316195423570985008687907853269984665640564039457584007913129639936*nb [a7,bR,cf,b7,ck,z37,cS,cG,z40,cI,c7,df,dL,dx,z46,dp,dC,z49,ey,z51,dc,z53,ef,ez,eg,cO,eE,z59,eY,fi,fC,dY]:=by simp only[num];omega
  rw[ar,aG,aF,s1]
def XY (S:Nat->List Int->List Int->Prop) (K:List Int->List Int->Prop):Prop:=
 aq λz0=>
 aq λav=>
 aq λz2=>
 aq λz3=>
 aq λz4=>
 aq λz5=>
 aq λbb=>
 aq λaJ=>
 aq λaD=>
 aq λz9=>
 aq λaW=>
 aq λaI=>
 aq λz12=>
 aq λaY=>
 aq λaM=>
 aq λaT=>
 aq λbd=>
 aq λaX=>
 aq λbj=>
 aq λbn=>
 aq λz20=>
 aq λz21=>
 aq λz22=>
 aq λbJ=>
 aq λz24=>
 aq λb6=>
 aq λz26=>
 aq λbW=>
 aq λz28=>
 aq λb3=>
 aq λcj=>
 aq λz31=>
 aq λa7=>
 aq λbR=>
 aq λcf=>
 aq λb7=>
 aq λck=>
 aq λz37=>
 aq λcS=>
 aq λcG=>
 aq λz40=>
 aq λcI=>
 aq λc7=>
 aq λdf=>
 aq λdL=>
 aq λdx=>
 aq λz46=>
 aq λdp=>
 aq λdC=>
 aq λz49=>
 aq λey=>
 aq λz51=>
 aq λdc=>
 aq λz53=>
 aq λef=>
 aq λez=>
 aq λeg=>
 aq λcO=>
 aq λeE=>
 aq λz59=>
 aq λeY=>
 aq λfi=>
 aq λfC=>
 aq λdY=>
 aq λfN=>
 aq λgN=>
 aq λgI=>
 aq λgp=>
 aq λhS=>
 aq λgq=>
 aq λz70=>
 aq λhT=>
 aq λz72=>
 aq λgO=>
 aq λjq=>
 aq λz75=>
 aq λz76=>
 aq λk9=>
 aq λkc=>
 aq λke=>
 aq λlC=>
 aq λmE=>
 aq λlD=>
 aq λjI=>
 aq λlV=>
 aq λz85=>
 aq λlE=>
 aq λz87=>
 aq λnH=>
 aq λlF=>
 aq λoi=>
 aq λz91=>
 aq λlW=>
 aq λz93=>
 aq λoN=>
 aq λqN=>
 aK λzt=>aK λxQ=>aK λxR=>aK λjw=>S 22 [((1*z0+0)+0),((1*av+0)+0),((1*z2+0)+0),((1*z3+0)+0),((1*z4+0)+0),((1*z5+0)+0),((1*bb+0)+0),((1*aJ+0)+0),((1*aD+0)+0),((1*z9+0)+0),((1*aW+0)+0),((1*aI+0)+0),((1*z12+0)+0),((1*aY+0)+0),((1*aM+0)+0),((1*aT+0)+0),((1*bd+0)+0),((1*aX+0)+0),((1*bj+0)+0),((1*bn+0)+0),((1*z20+0)+0),((1*z21+0)+0),((1*z22+0)+0),((1*bJ+0)+0),((1*z24+0)+0),((1*b6+0)+0),((1*z26+0)+0),((1*bW+0)+0),((1*z28+0)+0),((1*b3+0)+0),((1*cj+0)+0),((1*z31+0)+0)] [zt,xQ,xR,jw]->
 aK λtp=>aK λzq=>aK λxO=>aK λzr=>S 22 [((1*a7+0)+0),((1*bR+0)+0),((1*cf+0)+0),((1*b7+0)+0),((1*ck+0)+0),((1*z37+0)+0),((1*cS+0)+0),((1*cG+0)+0),((1*z40+0)+0),((1*cI+0)+0),((1*c7+0)+0),((1*df+0)+0),((1*dL+0)+0),((1*dx+0)+0),((1*z46+0)+0),((1*dp+0)+0),((1*dC+0)+0),((1*z49+0)+0),((1*ey+0)+0),((1*z51+0)+0),((1*dc+0)+0),((1*z53+0)+0),((1*ef+0)+0),((1*ez+0)+0),((1*eg+0)+0),((1*cO+0)+0),((1*eE+0)+0),((1*z59+0)+0),((1*eY+0)+0),((1*fi+0)+0),((1*fC+0)+0),((1*dY+0)+0)] [tp,zq,xO,zr]->
 aK λxP=>aK λz105=>aK λIL=>aK λz107=>aK λD2=>aK λz109=>aK λafr=>aK λafs=>S 21 [((1*zt+0)+0),((1*xQ+0)+0),((1*xR+0)+0),((1*jw+0)+0),((1*tp+0)+0),((1*zq+0)+0),((1*xO+0)+0),((1*zr+0)+0)] [xP,z105,IL,z107,D2,z109,afr,afs]->
 aK λVM=>aK λVN=>aK λIM=>aK λIN=>S 23 [((1*xP+0)+0),((1*z105+0)+0),((1*IL+0)+0),((1*z107+0)+0),((1*D2+0)+0),((1*z109+0)+0),((1*afr+0)+0),((1*afs+0)+0)] [VM,VN,IM,IN]->
 aK λz116=>aK λz117=>aK λIP=>aK λz119=>S 22 [((1*fN+0)+0),((1*gN+0)+0),((1*gI+0)+0),((1*gp+0)+0),((1*hS+0)+0),((1*gq+0)+0),((1*z70+0)+0),((1*hT+0)+0),((1*z72+0)+0),((1*gO+0)+0),((1*jq+0)+0),((1*z75+0)+0),((1*z76+0)+0),((1*k9+0)+0),((1*kc+0)+0),((1*ke+0)+0),((1*lC+0)+0),((1*mE+0)+0),((1*lD+0)+0),((1*jI+0)+0),((1*lV+0)+0),((1*z85+0)+0),((1*lE+0)+0),((1*z87+0)+0),((1*nH+0)+0),((1*lF+0)+0),((1*oi+0)+0),((1*z91+0)+0),((1*lW+0)+0),((1*z93+0)+0),((1*oN+0)+0),((1*qN+0)+0)] [z116,z117,IP,z119]->
 aK λVO=>aK λVP=>aK λVQ=>aK λVR=>S 25 [((1*z116+0)+0),((1*z117+0)+0),((1*IP+0)+0),((1*z119+0)+0)] [VO,VP,VQ,VR]->
 aK λz124=>aK λVS=>aK λVT=>aK λz127=>de λarZ=>S 24 [((1*VM+0)+0),((1*VN+0)+0),((1*IM+0)+0),((1*IN+0)+0),((1*VO+0)+0),((1*VP+0)+0),((1*VQ+0)+0),((1*VR+0)+0)] [z124,VS,VT,z127,arZ]->
 aK λaft=>aK λz130=>aK λz131=>aK λafu=>S 25 [((1*z124+0)+0),((1*VS+0)+0),((1*VT+0)+0),((1*z127+0)+0)] [aft,z130,z131,afu]->
 aq λAT=>aq λafv=>aq λafw=>aq λafx=>aq λafy=>aq λz138=>aq λz139=>aq λafz=>aq λz141=>aq λafA=>aq λz143=>aq λafB=>aq λz145=>aq λz146=>aq λafC=>aq λz148=>aq λafD=>aq λafE=>aq λafF=>aq λz152=>aq λafG=>aq λz154=>aq λafH=>aq λz156=>aq λz157=>aq λAU=>aq λz159=>aq λz160=>aq λafI=>aq λz162=>aq λhA=>aq λz164=>S 26 [((1*aft+0)+0),((1*z130+0)+0),((1*z131+0)+0),((1*afu+0)+0)] [AT,afv,afw,afx,afy,z138,z139,afz,z141,afA,z143,afB,z145,z146,afC,z148,afD,afE,afF,z152,afG,z154,afH,z156,z157,AU,z159,z160,afI,z162,hA,z164]->
 K [z0,av,z2,z3,z4,z5,bb,aJ,aD,z9,aW,aI,z12,aY,aM,aT,bd,aX,bj,bn,z20,z21,z22,bJ,z24,b6,z26,bW,z28,b3,cj,z31,a7,bR,cf,b7,ck,z37,cS,cG,z40,cI,c7,df,dL,dx,z46,dp,dC,z49,ey,z51,dc,z53,ef,ez,eg,cO,eE,z59,eY,fi,fC,dY,fN,gN,gI,gp,hS,gq,z70,hT,z72,gO,jq,z75,z76,k9,kc,ke,lC,mE,lD,jI,lV,z85,lE,z87,nH,lF,oi,z91,lW,z93,oN,qN] [((1*AT+0)+0),((1*afv+0)+0),((1*afw+0)+0),((1*afx+0)+0),((1*afy+0)+0),((1*z138+0)+0),((1*z139+0)+0),((1*afz+0)+0),((1*z141+0)+0),((1*afA+0)+0),((1*z143+0)+0),((1*afB+0)+0),((1*z145+0)+0),((1*z146+0)+0),((1*afC+0)+0),((1*z148+0)+0),((1*afD+0)+0),((1*afE+0)+0),((1*afF+0)+0),((1*z152+0)+0),((1*afG+0)+0),((1*z154+0)+0),((1*afH+0)+0),((1*z156+0)+0),((1*z157+0)+0),((1*AU+0)+0),((1*z159+0)+0),((1*z160+0)+0),((1*afI+0)+0),((1*z162+0)+0),((1*hA+0)+0),((1*z164+0)+0)]
theorem aGi:XY cC λzs rs=>ay (aU Fs.res) rs/\cC 8 zs rs:=by
 simp(maxSteps:=4000000) only[XY,aq,aK,de];simp(maxSteps:=4000000) only[xW,xV,Cr];intro z0 a0 dq av bG bQ z2 a2 b9 z3 a3 dh z4 a4 mI z5 a5 mJ bb pB pE aJ p9 qc aD jN jP z9 a9 fJ aW iQ iE aI e8 fc z12 a12 iJ aY fP fT aM jf jg aT fF fH bd jx jz aX fG fU bj gd gu bn gf gh z20 a20 fI z21 a21 fy z22 a22 fp bJ fw dT z24 a24 eG b6 fQ fV z26 a26 fW bW fR gi z28 a28 gA b3 gg gj cj gr gk z31 a31 gK a7 cD gm bR e9 fe cf fx fA b7 fm fq ck fa e0 z37 a37 fX cS fb fr cG fo fB z40 a40 gL cI jM jO c7 jy iF df kM kS dL kN ky dx lZ ml z46 a46 l3 dp kO kT dC kP kU z49 a49 kV ey l0 mm z51 a51 lf dc kQ kW z53 a53 lg ef lJ lh ez mi mn eg kR lj cO kv kj eE mj mK z59 a59 lk eY na nj fi nc nk fC nd mL dY pC qa fN ir nm gN nf nn gI ng np gp nL nq hS pD qb gq nM nO z70 a70 nP hT nN nQ z72 a72 nR gO zG wK jq zH zL z75 a75 zM z76 a76 wL k9 x4 x9 kc x5 ya ke x6 yb lC Bb Bf mE x7 yc lD wC wM jI wD wN lV wE wO z85 a85 zN lE CJ CM z87 a87 Ev nH En Ew lF Eo Ex oi Ep Ey z91 a91 GF lW Gx GG z93 a93 GH oN Gy GI qN Jh Jn zt L9 Me xQ Yd YG xR Ye YH jw Yf YI aF tp X5 Yv zq X6 Yw xO X7 Yx zr X8 Yy s1 xP X9 Yz z105 a105 YA IL Ya YB z107 a107 YC D2 ahs aif z109 a109 auw afr at2 auy afs at3 auz s2 VM aht aih VN ahu aii IM Yb YD IN Yc YE bm z116 a116 YF z117 a117 aij IP ahv aik z119 a119 auA cr VO ahw ail VP ahx aim VQ ahy ain VR ahz aio dJ z124 a124 aip VS ahA aiq VT ahB air z127 a127 ais arZ aPX aQr ee aft at4 auB z130 a130 auC z131 a131 auD afu at5 auE eU AT ahC ait afv ahD aiu afw ahE aiv afx ahF aiw afy ahG aix z138 a138 aiy z139 a139 aiz afz ahH aiA z141 a141 aiB afA ahI aiC z143 a143 aiD afB ahJ aiE z145 a145 aiF z146 a146 aiG afC ahK aiH z148 a148 aiI afD ahL aiJ afE ahM aiK afF ahN aiL z152 a152 aiM afG ahO aiN z154 a154 aiO afH ahP aiP z156 a156 aiQ z157 a157 aiR AU ahQ aiS z159 a159 aiT z160 a160 aiU afI ahR aiV z162 a162 aiW hA ahS aiX z164 a164 aiY gG;simp(maxSteps:=2000000) only[cC,vb,yU,yV,ru,rv,va,yY,vX,yT,AO,vd,yX,vc,yW,xC,AN,xD,xE,yZ,xF,mG,qS,ur,kL,gP,h9]at aF s1 s2 bm cr dJ ee eU gG;have n112:=mX aht aih ahu aii Yb YD Yc YE;have n120:=mX ahw ail ahx aim ahy ain ahz aio;have n124:=mX a124 aip ahA aiq ahB air a127 ais;refine⟨?_,?_⟩
 ·simp only[Fs,aU,gC,D.bds,aS,jJ,eM,iq,ay,and_true];exact⟨ahC,ait,ahD,aiu,ahE,aiv,ahF,aiw,ahG,aix,a138,aiy,a139,aiz,ahH,aiA,a141,aiB,ahI,aiC,a143,aiD,ahJ,aiE,a145,aiF,a146,aiG,ahK,aiH,a148,aiI,ahL,aiJ,ahM,aiK,ahN,aiL,a152,aiM,ahO,aiN,a154,aiO,ahP,aiP,a156,aiQ,a157,aiR,ahQ,aiS,a159,aiT,a160,aiU,ahR,aiV,a162,aiW,ahS,aiX,a164,aiY⟩
 ·simp only[cC,vb,yU,yV,ru,rv,va,yY,vX,yT,AO,vd,yX,vc,yW,xC,AN,xD,xE,yZ,xF,mG,qS,ur,kL,gP,h9];rw[gG,eU];rw[s2,aF,s1]at bm;rw[cr]at dJ;clear aF s1 s2 cr eU gG a0 dq bG bQ a2 b9 a3 dh a4 mI a5 mJ pB pE p9 qc jN jP a9 fJ iQ iE e8 fc a12 iJ fP fT jf jg fF fH jx jz fG fU gd gu gf gh a20 fI a21 fy a22 fp fw dT a24 eG fQ fV a26 fW fR gi a28 gA gg gj gr gk a31 gK cD gm e9 fe fx fA fm fq fa e0 a37 fX fb fr fo fB a40 gL jM jO jy iF kM kS kN ky lZ ml a46 l3 kO kT kP kU a49 kV l0 mm a51 lf kQ kW a53 lg lJ lh mi mn kR lj kv kj mj mK a59 lk na nj nc nk nd mL pC qa ir nm nf nn ng np nL nq pD qb nM nO a70 nP nN nQ a72 nR zG wK zH zL a75 zM a76 wL x4 x9 x5 ya x6 yb Bb Bf x7 yc wC wM wD wN wE wO a85 zN CJ CM a87 Ev En Ew Eo Ex Ep Ey a91 GF Gx GG a93 GH Gy GI Jh Jn L9 Me Yd YG Ye YH Yf YI X5 Yv X6 Yw X7 Yx X8 Yy X9 Yz a105 YA Ya YB a107 YC ahs aif a109 auw at2 auy at3 auz aht aih ahu aii Yb YD Yc YE a116 YF a117 aij ahv aik a119 auA ahw ail ahx aim ahy ain ahz aio a124 aip ahA aiq ahB air a127 ais at4 auB a130 auC a131 auD at5 auE ahC ait ahD aiu ahE aiv ahF aiw ahG aix a138 aiy a139 aiz ahH aiA a141 aiB ahI aiC a143 aiD ahJ aiE a145 aiF a146 aiG ahK aiH a148 aiI ahL aiJ ahM aiK ahN aiL a152 aiM ahO aiN a154 aiO ahP aiP a156 aiQ a157 aiR ahQ aiS a159 aiT a160 aiU ahR aiV a162 aiW ahS aiX a164 aiY;generalize aa [VM,VN,IM,IN]=aPG at*;generalize aa [VO,VP,VQ,VR]=aPI at*;generalize aa [z124,VS,VT,z127]=aPJ at*;generalize nb [z0,av,z2,z3,z4,z5,bb,aJ,aD,z9,aW,aI,z12,aY,aM,aT,bd,aX,bj,bn,z20,z21,z22,bJ,z24,b6,z26,bW,z28,b3,cj,z31]*nb [a7,bR,cf,b7,ck,z37,cS,cG,z40,cI,c7,df,dL,dx,z46,dp,dC,z49,ey,z51,dc,z53,ef,ez,eg,cO,eE,z59,eY,fi,fC,dY]=M at*;generalize nb [fN,gN,gI,gp,hS,gq,z70,hT,z72,gO,jq,z75,z76,k9,kc,ke,lC,mE,lD,jI,lV,z85,lE,z87,nH,lF,oi,z91,lW,z93,oN,qN]=C at*;omega
end Go.ot
namespace Go.Fd
open Go.bX
def Ww (S:zzS) (K:zzK):Prop:=
 ∀r0:List Int,ay (aS 0 xk 5) r0->
 au 0 4095 (I r0 0 0) fL λz5=>
 au 0 4095 (I r0 0 0) fL λbb=>
 au 0 4096 ((I r0 1 0)+z5) fL λaJ=>
 au 0 4096 ((I r0 1 0)+z5) fL λaD=>
 au 0 4096 ((I r0 2 0)+aJ) fL λz9=>
 au 0 4096 ((I r0 2 0)+aJ) fL λaW=>
 au 0 4096 ((I r0 3 0)+z9) fL λaI=>
 au 0 4096 ((I r0 3 0)+z9) fL λz12=>
 au 0 4096 ((I r0 4 0)+aI) fL λaY=>
 au 0 4096 ((I r0 4 0)+aI) fL λaM=>
 bo ((I r0 0 0)+((ek*bb)+(19*aY))) fL λaT=>
 bo ((I r0 0 0)+((ek*bb)+(19*aY))) fL λbd=>
 bo ((I r0 1 0)+(z5+((ek*aD)+aT))) fL λaX=>
 bo ((I r0 1 0)+(z5+((ek*aD)+aT))) fL λbj=>
 bo ((I r0 2 0)+(aJ+((ek*aW)+aX))) fL λbn=>
 bo ((I r0 2 0)+(aJ+((ek*aW)+aX))) fL λz20=>
 bo ((I r0 3 0)+(z9+((ek*z12)+bn))) fL λz21=>
 bo ((I r0 3 0)+(z9+((ek*z12)+bn))) fL λz22=>
 bo ((I r0 4 0)+(aI+((ek*aM)+z21))) fL λbJ=>
 bo ((I r0 4 0)+(aI+((ek*aM)+z21))) fL λz24=>
 K [r0] [[((I r0 0 0)+((ek*bb)+((19*aY)+((ek*bd)+(19*bJ))))),((I r0 1 0)+(z5+((ek*aD)+(aT+(ek*bj))))),((I r0 2 0)+(aJ+((ek*aW)+(aX+(ek*z20))))),((I r0 3 0)+(z9+((ek*z12)+(bn+(ek*z22))))),((I r0 4 0)+(aI+((ek*aM)+(z21+(ek*z24)))))]]
theorem aFK (G):Ww (fk G) (eT k0.res 46):=by
 simp(maxSteps:=4000000) only[Ww,au,bo,ek,xk,fL];intro r0 i0 z5 a5 mJ fY d5 bb pB pE hK d6 aJ p9 qc nr d7 aD jN jP mq d8 z9 a9 fJ kk d9 aW iQ iE qf d10 aI e8 fc mo d11 z12 a12 iJ ou d12 aY fP fT ye d13 aM jf jg pF d14 aT fF fH oS d15 bd jx jz Bg d16 aX fG fU oT d17 bj gd gu ov d18 bn gf gh zO d19 z20 a20 fI ow d20 z21 a21 fy kA d21 z22 a22 fp sK d22 bJ fw dT ox d23 z24 a24 eG oy d24;refine⟨?_,?_⟩
 ·obtain⟨dw,ah,ag,ao,dB,rfl,cU,cV,cW,cX,cY,cZ,c0,c2,xM,xN⟩:=BJ i0;simp only[gP,h9]at*;have oa:z5=bb:=dup fY d5 hK d6;subst oa;have pd:aJ=aD:=dup nr d7 mq d8;subst pd;have adG:z9=aW:=dup kk d9 qf d10;subst adG;have adH:aI=z12:=dup mo d11 ou d12;subst adH;have adI:aY=aM:=dup ye d13 pF d14;subst adI;have O2:aT=bd:=dup oS d15 Bg d16;subst O2;have O3:aX=bj:=dup oT d17 ov d18;subst O3;have O4:bn=z20:=dup zO d19 ow d20;subst O4;have O5:z21=z22:=dup kA d21 sK d22;subst O5;have O6:bJ=z24:=dup ox d23 oy d24;subst O6;simp only[k0,aU,D.bds,hX,aS,jJ,eM,iq,qO,vk,ay,and_true];omega
 ·show v5 [((I r0 0 0)+(((-2251799813685248)*bb)+((19*aY)+(((-2251799813685248)*bd)+(19*bJ))))),((I r0 1 0)+(z5+(((-2251799813685248)*aD)+(aT+((-2251799813685248)*bj))))),((I r0 2 0)+(aJ+(((-2251799813685248)*aW)+(aX+((-2251799813685248)*z20))))),((I r0 3 0)+(z9+(((-2251799813685248)*z12)+(bn+((-2251799813685248)*z22))))),((I r0 4 0)+(aI+(((-2251799813685248)*aM)+(z21+((-2251799813685248)*z24)))))]% 57896044618658097711785492504343953926634992332820282019728792003956564819949=v5 r0% 57896044618658097711785492504343953926634992332820282019728792003956564819949/\v5 [((I r0 0 0)+(((-2251799813685248)*bb)+((19*aY)+(((-2251799813685248)*bd)+(19*bJ))))),((I r0 1 0)+(z5+(((-2251799813685248)*aD)+(aT+((-2251799813685248)*bj))))),((I r0 2 0)+(aJ+(((-2251799813685248)*aW)+(aX+((-2251799813685248)*z20))))),((I r0 3 0)+(z9+(((-2251799813685248)*z12)+(bn+((-2251799813685248)*z22))))),((I r0 4 0)+(aI+(((-2251799813685248)*aM)+(z21+((-2251799813685248)*z24)))))]<57896044618658097711785492504343953926634992332820282019728792003956564819949+38;obtain⟨dw,ah,ag,ao,dB,rfl,cU,cV,cW,cX,cY,cZ,c0,c2,xM,xN⟩:=BJ i0;simp only[gP,h9]at*;have oa:z5=bb:=dup fY d5 hK d6;subst oa;have pd:aJ=aD:=dup nr d7 mq d8;subst pd;have adG:z9=aW:=dup kk d9 qf d10;subst adG;have adH:aI=z12:=dup mo d11 ou d12;subst adH;have adI:aY=aM:=dup ye d13 pF d14;subst adI;have O2:aT=bd:=dup oS d15 Bg d16;subst O2;have O3:aX=bj:=dup oT d17 ov d18;subst O3;have O4:bn=z20:=dup zO d19 ow d20;subst O4;have O5:z21=z22:=dup kA d21 sK d22;subst O5;have O6:bJ=z24:=dup ox d23 oy d24;subst O6;have e:v5 [(dw+(((-2251799813685248)*z5)+((19*aY)+(((-2251799813685248)*aT)+(19*bJ))))),(ah+(z5+(((-2251799813685248)*aJ)+(aT+((-2251799813685248)*aX))))),(ag+(aJ+(((-2251799813685248)*z9)+(aX+((-2251799813685248)*bn))))),(ao+(z9+(((-2251799813685248)*aI)+(bn+((-2251799813685248)*z21))))),(dB+(aI+(((-2251799813685248)*aY)+(z21+((-2251799813685248)*bJ)))))]=v5 [dw,ah,ag,ao,dB]+57896044618658097711785492504343953926634992332820282019728792003956564819949*(-(aY+bJ)):=by
   clear a5 mJ fY d5 pB pE hK d6 p9 qc nr d7 jN jP mq d8 a9 fJ kk d9 iQ iE qf d10 e8 fc mo d11 a12 iJ ou d12 fP fT ye d13 jf jg pF d14 fF fH oS d15 jx jz Bg d16 fG fU oT d17 gd gu ov d18 gf gh zO d19 a20 fI ow d20 a21 fy kA d21 a22 fp sK d22 fw dT ox d23 a24 eG oy d24;simp only[DV];omega
  refine⟨?_,?_⟩
  ·show v5 [(dw+(((-2251799813685248)*z5)+((19*aY)+(((-2251799813685248)*aT)+(19*bJ))))),(ah+(z5+(((-2251799813685248)*aJ)+(aT+((-2251799813685248)*aX))))),(ag+(aJ+(((-2251799813685248)*z9)+(aX+((-2251799813685248)*bn))))),(ao+(z9+(((-2251799813685248)*aI)+(bn+((-2251799813685248)*z21))))),(dB+(aI+(((-2251799813685248)*aY)+(z21+((-2251799813685248)*bJ)))))]% 57896044618658097711785492504343953926634992332820282019728792003956564819949=v5 [dw,ah,ag,ao,dB]% 57896044618658097711785492504343953926634992332820282019728792003956564819949;rw[e,xX]
  ·show v5 [(dw+(((-2251799813685248)*z5)+((19*aY)+(((-2251799813685248)*aT)+(19*bJ))))),(ah+(z5+(((-2251799813685248)*aJ)+(aT+((-2251799813685248)*aX))))),(ag+(aJ+(((-2251799813685248)*z9)+(aX+((-2251799813685248)*bn))))),(ao+(z9+(((-2251799813685248)*aI)+(bn+((-2251799813685248)*z21))))),(dB+(aI+(((-2251799813685248)*aY)+(z21+((-2251799813685248)*bJ)))))]<57896044618658097711785492504343953926634992332820282019728792003956564819949+38;clear e;simp only[DV];omega
def WH (S:zzS) (K:zzK):Prop:=
 lA 32 λr0=>
 au 0 8191 ((I r0 0 0)+((256*(I r0 1 0))+((65536*(I r0 2 0))+((iX*(I r0 3 0))+((iY*(I r0 4 0))+((iZ*(I r0 5 0))+((ja*(I r0 6 0))+(jt*(I r0 7 0))))))))) fL λa7=>
 au 0 8191 ((I r0 0 0)+((256*(I r0 1 0))+((65536*(I r0 2 0))+((iX*(I r0 3 0))+((iY*(I r0 4 0))+((iZ*(I r0 5 0))+((ja*(I r0 6 0))+(jt*(I r0 7 0))))))))) fL λbR=>
 au 0 8191 ((8192*(I r0 8 0))+((Ki*(I r0 9 0))+((Kj*(I r0 10 0))+((Kk*(I r0 11 0))+((Kl*(I r0 12 0))+((SR*(I r0 13 0))+((SS*(I r0 14 0))+(SU*(I r0 15 0))))))))) a8 λcf=>
 au 0 8191 ((8192*(I r0 8 0))+((Ki*(I r0 9 0))+((Kj*(I r0 10 0))+((Kk*(I r0 11 0))+((Kl*(I r0 12 0))+((SR*(I r0 13 0))+((SS*(I r0 14 0))+((SU*(I r0 15 0))+(bR+(ab*cf)))))))))) fL λb7=>
 au 0 abM ((I r0 8 0)+((256*(I r0 9 0))+((65536*(I r0 10 0))+((iX*(I r0 11 0))+((iY*(I r0 12 0))+((iZ*(I r0 13 0))+((ja*(I r0 14 0))+(jt*(I r0 15 0))))))))) am4 λck=>
 au 0 abM ((Km*(I r0 16 0))+((Kn*(I r0 17 0))+((Ko*(I r0 18 0))+((Kp*(I r0 19 0))+((SV*(I r0 20 0))+((SW*(I r0 21 0))+((SX*(I r0 22 0))+(SY*(I r0 23 0))))))))) a8 λz37=>
 au 0 8191 ((Km*(I r0 16 0))+((Kn*(I r0 17 0))+((Ko*(I r0 18 0))+((Kp*(I r0 19 0))+((SV*(I r0 20 0))+((SW*(I r0 21 0))+((SX*(I r0 22 0))+((SY*(I r0 23 0))+(ck+(ab*z37)))))))))) fL λcS=>
 au 0 Kq ((I r0 16 0)+((256*(I r0 17 0))+((65536*(I r0 18 0))+((iX*(I r0 19 0))+((iY*(I r0 20 0))+((iZ*(I r0 21 0))+((ja*(I r0 22 0))+(jt*(I r0 23 0))))))))) am5 λcG=>
 au 0 Kq ((Kr*(I r0 24 0))+((Ks*(I r0 25 0))+((SZ*(I r0 26 0))+((S0*(I r0 27 0))+((S1*(I r0 28 0))+((S2*(I r0 29 0))+((S3*(I r0 30 0))+(S4*(I r0 31 0))))))))) a8 λz40=>
 au 0 8191 ((Kr*(I r0 24 0))+((Ks*(I r0 25 0))+((SZ*(I r0 26 0))+((S0*(I r0 27 0))+((S1*(I r0 28 0))+((S2*(I r0 29 0))+((S3*(I r0 30 0))+((S4*(I r0 31 0))+(cG+(ab*z40)))))))))) fL λcI=>
 au 0 am6 ((I r0 24 0)+((256*(I r0 25 0))+((65536*(I r0 26 0))+((iX*(I r0 27 0))+((iY*(I r0 28 0))+((iZ*(I r0 29 0))+((ja*(I r0 30 0))+(jt*(I r0 31 0))))))))) 4096 λc7=>
 dj 5 S 46 [[((I r0 0 0)+((256*(I r0 1 0))+((65536*(I r0 2 0))+((iX*(I r0 3 0))+((iY*(I r0 4 0))+((iZ*(I r0 5 0))+((ja*(I r0 6 0))+((jt*(I r0 7 0))+(ek*a7))))))))),((8192*(I r0 8 0))+((Ki*(I r0 9 0))+((Kj*(I r0 10 0))+((Kk*(I r0 11 0))+((Kl*(I r0 12 0))+((SR*(I r0 13 0))+((SS*(I r0 14 0))+((SU*(I r0 15 0))+(bR+((ab*cf)+(ek*b7))))))))))),((Km*(I r0 16 0))+((Kn*(I r0 17 0))+((Ko*(I r0 18 0))+((Kp*(I r0 19 0))+((SV*(I r0 20 0))+((SW*(I r0 21 0))+((SX*(I r0 22 0))+((SY*(I r0 23 0))+(ck+((ab*z37)+(ek*cS))))))))))),((Kr*(I r0 24 0))+((Ks*(I r0 25 0))+((SZ*(I r0 26 0))+((S0*(I r0 27 0))+((S1*(I r0 28 0))+((S2*(I r0 29 0))+((S3*(I r0 30 0))+((S4*(I r0 31 0))+(cG+((ab*z40)+(ek*cI))))))))))),c7]] λPH=>
 K [r0] [PH]
theorem aF7 (G):WH (fk G) (eT r9.res 29):=by
 simp(maxSteps:=4000000) only[WH,au,dj,lA,iX,iY,iZ,ja,jt,ab,a8,ek,fL,Ki,Kj,Kk,Kl,SR,SS,SU,abM,am4,Km,Kn,Ko,Kp,SV,SW,SX,SY,Kq,am5,Kr,Ks,SZ,S0,S1,S2,S3,S4,am6];intro r0 i0 a7 cD gm rN d32 bR e9 fe ll d33 cf fx fA oU d34 b7 fm fq qY d35 ck fa e0 pG d36 z37 a37 fX yf d37 cS fb fr qh d38 cG fo fB oV d39 z40 a40 gL zP d40 cI jM jO qi d41 c7 jy iF oW d42 PH i43 aF;have aF:v5 PH% 57896044618658097711785492504343953926634992332820282019728792003956564819949=v5 [((I r0 0 0)+((256*(I r0 1 0))+((65536*(I r0 2 0))+((16777216*(I r0 3 0))+((4294967296*(I r0 4 0))+((1099511627776*(I r0 5 0))+((281474976710656*(I r0 6 0))+((72057594037927936*(I r0 7 0))+((-2251799813685248)*a7))))))))),((8192*(I r0 8 0))+((2097152*(I r0 9 0))+((536870912*(I r0 10 0))+((137438953472*(I r0 11 0))+((35184372088832*(I r0 12 0))+((9007199254740992*(I r0 13 0))+((2305843009213693952*(I r0 14 0))+((590295810358705651712*(I r0 15 0))+(bR+(((-18446744073709551616)*cf)+((-2251799813685248)*b7))))))))))),((67108864*(I r0 16 0))+((17179869184*(I r0 17 0))+((4398046511104*(I r0 18 0))+((1125899906842624*(I r0 19 0))+((288230376151711744*(I r0 20 0))+((73786976294838206464*(I r0 21 0))+((18889465931478580854784*(I r0 22 0))+((4835703278458516698824704*(I r0 23 0))+(ck+(((-18446744073709551616)*z37)+((-2251799813685248)*cS))))))))))),((549755813888*(I r0 24 0))+((140737488355328*(I r0 25 0))+((36028797018963968*(I r0 26 0))+((9223372036854775808*(I r0 27 0))+((2361183241434822606848*(I r0 28 0))+((604462909807314587353088*(I r0 29 0))+((154742504910672534362390528*(I r0 30 0))+((39614081257132168796771975168*(I r0 31 0))+(cG+(((-18446744073709551616)*z40)+((-2251799813685248)*cI))))))))))),c7]% 57896044618658097711785492504343953926634992332820282019728792003956564819949/\v5 PH<57896044618658097711785492504343953926634992332820282019728792003956564819949+38:=aF.1;refine⟨?_,?_⟩
 ·exact ld i43
 ·show v5 PH% 57896044618658097711785492504343953926634992332820282019728792003956564819949=nb r0% 57896044618658097711785492504343953926634992332820282019728792003956564819949;obtain⟨dw,ah,ag,ao,dB,kb,kq,oe,po,pq,p2,jH,k8,pn,y6,y7,y8,y9,za,zb,zc,zd,ze,zf,zg,zh,zi,zj,zk,zl,zm,zn,rfl,cU,cV,cW,cX,cY,cZ,c0,c2,xM,xN,arI,arJ,arK,arL,arM,arN,arO,arP,arQ,arR,aqW,aqX,aqY,aqZ,aq0,aq1,aq2,aq3,aq4,aq5,aq6,aq7,aq8,aq9,ara,arb,arc,ard,arf,arh,ari,arj,ark,arl,arn,aro,arp,arq,ars,art,aru,arv,arw,arx,ary,arz,arA,arB,arC,arD,arE,arF,arG,arH⟩:=HB i0;simp only[gP,h9]at*;have adJ:a7=bR:=dup rN d32 ll d33;subst adJ;have O7:ck=8192*cf+b7:=by
   clear rN d32 e9 fe ll d33 fx fA fm fq fa e0 a37 fX yf d37 fb fr qh d38 fo fB oV d39 a40 gL zP d40 jM jO qi d41 jy iF oW d42 aF;omega
  have Ul:cG=8192*z37+cS:=by
   clear cD gm rN d32 e9 fe ll d33 fx fA oU d34 fm fq qY d35 pG d36 a37 fX fb fr fo fB a40 gL zP d40 jM jO qi d41 jy iF oW d42 aF;clear O7;omega
  have adL:c7=8192*z40+cI:=by
   clear cD gm rN d32 e9 fe ll d33 fx fA oU d34 fm fq qY d35 fa e0 pG d36 a37 fX yf d37 fb fr qh d38 oV d39 a40 gL jM jO jy iF aF;clear O7 Ul;omega
  rw[aF.1]
  congr 1
  clear cD gm rN d32 e9 fe ll d33 fx fA oU d34 fm fq qY d35 fa e0 pG d36 a37 fX yf d37 fb fr qh d38 fo fB oV d39 a40 gL zP d40 jM jO qi d41 jy iF oW d42 aF;subst adL;subst Ul;subst O7;simp only[num];omega
def Wv (S:zzS) (K:zzK):Prop:=
 bF 5 λr0=>
 dj 5 S 46 [r0] λaE=>
 au 0 2 ((I aE 0 0)+19) fL λaW=>
 au 0 2 ((I aE 1 0)+aW) fL λaI=>
 au 0 2 ((I aE 2 0)+aI) fL λz12=>
 au 0 2 ((I aE 3 0)+z12) fL λaY=>
 au 0 2 ((I aE 4 0)+aY) fL λaM=>
 au 0 2 ((I aE 0 0)+(19*aM)) fL λaT=>
 au 0 2 ((I aE 0 0)+(19*aM)) fL λbd=>
 au 0 2 ((I aE 1 0)+aT) fL λaX=>
 au 0 2 ((I aE 1 0)+aT) fL λbj=>
 au 0 2 ((I aE 2 0)+aX) fL λbn=>
 au 0 2 ((I aE 2 0)+aX) fL λz20=>
 au 0 2 ((I aE 3 0)+bn) fL λz21=>
 au 0 2 ((I aE 3 0)+bn) fL λz22=>
 au 0 2 ((I aE 4 0)+z21) fL λbJ=>
 au 0 2 ((I aE 4 0)+z21) fL λz24=>
 au 0 abR ((I aE 0 0)+((19*aM)+(ek*bd))) 256 λb6=>
 au 0 abR ((I aE 0 0)+((19*aM)+(ek*bd))) 256 λz26=>
 au 0 abS z26 256 λbW=>
 au 0 abS ((I aE 0 0)+((19*aM)+(ek*bd))) 65536 λz28=>
 au 0 abT z28 256 λb3=>
 au 0 abT ((I aE 0 0)+((19*aM)+(ek*bd))) iX λcj=>
 au 0 524287 cj 256 λz31=>
 au 0 524287 ((I aE 0 0)+((19*aM)+(ek*bd))) iY λa7=>
 au 0 2047 a7 256 λbR=>
 au 0 2047 ((I aE 0 0)+((19*aM)+(ek*bd))) iZ λcf=>
 au 0 7 cf 256 λb7=>
 au 0 7 ((I aE 0 0)+((19*aM)+(ek*bd))) ja λck=>
 au 0 abU ((8*(I aE 1 0))+((8*aT)+(abN*bj))) 256 λz37=>
 au 0 abU ((I aE 1 0)+(aT+(ek*bj))) 32 λcS=>
 au 0 abV cS 256 λcG=>
 au 0 abV ((I aE 1 0)+(aT+(ek*bj))) 8192 λz40=>
 au 0 abW z40 256 λcI=>
 au 0 abW ((I aE 1 0)+(aT+(ek*bj))) Ki λc7=>
 au 0 abX c7 256 λdf=>
 au 0 abX ((I aE 1 0)+(aT+(ek*bj))) Kj λdL=>
 au 0 16383 dL 256 λdx=>
 au 0 16383 ((I aE 1 0)+(aT+(ek*bj))) Kk λz46=>
 au 0 63 z46 256 λdp=>
 au 0 63 ((I aE 1 0)+(aT+(ek*bj))) Kl λdC=>
 au 0 abY ((64*(I aE 2 0))+((64*aX)+(abO*z20))) 256 λz49=>
 au 0 abY ((I aE 2 0)+(aX+(ek*z20))) 4 λey=>
 au 0 abZ ey 256 λz51=>
 au 0 abZ ((I aE 2 0)+(aX+(ek*z20))) 1024 λdc=>
 au 0 ab0 dc 256 λz53=>
 au 0 ab0 ((I aE 2 0)+(aX+(ek*z20))) 262144 λef=>
 au 0 ab1 ef 256 λez=>
 au 0 ab1 ((I aE 2 0)+(aX+(ek*z20))) Km λeg=>
 au 0 131071 eg 256 λcO=>
 au 0 131071 ((I aE 2 0)+(aX+(ek*z20))) Kn λeE=>
 au 0 511 eE 256 λz59=>
 au 0 511 ((I aE 2 0)+(aX+(ek*z20))) Ko λeY=>
 bo eY 256 λfi=>
 bo ((I aE 2 0)+(aX+(ek*z20))) Kp λfC=>
 au 0 ab2 ((2*(I aE 3 0))+((2*bn)+(abP*z22))) 256 λdY=>
 au 0 ab2 ((I aE 3 0)+(bn+(ek*z22))) 128 λfN=>
 au 0 ab3 fN 256 λgN=>
 au 0 ab3 ((I aE 3 0)+(bn+(ek*z22))) 32768 λgI=>
 au 0 ab4 gI 256 λgp=>
 au 0 ab4 ((I aE 3 0)+(bn+(ek*z22))) am7 λhS=>
 au 0 ab5 hS 256 λgq=>
 au 0 ab5 ((I aE 3 0)+(bn+(ek*z22))) am8 λz70=>
 au 0 4095 z70 256 λhT=>
 au 0 4095 ((I aE 3 0)+(bn+(ek*z22))) Kr λz72=>
 au 0 15 z72 256 λgO=>
 au 0 15 ((I aE 3 0)+(bn+(ek*z22))) Ks λjq=>
 au 0 ab6 ((16*(I aE 4 0))+((16*z21)+(abQ*z24))) 256 λz75=>
 au 0 ab6 ((I aE 4 0)+(z21+(ek*z24))) 16 λz76=>
 au 0 Kq z76 256 λk9=>
 au 0 Kq ((I aE 4 0)+(z21+(ek*z24))) 4096 λkc=>
 au 0 ab7 kc 256 λke=>
 au 0 ab7 ((I aE 4 0)+(z21+(ek*z24))) am9 λlC=>
 au 0 ab8 lC 256 λmE=>
 au 0 ab8 ((I aE 4 0)+(z21+(ek*z24))) ana λlD=>
 au 0 32767 lD 256 λjI=>
 au 0 32767 ((I aE 4 0)+(z21+(ek*z24))) anb λlV=>
 au 0 127 lV 256 λz85=>
 au 0 127 ((I aE 4 0)+(z21+(ek*z24))) anc λlE=>
 K [r0] [[((I aE 0 0)+((19*aM)+((ek*bd)+((-256)*b6)))),(z26+((-256)*bW)),(z28+((-256)*b3)),(cj+((-256)*z31)),(a7+((-256)*bR)),(cf+((-256)*b7)),((8*(I aE 1 0))+((8*aT)+((abN*bj)+(ck+((-256)*z37))))),(cS+((-256)*cG)),(z40+((-256)*cI)),(c7+((-256)*df)),(dL+((-256)*dx)),(z46+((-256)*dp)),((64*(I aE 2 0))+((64*aX)+((abO*z20)+(dC+((-256)*z49))))),(ey+((-256)*z51)),(dc+((-256)*z53)),(ef+((-256)*ez)),(eg+((-256)*cO)),(eE+((-256)*z59)),(eY+((-256)*fi)),((2*(I aE 3 0))+((2*bn)+((abP*z22)+(fC+((-256)*dY))))),(fN+((-256)*gN)),(gI+((-256)*gp)),(hS+((-256)*gq)),(z70+((-256)*hT)),(z72+((-256)*gO)),((16*(I aE 4 0))+((16*z21)+((abQ*z24)+(jq+((-256)*z75))))),(z76+((-256)*k9)),(kc+((-256)*ke)),(lC+((-256)*mE)),(lD+((-256)*jI)),(lV+((-256)*z85)),lE]]
structure rH (p:Prop):Prop where
 h:p
theorem b5 {a b c d:Prop} (ha:a) (hb:b) (hc:c) (hd:d):rH (a/\b/\c/\d):=⟨ha,hb,hc,hd⟩
theorem adw (G):Wv (fk G) (eT jb.res 31):=by
 simp(maxSteps:=4000000) only[Wv,au,bo,dj,bF,iX,iY,iZ,ja,ek,fL,Ki,Kj,Kk,Kl,Km,Kn,Ko,Kp,Kq,Kr,Ks,abN,abO,abP,abQ,abR,abS,abT,abU,abV,abW,abX,abY,abZ,ab0,ab1,ab2,ab3,ab4,am7,ab5,am8,ab6,ab7,am9,ab8,ana,anb,anc];intro r0 i0 aE i5 aF aW iQ iE qf d10 aI e8 fc mo d11 z12 a12 iJ ou d12 aY fP fT ye d13 aM jf jg pF d14 aT fF fH oS d15 bd jx jz Bg d16 aX fG fU oT d17 bj gd gu ov d18 bn gf gh zO d19 z20 a20 fI ow d20 z21 a21 fy kA d21 z22 a22 fp sK d22 bJ fw dT ox d23 z24 a24 eG oy d24 b6 fQ fV qg d25 z26 a26 fW uz d26 bW fR gi GM d27 z28 a28 gA rM d28 b3 gg gj tw d29 cj gr gk sL d30 z31 a31 gK sM d31 a7 cD gm rN d32 bR e9 fe ll d33 cf fx fA oU d34 b7 fm fq qY d35 ck fa e0 pG d36 z37 a37 fX yf d37 cS fb fr qh d38 cG fo fB oV d39 z40 a40 gL zP d40 cI jM jO qi d41 c7 jy iF oW d42 df kM kS sN d43 dL kN ky uA d44 dx lZ ml GN d45 z46 a46 l3 rO d46 dp kO kT tx d47 dC kP kU sO d48 z49 a49 kV sP d49 ey l0 mm Mk d50 z51 a51 lf rP d51 dc kQ kW rQ d52 z53 a53 lg uB d53 ef lJ lh sQ d54 ez mi mn GO d55 eg kR lj sR d56 cO kv kj qZ d57 eE mj mK GP d58 z59 a59 lk tz d59 eY na nj uC d60 fi nc nk vy d61 fC nd mL yg d62 dY pC qa Rh d63 fN ir nm uD d64 gN nf nn wS d65 gI ng np vz d66 gp nL nq vA d67 hS pD qb ajl d68 gq nM nO uE d69 z70 a70 nP uF d70 hT nN nQ yh d71 z72 a72 nR vB d72 gO zG wK Ri d73 jq zH zL ajn d74 z75 a75 zM Rj d75 z76 a76 wL Rk d76 k9 x4 x9 ajo d77 kc x5 ya Rl d78 ke x6 yb Rm d79 lC Bb Bf Rn d80 mE x7 yc Ml d81 lD wC wM EB d82 jI wD wN Ro d83 lV wE wO EC d84 z85 a85 zN Mm d85 lE CJ CM GQ d86;have qk:=b5 iQ iE qf d10;have awd:=b5 e8 fc mo d11;have EJ:=b5 a12 iJ ou d12;have tD:=b5 fP fT ye d13
 have zS:=b5 jf jg pF d14;have JA:=b5 fF fH oS d15;have mP:=b5 jx jz Bg d16;have EK:=b5 fG fU oT d17
 have Bk:=b5 gd gu ov d18;have oB:=b5 gf gh zO d19;have EL:=b5 a20 fI ow d20;have GW:=b5 a21 fy kA d21
 have ql:=b5 a22 fp sK d22;have Mw:=b5 fw dT ox d23;have EM:=b5 a24 eG oy d24;have EN:=b5 fQ fV qg d25
 have Bl:=b5 a26 fW uz d26;have q1:=b5 fR gi GM d27;have Mx:=b5 a28 gA rM d28;have CV:=b5 gg gj tw d29
 have My:=b5 gr gk sL d30;have GX:=b5 a31 gK sM d31;have rS:=b5 cD gm rN d32;have JB:=b5 e9 fe ll d33
 have Mz:=b5 fx fA oU d34;have JC:=b5 fm fq qY d35;have GY:=b5 fa e0 pG d36;have qm:=b5 a37 fX yf d37
 have EO:=b5 fb fr qh d38;have GZ:=b5 fo fB oV d39;have sU:=b5 a40 gL zP d40;have CW:=b5 jM jO qi d41
 have MA:=b5 jy iF oW d42;have MB:=b5 kM kS sN d43;have Bm:=b5 kN ky uA d44;have tE:=b5 lZ ml GN d45
 have Zn:=b5 a46 l3 rO d46;have EP:=b5 kO kT tx d47;have MC:=b5 kP kU sO d48;have zT:=b5 a49 kV sP d49
 have qn:=b5 l0 mm Mk d50;have ER:=b5 a51 lf rP d51;have MD:=b5 kQ kW rQ d52;have Bn:=b5 a53 lg uB d53
 have G0:=b5 lJ lh sQ d54;have rT:=b5 mi mn GO d55;have ES:=b5 kR lj sR d56;have ME:=b5 kv kj qZ d57
 have sV:=b5 mj mK GP d58;have G2:=b5 a59 lk tz d59;have Zo:=b5 na nj uC d60;have Zp:=b5 nc nk vy d61
 have ET:=b5 nd mL yg d62;have oC:=b5 pC qa Rh d63;have Zq:=b5 ir nm uD d64;have Bo:=b5 nf nn wS d65
 have Zr:=b5 ng np vz d66;have EU:=b5 nL nq vA d67;have rU:=b5 pD qb ajl d68;have MF:=b5 nM nO uE d69
 have Zs:=b5 a70 nP uF d70;have G3:=b5 nN nQ yh d71;have MG:=b5 a72 nR vB d72;have Zt:=b5 zG wK Ri d73
 have JD:=b5 zH zL ajn d74;have EV:=b5 a75 zM Rj d75;have Zu:=b5 a76 wL Rk d76;have Bp:=b5 x4 x9 ajo d77
 have Zv:=b5 x5 ya Rl d78;have JE:=b5 x6 yb Rm d79;have Zw:=b5 Bb Bf Rn d80;have MH:=b5 x7 yc Ml d81
 have Zx:=b5 wC wM EB d82;have G4:=b5 wD wN Ro d83;have Zy:=b5 wE wO EC d84;have JF:=b5 a85 zN Mm d85
 have Zz:=b5 CJ CM GQ d86;clear iQ iE qf d10 e8 fc mo d11 a12 iJ ou d12 fP fT ye d13 jf jg pF d14 fF fH oS d15 jx jz Bg d16 fG fU oT d17 gd gu ov d18 gf gh zO d19 a20 fI ow d20 a21 fy kA d21 a22 fp sK d22 fw dT ox d23 a24 eG oy d24 fQ fV qg d25 a26 fW uz d26 fR gi GM d27 a28 gA rM d28 gg gj tw d29 gr gk sL d30 a31 gK sM d31 cD gm rN d32 e9 fe ll d33 fx fA oU d34 fm fq qY d35 fa e0 pG d36 a37 fX yf d37 fb fr qh d38 fo fB oV d39 a40 gL zP d40 jM jO qi d41 jy iF oW d42 kM kS sN d43 kN ky uA d44 lZ ml GN d45 a46 l3 rO d46 kO kT tx d47 kP kU sO d48 a49 kV sP d49 l0 mm Mk d50 a51 lf rP d51 kQ kW rQ d52 a53 lg uB d53 lJ lh sQ d54 mi mn GO d55 kR lj sR d56 kv kj qZ d57 mj mK GP d58 a59 lk tz d59 na nj uC d60 nc nk vy d61 nd mL yg d62 pC qa Rh d63 ir nm uD d64 nf nn wS d65 ng np vz d66 nL nq vA d67 pD qb ajl d68 nM nO uE d69 a70 nP uF d70 nN nQ yh d71 a72 nR vB d72 zG wK Ri d73 zH zL ajn d74 a75 zM Rj d75 a76 wL Rk d76 x4 x9 ajo d77 x5 ya Rl d78 x6 yb Rm d79 Bb Bf Rn d80 x7 yc Ml d81 wC wM EB d82 wD wN Ro d83 wE wO EC d84 a85 zN Mm d85 CJ CM GQ d86;have aF:v5 aE% 57896044618658097711785492504343953926634992332820282019728792003956564819949=v5 r0% 57896044618658097711785492504343953926634992332820282019728792003956564819949/\v5 aE<57896044618658097711785492504343953926634992332820282019728792003956564819949+38:=aF.1;have aF:=rH.mk aF;refine⟨?_,?_⟩
 ·obtain⟨dw,ah,ag,ao,dB,rfl,cU,cV,cW,cX,cY,cZ,c0,c2,xM,xN⟩:=BJ i5;have f0:=rH.mk (D7 cU cV);have f1:=rH.mk (D7 cW cX);have f2:=rH.mk (D7 cY cZ);have f3:=rH.mk (D7 c0 c2);have f4:=rH.mk (D7 xM xN)
  clear cU cV cW cX cY cZ c0 c2 xM xN;simp only[gP,h9]at*;simp only[jb,aU,D.bds,gC,aS,jJ,eM,iq,qO,vk,ay,and_true];exact⟨by have:=zS.h;have:=mP.h;have:=EN.h;omega,
   by have:=zS.h;have:=mP.h;have:=EN.h;omega,
   by have:=Bl.h;have:=q1.h;omega,
   by have:=Bl.h;have:=q1.h;omega,
   by have:=Mx.h;have:=CV.h;omega,
   by have:=Mx.h;have:=CV.h;omega,
   by have:=My.h;have:=GX.h;omega,
   by have:=My.h;have:=GX.h;omega,
   by have:=rS.h;have:=JB.h;omega,
   by have:=rS.h;have:=JB.h;omega,
   by have:=Mz.h;have:=JC.h;omega,
   by have:=Mz.h;have:=JC.h;omega,
   by have:=JA.h;have:=Bk.h;have:=GY.h;have:=qm.h;omega,
   by have:=JA.h;have:=Bk.h;have:=GY.h;have:=qm.h;omega,
   by have:=EO.h;have:=GZ.h;omega,
   by have:=EO.h;have:=GZ.h;omega,
   by have:=sU.h;have:=CW.h;omega,
   by have:=sU.h;have:=CW.h;omega,
   by have:=MA.h;have:=MB.h;omega,
   by have:=MA.h;have:=MB.h;omega,
   by have:=Bm.h;have:=tE.h;omega,
   by have:=Bm.h;have:=tE.h;omega,
   by have:=Zn.h;have:=EP.h;omega,
   by have:=Zn.h;have:=EP.h;omega,
   by have:=EK.h;have:=EL.h;have:=MC.h;have:=zT.h;omega,
   by have:=EK.h;have:=EL.h;have:=MC.h;have:=zT.h;omega,
   by have:=qn.h;have:=ER.h;omega,
   by have:=qn.h;have:=ER.h;omega,
   by have:=MD.h;have:=Bn.h;omega,
   by have:=MD.h;have:=Bn.h;omega,
   by have:=G0.h;have:=rT.h;omega,
   by have:=G0.h;have:=rT.h;omega,
   by have:=ES.h;have:=ME.h;omega,
   by have:=ES.h;have:=ME.h;omega,
   by have:=sV.h;have:=G2.h;omega,
   by have:=sV.h;have:=G2.h;omega,
   by have:=Zo.h;have:=Zp.h;omega,
   by have:=Zo.h;have:=Zp.h;omega,
   by have:=oB.h;have:=ql.h;have:=ET.h;have:=oC.h;omega,
   by have:=oB.h;have:=ql.h;have:=ET.h;have:=oC.h;omega,
   by have:=Zq.h;have:=Bo.h;omega,
   by have:=Zq.h;have:=Bo.h;omega,
   by have:=Zr.h;have:=EU.h;omega,
   by have:=Zr.h;have:=EU.h;omega,
   by have:=rU.h;have:=MF.h;omega,
   by have:=rU.h;have:=MF.h;omega,
   by have:=Zs.h;have:=G3.h;omega,
   by have:=Zs.h;have:=G3.h;omega,
   by have:=MG.h;have:=Zt.h;omega,
   by have:=MG.h;have:=Zt.h;omega,
   by have:=GW.h;have:=EM.h;have:=JD.h;have:=EV.h;omega,
   by have:=GW.h;have:=EM.h;have:=JD.h;have:=EV.h;omega,
   by have:=Zu.h;have:=Bp.h;omega,
   by have:=Zu.h;have:=Bp.h;omega,
   by have:=Zv.h;have:=JE.h;omega,
   by have:=Zv.h;have:=JE.h;omega,
   by have:=Zw.h;have:=MH.h;omega,
   by have:=Zw.h;have:=MH.h;omega,
   by have:=Zx.h;have:=G4.h;omega,
   by have:=Zx.h;have:=G4.h;omega,
   by have:=Zy.h;have:=JF.h;omega,
   by have:=Zy.h;have:=JF.h;omega,
   by have:=Zz.h;omega,
   by have:=Zz.h;omega⟩
 ·show nb [((I aE 0 0)+((19*aM)+(((-2251799813685248)*bd)+((-256)*b6)))),(z26+((-256)*bW)),(z28+((-256)*b3)),(cj+((-256)*z31)),(a7+((-256)*bR)),(cf+((-256)*b7)),((8*(I aE 1 0))+((8*aT)+(((-18014398509481984)*bj)+(ck+((-256)*z37))))),(cS+((-256)*cG)),(z40+((-256)*cI)),(c7+((-256)*df)),(dL+((-256)*dx)),(z46+((-256)*dp)),((64*(I aE 2 0))+((64*aX)+(((-144115188075855872)*z20)+(dC+((-256)*z49))))),(ey+((-256)*z51)),(dc+((-256)*z53)),(ef+((-256)*ez)),(eg+((-256)*cO)),(eE+((-256)*z59)),(eY+((-256)*fi)),((2*(I aE 3 0))+((2*bn)+(((-4503599627370496)*z22)+(fC+((-256)*dY))))),(fN+((-256)*gN)),(gI+((-256)*gp)),(hS+((-256)*gq)),(z70+((-256)*hT)),(z72+((-256)*gO)),((16*(I aE 4 0))+((16*z21)+(((-36028797018963968)*z24)+(jq+((-256)*z75))))),(z76+((-256)*k9)),(kc+((-256)*ke)),(lC+((-256)*mE)),(lD+((-256)*jI)),(lV+((-256)*z85)),lE]=v5 r0% 57896044618658097711785492504343953926634992332820282019728792003956564819949;have aQ:=aN2 i5;obtain⟨dw,ah,ag,ao,dB,rfl,cU,cV,cW,cX,cY,cZ,c0,c2,xM,xN⟩:=BJ i5;have f0:=rH.mk (D7 cU cV);have f1:=rH.mk (D7 cW cX);have f2:=rH.mk (D7 cY cZ);have f3:=rH.mk (D7 c0 c2);have f4:=rH.mk (D7 xM xN)
  clear cU cV cW cX cY cZ c0 c2 xM xN;simp only[gP,h9]at*;have O2:aT=bd:=by
   have:=JA.h;have:=mP.h;have:=f0.h;have:=f1.h;have:=f2.h;have:=f3.h;have:=f4.h
   omega
  subst O2;have O3:aX=bj:=by
   have:=EK.h;have:=Bk.h;have:=f0.h;have:=f1.h;have:=f2.h;have:=f3.h;have:=f4.h
   omega
  subst O3;have O4:bn=z20:=by
   have:=oB.h;have:=EL.h;have:=f0.h;have:=f1.h;have:=f2.h;have:=f3.h;have:=f4.h
   omega
  subst O4;have O5:z21=z22:=by
   have:=GW.h;have:=ql.h;have:=f0.h;have:=f1.h;have:=f2.h;have:=f3.h;have:=f4.h
   omega
  subst O5;have O6:bJ=z24:=by
   have:=Mw.h;have:=EM.h;have:=f0.h;have:=f1.h;have:=f2.h;have:=f3.h;have:=f4.h
   omega
  subst O6;have aIq:b6=z26:=by
   have:=EN.h;have:=Bl.h;have:=f0.h;have:=f1.h;have:=f2.h;have:=f3.h;have:=f4.h
   omega
  subst aIq;have aIs:bW=z28:=by
   have:=EN.h;have:=q1.h;have:=Mx.h;have:=f0.h;have:=f1.h;have:=f2.h;have:=f3.h;have:=f4.h
   omega
  subst aIs;have aIu:b3=cj:=by
   have:=EN.h;have:=q1.h;have:=CV.h;have:=My.h;have:=f0.h;have:=f1.h;have:=f2.h;have:=f3.h;have:=f4.h
   omega
  subst aIu;have aIw:z31=a7:=by
   have:=EN.h;have:=q1.h;have:=CV.h;have:=GX.h;have:=rS.h;have:=f0.h;have:=f1.h;have:=f2.h;have:=f3.h;have:=f4.h
   omega
  subst aIw;have aIx:bR=cf:=by
   have:=EN.h;have:=q1.h;have:=CV.h;have:=GX.h;have:=JB.h;have:=Mz.h;have:=f0.h;have:=f1.h;have:=f2.h;have:=f3.h;have:=f4.h
   omega
  subst aIx;have O7:b7=ck:=by
   have:=EN.h;have:=q1.h;have:=CV.h;have:=GX.h;have:=JB.h;have:=JC.h;have:=GY.h;have:=f0.h;have:=f1.h;have:=f2.h;have:=f3.h;have:=f4.h
   omega
  subst O7;have aIA:z37=cS:=by
   have:=qm.h;have:=EO.h;have:=f0.h;have:=f1.h;have:=f2.h;have:=f3.h;have:=f4.h
   omega
  subst aIA;have aIB:cG=z40:=by
   have:=qm.h;have:=GZ.h;have:=sU.h;have:=f0.h;have:=f1.h;have:=f2.h;have:=f3.h;have:=f4.h
   omega
  subst aIB;have adL:cI=c7:=by
   have:=qm.h;have:=GZ.h;have:=CW.h;have:=MA.h;have:=f0.h;have:=f1.h;have:=f2.h;have:=f3.h;have:=f4.h
   omega
  subst adL;have aIE:df=dL:=by
   have:=qm.h;have:=GZ.h;have:=CW.h;have:=MB.h;have:=Bm.h;have:=f0.h;have:=f1.h;have:=f2.h;have:=f3.h;have:=f4.h
   omega
  subst aIE;have aIG:dx=z46:=by
   have:=qm.h;have:=GZ.h;have:=CW.h;have:=MB.h;have:=tE.h;have:=Zn.h;have:=f0.h;have:=f1.h;have:=f2.h;have:=f3.h;have:=f4.h
   omega
  subst aIG;have aII:dp=dC:=by
   have:=qm.h;have:=GZ.h;have:=CW.h;have:=MB.h;have:=tE.h;have:=EP.h;have:=MC.h;have:=f0.h;have:=f1.h;have:=f2.h;have:=f3.h;have:=f4.h
   omega
  subst aII;have aIK:z49=ey:=by
   have:=zT.h;have:=qn.h;have:=f0.h;have:=f1.h;have:=f2.h;have:=f3.h;have:=f4.h
   omega
  subst aIK;have aIM:z51=dc:=by
   have:=zT.h;have:=ER.h;have:=MD.h;have:=f0.h;have:=f1.h;have:=f2.h;have:=f3.h;have:=f4.h
   omega
  subst aIM;have aIO:z53=ef:=by
   have:=zT.h;have:=ER.h;have:=Bn.h;have:=G0.h;have:=f0.h;have:=f1.h;have:=f2.h;have:=f3.h;have:=f4.h
   omega
  subst aIO;have aIQ:ez=eg:=by
   have:=zT.h;have:=ER.h;have:=Bn.h;have:=rT.h;have:=ES.h;have:=f0.h;have:=f1.h;have:=f2.h;have:=f3.h;have:=f4.h
   omega
  subst aIQ;have aIS:cO=eE:=by
   have:=zT.h;have:=ER.h;have:=Bn.h;have:=rT.h;have:=ME.h;have:=sV.h;have:=f0.h;have:=f1.h;have:=f2.h;have:=f3.h;have:=f4.h
   omega
  subst aIS;have aIU:z59=eY:=by
   have:=zT.h;have:=ER.h;have:=Bn.h;have:=rT.h;have:=ME.h;have:=G2.h;have:=Zo.h;have:=f0.h;have:=f1.h;have:=f2.h;have:=f3.h;have:=f4.h
   omega
  subst aIU;have aIV:fi=fC:=by
   have:=zT.h;have:=ER.h;have:=Bn.h;have:=rT.h;have:=ME.h;have:=G2.h;have:=Zp.h;have:=ET.h;have:=f0.h;have:=f1.h;have:=f2.h;have:=f3.h;have:=f4.h
   omega
  subst aIV;have aIW:dY=fN:=by
   have:=oC.h;have:=Zq.h;have:=f0.h;have:=f1.h;have:=f2.h;have:=f3.h;have:=f4.h
   omega
  subst aIW;have aIX:gN=gI:=by
   have:=oC.h;have:=Bo.h;have:=Zr.h;have:=f0.h;have:=f1.h;have:=f2.h;have:=f3.h;have:=f4.h
   omega
  subst aIX;have aIY:gp=hS:=by
   have:=oC.h;have:=Bo.h;have:=EU.h;have:=rU.h;have:=f0.h;have:=f1.h;have:=f2.h;have:=f3.h;have:=f4.h
   omega
  subst aIY;have aIZ:gq=z70:=by
   have:=oC.h;have:=Bo.h;have:=EU.h;have:=MF.h;have:=Zs.h;have:=f0.h;have:=f1.h;have:=f2.h;have:=f3.h;have:=f4.h
   omega
  subst aIZ;have aI0:hT=z72:=by
   have:=oC.h;have:=Bo.h;have:=EU.h;have:=MF.h;have:=G3.h;have:=MG.h;have:=f0.h;have:=f1.h;have:=f2.h;have:=f3.h;have:=f4.h
   omega
  subst aI0;have aI1:gO=jq:=by
   have:=oC.h;have:=Bo.h;have:=EU.h;have:=MF.h;have:=G3.h;have:=Zt.h;have:=JD.h;have:=f0.h;have:=f1.h;have:=f2.h;have:=f3.h;have:=f4.h
   omega
  subst aI1;have aI2:z75=z76:=by
   have:=EV.h;have:=Zu.h;have:=f0.h;have:=f1.h;have:=f2.h;have:=f3.h;have:=f4.h
   omega
  subst aI2;have aI3:k9=kc:=by
   have:=EV.h;have:=Bp.h;have:=Zv.h;have:=f0.h;have:=f1.h;have:=f2.h;have:=f3.h;have:=f4.h
   omega
  subst aI3;have aI4:ke=lC:=by
   have:=EV.h;have:=Bp.h;have:=JE.h;have:=Zw.h;have:=f0.h;have:=f1.h;have:=f2.h;have:=f3.h;have:=f4.h
   omega
  subst aI4;have adP:mE=lD:=by
   have:=EV.h;have:=Bp.h;have:=JE.h;have:=MH.h;have:=Zx.h;have:=f0.h;have:=f1.h;have:=f2.h;have:=f3.h;have:=f4.h
   omega
  subst adP;have aI5:jI=lV:=by
   have:=EV.h;have:=Bp.h;have:=JE.h;have:=MH.h;have:=G4.h;have:=Zy.h;have:=f0.h;have:=f1.h;have:=f2.h;have:=f3.h;have:=f4.h
   omega
  subst aI5;have aI7:z85=lE:=by
   have:=EV.h;have:=Bp.h;have:=JE.h;have:=MH.h;have:=G4.h;have:=JF.h;have:=Zz.h;have:=f0.h;have:=f1.h;have:=f2.h;have:=f3.h;have:=f4.h
   omega
  subst aI7;have aj6:nb [(dw+((19*aM)+(((-2251799813685248)*aT)+((-256)*b6)))),(b6+((-256)*bW)),(bW+((-256)*b3)),(b3+((-256)*z31)),(z31+((-256)*bR)),(bR+((-256)*b7)),((8*ah)+((8*aT)+(((-18014398509481984)*aX)+(b7+((-256)*z37))))),(z37+((-256)*cG)),(cG+((-256)*cI)),(cI+((-256)*df)),(df+((-256)*dx)),(dx+((-256)*dp)),((64*ag)+((64*aX)+(((-144115188075855872)*bn)+(dp+((-256)*z49))))),(z49+((-256)*z51)),(z51+((-256)*z53)),(z53+((-256)*ez)),(ez+((-256)*cO)),(cO+((-256)*z59)),(z59+((-256)*fi)),((2*ao)+((2*bn)+(((-4503599627370496)*z21)+(fi+((-256)*dY))))),(dY+((-256)*gN)),(gN+((-256)*gp)),(gp+((-256)*gq)),(gq+((-256)*hT)),(hT+((-256)*gO)),((16*dB)+((16*z21)+(((-36028797018963968)*bJ)+(gO+((-256)*z75))))),(z75+((-256)*k9)),(k9+((-256)*ke)),(ke+((-256)*mE)),(mE+((-256)*jI)),(jI+((-256)*z85)),z85]=v5 [dw,ah,ag,ao,dB]+19*aM-57896044618658097711785492504343953926634992332820282019728792003956564819968*bJ:=by
   have:=f0.h;have:=f1.h;have:=f2.h;have:=f3.h;have:=f4.h
   simp only[num];omega
  rw[aj6];clear aj6;obtain⟨apL,xB⟩:=aF.h;rw[<-apL];clear apL;have aBO:0<=dw+19-2251799813685248*aW/\dw+19-2251799813685248*aW<2251799813685248:=by
   have:=qk.h;have:=f0.h;have:=f1.h;have:=f2.h;have:=f3.h;have:=f4.h;clear aQ xB
   omega
  have aBP:0<=ah+aW-2251799813685248*aI/\ah+aW-2251799813685248*aI<2251799813685248:=by
   have:=awd.h;have:=f0.h;have:=f1.h;have:=f2.h;have:=f3.h;have:=f4.h;clear aQ xB
   omega
  have aBQ:0<=ag+aI-2251799813685248*z12/\ag+aI-2251799813685248*z12<2251799813685248:=by
   have:=EJ.h;have:=f0.h;have:=f1.h;have:=f2.h;have:=f3.h;have:=f4.h;clear aQ xB
   omega
  have aBR:0<=ao+z12-2251799813685248*aY/\ao+z12-2251799813685248*aY<2251799813685248:=by
   have:=tD.h;have:=f0.h;have:=f1.h;have:=f2.h;have:=f3.h;have:=f4.h;clear aQ xB
   omega
  have aBS:0<=dB+aY-2251799813685248*aM/\dB+aY-2251799813685248*aM<2251799813685248:=by
   have:=zS.h;have:=f0.h;have:=f1.h;have:=f2.h;have:=f3.h;have:=f4.h;clear aQ xB
   omega
  have k1:=akn aBO aBP aBQ aBR aBS;have aBT:0<=dw+19*aM-2251799813685248*aT/\dw+19*aM-2251799813685248*aT<2251799813685248:=by
   have:=JA.h;have:=f0.h;have:=f1.h;have:=f2.h;have:=f3.h;have:=f4.h;clear aQ xB
   omega
  have aBU:0<=ah+aT-2251799813685248*aX/\ah+aT-2251799813685248*aX<2251799813685248:=by
   have:=EK.h;have:=f0.h;have:=f1.h;have:=f2.h;have:=f3.h;have:=f4.h;clear aQ xB
   omega
  have aBV:0<=ag+aX-2251799813685248*bn/\ag+aX-2251799813685248*bn<2251799813685248:=by
   have:=oB.h;have:=f0.h;have:=f1.h;have:=f2.h;have:=f3.h;have:=f4.h;clear aQ xB
   omega
  have aBW:0<=ao+bn-2251799813685248*z21/\ao+bn-2251799813685248*z21<2251799813685248:=by
   have:=GW.h;have:=f0.h;have:=f1.h;have:=f2.h;have:=f3.h;have:=f4.h;clear aQ xB
   omega
  have aBX:0<=dB+z21-2251799813685248*bJ/\dB+z21-2251799813685248*bJ<2251799813685248:=by
   have:=Mw.h;have:=f0.h;have:=f1.h;have:=f2.h;have:=f3.h;have:=f4.h;clear aQ xB
   omega
  have k2:=akn aBT aBU aBV aBW aBX;have:=f0.h;have:=f1.h;have:=f2.h;have:=f3.h;have:=f4.h
  have am3:dw+19-2251799813685248*aW+2251799813685248*(ah+aW-2251799813685248*aI)+5070602400912917605986812821504*(ag+aI-2251799813685248*z12)+11417981541647679048466287755595961091061972992*(ao+z12-2251799813685248*aY)+25711008708143844408671393477458601640355247900524685364822016*(dB+aY-2251799813685248*aM)=v5 [dw,ah,ag,ao,dB]+19-57896044618658097711785492504343953926634992332820282019728792003956564819968*aM:=by
   clear aQ xB k1 k2;simp only[DV];omega
  have aBY:dw+19*aM-2251799813685248*aT+2251799813685248*(ah+aT-2251799813685248*aX)+5070602400912917605986812821504*(ag+aX-2251799813685248*bn)+11417981541647679048466287755595961091061972992*(ao+bn-2251799813685248*z21)+25711008708143844408671393477458601640355247900524685364822016*(dB+z21-2251799813685248*bJ)=v5 [dw,ah,ag,ao,dB]+19*aM-57896044618658097711785492504343953926634992332820282019728792003956564819968*bJ:=by
   clear aQ xB k1 k2 am3;simp only[DV];omega
  rw[am3]at k1;rw[aBY]at k2;exact canon aQ xB k1.1 k1.2 k2.1 k2.2
def WO (S:zzS) (K:zzK):Prop:=
 bF 5 λr0=>bF 5 λaE=>
 dj 5 S 46 [[((I r0 0 0)+(I aE 0 0)),((I r0 1 0)+(I aE 1 0)),((I r0 2 0)+(I aE 2 0)),((I r0 3 0)+(I aE 3 0)),((I r0 4 0)+(I aE 4 0))]] λcv=>
 K [r0,aE] [cv]
theorem adz (G):WO (fk G) (eT jl.res 34):=by
 simp(maxSteps:=4000000) only[WO,dj,bF];intro r0 i0 aE i5 cv i10 aF;have aF:v5 cv% 57896044618658097711785492504343953926634992332820282019728792003956564819949=v5 [((I r0 0 0)+(I aE 0 0)),((I r0 1 0)+(I aE 1 0)),((I r0 2 0)+(I aE 2 0)),((I r0 3 0)+(I aE 3 0)),((I r0 4 0)+(I aE 4 0))]% 57896044618658097711785492504343953926634992332820282019728792003956564819949/\v5 cv<57896044618658097711785492504343953926634992332820282019728792003956564819949+38:=aF.1;refine⟨?_,?_⟩
 ·exact ld i10
 ·show v5 cv% 57896044618658097711785492504343953926634992332820282019728792003956564819949=(v5 r0+v5 aE)% 57896044618658097711785492504343953926634992332820282019728792003956564819949;rw[aF.1];clear aF;obtain⟨dw,ah,ag,ao,dB,rfl,cU,cV,cW,cX,cY,cZ,c0,c2,xM,xN⟩:=BJ i0;obtain⟨jo,an,ak,ax,lT,rfl,wg,wh,wi,wj,wk,wm,wo,wq,arS,arT⟩:=BJ i5;simp only[gP,h9,DV]
  congr 1
  omega
def WL (S:zzS) (K:zzK):Prop:=
 bF 5 λr0=>bF 5 λaE=>
 dj 5 S 46 [[(((I r0 0 0)+((-1)*(I aE 0 0)))+ane),(((I r0 1 0)+((-1)*(I aE 1 0)))+N8),(((I r0 2 0)+((-1)*(I aE 2 0)))+N8),(((I r0 3 0)+((-1)*(I aE 3 0)))+N8),(((I r0 4 0)+((-1)*(I aE 4 0)))+N8)]] λcv=>
 K [r0,aE] [cv]
theorem ady (G):WL (fk G) (eT jk.res 32):=by
 simp(maxSteps:=4000000) only[WL,dj,bF,ane,N8];intro r0 i0 aE i5 cv i10 aF;have aF:v5 cv% 57896044618658097711785492504343953926634992332820282019728792003956564819949=v5 [(((I r0 0 0)+((-1)*(I aE 0 0)))+9007199254740916),(((I r0 1 0)+((-1)*(I aE 1 0)))+9007199254740988),(((I r0 2 0)+((-1)*(I aE 2 0)))+9007199254740988),(((I r0 3 0)+((-1)*(I aE 3 0)))+9007199254740988),(((I r0 4 0)+((-1)*(I aE 4 0)))+9007199254740988)]% 57896044618658097711785492504343953926634992332820282019728792003956564819949/\v5 cv<57896044618658097711785492504343953926634992332820282019728792003956564819949+38:=aF.1;refine⟨?_,?_⟩
 ·exact ld i10
 ·show v5 cv% 57896044618658097711785492504343953926634992332820282019728792003956564819949=(v5 r0-v5 aE)% 57896044618658097711785492504343953926634992332820282019728792003956564819949;rw[aF.1];clear aF;obtain⟨dw,ah,ag,ao,dB,rfl,cU,cV,cW,cX,cY,cZ,c0,c2,xM,xN⟩:=BJ i0;obtain⟨jo,an,ak,ax,lT,rfl,wg,wh,wi,wj,wk,wm,wo,wq,arS,arT⟩:=BJ i5;simp only[gP,h9];have e:v5 [((dw+((-1)*jo))+9007199254740916),((ah+((-1)*an))+9007199254740988),((ag+((-1)*ak))+9007199254740988),((ao+((-1)*ax))+9007199254740988),((dB+((-1)*lT))+9007199254740988)]=v5 [dw,ah,ag,ao,dB]-v5 [jo,an,ak,ax,lT]+57896044618658097711785492504343953926634992332820282019728792003956564819949*4:=by simp only[DV];omega
  rw[e,xX]
def Xl (S:zzS) (K:zzK):Prop:=
 bF 5 λr0=>bF 5 λaE=>
 dS tT ((I r0 0 0)*(I aE 0 0)) λaW=>
 au 0 j6 aW a8 λaI=>
 dS tT ((I r0 0 0)*(I aE 1 0)) λz12=>
 au 0 j6 z12 a8 λaY=>
 dS tT ((I r0 0 0)*(I aE 2 0)) λaM=>
 au 0 j6 aM a8 λaT=>
 dS tT ((I r0 0 0)*(I aE 3 0)) λbd=>
 au 0 j6 bd a8 λaX=>
 dS tT ((I r0 0 0)*(I aE 4 0)) λbj=>
 au 0 j6 bj a8 λbn=>
 dS tT ((I r0 1 0)*(I aE 0 0)) λz20=>
 au 0 j6 z20 a8 λz21=>
 bo (z12+((ab*aY)+(z20+(ab*z21)))) a8 λz22=>
 dS tT ((I r0 1 0)*(I aE 1 0)) λbJ=>
 au 0 j6 bJ a8 λz24=>
 bo (aM+((ab*aT)+(bJ+(ab*z24)))) a8 λb6=>
 dS tT ((I r0 1 0)*(I aE 2 0)) λz26=>
 au 0 j6 z26 a8 λbW=>
 bo (bd+((ab*aX)+(z26+(ab*bW)))) a8 λz28=>
 dS tT ((I r0 1 0)*(I aE 3 0)) λb3=>
 au 0 j6 b3 a8 λcj=>
 bo (bj+((ab*bn)+(b3+(ab*cj)))) a8 λz31=>
 dS Aq ((I r0 1 0)*(19*(I aE 4 0))) λa7=>
 au 0 Ar a7 a8 λbR=>
 bo (aW+((ab*aI)+(a7+(ab*bR)))) a8 λcf=>
 dS tT ((I r0 2 0)*(I aE 0 0)) λb7=>
 au 0 j6 b7 a8 λck=>
 bo (aM+((ab*aT)+(bJ+((ab*z24)+((ab*b6)+(b7+(ab*ck))))))) a8 λz37=>
 dS tT ((I r0 2 0)*(I aE 1 0)) λcS=>
 au 0 j6 cS a8 λcG=>
 bo (bd+((ab*aX)+(z26+((ab*bW)+((ab*z28)+(cS+(ab*cG))))))) a8 λz40=>
 dS tT ((I r0 2 0)*(I aE 2 0)) λcI=>
 au 0 j6 cI a8 λc7=>
 bo (bj+((ab*bn)+(b3+((ab*cj)+((ab*z31)+(cI+(ab*c7))))))) a8 λdf=>
 dS Aq ((I r0 2 0)*(19*(I aE 3 0))) λdL=>
 au 0 Ar dL a8 λdx=>
 bo (aW+((ab*aI)+(a7+((ab*bR)+((ab*cf)+(dL+(ab*dx))))))) a8 λz46=>
 dS Aq ((I r0 2 0)*(19*(I aE 4 0))) λdp=>
 au 0 Ar dp a8 λdC=>
 bo (z12+((ab*aY)+(z20+((ab*z21)+((ab*z22)+(dp+(ab*dC))))))) a8 λz49=>
 dS tT ((I r0 3 0)*(I aE 0 0)) λey=>
 au 0 j6 ey a8 λz51=>
 bo (bd+((ab*aX)+(z26+((ab*bW)+((ab*z28)+(cS+((ab*cG)+((ab*z40)+(ey+(ab*z51)))))))))) a8 λdc=>
 dS tT ((I r0 3 0)*(I aE 1 0)) λz53=>
 au 0 j6 z53 a8 λef=>
 bo (bj+((ab*bn)+(b3+((ab*cj)+((ab*z31)+(cI+((ab*c7)+((ab*df)+(z53+(ab*ef)))))))))) a8 λez=>
 dS Aq ((I r0 3 0)*(19*(I aE 2 0))) λeg=>
 au 0 Ar eg a8 λcO=>
 bo (aW+((ab*aI)+(a7+((ab*bR)+((ab*cf)+(dL+((ab*dx)+((ab*z46)+(eg+(ab*cO)))))))))) a8 λeE=>
 dS Aq ((I r0 3 0)*(19*(I aE 3 0))) λz59=>
 au 0 Ar z59 a8 λeY=>
 bo (z12+((ab*aY)+(z20+((ab*z21)+((ab*z22)+(dp+((ab*dC)+((ab*z49)+(z59+(ab*eY)))))))))) a8 λfi=>
 dS Aq ((I r0 3 0)*(19*(I aE 4 0))) λfC=>
 au 0 Ar fC a8 λdY=>
 bo (aM+((ab*aT)+(bJ+((ab*z24)+((ab*b6)+(b7+((ab*ck)+((ab*z37)+(fC+(ab*dY)))))))))) a8 λfN=>
 dS tT ((I r0 4 0)*(I aE 0 0)) λgN=>
 au 0 j6 gN a8 λgI=>
 bo (bj+((ab*bn)+(b3+((ab*cj)+((ab*z31)+(cI+((ab*c7)+((ab*df)+(z53+((ab*ef)+((ab*ez)+(gN+(ab*gI))))))))))))) a8 λgp=>
 dS Aq ((I r0 4 0)*(19*(I aE 1 0))) λhS=>
 au 0 Ar hS a8 λgq=>
 bo (aW+((ab*aI)+(a7+((ab*bR)+((ab*cf)+(dL+((ab*dx)+((ab*z46)+(eg+((ab*cO)+((ab*eE)+(hS+(ab*gq))))))))))))) a8 λz70=>
 dS Aq ((I r0 4 0)*(19*(I aE 2 0))) λhT=>
 au 0 Ar hT a8 λz72=>
 bo (z12+((ab*aY)+(z20+((ab*z21)+((ab*z22)+(dp+((ab*dC)+((ab*z49)+(z59+((ab*eY)+((ab*fi)+(hT+(ab*z72))))))))))))) a8 λgO=>
 dS Aq ((I r0 4 0)*(19*(I aE 3 0))) λjq=>
 au 0 Ar jq a8 λz75=>
 bo (aM+((ab*aT)+(bJ+((ab*z24)+((ab*b6)+(b7+((ab*ck)+((ab*z37)+(fC+((ab*dY)+((ab*fN)+(jq+(ab*z75))))))))))))) a8 λz76=>
 dS Aq ((I r0 4 0)*(19*(I aE 4 0))) λk9=>
 au 0 Ar k9 a8 λkc=>
 bo (bd+((ab*aX)+(z26+((ab*bW)+((ab*z28)+(cS+((ab*cG)+((ab*z40)+(ey+((ab*z51)+((ab*dc)+(k9+(ab*kc))))))))))))) a8 λke=>
 bo (aW+((ab*aI)+(a7+((ab*bR)+((ab*cf)+(dL+((ab*dx)+((ab*z46)+(eg+((ab*cO)+((ab*eE)+(hS+((ab*gq)+(ab*z70)))))))))))))) a8 λlC=>
 au 0 8191 (aW+((ab*aI)+(a7+((ab*bR)+((ab*cf)+(dL+((ab*dx)+((ab*z46)+(eg+((ab*cO)+((ab*eE)+(hS+((ab*gq)+((ab*z70)+(ab*lC))))))))))))))) fL λmE=>
 au 0 8191 (aW+((ab*aI)+(a7+((ab*bR)+((ab*cf)+(dL+((ab*dx)+((ab*z46)+(eg+((ab*cO)+((ab*eE)+(hS+((ab*gq)+((ab*z70)+(ab*lC))))))))))))))) fL λlD=>
 bo ((8192*aI)+(z12+((ab*aY)+(z20+((ab*z21)+((ab*z22)+((8192*bR)+((8192*cf)+((8192*dx)+((8192*z46)+(dp+((ab*dC)+((ab*z49)+((8192*cO)+((8192*eE)+(z59+((ab*eY)+((ab*fi)+((8192*gq)+((8192*z70)+(hT+((ab*z72)+((ab*gO)+((8192*lC)+lD)))))))))))))))))))))))) a8 λjI=>
 au 0 8191 ((8192*aI)+(z12+((ab*aY)+(z20+((ab*z21)+((ab*z22)+((8192*bR)+((8192*cf)+((8192*dx)+((8192*z46)+(dp+((ab*dC)+((ab*z49)+((8192*cO)+((8192*eE)+(z59+((ab*eY)+((ab*fi)+((8192*gq)+((8192*z70)+(hT+((ab*z72)+((ab*gO)+((8192*lC)+(lD+(ab*jI)))))))))))))))))))))))))) fL λlV=>
 au 0 8191 ((8192*aI)+(z12+((ab*aY)+(z20+((ab*z21)+((ab*z22)+((8192*bR)+((8192*cf)+((8192*dx)+((8192*z46)+(dp+((ab*dC)+((ab*z49)+((8192*cO)+((8192*eE)+(z59+((ab*eY)+((ab*fi)+((8192*gq)+((8192*z70)+(hT+((ab*z72)+((ab*gO)+((8192*lC)+(lD+(ab*jI)))))))))))))))))))))))))) fL λz85=>
 bo ((8192*aY)+(aM+((ab*aT)+((8192*z21)+((8192*z22)+(bJ+((ab*z24)+((ab*b6)+(b7+((ab*ck)+((ab*z37)+((8192*dC)+((8192*z49)+((8192*eY)+((8192*fi)+(fC+((ab*dY)+((ab*fN)+((8192*z72)+((8192*gO)+(jq+((ab*z75)+((ab*z76)+((8192*jI)+z85)))))))))))))))))))))))) a8 λlE=>
 au 0 8191 ((8192*aY)+(aM+((ab*aT)+((8192*z21)+((8192*z22)+(bJ+((ab*z24)+((ab*b6)+(b7+((ab*ck)+((ab*z37)+((8192*dC)+((8192*z49)+((8192*eY)+((8192*fi)+(fC+((ab*dY)+((ab*fN)+((8192*z72)+((8192*gO)+(jq+((ab*z75)+((ab*z76)+((8192*jI)+(z85+(ab*lE)))))))))))))))))))))))))) fL λz87=>
 au 0 8191 ((8192*aY)+(aM+((ab*aT)+((8192*z21)+((8192*z22)+(bJ+((ab*z24)+((ab*b6)+(b7+((ab*ck)+((ab*z37)+((8192*dC)+((8192*z49)+((8192*eY)+((8192*fi)+(fC+((ab*dY)+((ab*fN)+((8192*z72)+((8192*gO)+(jq+((ab*z75)+((ab*z76)+((8192*jI)+(z85+(ab*lE)))))))))))))))))))))))))) fL λnH=>
 bo ((8192*aT)+(bd+((ab*aX)+((8192*z24)+((8192*b6)+(z26+((ab*bW)+((ab*z28)+((8192*ck)+((8192*z37)+(cS+((ab*cG)+((ab*z40)+(ey+((ab*z51)+((ab*dc)+((8192*dY)+((8192*fN)+((8192*z75)+((8192*z76)+(k9+((ab*kc)+((ab*ke)+((8192*lE)+nH)))))))))))))))))))))))) a8 λlF=>
 au 0 8191 ((8192*aT)+(bd+((ab*aX)+((8192*z24)+((8192*b6)+(z26+((ab*bW)+((ab*z28)+((8192*ck)+((8192*z37)+(cS+((ab*cG)+((ab*z40)+(ey+((ab*z51)+((ab*dc)+((8192*dY)+((8192*fN)+((8192*z75)+((8192*z76)+(k9+((ab*kc)+((ab*ke)+((8192*lE)+(nH+(ab*lF)))))))))))))))))))))))))) fL λoi=>
 au 0 8191 ((8192*aT)+(bd+((ab*aX)+((8192*z24)+((8192*b6)+(z26+((ab*bW)+((ab*z28)+((8192*ck)+((8192*z37)+(cS+((ab*cG)+((ab*z40)+(ey+((ab*z51)+((ab*dc)+((8192*dY)+((8192*fN)+((8192*z75)+((8192*z76)+(k9+((ab*kc)+((ab*ke)+((8192*lE)+(nH+(ab*lF)))))))))))))))))))))))))) fL λz91=>
 bo ((8192*aX)+(bj+((ab*bn)+((8192*bW)+((8192*z28)+(b3+((ab*cj)+((ab*z31)+((8192*cG)+((8192*z40)+(cI+((ab*c7)+((ab*df)+((8192*z51)+((8192*dc)+(z53+((ab*ef)+((ab*ez)+(gN+((ab*gI)+((ab*gp)+((8192*kc)+((8192*ke)+((8192*lF)+z91)))))))))))))))))))))))) a8 λlW=>
 au 0 8191 ((8192*aX)+(bj+((ab*bn)+((8192*bW)+((8192*z28)+(b3+((ab*cj)+((ab*z31)+((8192*cG)+((8192*z40)+(cI+((ab*c7)+((ab*df)+((8192*z51)+((8192*dc)+(z53+((ab*ef)+((ab*ez)+(gN+((ab*gI)+((ab*gp)+((8192*kc)+((8192*ke)+((8192*lF)+(z91+(ab*lW)))))))))))))))))))))))))) fL λz93=>
 au 0 8191 ((8192*aX)+(bj+((ab*bn)+((8192*bW)+((8192*z28)+(b3+((ab*cj)+((ab*z31)+((8192*cG)+((8192*z40)+(cI+((ab*c7)+((ab*df)+((8192*z51)+((8192*dc)+(z53+((ab*ef)+((ab*ez)+(gN+((ab*gI)+((ab*gp)+((8192*kc)+((8192*ke)+((8192*lF)+(z91+(ab*lW)))))))))))))))))))))))))) fL λoN=>
 au 0 8191 ((155648*bn)+((155648*cj)+((155648*z31)+((155648*c7)+((155648*df)+((155648*ef)+((155648*ez)+((155648*gI)+((155648*gp)+((155648*lW)+(19*oN))))))))))) fL λqN=>
 au 0 8191 ((155648*bn)+((155648*cj)+((155648*z31)+((155648*c7)+((155648*df)+((155648*ef)+((155648*ez)+((155648*gI)+((155648*gp)+((155648*lW)+(19*oN))))))))))) fL λzt=>
 dj 5 S 46 [[(aW+((ab*aI)+((155648*bn)+((155648*cj)+((155648*z31)+(a7+((ab*bR)+((ab*cf)+((155648*c7)+((155648*df)+(dL+((ab*dx)+((ab*z46)+((155648*ef)+((155648*ez)+(eg+((ab*cO)+((ab*eE)+((155648*gI)+((155648*gp)+(hS+((ab*gq)+((ab*z70)+((ab*lC)+((ek*mE)+((155648*lW)+((19*oN)+(ek*qN)))))))))))))))))))))))))))),((8192*aI)+(z12+((ab*aY)+(z20+((ab*z21)+((ab*z22)+((8192*bR)+((8192*cf)+((8192*dx)+((8192*z46)+(dp+((ab*dC)+((ab*z49)+((8192*cO)+((8192*eE)+(z59+((ab*eY)+((ab*fi)+((8192*gq)+((8192*z70)+(hT+((ab*z72)+((ab*gO)+((8192*lC)+(lD+((ab*jI)+((ek*lV)+zt))))))))))))))))))))))))))),((8192*aY)+(aM+((ab*aT)+((8192*z21)+((8192*z22)+(bJ+((ab*z24)+((ab*b6)+(b7+((ab*ck)+((ab*z37)+((8192*dC)+((8192*z49)+((8192*eY)+((8192*fi)+(fC+((ab*dY)+((ab*fN)+((8192*z72)+((8192*gO)+(jq+((ab*z75)+((ab*z76)+((8192*jI)+(z85+((ab*lE)+(ek*z87))))))))))))))))))))))))))),((8192*aT)+(bd+((ab*aX)+((8192*z24)+((8192*b6)+(z26+((ab*bW)+((ab*z28)+((8192*ck)+((8192*z37)+(cS+((ab*cG)+((ab*z40)+(ey+((ab*z51)+((ab*dc)+((8192*dY)+((8192*fN)+((8192*z75)+((8192*z76)+(k9+((ab*kc)+((ab*ke)+((8192*lE)+(nH+((ab*lF)+(ek*oi))))))))))))))))))))))))))),((8192*aX)+(bj+((ab*bn)+((8192*bW)+((8192*z28)+(b3+((ab*cj)+((ab*z31)+((8192*cG)+((8192*z40)+(cI+((ab*c7)+((ab*df)+((8192*z51)+((8192*dc)+(z53+((ab*ef)+((ab*ez)+(gN+((ab*gI)+((ab*gp)+((8192*kc)+((8192*ke)+((8192*lF)+(z91+((ab*lW)+(ek*z93)))))))))))))))))))))))))))]] λB6=>
 K [r0,aE] [B6]
theorem aHj (G):Xl (fk G) (eT iv.res 33):=by
 simp(maxSteps:=4000000) only[Xl,dS,au,bo,dj,bF,ab,a8,j6,ek,fL,tT,Aq,Ar];intro r0 i0 aE i5 aW iQ iE qk aI e8 fc mo d11 z12 a12 iJ EJ aY fP fT ye d13 aM jf jg zS aT fF fH oS d15 bd jx jz mP aX fG fU oT d17 bj gd gu Bk bn gf gh zO d19 z20 a20 fI EL z21 a21 fy kA d21 z22 a22 fp sK d22 bJ fw dT Mw z24 a24 eG oy d24 b6 fQ fV qg d25 z26 a26 fW Bl bW fR gi GM d27 z28 a28 gA rM d28 b3 gg gj CV cj gr gk sL d30 z31 a31 gK sM d31 a7 cD gm rS bR e9 fe ll d33 cf fx fA oU d34 b7 fm fq JC ck fa e0 pG d36 z37 a37 fX yf d37 cS fb fr EO cG fo fB oV d39 z40 a40 gL zP d40 cI jM jO CW c7 jy iF oW d42 df kM kS sN d43 dL kN ky Bm dx lZ ml GN d45 z46 a46 l3 rO d46 dp kO kT EP dC kP kU sO d48 z49 a49 kV sP d49 ey l0 mm qn z51 a51 lf rP d51 dc kQ kW rQ d52 z53 a53 lg Bn ef lJ lh sQ d54 ez mi mn GO d55 eg kR lj ES cO kv kj qZ d57 eE mj mK GP d58 z59 a59 lk G2 eY na nj uC d60 fi nc nk vy d61 fC nd mL ET dY pC qa Rh d63 fN ir nm uD d64 gN nf nn Bo gI ng np vz d66 gp nL nq vA d67 hS pD qb rU gq nM nO uE d69 z70 a70 nP uF d70 hT nN nQ G3 z72 a72 nR vB d72 gO zG wK Ri d73 jq zH zL JD z75 a75 zM Rj d75 z76 a76 wL Rk d76 k9 x4 x9 Bp kc x5 ya Rl d78 ke x6 yb Rm d79 lC Bb Bf Rn d80 mE x7 yc Ml d81 lD wC wM EB d82 jI wD wN Ro d83 lV wE wO EC d84 z85 a85 zN Mm d85 lE CJ CM GQ d86 z87 a87 Ev ajp d87 nH En Ew ajq d88 lF Eo Ex au5 d89 oi Ep Ey ajr d90 z91 a91 GF ajs d91 lW Gx GG au6 d92 z93 a93 GH ajt d93 oN Gy GI aju d94 qN Jh Jn ajv d95 zt L9 Me ajw d96 B6 i97 aF
 have aF:v5 B6% 57896044618658097711785492504343953926634992332820282019728792003956564819949=v5 [(aW+(((-18446744073709551616)*aI)+((155648*bn)+((155648*cj)+((155648*z31)+(a7+(((-18446744073709551616)*bR)+(((-18446744073709551616)*cf)+((155648*c7)+((155648*df)+(dL+(((-18446744073709551616)*dx)+(((-18446744073709551616)*z46)+((155648*ef)+((155648*ez)+(eg+(((-18446744073709551616)*cO)+(((-18446744073709551616)*eE)+((155648*gI)+((155648*gp)+(hS+(((-18446744073709551616)*gq)+(((-18446744073709551616)*z70)+(((-18446744073709551616)*lC)+(((-2251799813685248)*mE)+((155648*lW)+((19*oN)+((-2251799813685248)*qN)))))))))))))))))))))))))))),((8192*aI)+(z12+(((-18446744073709551616)*aY)+(z20+(((-18446744073709551616)*z21)+(((-18446744073709551616)*z22)+((8192*bR)+((8192*cf)+((8192*dx)+((8192*z46)+(dp+(((-18446744073709551616)*dC)+(((-18446744073709551616)*z49)+((8192*cO)+((8192*eE)+(z59+(((-18446744073709551616)*eY)+(((-18446744073709551616)*fi)+((8192*gq)+((8192*z70)+(hT+(((-18446744073709551616)*z72)+(((-18446744073709551616)*gO)+((8192*lC)+(lD+(((-18446744073709551616)*jI)+(((-2251799813685248)*lV)+zt))))))))))))))))))))))))))),((8192*aY)+(aM+(((-18446744073709551616)*aT)+((8192*z21)+((8192*z22)+(bJ+(((-18446744073709551616)*z24)+(((-18446744073709551616)*b6)+(b7+(((-18446744073709551616)*ck)+(((-18446744073709551616)*z37)+((8192*dC)+((8192*z49)+((8192*eY)+((8192*fi)+(fC+(((-18446744073709551616)*dY)+(((-18446744073709551616)*fN)+((8192*z72)+((8192*gO)+(jq+(((-18446744073709551616)*z75)+(((-18446744073709551616)*z76)+((8192*jI)+(z85+(((-18446744073709551616)*lE)+((-2251799813685248)*z87))))))))))))))))))))))))))),((8192*aT)+(bd+(((-18446744073709551616)*aX)+((8192*z24)+((8192*b6)+(z26+(((-18446744073709551616)*bW)+(((-18446744073709551616)*z28)+((8192*ck)+((8192*z37)+(cS+(((-18446744073709551616)*cG)+(((-18446744073709551616)*z40)+(ey+(((-18446744073709551616)*z51)+(((-18446744073709551616)*dc)+((8192*dY)+((8192*fN)+((8192*z75)+((8192*z76)+(k9+(((-18446744073709551616)*kc)+(((-18446744073709551616)*ke)+((8192*lE)+(nH+(((-18446744073709551616)*lF)+((-2251799813685248)*oi))))))))))))))))))))))))))),((8192*aX)+(bj+(((-18446744073709551616)*bn)+((8192*bW)+((8192*z28)+(b3+(((-18446744073709551616)*cj)+(((-18446744073709551616)*z31)+((8192*cG)+((8192*z40)+(cI+(((-18446744073709551616)*c7)+(((-18446744073709551616)*df)+((8192*z51)+((8192*dc)+(z53+(((-18446744073709551616)*ef)+(((-18446744073709551616)*ez)+(gN+(((-18446744073709551616)*gI)+(((-18446744073709551616)*gp)+((8192*kc)+((8192*ke)+((8192*lF)+(z91+(((-18446744073709551616)*lW)+((-2251799813685248)*z93)))))))))))))))))))))))))))]% 57896044618658097711785492504343953926634992332820282019728792003956564819949/\v5 B6<57896044618658097711785492504343953926634992332820282019728792003956564819949+38:=aF.1;refine⟨?_,?_⟩
 ·exact ld i97
 ·show v5 B6% 57896044618658097711785492504343953926634992332820282019728792003956564819949=v5 r0*v5 aE% 57896044618658097711785492504343953926634992332820282019728792003956564819949;obtain⟨dw,ah,ag,ao,dB,rfl,cU,cV,cW,cX,cY,cZ,c0,c2,xM,xN⟩:=BJ i0;obtain⟨jo,an,ak,ax,lT,rfl,wg,wh,wi,wj,wk,wm,wo,wq,arS,arT⟩:=BJ i5;simp only[gP,h9]at*;have adP:mE=lD:=dup Ml d81 EB d82;subst adP;have aI6:lV=z85:=dup EC d84 Mm d85;subst aI6;have aI8:z87=nH:=dup ajp d87 ajq d88;subst aI8;have aI9:oi=z91:=dup ajr d90 ajs d91;subst aI9;have aJa:z93=oN:=dup ajt d93 aju d94;subst aJa;have aJb:qN=zt:=dup ajv d95 ajw d96;subst aJb
  have aj8:v5 [(aW+(((-18446744073709551616)*aI)+((155648*bn)+((155648*cj)+((155648*z31)+(a7+(((-18446744073709551616)*bR)+(((-18446744073709551616)*cf)+((155648*c7)+((155648*df)+(dL+(((-18446744073709551616)*dx)+(((-18446744073709551616)*z46)+((155648*ef)+((155648*ez)+(eg+(((-18446744073709551616)*cO)+(((-18446744073709551616)*eE)+((155648*gI)+((155648*gp)+(hS+(((-18446744073709551616)*gq)+(((-18446744073709551616)*z70)+(((-18446744073709551616)*lC)+(((-2251799813685248)*mE)+((155648*lW)+((19*z93)+((-2251799813685248)*qN)))))))))))))))))))))))))))),((8192*aI)+(z12+(((-18446744073709551616)*aY)+(z20+(((-18446744073709551616)*z21)+(((-18446744073709551616)*z22)+((8192*bR)+((8192*cf)+((8192*dx)+((8192*z46)+(dp+(((-18446744073709551616)*dC)+(((-18446744073709551616)*z49)+((8192*cO)+((8192*eE)+(z59+(((-18446744073709551616)*eY)+(((-18446744073709551616)*fi)+((8192*gq)+((8192*z70)+(hT+(((-18446744073709551616)*z72)+(((-18446744073709551616)*gO)+((8192*lC)+(mE+(((-18446744073709551616)*jI)+(((-2251799813685248)*lV)+qN))))))))))))))))))))))))))),((8192*aY)+(aM+(((-18446744073709551616)*aT)+((8192*z21)+((8192*z22)+(bJ+(((-18446744073709551616)*z24)+(((-18446744073709551616)*b6)+(b7+(((-18446744073709551616)*ck)+(((-18446744073709551616)*z37)+((8192*dC)+((8192*z49)+((8192*eY)+((8192*fi)+(fC+(((-18446744073709551616)*dY)+(((-18446744073709551616)*fN)+((8192*z72)+((8192*gO)+(jq+(((-18446744073709551616)*z75)+(((-18446744073709551616)*z76)+((8192*jI)+(lV+(((-18446744073709551616)*lE)+((-2251799813685248)*z87))))))))))))))))))))))))))),((8192*aT)+(bd+(((-18446744073709551616)*aX)+((8192*z24)+((8192*b6)+(z26+(((-18446744073709551616)*bW)+(((-18446744073709551616)*z28)+((8192*ck)+((8192*z37)+(cS+(((-18446744073709551616)*cG)+(((-18446744073709551616)*z40)+(ey+(((-18446744073709551616)*z51)+(((-18446744073709551616)*dc)+((8192*dY)+((8192*fN)+((8192*z75)+((8192*z76)+(k9+(((-18446744073709551616)*kc)+(((-18446744073709551616)*ke)+((8192*lE)+(z87+(((-18446744073709551616)*lF)+((-2251799813685248)*oi))))))))))))))))))))))))))),((8192*aX)+(bj+(((-18446744073709551616)*bn)+((8192*bW)+((8192*z28)+(b3+(((-18446744073709551616)*cj)+(((-18446744073709551616)*z31)+((8192*cG)+((8192*z40)+(cI+(((-18446744073709551616)*c7)+(((-18446744073709551616)*df)+((8192*z51)+((8192*dc)+(z53+(((-18446744073709551616)*ef)+(((-18446744073709551616)*ez)+(gN+(((-18446744073709551616)*gI)+(((-18446744073709551616)*gp)+((8192*kc)+((8192*ke)+((8192*lF)+(oi+(((-18446744073709551616)*lW)+((-2251799813685248)*z93)))))))))))))))))))))))))))]=(1*aW+2251799813685248*z12+5070602400912917605986812821504*aM+11417981541647679048466287755595961091061972992*bd+25711008708143844408671393477458601640355247900524685364822016*bj+2251799813685248*z20+5070602400912917605986812821504*bJ+11417981541647679048466287755595961091061972992*z26+25711008708143844408671393477458601640355247900524685364822016*b3+1*a7+5070602400912917605986812821504*b7+11417981541647679048466287755595961091061972992*cS+25711008708143844408671393477458601640355247900524685364822016*cI+1*dL+2251799813685248*dp+11417981541647679048466287755595961091061972992*ey+25711008708143844408671393477458601640355247900524685364822016*z53+1*eg+2251799813685248*z59+5070602400912917605986812821504*fC+25711008708143844408671393477458601640355247900524685364822016*gN+1*hS+2251799813685248*hT+5070602400912917605986812821504*jq+11417981541647679048466287755595961091061972992*k9)+57896044618658097711785492504343953926634992332820282019728792003956564819949*(-(8192*bn+8192*cj+8192*z31+8192*c7+8192*df+8192*ef+8192*ez+8192*gI+8192*gp+8192*lW+1*z93)):=by
   clear iQ iE qk e8 fc mo d11 a12 iJ EJ fP fT ye d13 jf jg zS fF fH oS d15 jx jz mP fG fU oT d17 gd gu Bk gf gh zO d19 a20 fI EL a21 fy kA d21 a22 fp sK d22 fw dT Mw a24 eG oy d24 fQ fV qg d25 a26 fW Bl fR gi GM d27 a28 gA rM d28 gg gj CV gr gk sL d30 a31 gK sM d31 cD gm rS e9 fe ll d33 fx fA oU d34 fm fq JC fa e0 pG d36 a37 fX yf d37 fb fr EO fo fB oV d39 a40 gL zP d40 jM jO CW jy iF oW d42 kM kS sN d43 kN ky Bm lZ ml GN d45 a46 l3 rO d46 kO kT EP kP kU sO d48 a49 kV sP d49 l0 mm qn a51 lf rP d51 kQ kW rQ d52 a53 lg Bn lJ lh sQ d54 mi mn GO d55 kR lj ES kv kj qZ d57 mj mK GP d58 a59 lk G2 na nj uC d60 nc nk vy d61 nd mL ET pC qa Rh d63 ir nm uD d64 nf nn Bo ng np vz d66 nL nq vA d67 pD qb rU nM nO uE d69 a70 nP uF d70 nN nQ G3 a72 nR vB d72 zG wK Ri d73 zH zL JD a75 zM Rj d75 a76 wL Rk d76 x4 x9 Bp x5 ya Rl d78 x6 yb Rm d79 Bb Bf Rn d80 x7 yc Ml d81 wC wM EB d82 wD wN Ro d83 wE wO EC d84 a85 zN Mm d85 CJ CM GQ d86 a87 Ev ajp d87 En Ew ajq d88 Eo Ex au5 d89 Ep Ey ajr d90 a91 GF ajs d91 Gx GG au6 d92 a93 GH ajt d93 Gy GI aju d94 Jh Jn ajv d95 L9 Me ajw d96 aF;simp only[DV];omega
  rw[aF.1,aj8,xX];clear aj8 aF;rw[qk,EJ,zS,mP,Bk,EL,Mw,Bl,CV,rS,JC,EO,CW,Bm,EP,qn,Bn,ES,G2,ET,Bo,rU,G3,JD,Bp];rw[DV,DV,aLF,xX]
end Go.Fd
namespace Go.Fd
open Go.bX
def Xk (S:zzS) (K:zzK):Prop:=
 bF 5 λr0=>
 dj 5 S 33 [r0,r0] λaE=>
 K [r0] [aE]
theorem aHf (G):Xk (fk G) (eT mW.res 47):=by
 simp(maxSteps:=4000000) only[Xk,dj,bF];intro r0 i0 aE i5 aF;have aF:v5 aE% 57896044618658097711785492504343953926634992332820282019728792003956564819949=v5 r0*v5 r0% 57896044618658097711785492504343953926634992332820282019728792003956564819949:=aF.1;refine⟨?_,?_⟩
 ·exact ld i5
 ·show v5 aE% 57896044618658097711785492504343953926634992332820282019728792003956564819949=v5 r0*v5 r0% 57896044618658097711785492504343953926634992332820282019728792003956564819949;exact aF
def WM (S:zzS) (K:zzK):Prop:=
 bF 5 λr0=>
 dj 5 S 32 [[0,0,0,0,0],r0] λaE=>
 K [r0] [aE]
theorem aGj (G):WM (fk G) (eT pP.res 50):=by
 simp(maxSteps:=4000000) only[WM,dj,bF];intro r0 i0 aE i5 aF;have aF:v5 aE% 57896044618658097711785492504343953926634992332820282019728792003956564819949=(v5 [0,0,0,0,0]-v5 r0)% 57896044618658097711785492504343953926634992332820282019728792003956564819949:=aF.1;refine⟨?_,?_⟩
 ·exact ld i5
 ·show v5 aE% 57896044618658097711785492504343953926634992332820282019728792003956564819949=(0-v5 r0)% 57896044618658097711785492504343953926634992332820282019728792003956564819949;rw[show v5 [0,0,0,0,0]=0 by decide]at aF;exact aF
def WQ (S:zzS) (K:zzK):Prop:=
 bF 5 λr0=>cz 4 λaE=>
 ∃(Ek:List (List Int)->Prop) (I6:List (List Int)->Nat),Ek [[255],[1,0,0,0,0]]/\(hP (-1) 255 λaW=>bF 5 λsn=>Ek [[aW],sn]->
  (((decide (0<=aW))=true->
   dj 5 S 47 [sn] λdV=>
   au 0 3 aW 64 λz21=>
   dS s7 (I aE (z21).toNat 0) λz22=>
   au 0 3 aW 64 λbJ=>
   dS s7 (z22/2^((aW+((-64)*bJ))).toNat) λz24=>
   au 0 xk z24 2 λb6=>
   (((decide ((z24+((-2)*b6))=1))=true->
    dj 5 S 33 [dV,r0] λH7=>
    (Ek [[(aW+(-1))],H7]/\I6 [[(aW+(-1))],H7]<I6 [[aW],sn])
   )/\((decide ((z24+((-2)*b6))=1))=false->
    (Ek [[(aW+(-1))],dV]/\I6 [[(aW+(-1))],dV]<I6 [[aW],sn])
   ))
  )/\((decide (0<=aW))=false->
   K [r0,aE] [sn]
  ))
 )
theorem aGp (G):WQ (fk G) (XD G):=by
 simp(maxSteps:=4000000) only[WQ,dS,hP,au,dj,bF,cz,xk,s7];intro r0 i0 aE i5;refine⟨λl=>match l with|[[i],r]=>v5 r% 57896044618658097711785492504343953926634992332820282019728792003956564819949=cn (v5 r0) ((aa aE).toNat/2^(i+1).toNat)/\r=yR G r0 (aa aE).toNat (255-i).toNat|_=>False,λl=>match l with|[[i],_]=>(i+1).toNat|_=>0,?_,?_⟩
 ·show v5 [1,0,0,0,0]% 57896044618658097711785492504343953926634992332820282019728792003956564819949=cn (v5 r0) ((aa aE).toNat/2^(255+1:Int).toNat)/\[1,0,0,0,0]=yR G r0 (aa aE).toNat (255-255:Int).toNat;refine⟨?_,rfl⟩;rw[aqp i5,B0];decide
 ·intro aW iQ iE sn i11 dU;have dU:v5 sn% 57896044618658097711785492504343953926634992332820282019728792003956564819949=cn (v5 r0) ((aa aE).toNat/2^(aW+1).toNat)/\sn=yR G r0 (aa aE).toNat (255-aW).toNat:=dU;refine⟨λh0=>?_,λh0=>?_⟩
  ·skip
   simp only[cy,c5,cL,c9,decide_eq_true_eq,decide_eq_false_iff_not]at h0;intro dV i16 aF z21 a21 fy kA d21 z22 a22 fp ql bJ fw dT ox d23 z24 a24 eG EM b6 fQ fV qg d25;have Lc:=aF.2;have aF:v5 dV% 57896044618658097711785492504343953926634992332820282019728792003956564819949=v5 sn*v5 sn% 57896044618658097711785492504343953926634992332820282019728792003956564819949:=aF.1;refine⟨λh1=>?_,λh1=>?_⟩
   ·skip
    simp only[cy,c5,cL,c9,decide_eq_true_eq,decide_eq_false_iff_not]at h1;intro H7 i26 s1;have It:=s1.2;have s1:v5 H7% 57896044618658097711785492504343953926634992332820282019728792003956564819949=v5 dV*v5 r0% 57896044618658097711785492504343953926634992332820282019728792003956564819949:=s1.1;obtain⟨i,rfl⟩:=oP h0;have hb:=Ra i5 iE kA d21 ql ox d23 EM qg d25;have nv:((i:Int)+1).toNat=i+1:=by omega
    have uH:((i:Int)+(-1)+1).toNat=i:=by omega
    obtain⟨dU,hF⟩:=dU;rw[nv]at dU;have sW:(255-(i:Int)).toNat=255-i:=by omega
    have zV:(255-((i:Int)+(-1))).toNat=(255-i)+1:=by omega
    have zW:255-(255-i)=i:=by omega
    rw[sW]at hF;have g0:dV=G 47 sn:=by have:=Lc;simpa using this
    have g1:H7=G 33 (dV++r0):=by have:=It;simpa using this
    have cB:(aa aE).toNat/2^i% 2=1:=by omega
    refine⟨⟨?_,?_⟩,?_⟩
    ·show v5 H7% 57896044618658097711785492504343953926634992332820282019728792003956564819949=cn (v5 r0) ((aa aE).toNat/2^((i:Int)+(-1)+1).toNat);rw[uH,ao3 cB,s1,<-tc (v5 dV),aF,tq (v5 sn) (v5 sn),dU]
    ·show H7=yR G r0 (aa aE).toNat (255-((i:Int)+(-1))).toNat;rw[zV,yR,zW,<-hF,<-g0];have:((aa aE).toNat/2^i% 2==1)=true:=by simpa using cB
     rw[this,cond_true,<-g1]
    ·show((i:Int)+(-1)+1).toNat<((i:Int)+1).toNat;omega
   ·skip
    simp only[cy,c5,cL,c9,decide_eq_true_eq,decide_eq_false_iff_not]at h1;obtain⟨i,rfl⟩:=oP h0;have hb:=Ra i5 iE kA d21 ql ox d23 EM qg d25;have nv:((i:Int)+1).toNat=i+1:=by omega
    have uH:((i:Int)+(-1)+1).toNat=i:=by omega
    obtain⟨dU,hF⟩:=dU;rw[nv]at dU;have sW:(255-(i:Int)).toNat=255-i:=by omega
    have zV:(255-((i:Int)+(-1))).toNat=(255-i)+1:=by omega
    have zW:255-(255-i)=i:=by omega
    rw[sW]at hF;have g0:dV=G 47 sn:=by have:=Lc;simpa using this
    have cB:(aa aE).toNat/2^i% 2≠1:=by omega
    refine⟨⟨?_,?_⟩,?_⟩
    ·show v5 dV% 57896044618658097711785492504343953926634992332820282019728792003956564819949=cn (v5 r0) ((aa aE).toNat/2^((i:Int)+(-1)+1).toNat);rw[uH,ao2 cB,aF,tq (v5 sn) (v5 sn),dU]
    ·show dV=yR G r0 (aa aE).toNat (255-((i:Int)+(-1))).toNat;rw[zV,yR,zW,<-hF,<-g0];have:((aa aE).toNat/2^i% 2==1)=false:=by simpa using cB
     rw[this,cond_false]
    ·show((i:Int)+(-1)+1).toNat<((i:Int)+1).toNat;omega
  ·skip
   simp only[cy,c5,cL,c9,decide_eq_true_eq,decide_eq_false_iff_not]at h0;obtain⟨dU,hF⟩:=dU;have nv:(aW+1).toNat=0:=by omega
   have sW:(255-aW).toNat=256:=by omega
   rw[nv]at dU;rw[sW]at hF;refine⟨⟨ld i11,?_⟩,?_⟩
   ·show v5 sn% 57896044618658097711785492504343953926634992332820282019728792003956564819949=cn (v5 r0) (aa aE).toNat;simpa using dU
   ·show [sn].flatten=yR G r0 (aa aE).toNat 256;simpa using hF
def WI (S:zzS) (K:zzK):Prop:=
 bF 5 λr0=>
 dj 5 S 43 [r0,[anf,s7,s7,xk]] λaE=>
 K [r0] [aE]
theorem aGd (G):WI (fk G) (eT sa.res 35):=by
 simp(maxSteps:=4000000) only[WI,dj,bF,xk,s7,anf];intro r0 i0 aE i5 aF;have aF:v5 aE% 57896044618658097711785492504343953926634992332820282019728792003956564819949=cn (v5 r0) (aa [18446744073709551595,18446744073709551615,18446744073709551615,9223372036854775807]).toNat:=aF.1;refine⟨?_,?_⟩
 ·exact ld i5
 ·show v5 aE% 57896044618658097711785492504343953926634992332820282019728792003956564819949=cn (v5 r0) tF;rw[awo]at aF;exact aF
def Xj (S:zzS) (K:zzK):Prop:=
 bF 5 λr0=>bF 5 λaE=>
 nF 32 S 31 [r0] λcv=>
 nF 32 S 31 [aE] λm1=>
 K [r0,aE] [[(cond (decide (cv=m1)) 1 0)]]
theorem aHa (G):Xj (fk G) (eT ri.res 48):=by
 simp(maxSteps:=4000000) only[Xj,nF,bF];intro r0 i0 aE i5 cv i10 aF m1 i42 s1;have aF:nb cv=v5 r0% 57896044618658097711785492504343953926634992332820282019728792003956564819949:=aF.1;have s1:nb m1=v5 aE% 57896044618658097711785492504343953926634992332820282019728792003956564819949:=s1.1;refine⟨?_,?_⟩
 ·simp only[ri,aU,D.bds,jJ,eM,qO,vk,ay,and_true];rw[vE];exact YN
 ·show(cond (decide (cv=m1)) 1 0)=bit (v5 r0% 57896044618658097711785492504343953926634992332820282019728792003956564819949=v5 aE% 57896044618658097711785492504343953926634992332820282019728792003956564819949);rw[vE,<-aF,<-s1];exact ai6 ⟨λh=>by rw[h],λh=>xr i10 i42 h⟩
def WN (S:zzS) (K:zzK):Prop:=
 bF 5 λr0=>
 nF 32 S 31 [r0] λaE=>
 au 0 127 (I aE 0 0) 2 λz37=>
 K [r0] [[(cond (decide (((I aE 0 0)+((-2)*z37))=1)) 1 0)]]
theorem aGm (G):WN (fk G) (eT rb.res 49):=by
 simp(maxSteps:=4000000) only[WN,au,nF,bF];intro r0 i0 aE i5 aF z37 a37 fX yf d37;have aF:nb aE=v5 r0% 57896044618658097711785492504343953926634992332820282019728792003956564819949:=aF.1;refine⟨?_,?_⟩
 ·simp only[rb,aU,D.bds,jJ,eM,qO,vk,ay,and_true];rw[vE];exact YN
 ·show(cond (decide (((I aE 0 0)+((-2)*z37))=1)) 1 0)=v5 r0% 57896044618658097711785492504343953926634992332820282019728792003956564819949% 2;rw[vE,<-aF];have hp:=aDn aE;unfold bit;split<;>omega
def Xa (S:zzS) (K:zzK):Prop:=
 bF 5 λr0=>
 dj 5 S 43 [r0,[ji,s7,s7,S6]] λaE=>
 dj 5 S 47 [aE] λcv=>
 de λaT=>S 48 [cv,r0] [[aT]]->
 (((decide (aT=1))=true->
  de λbd=>S 49 [aE] [[bd]]->
  (((decide (bd=1))=true->
   dj 5 S 50 [aE] λDH=>
   K [r0] [DH,[(cond (true) 1 0)]]
  )/\((decide (bd=1))=false->
   K [r0] [aE,[(cond (true) 1 0)]]
  ))
 )/\((decide (aT=1))=false->
  dj 5 S 33 [aE,[ab9,aca,acb,acd,ace]] λdV=>
  dj 5 S 47 [dV] λu4=>
  de λz26=>S 48 [u4,r0] [[z26]]->
  (((decide (z26=1))=true->
   de λbW=>S 49 [dV] [[bW]]->
   (((decide (bW=1))=true->
    dj 5 S 50 [dV] λmY=>
    K [r0] [mY,[(cond (true) 1 0)]]
   )/\((decide (bW=1))=false->
    K [r0] [dV,[(cond (true) 1 0)]]
   ))
  )/\((decide (z26=1))=false->
   dj 5 S 33 [dV,[ab9,aca,acb,acd,ace]] λvT=>
   K [r0] [[0,0,0,0,0],[(cond (false) 1 0)]]
  ))
 ))
theorem aGN (G):Xa (fk G) (eT uX.res 30):=by
 simp(maxSteps:=4000000) only[Xa,de,dj,bF,ji,s7,S6,ab9,aca,acb,acd,ace];intro r0 i0 aE i5 aF cv i10 s1 aT fF fH s2;have aF:v5 aE% 57896044618658097711785492504343953926634992332820282019728792003956564819949=cn (v5 r0) (aa [18446744073709551614,18446744073709551615,18446744073709551615,1152921504606846975]).toNat:=aF.1;have s1:v5 cv% 57896044618658097711785492504343953926634992332820282019728792003956564819949=v5 aE*v5 aE% 57896044618658097711785492504343953926634992332820282019728792003956564819949:=s1.1;have s2:aT=bit (v5 cv% 57896044618658097711785492504343953926634992332820282019728792003956564819949=v5 r0% 57896044618658097711785492504343953926634992332820282019728792003956564819949):=s2.1;refine⟨λh0=>?_,λh0=>?_⟩
 ·skip
  simp only[cy,c5,cL,c9,decide_eq_true_eq,decide_eq_false_iff_not]at h0;intro bd jx jz bm;have bm:bd=v5 aE% 57896044618658097711785492504343953926634992332820282019728792003956564819949% 2:=bm.1;refine⟨λh1=>?_,λh1=>?_⟩
  ·skip
   simp only[cy,c5,cL,c9,decide_eq_true_eq,decide_eq_false_iff_not]at h1;intro DH i17 cr;have cr:v5 DH% 57896044618658097711785492504343953926634992332820282019728792003956564819949=(0-v5 aE)% 57896044618658097711785492504343953926634992332820282019728792003956564819949:=cr.1;refine⟨?_,?_⟩
   ·exact BH i17 ⟨by decide,by decide,trivial⟩
   ·show(v5 DH% 57896044618658097711785492504343953926634992332820282019728792003956564819949,(cond (true) 1 0))=mC (v5 r0% 57896044618658097711785492504343953926634992332820282019728792003956564819949);rw[zU,<-BZ]at aF;have m0:v5 cv% 57896044618658097711785492504343953926634992332820282019728792003956564819949=(v5 aE% 57896044618658097711785492504343953926634992332820282019728792003956564819949)*(v5 aE% 57896044618658097711785492504343953926634992332820282019728792003956564819949)% 57896044618658097711785492504343953926634992332820282019728792003956564819949:=by rw[s1,tq]
    rw[aF]at m0;rw[s2]at h0;have er:=wQ h0;rw[m0]at er;unfold mC;simp only;rw[if_pos er];rw[aF]at bm;rw[if_pos (by omega)];have ar:(0-v5 aE)% 57896044618658097711785492504343953926634992332820282019728792003956564819949=(0-v5 aE% 57896044618658097711785492504343953926634992332820282019728792003956564819949)% 57896044618658097711785492504343953926634992332820282019728792003956564819949:=by omega
    rw[cr,ar,aF];rfl
  ·skip
   simp only[cy,c5,cL,c9,decide_eq_true_eq,decide_eq_false_iff_not]at h1;refine⟨?_,?_⟩
   ·exact BH i5 ⟨by decide,by decide,trivial⟩
   ·show(v5 aE% 57896044618658097711785492504343953926634992332820282019728792003956564819949,(cond (true) 1 0))=mC (v5 r0% 57896044618658097711785492504343953926634992332820282019728792003956564819949);rw[zU,<-BZ]at aF;have m0:v5 cv% 57896044618658097711785492504343953926634992332820282019728792003956564819949=(v5 aE% 57896044618658097711785492504343953926634992332820282019728792003956564819949)*(v5 aE% 57896044618658097711785492504343953926634992332820282019728792003956564819949)% 57896044618658097711785492504343953926634992332820282019728792003956564819949:=by rw[s1,tq]
    rw[aF]at m0;rw[s2]at h0;have er:=wQ h0;rw[m0]at er;unfold mC;simp only;rw[if_pos er];rw[aF]at bm;rw[if_neg (by omega),aF];rfl
 ·skip
  simp only[cy,c5,cL,c9,decide_eq_true_eq,decide_eq_false_iff_not]at h0;intro dV i16 bm u4 i21 cr z26 a26 fW dJ;have bm:v5 dV% 57896044618658097711785492504343953926634992332820282019728792003956564819949=v5 aE*v5 [1718705420411056,234908883556509,2233514472574048,2117202627021982,765476049583133]% 57896044618658097711785492504343953926634992332820282019728792003956564819949:=bm.1;have cr:v5 u4% 57896044618658097711785492504343953926634992332820282019728792003956564819949=v5 dV*v5 dV% 57896044618658097711785492504343953926634992332820282019728792003956564819949:=cr.1;have dJ:z26=bit (v5 u4% 57896044618658097711785492504343953926634992332820282019728792003956564819949=v5 r0% 57896044618658097711785492504343953926634992332820282019728792003956564819949):=dJ.1;refine⟨λh2=>?_,λh2=>?_⟩
  ·skip
   simp only[cy,c5,cL,c9,decide_eq_true_eq,decide_eq_false_iff_not]at h2;intro bW fR gi ee;have ee:bW=v5 dV% 57896044618658097711785492504343953926634992332820282019728792003956564819949% 2:=ee.1;refine⟨λh3=>?_,λh3=>?_⟩
   ·skip
    simp only[cy,c5,cL,c9,decide_eq_true_eq,decide_eq_false_iff_not]at h3;intro mY i28 eU;have eU:v5 mY% 57896044618658097711785492504343953926634992332820282019728792003956564819949=(0-v5 dV)% 57896044618658097711785492504343953926634992332820282019728792003956564819949:=eU.1;refine⟨?_,?_⟩
    ·exact BH i28 ⟨by decide,by decide,trivial⟩
    ·show(v5 mY% 57896044618658097711785492504343953926634992332820282019728792003956564819949,(cond (true) 1 0))=mC (v5 r0% 57896044618658097711785492504343953926634992332820282019728792003956564819949);rw[zU,<-BZ]at aF;have m0:v5 cv% 57896044618658097711785492504343953926634992332820282019728792003956564819949=(v5 aE% 57896044618658097711785492504343953926634992332820282019728792003956564819949)*(v5 aE% 57896044618658097711785492504343953926634992332820282019728792003956564819949)% 57896044618658097711785492504343953926634992332820282019728792003956564819949:=by rw[s1,tq]
     rw[aF]at m0;rw[s2]at h0;have er:=GL h0;rw[m0]at er;unfold mC;simp only;rw[if_neg er];rw[aeY,<-tc,aF]at bm;have hZ:v5 u4% 57896044618658097711785492504343953926634992332820282019728792003956564819949=(v5 dV% 57896044618658097711785492504343953926634992332820282019728792003956564819949)*(v5 dV% 57896044618658097711785492504343953926634992332820282019728792003956564819949)% 57896044618658097711785492504343953926634992332820282019728792003956564819949:=by rw[cr,tq]
     rw[bm]at hZ;rw[dJ]at h2;have a1:=wQ h2;rw[hZ]at a1;rw[if_pos a1];rw[bm]at ee;rw[if_pos (by omega)];have ar:(0-v5 dV)% 57896044618658097711785492504343953926634992332820282019728792003956564819949=(0-v5 dV% 57896044618658097711785492504343953926634992332820282019728792003956564819949)% 57896044618658097711785492504343953926634992332820282019728792003956564819949:=by omega
     rw[eU,ar,bm];rfl
   ·skip
    simp only[cy,c5,cL,c9,decide_eq_true_eq,decide_eq_false_iff_not]at h3;refine⟨?_,?_⟩
    ·exact BH i16 ⟨by decide,by decide,trivial⟩
    ·show(v5 dV% 57896044618658097711785492504343953926634992332820282019728792003956564819949,(cond (true) 1 0))=mC (v5 r0% 57896044618658097711785492504343953926634992332820282019728792003956564819949);rw[zU,<-BZ]at aF;have m0:v5 cv% 57896044618658097711785492504343953926634992332820282019728792003956564819949=(v5 aE% 57896044618658097711785492504343953926634992332820282019728792003956564819949)*(v5 aE% 57896044618658097711785492504343953926634992332820282019728792003956564819949)% 57896044618658097711785492504343953926634992332820282019728792003956564819949:=by rw[s1,tq]
     rw[aF]at m0;rw[s2]at h0;have er:=GL h0;rw[m0]at er;unfold mC;simp only;rw[if_neg er];rw[aeY,<-tc,aF]at bm;have hZ:v5 u4% 57896044618658097711785492504343953926634992332820282019728792003956564819949=(v5 dV% 57896044618658097711785492504343953926634992332820282019728792003956564819949)*(v5 dV% 57896044618658097711785492504343953926634992332820282019728792003956564819949)% 57896044618658097711785492504343953926634992332820282019728792003956564819949:=by rw[cr,tq]
     rw[bm]at hZ;rw[dJ]at h2;have a1:=wQ h2;rw[hZ]at a1;rw[if_pos a1];rw[bm]at ee;rw[if_neg (by omega),bm];rfl
  ·skip
   simp only[cy,c5,cL,c9,decide_eq_true_eq,decide_eq_false_iff_not]at h2;intro vT i27 ee;have ee:v5 vT% 57896044618658097711785492504343953926634992332820282019728792003956564819949=v5 dV*v5 [1718705420411056,234908883556509,2233514472574048,2117202627021982,765476049583133]% 57896044618658097711785492504343953926634992332820282019728792003956564819949:=ee.1;refine⟨?_,?_⟩
   ·simp[uX,aU,D.bds,hX,aS,ay]
   ·show(v5 [0,0,0,0,0]% 57896044618658097711785492504343953926634992332820282019728792003956564819949,(cond (false) 1 0))=mC (v5 r0% 57896044618658097711785492504343953926634992332820282019728792003956564819949);rw[zU,<-BZ]at aF;have m0:v5 cv% 57896044618658097711785492504343953926634992332820282019728792003956564819949=(v5 aE% 57896044618658097711785492504343953926634992332820282019728792003956564819949)*(v5 aE% 57896044618658097711785492504343953926634992332820282019728792003956564819949)% 57896044618658097711785492504343953926634992332820282019728792003956564819949:=by rw[s1,tq]
    rw[aF]at m0;rw[s2]at h0;have er:=GL h0;rw[m0]at er;unfold mC;simp only;rw[if_neg er];rw[aeY,<-tc,aF]at bm;have hZ:v5 u4% 57896044618658097711785492504343953926634992332820282019728792003956564819949=(v5 dV% 57896044618658097711785492504343953926634992332820282019728792003956564819949)*(v5 dV% 57896044618658097711785492504343953926634992332820282019728792003956564819949)% 57896044618658097711785492504343953926634992332820282019728792003956564819949:=by rw[cr,tq]
    rw[bm]at hZ;rw[dJ]at h2;have a1:=GL h2;rw[hZ]at a1;rw[if_neg a1];decide
def W0 (S:zzS) (K:zzK):Prop:=
 lA 32 λr0=>
 dj 5 S 29 [r0] λb8=>
 nF 32 S 31 [b8] λlR=>
 K [r0] [lR]
theorem adA (G):W0 (fk G) (eT oF.res 14):=by
 simp(maxSteps:=4000000) only[W0,nF,dj,lA];intro r0 i0 b8 i32 aF lR i37 s1;have aF:v5 b8% 57896044618658097711785492504343953926634992332820282019728792003956564819949=nb r0% 57896044618658097711785492504343953926634992332820282019728792003956564819949:=aF.1;have s1:nb lR=v5 b8% 57896044618658097711785492504343953926634992332820282019728792003956564819949:=s1.1;refine⟨?_,?_⟩
 ·exact ld i37
 ·show nb lR=nb r0% 57896044618658097711785492504343953926634992332820282019728792003956564819949;rw[s1,aF]
def W4 (S:zzS) (K:zzK):Prop:=
 lA 32 λr0=>
 nF 32 S 14 [r0] λb8=>
 K [r0] [[(cond (decide (b8=r0)) 1 0)]]
theorem adB (G):W4 (fk G) (eT n3.res 22):=by
 simp(maxSteps:=4000000) only[W4,nF,lA];intro r0 i0 b8 i32 aF;have aF:nb b8=nb r0% 57896044618658097711785492504343953926634992332820282019728792003956564819949:=aF.1;refine⟨?_,?_⟩
 ·simp only[n3,aU,D.bds,jJ,eM,qO,vk,ay,and_true];rw[vE];exact YN
 ·show(cond (decide (b8=r0)) 1 0)=bit (nb r0<57896044618658097711785492504343953926634992332820282019728792003956564819949);rw[vE];have gE:=ac5 i0;have e:b8=r0↔nb r0<57896044618658097711785492504343953926634992332820282019728792003956564819949:=by
   refine⟨λh=>?_,λh=>xr i32 i0 (by rw[aF];omega)⟩;rw[h]at aF;omega
  exact ai6 e
end Go.Fd
