/- Pae: a part of the proof of statements of this seat. -/
import Derived.Test.YtkedgkbkibncgaaDoorPad
import Derived.Test.YtkedgkbkibncgaaDoorProg
import Derived.KernelRfl
set_option maxRecDepth 100000
set_option linter.unusedVariables false
set_option linter.unusedSimpArgs false
namespace Go.cU
open Go Go.bx
def KK (S:Nat->List (List Int)->List (List Int)->Prop) (K:List (List Int)->List (List Int)->Prop):Prop:=
 ∀z0:Int,0<=z0->z0<=18446744073709551615->
 K [[z0]] [[z0]]
def KW (S:Nat->List (List Int)->List (List Int)->Prop) (K:List (List Int)->List (List Int)->Prop):Prop:=
 ∀z0:Int,0<=z0->z0<=18446744073709551615->∀ai:Int,1<=ai->ai<=1->
 (U 82 [z0,ai]->
 ∀z2:Int,0<=z2->z2<=9223372036854775807->0<=z0-2*z2->z0-2*z2<2->
 ∀z3:Int,0<=z3->z3<=9223372036854775807->0<=(9223372036854775808*z0)-18446744073709551616*z3->(9223372036854775808*z0)-18446744073709551616*z3<18446744073709551616->
 ∀z4:Int,0<=z4->z4<=18446744073709551615->S 476 [[((9223372036854775808*z0)+(z2+((-18446744073709551616)*z3)))]] [[z4]]->
 K [[z0],[ai]] [[z4]]
 )
def K4 (S:Nat->List (List Int)->List (List Int)->Prop) (K:List (List Int)->List (List Int)->Prop):Prop:=
 ∀z0:Int,0<=z0->z0<=18446744073709551615->∀ai:Int,6<=ai->ai<=6->
 (U 82 [z0,ai]->
 ∀z2:Int,0<=z2->z2<=288230376151711743->0<=z0-64*z2->z0-64*z2<64->
 ∀z3:Int,0<=z3->z3<=288230376151711743->0<=(288230376151711744*z0)-18446744073709551616*z3->(288230376151711744*z0)-18446744073709551616*z3<18446744073709551616->
 ∀z4:Int,0<=z4->z4<=18446744073709551615->S 476 [[((288230376151711744*z0)+(z2+((-18446744073709551616)*z3)))]] [[z4]]->
 K [[z0],[ai]] [[z4]]
 )
def K6 (S:Nat->List (List Int)->List (List Int)->Prop) (K:List (List Int)->List (List Int)->Prop):Prop:=
 ∀z0:Int,0<=z0->z0<=18446744073709551615->∀ai:Int,7<=ai->ai<=7->
 (U 82 [z0,ai]->
 ∀z2:Int,0<=z2->z2<=144115188075855871->0<=z0-128*z2->z0-128*z2<128->
 ∀z3:Int,0<=z3->z3<=144115188075855871->0<=(144115188075855872*z0)-18446744073709551616*z3->(144115188075855872*z0)-18446744073709551616*z3<18446744073709551616->
 ∀z4:Int,0<=z4->z4<=18446744073709551615->S 476 [[((144115188075855872*z0)+(z2+((-18446744073709551616)*z3)))]] [[z4]]->
 K [[z0],[ai]] [[z4]]
 )
def K7 (S:Nat->List (List Int)->List (List Int)->Prop) (K:List (List Int)->List (List Int)->Prop):Prop:=
 ∀z0:Int,0<=z0->z0<=18446744073709551615->∀ai:Int,8<=ai->ai<=8->
 (U 82 [z0,ai]->
 ∀z2:Int,0<=z2->z2<=72057594037927935->0<=z0-256*z2->z0-256*z2<256->
 ∀z3:Int,0<=z3->z3<=72057594037927935->0<=(72057594037927936*z0)-18446744073709551616*z3->(72057594037927936*z0)-18446744073709551616*z3<18446744073709551616->
 ∀z4:Int,0<=z4->z4<=18446744073709551615->S 476 [[((72057594037927936*z0)+(z2+((-18446744073709551616)*z3)))]] [[z4]]->
 K [[z0],[ai]] [[z4]]
 )
def KX (S:Nat->List (List Int)->List (List Int)->Prop) (K:List (List Int)->List (List Int)->Prop):Prop:=
 ∀z0:Int,0<=z0->z0<=18446744073709551615->∀ai:Int,14<=ai->ai<=14->
 (U 82 [z0,ai]->
 ∀z2:Int,0<=z2->z2<=1125899906842623->0<=z0-16384*z2->z0-16384*z2<16384->
 ∀z3:Int,0<=z3->z3<=1125899906842623->0<=(1125899906842624*z0)-18446744073709551616*z3->(1125899906842624*z0)-18446744073709551616*z3<18446744073709551616->
 ∀z4:Int,0<=z4->z4<=18446744073709551615->S 476 [[((1125899906842624*z0)+(z2+((-18446744073709551616)*z3)))]] [[z4]]->
 K [[z0],[ai]] [[z4]]
 )
def KY (S:Nat->List (List Int)->List (List Int)->Prop) (K:List (List Int)->List (List Int)->Prop):Prop:=
 ∀z0:Int,0<=z0->z0<=18446744073709551615->∀ai:Int,18<=ai->ai<=18->
 (U 82 [z0,ai]->
 ∀z2:Int,0<=z2->z2<=70368744177663->0<=z0-262144*z2->z0-262144*z2<262144->
 ∀z3:Int,0<=z3->z3<=70368744177663->0<=(70368744177664*z0)-18446744073709551616*z3->(70368744177664*z0)-18446744073709551616*z3<18446744073709551616->
 ∀z4:Int,0<=z4->z4<=18446744073709551615->S 476 [[((70368744177664*z0)+(z2+((-18446744073709551616)*z3)))]] [[z4]]->
 K [[z0],[ai]] [[z4]]
 )
def KZ (S:Nat->List (List Int)->List (List Int)->Prop) (K:List (List Int)->List (List Int)->Prop):Prop:=
 ∀z0:Int,0<=z0->z0<=18446744073709551615->∀ai:Int,19<=ai->ai<=19->
 (U 82 [z0,ai]->
 ∀z2:Int,0<=z2->z2<=35184372088831->0<=z0-524288*z2->z0-524288*z2<524288->
 ∀z3:Int,0<=z3->z3<=35184372088831->0<=(35184372088832*z0)-18446744073709551616*z3->(35184372088832*z0)-18446744073709551616*z3<18446744073709551616->
 ∀z4:Int,0<=z4->z4<=18446744073709551615->S 476 [[((35184372088832*z0)+(z2+((-18446744073709551616)*z3)))]] [[z4]]->
 K [[z0],[ai]] [[z4]]
 )
def K0 (S:Nat->List (List Int)->List (List Int)->Prop) (K:List (List Int)->List (List Int)->Prop):Prop:=
 ∀z0:Int,0<=z0->z0<=18446744073709551615->∀ai:Int,28<=ai->ai<=28->
 (U 82 [z0,ai]->
 ∀z2:Int,0<=z2->z2<=68719476735->0<=z0-268435456*z2->z0-268435456*z2<268435456->
 ∀z3:Int,0<=z3->z3<=68719476735->0<=(68719476736*z0)-18446744073709551616*z3->(68719476736*z0)-18446744073709551616*z3<18446744073709551616->
 ∀z4:Int,0<=z4->z4<=18446744073709551615->S 476 [[((68719476736*z0)+(z2+((-18446744073709551616)*z3)))]] [[z4]]->
 K [[z0],[ai]] [[z4]]
 )
def K1 (S:Nat->List (List Int)->List (List Int)->Prop) (K:List (List Int)->List (List Int)->Prop):Prop:=
 ∀z0:Int,0<=z0->z0<=18446744073709551615->∀ai:Int,34<=ai->ai<=34->
 (U 82 [z0,ai]->
 ∀z2:Int,0<=z2->z2<=1073741823->0<=z0-17179869184*z2->z0-17179869184*z2<17179869184->
 ∀z3:Int,0<=z3->z3<=1073741823->0<=(1073741824*z0)-18446744073709551616*z3->(1073741824*z0)-18446744073709551616*z3<18446744073709551616->
 ∀z4:Int,0<=z4->z4<=18446744073709551615->S 476 [[((1073741824*z0)+(z2+((-18446744073709551616)*z3)))]] [[z4]]->
 K [[z0],[ai]] [[z4]]
 )
def K2 (S:Nat->List (List Int)->List (List Int)->Prop) (K:List (List Int)->List (List Int)->Prop):Prop:=
 ∀z0:Int,0<=z0->z0<=18446744073709551615->∀ai:Int,39<=ai->ai<=39->
 (U 82 [z0,ai]->
 ∀z2:Int,0<=z2->z2<=33554431->0<=z0-549755813888*z2->z0-549755813888*z2<549755813888->
 ∀z3:Int,0<=z3->z3<=33554431->0<=(33554432*z0)-18446744073709551616*z3->(33554432*z0)-18446744073709551616*z3<18446744073709551616->
 ∀z4:Int,0<=z4->z4<=18446744073709551615->S 476 [[((33554432*z0)+(z2+((-18446744073709551616)*z3)))]] [[z4]]->
 K [[z0],[ai]] [[z4]]
 )
def K3 (S:Nat->List (List Int)->List (List Int)->Prop) (K:List (List Int)->List (List Int)->Prop):Prop:=
 ∀z0:Int,0<=z0->z0<=18446744073709551615->∀ai:Int,41<=ai->ai<=41->
 (U 82 [z0,ai]->
 ∀z2:Int,0<=z2->z2<=8388607->0<=z0-2199023255552*z2->z0-2199023255552*z2<2199023255552->
 ∀z3:Int,0<=z3->z3<=8388607->0<=(8388608*z0)-18446744073709551616*z3->(8388608*z0)-18446744073709551616*z3<18446744073709551616->
 ∀z4:Int,0<=z4->z4<=18446744073709551615->S 476 [[((8388608*z0)+(z2+((-18446744073709551616)*z3)))]] [[z4]]->
 K [[z0],[ai]] [[z4]]
 )
def K5 (S:Nat->List (List Int)->List (List Int)->Prop) (K:List (List Int)->List (List Int)->Prop):Prop:=
 ∀z0:Int,0<=z0->z0<=18446744073709551615->∀ai:Int,61<=ai->ai<=61->
 (U 82 [z0,ai]->
 ∀z2:Int,0<=z2->z2<=7->0<=z0-2305843009213693952*z2->z0-2305843009213693952*z2<2305843009213693952->
 ∀z3:Int,0<=z3->z3<=7->0<=(8*z0)-18446744073709551616*z3->(8*z0)-18446744073709551616*z3<18446744073709551616->
 ∀z4:Int,0<=z4->z4<=18446744073709551615->S 476 [[((8*z0)+(z2+((-18446744073709551616)*z3)))]] [[z4]]->
 K [[z0],[ai]] [[z4]]
 )
def KL (S:Nat->List (List Int)->List (List Int)->Prop) (K:List (List Int)->List (List Int)->Prop):Prop:=
 ∀z0:Int,0<=z0->z0<=18446744073709551615->∀ay:List Int,bd [(28,28),(34,34),(39,39)] ay->∀z4:Int,0<=z4->z4<=1->
 (U 82 [z0,(List.getD ay 0 0),(List.getD ay 1 0),(List.getD ay 2 0),z4]->
 U 82 [z0,(List.getD ay 2 0)]/\
 ∀z5:Int,0<=z5->z5<=18446744073709551615->S 739 [[z0],[(List.getD ay 2 0)]] [[z5]]->
 (((decide (z4=1))=true->
  ∀aq:Int,0<=aq->aq<=33554431->0<=z0-549755813888*aq->z0-549755813888*aq<549755813888->
  U 82 [z0,(List.getD ay 0 0)]/\
  ∀an:Int,0<=an->an<=18446744073709551615->S 728 [[z0],[(List.getD ay 0 0)]] [[an]]->
  U 82 [z0,(List.getD ay 1 0)]/\
  ∀au:Int,0<=au->au<=18446744073709551615->S 734 [[z0],[(List.getD ay 1 0)]] [[au]]->
  ∀z9:Int,0<=z9->z9<=IntKind.max .u64->z9=av .xor .u64 an au->
  ∀aW:Int,0<=aW->aW<=IntKind.max .u64->aW=av .xor .u64 z9 aq->
  K [[z0],ay,[z4]] [[aW]]
 )/\((decide (z4=1))=false->
  U 82 [z0,(List.getD ay 0 0)]/\
  ∀aq:Int,0<=aq->aq<=18446744073709551615->S 728 [[z0],[(List.getD ay 0 0)]] [[aq]]->
  U 82 [z0,(List.getD ay 1 0)]/\
  ∀an:Int,0<=an->an<=18446744073709551615->S 734 [[z0],[(List.getD ay 1 0)]] [[an]]->
  ∀au:Int,0<=au->au<=IntKind.max .u64->au=av .xor .u64 aq an->
  ∀z9:Int,0<=z9->z9<=IntKind.max .u64->z9=av .xor .u64 au z5->
  K [[z0],ay,[z4]] [[z9]]
 ))
 )
def KM (S:Nat->List (List Int)->List (List Int)->Prop) (K:List (List Int)->List (List Int)->Prop):Prop:=
 ∀z0:Int,0<=z0->z0<=18446744073709551615->∀ay:List Int,bd [(14,14),(18,18),(41,41)] ay->∀z4:Int,0<=z4->z4<=1->
 (U 82 [z0,(List.getD ay 0 0),(List.getD ay 1 0),(List.getD ay 2 0),z4]->
 U 82 [z0,(List.getD ay 2 0)]/\
 ∀z5:Int,0<=z5->z5<=18446744073709551615->S 741 [[z0],[(List.getD ay 2 0)]] [[z5]]->
 (((decide (z4=1))=true->
  ∀aq:Int,0<=aq->aq<=8388607->0<=z0-2199023255552*aq->z0-2199023255552*aq<2199023255552->
  U 82 [z0,(List.getD ay 0 0)]/\
  ∀an:Int,0<=an->an<=18446744073709551615->S 714 [[z0],[(List.getD ay 0 0)]] [[an]]->
  U 82 [z0,(List.getD ay 1 0)]/\
  ∀au:Int,0<=au->au<=18446744073709551615->S 718 [[z0],[(List.getD ay 1 0)]] [[au]]->
  ∀z9:Int,0<=z9->z9<=IntKind.max .u64->z9=av .xor .u64 an au->
  ∀aW:Int,0<=aW->aW<=IntKind.max .u64->aW=av .xor .u64 z9 aq->
  K [[z0],ay,[z4]] [[aW]]
 )/\((decide (z4=1))=false->
  U 82 [z0,(List.getD ay 0 0)]/\
  ∀aq:Int,0<=aq->aq<=18446744073709551615->S 714 [[z0],[(List.getD ay 0 0)]] [[aq]]->
  U 82 [z0,(List.getD ay 1 0)]/\
  ∀an:Int,0<=an->an<=18446744073709551615->S 718 [[z0],[(List.getD ay 1 0)]] [[an]]->
  ∀au:Int,0<=au->au<=IntKind.max .u64->au=av .xor .u64 aq an->
  ∀z9:Int,0<=z9->z9<=IntKind.max .u64->z9=av .xor .u64 au z5->
  K [[z0],ay,[z4]] [[z9]]
 ))
 )
def KN (S:Nat->List (List Int)->List (List Int)->Prop) (K:List (List Int)->List (List Int)->Prop):Prop:=
 ∀z0:Int,0<=z0->z0<=18446744073709551615->∀ay:List Int,bd [(1,1),(8,8),(7,7)] ay->∀z4:Int,0<=z4->z4<=1->
 (U 82 [z0,(List.getD ay 0 0),(List.getD ay 1 0),(List.getD ay 2 0),z4]->
 U 82 [z0,(List.getD ay 2 0)]/\
 ∀z5:Int,0<=z5->z5<=18446744073709551615->S 707 [[z0],[(List.getD ay 2 0)]] [[z5]]->
 (((decide (z4=1))=true->
  ∀aq:Int,0<=aq->aq<=144115188075855871->0<=z0-128*aq->z0-128*aq<128->
  U 82 [z0,(List.getD ay 0 0)]/\
  ∀an:Int,0<=an->an<=18446744073709551615->S 701 [[z0],[(List.getD ay 0 0)]] [[an]]->
  U 82 [z0,(List.getD ay 1 0)]/\
  ∀au:Int,0<=au->au<=18446744073709551615->S 708 [[z0],[(List.getD ay 1 0)]] [[au]]->
  ∀z9:Int,0<=z9->z9<=IntKind.max .u64->z9=av .xor .u64 an au->
  ∀aW:Int,0<=aW->aW<=IntKind.max .u64->aW=av .xor .u64 z9 aq->
  K [[z0],ay,[z4]] [[aW]]
 )/\((decide (z4=1))=false->
  U 82 [z0,(List.getD ay 0 0)]/\
  ∀aq:Int,0<=aq->aq<=18446744073709551615->S 701 [[z0],[(List.getD ay 0 0)]] [[aq]]->
  U 82 [z0,(List.getD ay 1 0)]/\
  ∀an:Int,0<=an->an<=18446744073709551615->S 708 [[z0],[(List.getD ay 1 0)]] [[an]]->
  ∀au:Int,0<=au->au<=IntKind.max .u64->au=av .xor .u64 aq an->
  ∀z9:Int,0<=z9->z9<=IntKind.max .u64->z9=av .xor .u64 au z5->
  K [[z0],ay,[z4]] [[z9]]
 ))
 )
def KO (S:Nat->List (List Int)->List (List Int)->Prop) (K:List (List Int)->List (List Int)->Prop):Prop:=
 ∀z0:Int,0<=z0->z0<=18446744073709551615->∀ay:List Int,bd [(19,19),(61,61),(6,6)] ay->∀z4:Int,0<=z4->z4<=1->
 (U 82 [z0,(List.getD ay 0 0),(List.getD ay 1 0),(List.getD ay 2 0),z4]->
 U 82 [z0,(List.getD ay 2 0)]/\
 ∀z5:Int,0<=z5->z5<=18446744073709551615->S 706 [[z0],[(List.getD ay 2 0)]] [[z5]]->
 (((decide (z4=1))=true->
  ∀aq:Int,0<=aq->aq<=288230376151711743->0<=z0-64*aq->z0-64*aq<64->
  U 82 [z0,(List.getD ay 0 0)]/\
  ∀an:Int,0<=an->an<=18446744073709551615->S 719 [[z0],[(List.getD ay 0 0)]] [[an]]->
  U 82 [z0,(List.getD ay 1 0)]/\
  ∀au:Int,0<=au->au<=18446744073709551615->S 761 [[z0],[(List.getD ay 1 0)]] [[au]]->
  ∀z9:Int,0<=z9->z9<=IntKind.max .u64->z9=av .xor .u64 an au->
  ∀aW:Int,0<=aW->aW<=IntKind.max .u64->aW=av .xor .u64 z9 aq->
  K [[z0],ay,[z4]] [[aW]]
 )/\((decide (z4=1))=false->
  U 82 [z0,(List.getD ay 0 0)]/\
  ∀aq:Int,0<=aq->aq<=18446744073709551615->S 719 [[z0],[(List.getD ay 0 0)]] [[aq]]->
  U 82 [z0,(List.getD ay 1 0)]/\
  ∀an:Int,0<=an->an<=18446744073709551615->S 761 [[z0],[(List.getD ay 1 0)]] [[an]]->
  ∀au:Int,0<=au->au<=IntKind.max .u64->au=av .xor .u64 aq an->
  ∀z9:Int,0<=z9->z9<=IntKind.max .u64->z9=av .xor .u64 au z5->
  K [[z0],ay,[z4]] [[z9]]
 ))
 )
def KI (S:Nat->List (List Int)->List (List Int)->Prop) (K:List (List Int)->List (List Int)->Prop):Prop:=
 ∀z0:Int,0<=z0->z0<=aw->
 (U 71 [z0]->
 ∀ai:Int,0<=ai->
 ∀z2:Int,(-1)<=z2->z2<=9223372036854775807->
 ∀z3:Int,0<=z3->z3<=9223372036854775807->z3=aa 20 [z0]->
 U 22 [z0,0,z3]/\
 ∀z4:Int,0<=z4->z4<=aw->z4=aa 22 [z0,0,z3]->
 U 71 [z4]/\
 ∀z5:Int,0<=z5->z5<=aw->S 477 [[z4]] [[z5]]->
 ∀aq:Int,(-1)<=aq->aq<=9223372036854775807->
 ∀an:Int,0<=an->an<=9223372036854775807->an=aa 20 [z5]->
 BH z5 an 64 0 [] λKd=>
 K [[z0]] [Kd]
 )
def KJ (S:Nat->List (List Int)->List (List Int)->Prop) (K:List (List Int)->List (List Int)->Prop):Prop:=
 ∀z0:Int,0<=z0->z0<=18446744073709551615->
 ∀ai:Int,0<=ai->ai<=4294967295->0<=z0-4294967296*ai->z0-4294967296*ai<4294967296->
 K [[z0]] [[(z0+((-4294967296)*ai))]]
def Le (S:Nat->List (List Int)->List (List Int)->Prop) (K:List (List Int)->List (List Int)->Prop):Prop:=
 ∀z0:Int,0<=z0->z0<=18446744073709551615->∀ai:Int,2<=ai->ai<=2->
 (U 82 [z0,ai]->
 ∀z2:Int,0<=z2->z2<=4611686018427387903->0<=z0-4*z2->z0-4*z2<4->
 ∀z3:Int,0<=z3->z3<=1073741823->0<=(1073741824*z0)-18446744073709551616*z3->(1073741824*z0)-18446744073709551616*z3<18446744073709551616->
 ∀z4:Int,0<=z4->z4<=IntKind.max .u64->z4=av .or .u64 z2 ((1073741824*z0)+((-18446744073709551616)*z3))->
 ∀z5:Int,0<=z5->z5<=18446744073709551615->S 483 [[z4]] [[z5]]->
 K [[z0],[ai]] [[z5]]
 )
def Lh (S:Nat->List (List Int)->List (List Int)->Prop) (K:List (List Int)->List (List Int)->Prop):Prop:=
 ∀z0:Int,0<=z0->z0<=18446744073709551615->∀ai:Int,3<=ai->ai<=3->
 (U 82 [z0,ai]->
 ∀z2:Int,0<=z2->z2<=2305843009213693951->0<=z0-8*z2->z0-8*z2<8->
 ∀z3:Int,0<=z3->z3<=536870911->0<=(536870912*z0)-18446744073709551616*z3->(536870912*z0)-18446744073709551616*z3<18446744073709551616->
 ∀z4:Int,0<=z4->z4<=IntKind.max .u64->z4=av .or .u64 z2 ((536870912*z0)+((-18446744073709551616)*z3))->
 ∀z5:Int,0<=z5->z5<=18446744073709551615->S 483 [[z4]] [[z5]]->
 K [[z0],[ai]] [[z5]]
 )
def Li (S:Nat->List (List Int)->List (List Int)->Prop) (K:List (List Int)->List (List Int)->Prop):Prop:=
 ∀z0:Int,0<=z0->z0<=18446744073709551615->∀ai:Int,6<=ai->ai<=6->
 (U 82 [z0,ai]->
 ∀z2:Int,0<=z2->z2<=288230376151711743->0<=z0-64*z2->z0-64*z2<64->
 ∀z3:Int,0<=z3->z3<=67108863->0<=(67108864*z0)-18446744073709551616*z3->(67108864*z0)-18446744073709551616*z3<18446744073709551616->
 ∀z4:Int,0<=z4->z4<=IntKind.max .u64->z4=av .or .u64 z2 ((67108864*z0)+((-18446744073709551616)*z3))->
 ∀z5:Int,0<=z5->z5<=18446744073709551615->S 483 [[z4]] [[z5]]->
 K [[z0],[ai]] [[z5]]
 )
def Lj (S:Nat->List (List Int)->List (List Int)->Prop) (K:List (List Int)->List (List Int)->Prop):Prop:=
 ∀z0:Int,0<=z0->z0<=18446744073709551615->∀ai:Int,7<=ai->ai<=7->
 (U 82 [z0,ai]->
 ∀z2:Int,0<=z2->z2<=144115188075855871->0<=z0-128*z2->z0-128*z2<128->
 ∀z3:Int,0<=z3->z3<=33554431->0<=(33554432*z0)-18446744073709551616*z3->(33554432*z0)-18446744073709551616*z3<18446744073709551616->
 ∀z4:Int,0<=z4->z4<=IntKind.max .u64->z4=av .or .u64 z2 ((33554432*z0)+((-18446744073709551616)*z3))->
 ∀z5:Int,0<=z5->z5<=18446744073709551615->S 483 [[z4]] [[z5]]->
 K [[z0],[ai]] [[z5]]
 )
def K8 (S:Nat->List (List Int)->List (List Int)->Prop) (K:List (List Int)->List (List Int)->Prop):Prop:=
 ∀z0:Int,0<=z0->z0<=18446744073709551615->∀ai:Int,10<=ai->ai<=10->
 (U 82 [z0,ai]->
 ∀z2:Int,0<=z2->z2<=18014398509481983->0<=z0-1024*z2->z0-1024*z2<1024->
 ∀z3:Int,0<=z3->z3<=4194303->0<=(4194304*z0)-18446744073709551616*z3->(4194304*z0)-18446744073709551616*z3<18446744073709551616->
 ∀z4:Int,0<=z4->z4<=IntKind.max .u64->z4=av .or .u64 z2 ((4194304*z0)+((-18446744073709551616)*z3))->
 ∀z5:Int,0<=z5->z5<=18446744073709551615->S 483 [[z4]] [[z5]]->
 K [[z0],[ai]] [[z5]]
 )
def K9 (S:Nat->List (List Int)->List (List Int)->Prop) (K:List (List Int)->List (List Int)->Prop):Prop:=
 ∀z0:Int,0<=z0->z0<=18446744073709551615->∀ai:Int,11<=ai->ai<=11->
 (U 82 [z0,ai]->
 ∀z2:Int,0<=z2->z2<=9007199254740991->0<=z0-2048*z2->z0-2048*z2<2048->
 ∀z3:Int,0<=z3->z3<=2097151->0<=(2097152*z0)-18446744073709551616*z3->(2097152*z0)-18446744073709551616*z3<18446744073709551616->
 ∀z4:Int,0<=z4->z4<=IntKind.max .u64->z4=av .or .u64 z2 ((2097152*z0)+((-18446744073709551616)*z3))->
 ∀z5:Int,0<=z5->z5<=18446744073709551615->S 483 [[z4]] [[z5]]->
 K [[z0],[ai]] [[z5]]
 )
def La (S:Nat->List (List Int)->List (List Int)->Prop) (K:List (List Int)->List (List Int)->Prop):Prop:=
 ∀z0:Int,0<=z0->z0<=18446744073709551615->∀ai:Int,13<=ai->ai<=13->
 (U 82 [z0,ai]->
 ∀z2:Int,0<=z2->z2<=2251799813685247->0<=z0-8192*z2->z0-8192*z2<8192->
 ∀z3:Int,0<=z3->z3<=524287->0<=(524288*z0)-18446744073709551616*z3->(524288*z0)-18446744073709551616*z3<18446744073709551616->
 ∀z4:Int,0<=z4->z4<=IntKind.max .u64->z4=av .or .u64 z2 ((524288*z0)+((-18446744073709551616)*z3))->
 ∀z5:Int,0<=z5->z5<=18446744073709551615->S 483 [[z4]] [[z5]]->
 K [[z0],[ai]] [[z5]]
 )
def Lb (S:Nat->List (List Int)->List (List Int)->Prop) (K:List (List Int)->List (List Int)->Prop):Prop:=
 ∀z0:Int,0<=z0->z0<=18446744073709551615->∀ai:Int,17<=ai->ai<=17->
 (U 82 [z0,ai]->
 ∀z2:Int,0<=z2->z2<=140737488355327->0<=z0-131072*z2->z0-131072*z2<131072->
 ∀z3:Int,0<=z3->z3<=32767->0<=(32768*z0)-18446744073709551616*z3->(32768*z0)-18446744073709551616*z3<18446744073709551616->
 ∀z4:Int,0<=z4->z4<=IntKind.max .u64->z4=av .or .u64 z2 ((32768*z0)+((-18446744073709551616)*z3))->
 ∀z5:Int,0<=z5->z5<=18446744073709551615->S 483 [[z4]] [[z5]]->
 K [[z0],[ai]] [[z5]]
 )
def Lc (S:Nat->List (List Int)->List (List Int)->Prop) (K:List (List Int)->List (List Int)->Prop):Prop:=
 ∀z0:Int,0<=z0->z0<=18446744073709551615->∀ai:Int,18<=ai->ai<=18->
 (U 82 [z0,ai]->
 ∀z2:Int,0<=z2->z2<=70368744177663->0<=z0-262144*z2->z0-262144*z2<262144->
 ∀z3:Int,0<=z3->z3<=16383->0<=(16384*z0)-18446744073709551616*z3->(16384*z0)-18446744073709551616*z3<18446744073709551616->
 ∀z4:Int,0<=z4->z4<=IntKind.max .u64->z4=av .or .u64 z2 ((16384*z0)+((-18446744073709551616)*z3))->
 ∀z5:Int,0<=z5->z5<=18446744073709551615->S 483 [[z4]] [[z5]]->
 K [[z0],[ai]] [[z5]]
 )
def Ld (S:Nat->List (List Int)->List (List Int)->Prop) (K:List (List Int)->List (List Int)->Prop):Prop:=
 ∀z0:Int,0<=z0->z0<=18446744073709551615->∀ai:Int,19<=ai->ai<=19->
 (U 82 [z0,ai]->
 ∀z2:Int,0<=z2->z2<=35184372088831->0<=z0-524288*z2->z0-524288*z2<524288->
 ∀z3:Int,0<=z3->z3<=8191->0<=(8192*z0)-18446744073709551616*z3->(8192*z0)-18446744073709551616*z3<18446744073709551616->
 ∀z4:Int,0<=z4->z4<=IntKind.max .u64->z4=av .or .u64 z2 ((8192*z0)+((-18446744073709551616)*z3))->
 ∀z5:Int,0<=z5->z5<=18446744073709551615->S 483 [[z4]] [[z5]]->
 K [[z0],[ai]] [[z5]]
 )
def Lf (S:Nat->List (List Int)->List (List Int)->Prop) (K:List (List Int)->List (List Int)->Prop):Prop:=
 ∀z0:Int,0<=z0->z0<=18446744073709551615->∀ai:Int,22<=ai->ai<=22->
 (U 82 [z0,ai]->
 ∀z2:Int,0<=z2->z2<=4398046511103->0<=z0-4194304*z2->z0-4194304*z2<4194304->
 ∀z3:Int,0<=z3->z3<=1023->0<=(1024*z0)-18446744073709551616*z3->(1024*z0)-18446744073709551616*z3<18446744073709551616->
 ∀z4:Int,0<=z4->z4<=IntKind.max .u64->z4=av .or .u64 z2 ((1024*z0)+((-18446744073709551616)*z3))->
 ∀z5:Int,0<=z5->z5<=18446744073709551615->S 483 [[z4]] [[z5]]->
 K [[z0],[ai]] [[z5]]
 )
def Lg (S:Nat->List (List Int)->List (List Int)->Prop) (K:List (List Int)->List (List Int)->Prop):Prop:=
 ∀z0:Int,0<=z0->z0<=18446744073709551615->∀ai:Int,25<=ai->ai<=25->
 (U 82 [z0,ai]->
 ∀z2:Int,0<=z2->z2<=549755813887->0<=z0-33554432*z2->z0-33554432*z2<33554432->
 ∀z3:Int,0<=z3->z3<=127->0<=(128*z0)-18446744073709551616*z3->(128*z0)-18446744073709551616*z3<18446744073709551616->
 ∀z4:Int,0<=z4->z4<=IntKind.max .u64->z4=av .or .u64 z2 ((128*z0)+((-18446744073709551616)*z3))->
 ∀z5:Int,0<=z5->z5<=18446744073709551615->S 483 [[z4]] [[z5]]->
 K [[z0],[ai]] [[z5]]
 )
def KP (S:Nat->List (List Int)->List (List Int)->Prop) (K:List (List Int)->List (List Int)->Prop):Prop:=
 ∀z0:Int,0<=z0->z0<=18446744073709551615->∀ay:List Int,bd [(2,2),(13,13),(22,22)] ay->∀z4:Int,0<=z4->z4<=1->
 (U 82 [z0,(List.getD ay 0 0),(List.getD ay 1 0),(List.getD ay 2 0),z4]->
 U 82 [z0,(List.getD ay 2 0)]/\
 ∀z5:Int,0<=z5->z5<=18446744073709551615->S 822 [[z0],[(List.getD ay 2 0)]] [[z5]]->
 (((decide (z4=1))=true->
  ∀aq:Int,0<=aq->aq<=4398046511103->0<=z0-4194304*aq->z0-4194304*aq<4194304->
  U 82 [z0,(List.getD ay 0 0)]/\
  ∀an:Int,0<=an->an<=18446744073709551615->S 802 [[z0],[(List.getD ay 0 0)]] [[an]]->
  U 82 [z0,(List.getD ay 1 0)]/\
  ∀au:Int,0<=au->au<=18446744073709551615->S 813 [[z0],[(List.getD ay 1 0)]] [[au]]->
  ∀z9:Int,0<=z9->z9<=IntKind.max .u64->z9=av .xor .u64 an au->
  ∀aW:Int,0<=aW->aW<=IntKind.max .u64->aW=av .xor .u64 z9 aq->
  K [[z0],ay,[z4]] [[aW]]
 )/\((decide (z4=1))=false->
  U 82 [z0,(List.getD ay 0 0)]/\
  ∀aq:Int,0<=aq->aq<=18446744073709551615->S 802 [[z0],[(List.getD ay 0 0)]] [[aq]]->
  U 82 [z0,(List.getD ay 1 0)]/\
  ∀an:Int,0<=an->an<=18446744073709551615->S 813 [[z0],[(List.getD ay 1 0)]] [[an]]->
  ∀au:Int,0<=au->au<=IntKind.max .u64->au=av .xor .u64 aq an->
  ∀z9:Int,0<=z9->z9<=IntKind.max .u64->z9=av .xor .u64 au z5->
  K [[z0],ay,[z4]] [[z9]]
 ))
 )
def KQ (S:Nat->List (List Int)->List (List Int)->Prop) (K:List (List Int)->List (List Int)->Prop):Prop:=
 ∀z0:Int,0<=z0->z0<=18446744073709551615->∀ay:List Int,bd [(6,6),(11,11),(25,25)] ay->∀z4:Int,0<=z4->z4<=1->
 (U 82 [z0,(List.getD ay 0 0),(List.getD ay 1 0),(List.getD ay 2 0),z4]->
 U 82 [z0,(List.getD ay 2 0)]/\
 ∀z5:Int,0<=z5->z5<=18446744073709551615->S 825 [[z0],[(List.getD ay 2 0)]] [[z5]]->
 (((decide (z4=1))=true->
  ∀aq:Int,0<=aq->aq<=549755813887->0<=z0-33554432*aq->z0-33554432*aq<33554432->
  U 82 [z0,(List.getD ay 0 0)]/\
  ∀an:Int,0<=an->an<=18446744073709551615->S 806 [[z0],[(List.getD ay 0 0)]] [[an]]->
  U 82 [z0,(List.getD ay 1 0)]/\
  ∀au:Int,0<=au->au<=18446744073709551615->S 811 [[z0],[(List.getD ay 1 0)]] [[au]]->
  ∀z9:Int,0<=z9->z9<=IntKind.max .u64->z9=av .xor .u64 an au->
  ∀aW:Int,0<=aW->aW<=IntKind.max .u64->aW=av .xor .u64 z9 aq->
  K [[z0],ay,[z4]] [[aW]]
 )/\((decide (z4=1))=false->
  U 82 [z0,(List.getD ay 0 0)]/\
  ∀aq:Int,0<=aq->aq<=18446744073709551615->S 806 [[z0],[(List.getD ay 0 0)]] [[aq]]->
  U 82 [z0,(List.getD ay 1 0)]/\
  ∀an:Int,0<=an->an<=18446744073709551615->S 811 [[z0],[(List.getD ay 1 0)]] [[an]]->
  ∀au:Int,0<=au->au<=IntKind.max .u64->au=av .xor .u64 aq an->
  ∀z9:Int,0<=z9->z9<=IntKind.max .u64->z9=av .xor .u64 au z5->
  K [[z0],ay,[z4]] [[z9]]
 ))
 )
def KR (S:Nat->List (List Int)->List (List Int)->Prop) (K:List (List Int)->List (List Int)->Prop):Prop:=
 ∀z0:Int,0<=z0->z0<=18446744073709551615->∀ay:List Int,bd [(7,7),(18,18),(3,3)] ay->∀z4:Int,0<=z4->z4<=1->
 (U 82 [z0,(List.getD ay 0 0),(List.getD ay 1 0),(List.getD ay 2 0),z4]->
 U 82 [z0,(List.getD ay 2 0)]/\
 ∀z5:Int,0<=z5->z5<=18446744073709551615->S 803 [[z0],[(List.getD ay 2 0)]] [[z5]]->
 (((decide (z4=1))=true->
  ∀aq:Int,0<=aq->aq<=2305843009213693951->0<=z0-8*aq->z0-8*aq<8->
  U 82 [z0,(List.getD ay 0 0)]/\
  ∀an:Int,0<=an->an<=18446744073709551615->S 807 [[z0],[(List.getD ay 0 0)]] [[an]]->
  U 82 [z0,(List.getD ay 1 0)]/\
  ∀au:Int,0<=au->au<=18446744073709551615->S 818 [[z0],[(List.getD ay 1 0)]] [[au]]->
  ∀z9:Int,0<=z9->z9<=IntKind.max .u64->z9=av .xor .u64 an au->
  ∀aW:Int,0<=aW->aW<=IntKind.max .u64->aW=av .xor .u64 z9 aq->
  K [[z0],ay,[z4]] [[aW]]
 )/\((decide (z4=1))=false->
  U 82 [z0,(List.getD ay 0 0)]/\
  ∀aq:Int,0<=aq->aq<=18446744073709551615->S 807 [[z0],[(List.getD ay 0 0)]] [[aq]]->
  U 82 [z0,(List.getD ay 1 0)]/\
  ∀an:Int,0<=an->an<=18446744073709551615->S 818 [[z0],[(List.getD ay 1 0)]] [[an]]->
  ∀au:Int,0<=au->au<=IntKind.max .u64->au=av .xor .u64 aq an->
  ∀z9:Int,0<=z9->z9<=IntKind.max .u64->z9=av .xor .u64 au z5->
  K [[z0],ay,[z4]] [[z9]]
 ))
 )
def KS (S:Nat->List (List Int)->List (List Int)->Prop) (K:List (List Int)->List (List Int)->Prop):Prop:=
 ∀z0:Int,0<=z0->z0<=18446744073709551615->∀ay:List Int,bd [(17,17),(19,19),(10,10)] ay->∀z4:Int,0<=z4->z4<=1->
 (U 82 [z0,(List.getD ay 0 0),(List.getD ay 1 0),(List.getD ay 2 0),z4]->
 U 82 [z0,(List.getD ay 2 0)]/\
 ∀z5:Int,0<=z5->z5<=18446744073709551615->S 810 [[z0],[(List.getD ay 2 0)]] [[z5]]->
 (((decide (z4=1))=true->
  ∀aq:Int,0<=aq->aq<=18014398509481983->0<=z0-1024*aq->z0-1024*aq<1024->
  U 82 [z0,(List.getD ay 0 0)]/\
  ∀an:Int,0<=an->an<=18446744073709551615->S 817 [[z0],[(List.getD ay 0 0)]] [[an]]->
  U 82 [z0,(List.getD ay 1 0)]/\
  ∀au:Int,0<=au->au<=18446744073709551615->S 819 [[z0],[(List.getD ay 1 0)]] [[au]]->
  ∀z9:Int,0<=z9->z9<=IntKind.max .u64->z9=av .xor .u64 an au->
  ∀aW:Int,0<=aW->aW<=IntKind.max .u64->aW=av .xor .u64 z9 aq->
  K [[z0],ay,[z4]] [[aW]]
 )/\((decide (z4=1))=false->
  U 82 [z0,(List.getD ay 0 0)]/\
  ∀aq:Int,0<=aq->aq<=18446744073709551615->S 817 [[z0],[(List.getD ay 0 0)]] [[aq]]->
  U 82 [z0,(List.getD ay 1 0)]/\
  ∀an:Int,0<=an->an<=18446744073709551615->S 819 [[z0],[(List.getD ay 1 0)]] [[an]]->
  ∀au:Int,0<=au->au<=IntKind.max .u64->au=av .xor .u64 aq an->
  ∀z9:Int,0<=z9->z9<=IntKind.max .u64->z9=av .xor .u64 au z5->
  K [[z0],ay,[z4]] [[z9]]
 ))
 )
def KH (S:Nat->List (List Int)->List (List Int)->Prop) (K:List (List Int)->List (List Int)->Prop):Prop:=
 ∀z0:Int,0<=z0->z0<=aw->
 (U 71 [z0]->
 ∀ai:Int,0<=ai->
 ∀z2:Int,(-1)<=z2->z2<=9223372036854775807->
 ∀z3:Int,0<=z3->z3<=9223372036854775807->z3=aa 20 [z0]->
 U 22 [z0,0,z3]/\
 ∀z4:Int,0<=z4->z4<=aw->z4=aa 22 [z0,0,z3]->
 U 71 [z4]/\
 ∀z5:Int,0<=z5->z5<=aw->S 488 [[z4]] [[z5]]->
 ∀aq:Int,(-1)<=aq->aq<=9223372036854775807->
 ∀an:Int,0<=an->an<=9223372036854775807->an=aa 20 [z5]->
 BH z5 an 32 0 [] λKd=>
 K [[z0]] [Kd]
 )
theorem X0 {r:List Int} (h:bd (fj 0 255 64) r):bd (fj 0 255 64++[]) [r].flatten:=by simpa using h
theorem XZ {r:List Int} (h:bd (fj 0 255 32) r):bd (fj 0 255 32++[]) [r].flatten:=by simpa using h
theorem ru {y:Int} (h0:0<=y) (h1:y<=18446744073709551615):av .xor .u64 0 y=y:=by
 obtain⟨Y,rfl⟩:=Int.eq_ofNat_of_zero_le h0
 show IntKind.u64.wrap (((BitVec.ofInt 64 0^^^BitVec.ofInt 64 (Y:Int)).toNat:Nat):Int)=_
 have e:BitVec.ofInt 64 0^^^BitVec.ofInt 64 (Y:Int)=BitVec.ofInt 64 (Y:Int):=by simp
 rw[e,BitVec.toNat_ofInt]
 have h2:(Y:Int)% ((2^64:Nat):Int)=Y:=Int.emod_eq_of_lt (by omega) (by omega)
 rw[h2,Int.toNat_natCast]
 exact AM (by omega) (by show(Y:Int)<18446744073709551616;omega)
theorem aa0:KK SB (de SB [bm] 476):=by
 intro z0 a0 bh
 exact⟨⟨a0,bh,trivial⟩,rfl⟩
theorem abc:KW SB (de SB [bm] 701):=by
 intro z0 a0 bh ai b0 bo _ z2 ct c1 p1 aS z3 d0 d1 q1 aP z4 e0 e1 h4
 have h4:[[z4]]=[[(9223372036854775808*z0)+(z2+((-18446744073709551616)*z3))]]:=h4
 have r:=fG 64 1 (by decide) 9223372036854775808 18446744073709551616 2 (by decide) (by decide) (by decide) q1 aP p1 aS
 refine⟨⟨e0,e1,trivial⟩,?_⟩
 show [[z4]]=[[aB 64 1 z0]]
 rw[h4,<-r]
 congr 2;omega
theorem abk:K4 SB (de SB [bm] 706):=by
 intro z0 a0 bh ai b0 bo _ z2 ct c1 p1 aS z3 d0 d1 q1 aP z4 e0 e1 h4
 have h4:[[z4]]=[[(288230376151711744*z0)+(z2+((-18446744073709551616)*z3))]]:=h4
 have r:=fG 64 6 (by decide) 288230376151711744 18446744073709551616 64 (by decide) (by decide) (by decide) q1 aP p1 aS
 refine⟨⟨e0,e1,trivial⟩,?_⟩
 show [[z4]]=[[aB 64 6 z0]]
 rw[h4,<-r]
 congr 2;omega
theorem abm:K6 SB (de SB [bm] 707):=by
 intro z0 a0 bh ai b0 bo _ z2 ct c1 p1 aS z3 d0 d1 q1 aP z4 e0 e1 h4
 have h4:[[z4]]=[[(144115188075855872*z0)+(z2+((-18446744073709551616)*z3))]]:=h4
 have r:=fG 64 7 (by decide) 144115188075855872 18446744073709551616 128 (by decide) (by decide) (by decide) q1 aP p1 aS
 refine⟨⟨e0,e1,trivial⟩,?_⟩
 show [[z4]]=[[aB 64 7 z0]]
 rw[h4,<-r]
 congr 2;omega
theorem abn:K7 SB (de SB [bm] 708):=by
 intro z0 a0 bh ai b0 bo _ z2 ct c1 p1 aS z3 d0 d1 q1 aP z4 e0 e1 h4
 have h4:[[z4]]=[[(72057594037927936*z0)+(z2+((-18446744073709551616)*z3))]]:=h4
 have r:=fG 64 8 (by decide) 72057594037927936 18446744073709551616 256 (by decide) (by decide) (by decide) q1 aP p1 aS
 refine⟨⟨e0,e1,trivial⟩,?_⟩
 show [[z4]]=[[aB 64 8 z0]]
 rw[h4,<-r]
 congr 2;omega
theorem abd:KX SB (de SB [bm] 714):=by
 intro z0 a0 bh ai b0 bo _ z2 ct c1 p1 aS z3 d0 d1 q1 aP z4 e0 e1 h4
 have h4:[[z4]]=[[(1125899906842624*z0)+(z2+((-18446744073709551616)*z3))]]:=h4
 have r:=fG 64 14 (by decide) 1125899906842624 18446744073709551616 16384 (by decide) (by decide) (by decide) q1 aP p1 aS
 refine⟨⟨e0,e1,trivial⟩,?_⟩
 show [[z4]]=[[aB 64 14 z0]]
 rw[h4,<-r]
 congr 2;omega
theorem abe:KY SB (de SB [bm] 718):=by
 intro z0 a0 bh ai b0 bo _ z2 ct c1 p1 aS z3 d0 d1 q1 aP z4 e0 e1 h4
 have h4:[[z4]]=[[(70368744177664*z0)+(z2+((-18446744073709551616)*z3))]]:=h4
 have r:=fG 64 18 (by decide) 70368744177664 18446744073709551616 262144 (by decide) (by decide) (by decide) q1 aP p1 aS
 refine⟨⟨e0,e1,trivial⟩,?_⟩
 show [[z4]]=[[aB 64 18 z0]]
 rw[h4,<-r]
 congr 2;omega
theorem abf:KZ SB (de SB [bm] 719):=by
 intro z0 a0 bh ai b0 bo _ z2 ct c1 p1 aS z3 d0 d1 q1 aP z4 e0 e1 h4
 have h4:[[z4]]=[[(35184372088832*z0)+(z2+((-18446744073709551616)*z3))]]:=h4
 have r:=fG 64 19 (by decide) 35184372088832 18446744073709551616 524288 (by decide) (by decide) (by decide) q1 aP p1 aS
 refine⟨⟨e0,e1,trivial⟩,?_⟩
 show [[z4]]=[[aB 64 19 z0]]
 rw[h4,<-r]
 congr 2;omega
theorem abg:K0 SB (de SB [bm] 728):=by
 intro z0 a0 bh ai b0 bo _ z2 ct c1 p1 aS z3 d0 d1 q1 aP z4 e0 e1 h4
 have h4:[[z4]]=[[(68719476736*z0)+(z2+((-18446744073709551616)*z3))]]:=h4
 have r:=fG 64 28 (by decide) 68719476736 18446744073709551616 268435456 (by decide) (by decide) (by decide) q1 aP p1 aS
 refine⟨⟨e0,e1,trivial⟩,?_⟩
 show [[z4]]=[[aB 64 28 z0]]
 rw[h4,<-r]
 congr 2;omega
theorem abh:K1 SB (de SB [bm] 734):=by
 intro z0 a0 bh ai b0 bo _ z2 ct c1 p1 aS z3 d0 d1 q1 aP z4 e0 e1 h4
 have h4:[[z4]]=[[(1073741824*z0)+(z2+((-18446744073709551616)*z3))]]:=h4
 have r:=fG 64 34 (by decide) 1073741824 18446744073709551616 17179869184 (by decide) (by decide) (by decide) q1 aP p1 aS
 refine⟨⟨e0,e1,trivial⟩,?_⟩
 show [[z4]]=[[aB 64 34 z0]]
 rw[h4,<-r]
 congr 2;omega
theorem abi:K2 SB (de SB [bm] 739):=by
 intro z0 a0 bh ai b0 bo _ z2 ct c1 p1 aS z3 d0 d1 q1 aP z4 e0 e1 h4
 have h4:[[z4]]=[[(33554432*z0)+(z2+((-18446744073709551616)*z3))]]:=h4
 have r:=fG 64 39 (by decide) 33554432 18446744073709551616 549755813888 (by decide) (by decide) (by decide) q1 aP p1 aS
 refine⟨⟨e0,e1,trivial⟩,?_⟩
 show [[z4]]=[[aB 64 39 z0]]
 rw[h4,<-r]
 congr 2;omega
theorem abj:K3 SB (de SB [bm] 741):=by
 intro z0 a0 bh ai b0 bo _ z2 ct c1 p1 aS z3 d0 d1 q1 aP z4 e0 e1 h4
 have h4:[[z4]]=[[(8388608*z0)+(z2+((-18446744073709551616)*z3))]]:=h4
 have r:=fG 64 41 (by decide) 8388608 18446744073709551616 2199023255552 (by decide) (by decide) (by decide) q1 aP p1 aS
 refine⟨⟨e0,e1,trivial⟩,?_⟩
 show [[z4]]=[[aB 64 41 z0]]
 rw[h4,<-r]
 congr 2;omega
theorem abl:K5 SB (de SB [bm] 761):=by
 intro z0 a0 bh ai b0 bo _ z2 ct c1 p1 aS z3 d0 d1 q1 aP z4 e0 e1 h4
 have h4:[[z4]]=[[(8*z0)+(z2+((-18446744073709551616)*z3))]]:=h4
 have r:=fG 64 61 (by decide) 8 18446744073709551616 2305843009213693952 (by decide) (by decide) (by decide) q1 aP p1 aS
 refine⟨⟨e0,e1,trivial⟩,?_⟩
 show [[z4]]=[[aB 64 61 z0]]
 rw[h4,<-r]
 congr 2;omega
theorem aa1:KL SB (de SB [bm] 479):=by
 intro z0 a0 bh ay i1 z4 b0 bo _
 refine⟨trivial,λz5 ct c1 h5=>⟨λh aq d0 d1 d2 d3=>⟨trivial,λan e0 e1 h7=>⟨trivial,λau f0 f1 h8 z9 g0 g1 bz aW cS cf bZ=>⟨⟨cS,cf,trivial⟩,?_⟩⟩⟩,λh=>⟨trivial,λaq e0 e1 h7=>⟨trivial,λan f0 f1 h8 au g0 g1 bz z9 cS cf bZ=>⟨⟨cS,cf,trivial⟩,?_⟩⟩⟩⟩⟩
 ·have h7:[[an]]=[[aB 64 28 z0]]:=h7
  have h8:[[au]]=[[aB 64 34 z0]]:=h8
  have h7:an=aB 64 28 z0:=by simpa using h7
  have h8:au=aB 64 34 z0:=by simpa using h8
  have h6:aq=z0/2^39:=by rw[show(2:Int)^39=549755813888 by decide];omega
  show [[aW]]=[[av .xor .u64 (av .xor .u64 (av .xor .u64 0 (aB 64 28 z0)) (aB 64 34 z0)) (if z4=1 then z0/2^39 else aB 64 39 z0)]]
  rw[if_pos (of_decide_eq_true h),bZ,bz,<-h7,<-h8,<-h6,ru e0 e1]
 ·have h5:[[z5]]=[[aB 64 39 z0]]:=h5
  have h7:[[aq]]=[[aB 64 28 z0]]:=h7
  have h8:[[an]]=[[aB 64 34 z0]]:=h8
  have h5:z5=aB 64 39 z0:=by simpa using h5
  have h7:aq=aB 64 28 z0:=by simpa using h7
  have h8:an=aB 64 34 z0:=by simpa using h8
  show [[z9]]=[[av .xor .u64 (av .xor .u64 (av .xor .u64 0 (aB 64 28 z0)) (aB 64 34 z0)) (if z4=1 then z0/2^39 else aB 64 39 z0)]]
  rw[if_neg (of_decide_eq_false h),bZ,bz,<-h7,<-h8,<-h5,ru e0 e1]
theorem aa2:KM SB (de SB [bm] 480):=by
 intro z0 a0 bh ay i1 z4 b0 bo _
 refine⟨trivial,λz5 ct c1 h5=>⟨λh aq d0 d1 d2 d3=>⟨trivial,λan e0 e1 h7=>⟨trivial,λau f0 f1 h8 z9 g0 g1 bz aW cS cf bZ=>⟨⟨cS,cf,trivial⟩,?_⟩⟩⟩,λh=>⟨trivial,λaq e0 e1 h7=>⟨trivial,λan f0 f1 h8 au g0 g1 bz z9 cS cf bZ=>⟨⟨cS,cf,trivial⟩,?_⟩⟩⟩⟩⟩
 ·have h7:[[an]]=[[aB 64 14 z0]]:=h7
  have h8:[[au]]=[[aB 64 18 z0]]:=h8
  have h7:an=aB 64 14 z0:=by simpa using h7
  have h8:au=aB 64 18 z0:=by simpa using h8
  have h6:aq=z0/2^41:=by rw[show(2:Int)^41=2199023255552 by decide];omega
  show [[aW]]=[[av .xor .u64 (av .xor .u64 (av .xor .u64 0 (aB 64 14 z0)) (aB 64 18 z0)) (if z4=1 then z0/2^41 else aB 64 41 z0)]]
  rw[if_pos (of_decide_eq_true h),bZ,bz,<-h7,<-h8,<-h6,ru e0 e1]
 ·have h5:[[z5]]=[[aB 64 41 z0]]:=h5
  have h7:[[aq]]=[[aB 64 14 z0]]:=h7
  have h8:[[an]]=[[aB 64 18 z0]]:=h8
  have h5:z5=aB 64 41 z0:=by simpa using h5
  have h7:aq=aB 64 14 z0:=by simpa using h7
  have h8:an=aB 64 18 z0:=by simpa using h8
  show [[z9]]=[[av .xor .u64 (av .xor .u64 (av .xor .u64 0 (aB 64 14 z0)) (aB 64 18 z0)) (if z4=1 then z0/2^41 else aB 64 41 z0)]]
  rw[if_neg (of_decide_eq_false h),bZ,bz,<-h7,<-h8,<-h5,ru e0 e1]
theorem aa3:KN SB (de SB [bm] 481):=by
 intro z0 a0 bh ay i1 z4 b0 bo _
 refine⟨trivial,λz5 ct c1 h5=>⟨λh aq d0 d1 d2 d3=>⟨trivial,λan e0 e1 h7=>⟨trivial,λau f0 f1 h8 z9 g0 g1 bz aW cS cf bZ=>⟨⟨cS,cf,trivial⟩,?_⟩⟩⟩,λh=>⟨trivial,λaq e0 e1 h7=>⟨trivial,λan f0 f1 h8 au g0 g1 bz z9 cS cf bZ=>⟨⟨cS,cf,trivial⟩,?_⟩⟩⟩⟩⟩
 ·have h7:[[an]]=[[aB 64 1 z0]]:=h7
  have h8:[[au]]=[[aB 64 8 z0]]:=h8
  have h7:an=aB 64 1 z0:=by simpa using h7
  have h8:au=aB 64 8 z0:=by simpa using h8
  have h6:aq=z0/2^7:=by rw[show(2:Int)^7=128 by decide];omega
  show [[aW]]=[[av .xor .u64 (av .xor .u64 (av .xor .u64 0 (aB 64 1 z0)) (aB 64 8 z0)) (if z4=1 then z0/2^7 else aB 64 7 z0)]]
  rw[if_pos (of_decide_eq_true h),bZ,bz,<-h7,<-h8,<-h6,ru e0 e1]
 ·have h5:[[z5]]=[[aB 64 7 z0]]:=h5
  have h7:[[aq]]=[[aB 64 1 z0]]:=h7
  have h8:[[an]]=[[aB 64 8 z0]]:=h8
  have h5:z5=aB 64 7 z0:=by simpa using h5
  have h7:aq=aB 64 1 z0:=by simpa using h7
  have h8:an=aB 64 8 z0:=by simpa using h8
  show [[z9]]=[[av .xor .u64 (av .xor .u64 (av .xor .u64 0 (aB 64 1 z0)) (aB 64 8 z0)) (if z4=1 then z0/2^7 else aB 64 7 z0)]]
  rw[if_neg (of_decide_eq_false h),bZ,bz,<-h7,<-h8,<-h5,ru e0 e1]
theorem aa4:KO SB (de SB [bm] 482):=by
 intro z0 a0 bh ay i1 z4 b0 bo _
 refine⟨trivial,λz5 ct c1 h5=>⟨λh aq d0 d1 d2 d3=>⟨trivial,λan e0 e1 h7=>⟨trivial,λau f0 f1 h8 z9 g0 g1 bz aW cS cf bZ=>⟨⟨cS,cf,trivial⟩,?_⟩⟩⟩,λh=>⟨trivial,λaq e0 e1 h7=>⟨trivial,λan f0 f1 h8 au g0 g1 bz z9 cS cf bZ=>⟨⟨cS,cf,trivial⟩,?_⟩⟩⟩⟩⟩
 ·have h7:[[an]]=[[aB 64 19 z0]]:=h7
  have h8:[[au]]=[[aB 64 61 z0]]:=h8
  have h7:an=aB 64 19 z0:=by simpa using h7
  have h8:au=aB 64 61 z0:=by simpa using h8
  have h6:aq=z0/2^6:=by rw[show(2:Int)^6=64 by decide];omega
  show [[aW]]=[[av .xor .u64 (av .xor .u64 (av .xor .u64 0 (aB 64 19 z0)) (aB 64 61 z0)) (if z4=1 then z0/2^6 else aB 64 6 z0)]]
  rw[if_pos (of_decide_eq_true h),bZ,bz,<-h7,<-h8,<-h6,ru e0 e1]
 ·have h5:[[z5]]=[[aB 64 6 z0]]:=h5
  have h7:[[aq]]=[[aB 64 19 z0]]:=h7
  have h8:[[an]]=[[aB 64 61 z0]]:=h8
  have h5:z5=aB 64 6 z0:=by simpa using h5
  have h7:aq=aB 64 19 z0:=by simpa using h7
  have h8:an=aB 64 61 z0:=by simpa using h8
  show [[z9]]=[[av .xor .u64 (av .xor .u64 (av .xor .u64 0 (aB 64 19 z0)) (aB 64 61 z0)) (if z4=1 then z0/2^6 else aB 64 6 z0)]]
  rw[if_neg (of_decide_eq_false h),bZ,bz,<-h7,<-h8,<-h5,ru e0 e1]
theorem EC {c l:Int} {k:List Int->Prop} (hl:l=((aC c).length:Int)):∀(n i:Nat) (acc:List Int),i+n<=(aC c).length->(∀q:List Int,q.length=n->(∀x∈q,0<=x/\x<=255)->q=((aC c).drop i).take n->k (acc++q))->BH c l n i acc k
 |0,i,acc,_,h=>by
  have:=h [] rfl (by simp) (by simp)
  show k acc
  simpa using this
 |n+1,i,acc,hn,h=>⟨⟨by omega,by omega⟩,ma (by omega) (by omega),λy kn iH hy=>EC hl n (i+1) (acc++[y]) (by omega) λq h1 h2 h3=>by
  have hb:i<(aC c).length:=by omega
  have e:y=(aC c)[i]:=by rw[aD hy,Int.toNat_natCast,List.getD_eq_getElem?_getD,List.getElem?_eq_getElem hb];rfl
  have:=h (y::q) (by simp[h1]) (λx hx=>by
   rcases List.mem_cons.1 hx with rfl|hx
   ·exact⟨kn,iH⟩
   ·exact h2 x hx) (by rw[List.drop_eq_getElem_cons hb,List.take_succ_cons,<-e,<-h3])
  simpa using this⟩
theorem aaY:KI SB (gy SB [.d wh] 478):=by
 intro z0 a0 bh hp ai b0 z2 ct c1 z3 d0 d1 h3
 have hp:(ab z0).length<=1000000000:=hp
 have h3:z3=((ab z0).length:Int):=h3
 refine⟨⟨Int.le_refl _,by omega,by rw[h3];exact Int.le_refl _⟩,λz4 _ _ h4=>?_⟩
 have h4:=gf h4 h3
 refine⟨by show(ab z4).length<=1000000000;rw[h4];exact hp,λz5 _ _ h5 aq _ _ an _ _ h7=>?_⟩
 have h5:aC z5=fk aX (aC z4):=h5
 rw[lk h4]at h5
 have h7:an=((ab z5).length:Int):=h7
 have oS:(aC z5).length=64:=by rw[h5];unfold fk;rw[wk];rfl
 refine EC (by rw[h7,eI]) 64 0 [] (by omega) λq h1 h2 h3=>?_
 rw[List.drop_zero,List.take_of_length_le (by omega)]at h3
 rw[List.nil_append]
 refine⟨X0 (ug 64 q h1 h2),?_⟩
 show [q]=[fk aX (aC z0)]
 rw[h3,h5]
theorem aaZ:KJ SB (de SB [bm] 483):=by
 intro z0 a0 bh ai b0 bo cj dU
 refine⟨⟨by omega,by omega,trivial⟩,?_⟩
 show [[z0+-4294967296*ai]]=[[z0% 4294967296]]
 rw[show z0+-4294967296*ai=z0% 4294967296 by omega]
theorem n9 (n:Nat) (h0:0<n) (hn:n<32) {x a b:Int} (hx:0<=x) (hx2:x<=4294967295) (ha:a=x/2^n) (hb:b=x*2^(32-n)):(av .or .u64 a b)% 4294967296=aB 32 n x:=by
 obtain⟨X,rfl⟩:=Int.eq_ofNat_of_zero_le hx
 have hX:X<2^32:=by omega
 have wL:a=((X/2^n:Nat):Int):=by rw[ha];simp
 have ot:b=((X*2^(32-n):Nat):Int):=by rw[hb];simp
 have p1:X/2^n<2^(32-n):=by
  rw[Nat.div_lt_iff_lt_mul (Nat.two_pow_pos n),<-Nat.pow_add,show 32-n+n=32 by omega];exact hX
 have aS:(2:Nat)^(32-n)<=2^31:=Nat.pow_le_pow_right (by decide) (by omega)
 have bR:X*2^(32-n)<2^63:=by
  calc X*2^(32-n)<=X*2^31:=Nat.mul_le_mul_left _ aS
   _<2^63:=by omega
 obtain⟨A,hA⟩:∃A,A=X/2^n:=⟨_,rfl⟩
 obtain⟨B,hB⟩:∃B,B=X*2^(32-n):=⟨_,rfl⟩
 rw[<-hA]at wL p1
 rw[<-hB]at ot bR
 rw[wL,ot,Ef (by omega) (by omega) (by rw[xU];omega) (by rw[xU];omega)]
 simp only[Int.toNat_natCast]
 have e1:(X/2^n|||X*2^(32-n))% 2^32=X/2^n+X% 2^n*2^(32-n):=by
  rw[Nat.or_mod_two_pow]
  have q1:X/2^n% 2^32=X/2^n:=Nat.mod_eq_of_lt (by omega)
  have aP:X*2^(32-n)% 2^32=X% 2^n*2^(32-n):=by
   rw[show(2:Nat)^32=2^n*2^(32-n) by rw[<-Nat.pow_add];congr 1;omega,Nat.mul_mod_mul_right]
  rw[<-hA]at q1⊢
  rw[q1,aP,Nat.or_comm,Nat.mul_comm (X% 2^n),Nat.add_comm,Nat.two_pow_add_eq_or_of_lt p1]
 rw[<-hA,<-hB]at e1
 have e2:(((A|||B:Nat):Int)% 4294967296)=(((A|||B)% 2^32:Nat):Int):=by omega
 rw[e2,e1,hA]
 unfold aB
 simp
theorem oc (n:Nat) (hn:n<=32) {x:Int} (hx:0<=x) (hx2:x<=4294967295):0<=aB 32 n x/\aB 32 n x<=4294967295:=by
 obtain⟨X,rfl⟩:=Int.eq_ofNat_of_zero_le hx
 have hX:X<2^32:=by omega
 have p1:X/2^n<2^(32-n):=by
  rw[Nat.div_lt_iff_lt_mul (Nat.two_pow_pos n),<-Nat.pow_add,show 32-n+n=32 by omega];exact hX
 have aS:X% 2^n<2^n:=Nat.mod_lt _ (Nat.two_pow_pos n)
 have e:aB 32 n (X:Int)=((X/2^n+X% 2^n*2^(32-n):Nat):Int):=by unfold aB;simp
 have bR:(X% 2^n+1)*2^(32-n)<=2^n*2^(32-n):=Nat.mul_le_mul_right _ aS
 rw[<-Nat.pow_add,show n+(32-n)=32 by omega,Nat.add_mul]at bR
 have cY:X/2^n+X% 2^n*2^(32-n)<2^32:=by omega
 obtain⟨Y,hY⟩:∃Y,Y=X/2^n+X% 2^n*2^(32-n):=⟨_,rfl⟩
 rw[<-hY]at e cY
 rw[e]
 omega
theorem sJ {y:Int} (h0:0<=y) (h1:y<=4294967295):av .xor .u32 0 y=y:=by
 rw[<-(jU (x:=0) (y:=y) (by decide) (by decide) h0 (by omega)).1]
 exact ru h0 (by omega)
theorem abv:Le SB (de SB [bm] 802):=by
 intro z0 a0 bh ai b0 bo _ z2 ct c1 p1 aS z3 d0 d1 q1 aP z4 e0 e1 h4 z5 f0 f1 h5
 have h5:[[z5]]=[[z4% 4294967296]]:=h5
 have h5:z5=z4% 4294967296:=by simpa using h5
 refine⟨⟨f0,f1,trivial⟩,λ(hx:0<=z0) (hx2:z0<=4294967295)=>?_,?_⟩
 rotate_left
 ·show z5=av .or .u64 (z0/2^2) (z0*2^(32-2)% 18446744073709551616)% 4294967296
  rw[h5,h4,show z2=z0/2^2 by rw[show(2:Int)^2=4 by decide];omega,show 1073741824*z0+-18446744073709551616*z3=z0*2^(32-2)% 18446744073709551616 by rw[show(2:Int)^(32-2)=1073741824 by decide];omega]
 show z5=aB 32 2 z0
 rw[h5,h4]
 exact n9 2 (by decide) (by decide) hx hx2 (by rw[show(2:Int)^2=4 by decide];omega) (by rw[show(2:Int)^(32-2)=1073741824 by decide];omega)
theorem aby:Lh SB (de SB [bm] 803):=by
 intro z0 a0 bh ai b0 bo _ z2 ct c1 p1 aS z3 d0 d1 q1 aP z4 e0 e1 h4 z5 f0 f1 h5
 have h5:[[z5]]=[[z4% 4294967296]]:=h5
 have h5:z5=z4% 4294967296:=by simpa using h5
 refine⟨⟨f0,f1,trivial⟩,λ(hx:0<=z0) (hx2:z0<=4294967295)=>?_,?_⟩
 rotate_left
 ·show z5=av .or .u64 (z0/2^3) (z0*2^(32-3)% 18446744073709551616)% 4294967296
  rw[h5,h4,show z2=z0/2^3 by rw[show(2:Int)^3=8 by decide];omega,show 536870912*z0+-18446744073709551616*z3=z0*2^(32-3)% 18446744073709551616 by rw[show(2:Int)^(32-3)=536870912 by decide];omega]
 show z5=aB 32 3 z0
 rw[h5,h4]
 exact n9 3 (by decide) (by decide) hx hx2 (by rw[show(2:Int)^3=8 by decide];omega) (by rw[show(2:Int)^(32-3)=536870912 by decide];omega)
theorem abz:Li SB (de SB [bm] 806):=by
 intro z0 a0 bh ai b0 bo _ z2 ct c1 p1 aS z3 d0 d1 q1 aP z4 e0 e1 h4 z5 f0 f1 h5
 have h5:[[z5]]=[[z4% 4294967296]]:=h5
 have h5:z5=z4% 4294967296:=by simpa using h5
 refine⟨⟨f0,f1,trivial⟩,λ(hx:0<=z0) (hx2:z0<=4294967295)=>?_,?_⟩
 rotate_left
 ·show z5=av .or .u64 (z0/2^6) (z0*2^(32-6)% 18446744073709551616)% 4294967296
  rw[h5,h4,show z2=z0/2^6 by rw[show(2:Int)^6=64 by decide];omega,show 67108864*z0+-18446744073709551616*z3=z0*2^(32-6)% 18446744073709551616 by rw[show(2:Int)^(32-6)=67108864 by decide];omega]
 show z5=aB 32 6 z0
 rw[h5,h4]
 exact n9 6 (by decide) (by decide) hx hx2 (by rw[show(2:Int)^6=64 by decide];omega) (by rw[show(2:Int)^(32-6)=67108864 by decide];omega)
theorem abA:Lj SB (de SB [bm] 807):=by
 intro z0 a0 bh ai b0 bo _ z2 ct c1 p1 aS z3 d0 d1 q1 aP z4 e0 e1 h4 z5 f0 f1 h5
 have h5:[[z5]]=[[z4% 4294967296]]:=h5
 have h5:z5=z4% 4294967296:=by simpa using h5
 refine⟨⟨f0,f1,trivial⟩,λ(hx:0<=z0) (hx2:z0<=4294967295)=>?_,?_⟩
 rotate_left
 ·show z5=av .or .u64 (z0/2^7) (z0*2^(32-7)% 18446744073709551616)% 4294967296
  rw[h5,h4,show z2=z0/2^7 by rw[show(2:Int)^7=128 by decide];omega,show 33554432*z0+-18446744073709551616*z3=z0*2^(32-7)% 18446744073709551616 by rw[show(2:Int)^(32-7)=33554432 by decide];omega]
 show z5=aB 32 7 z0
 rw[h5,h4]
 exact n9 7 (by decide) (by decide) hx hx2 (by rw[show(2:Int)^7=128 by decide];omega) (by rw[show(2:Int)^(32-7)=33554432 by decide];omega)
theorem abo:K8 SB (de SB [bm] 810):=by
 intro z0 a0 bh ai b0 bo _ z2 ct c1 p1 aS z3 d0 d1 q1 aP z4 e0 e1 h4 z5 f0 f1 h5
 have h5:[[z5]]=[[z4% 4294967296]]:=h5
 have h5:z5=z4% 4294967296:=by simpa using h5
 refine⟨⟨f0,f1,trivial⟩,λ(hx:0<=z0) (hx2:z0<=4294967295)=>?_,?_⟩
 rotate_left
 ·show z5=av .or .u64 (z0/2^10) (z0*2^(32-10)% 18446744073709551616)% 4294967296
  rw[h5,h4,show z2=z0/2^10 by rw[show(2:Int)^10=1024 by decide];omega,show 4194304*z0+-18446744073709551616*z3=z0*2^(32-10)% 18446744073709551616 by rw[show(2:Int)^(32-10)=4194304 by decide];omega]
 show z5=aB 32 10 z0
 rw[h5,h4]
 exact n9 10 (by decide) (by decide) hx hx2 (by rw[show(2:Int)^10=1024 by decide];omega) (by rw[show(2:Int)^(32-10)=4194304 by decide];omega)
theorem abp:K9 SB (de SB [bm] 811):=by
 intro z0 a0 bh ai b0 bo _ z2 ct c1 p1 aS z3 d0 d1 q1 aP z4 e0 e1 h4 z5 f0 f1 h5
 have h5:[[z5]]=[[z4% 4294967296]]:=h5
 have h5:z5=z4% 4294967296:=by simpa using h5
 refine⟨⟨f0,f1,trivial⟩,λ(hx:0<=z0) (hx2:z0<=4294967295)=>?_,?_⟩
 rotate_left
 ·show z5=av .or .u64 (z0/2^11) (z0*2^(32-11)% 18446744073709551616)% 4294967296
  rw[h5,h4,show z2=z0/2^11 by rw[show(2:Int)^11=2048 by decide];omega,show 2097152*z0+-18446744073709551616*z3=z0*2^(32-11)% 18446744073709551616 by rw[show(2:Int)^(32-11)=2097152 by decide];omega]
 show z5=aB 32 11 z0
 rw[h5,h4]
 exact n9 11 (by decide) (by decide) hx hx2 (by rw[show(2:Int)^11=2048 by decide];omega) (by rw[show(2:Int)^(32-11)=2097152 by decide];omega)
theorem abq:La SB (de SB [bm] 813):=by
 intro z0 a0 bh ai b0 bo _ z2 ct c1 p1 aS z3 d0 d1 q1 aP z4 e0 e1 h4 z5 f0 f1 h5
 have h5:[[z5]]=[[z4% 4294967296]]:=h5
 have h5:z5=z4% 4294967296:=by simpa using h5
 refine⟨⟨f0,f1,trivial⟩,λ(hx:0<=z0) (hx2:z0<=4294967295)=>?_,?_⟩
 rotate_left
 ·show z5=av .or .u64 (z0/2^13) (z0*2^(32-13)% 18446744073709551616)% 4294967296
  rw[h5,h4,show z2=z0/2^13 by rw[show(2:Int)^13=8192 by decide];omega,show 524288*z0+-18446744073709551616*z3=z0*2^(32-13)% 18446744073709551616 by rw[show(2:Int)^(32-13)=524288 by decide];omega]
 show z5=aB 32 13 z0
 rw[h5,h4]
 exact n9 13 (by decide) (by decide) hx hx2 (by rw[show(2:Int)^13=8192 by decide];omega) (by rw[show(2:Int)^(32-13)=524288 by decide];omega)
theorem abr:Lb SB (de SB [bm] 817):=by
 intro z0 a0 bh ai b0 bo _ z2 ct c1 p1 aS z3 d0 d1 q1 aP z4 e0 e1 h4 z5 f0 f1 h5
 have h5:[[z5]]=[[z4% 4294967296]]:=h5
 have h5:z5=z4% 4294967296:=by simpa using h5
 refine⟨⟨f0,f1,trivial⟩,λ(hx:0<=z0) (hx2:z0<=4294967295)=>?_,?_⟩
 rotate_left
 ·show z5=av .or .u64 (z0/2^17) (z0*2^(32-17)% 18446744073709551616)% 4294967296
  rw[h5,h4,show z2=z0/2^17 by rw[show(2:Int)^17=131072 by decide];omega,show 32768*z0+-18446744073709551616*z3=z0*2^(32-17)% 18446744073709551616 by rw[show(2:Int)^(32-17)=32768 by decide];omega]
 show z5=aB 32 17 z0
 rw[h5,h4]
 exact n9 17 (by decide) (by decide) hx hx2 (by rw[show(2:Int)^17=131072 by decide];omega) (by rw[show(2:Int)^(32-17)=32768 by decide];omega)
theorem abt:Lc SB (de SB [bm] 818):=by
 intro z0 a0 bh ai b0 bo _ z2 ct c1 p1 aS z3 d0 d1 q1 aP z4 e0 e1 h4 z5 f0 f1 h5
 have h5:[[z5]]=[[z4% 4294967296]]:=h5
 have h5:z5=z4% 4294967296:=by simpa using h5
 refine⟨⟨f0,f1,trivial⟩,λ(hx:0<=z0) (hx2:z0<=4294967295)=>?_,?_⟩
 rotate_left
 ·show z5=av .or .u64 (z0/2^18) (z0*2^(32-18)% 18446744073709551616)% 4294967296
  rw[h5,h4,show z2=z0/2^18 by rw[show(2:Int)^18=262144 by decide];omega,show 16384*z0+-18446744073709551616*z3=z0*2^(32-18)% 18446744073709551616 by rw[show(2:Int)^(32-18)=16384 by decide];omega]
 show z5=aB 32 18 z0
 rw[h5,h4]
 exact n9 18 (by decide) (by decide) hx hx2 (by rw[show(2:Int)^18=262144 by decide];omega) (by rw[show(2:Int)^(32-18)=16384 by decide];omega)
theorem abu:Ld SB (de SB [bm] 819):=by
 intro z0 a0 bh ai b0 bo _ z2 ct c1 p1 aS z3 d0 d1 q1 aP z4 e0 e1 h4 z5 f0 f1 h5
 have h5:[[z5]]=[[z4% 4294967296]]:=h5
 have h5:z5=z4% 4294967296:=by simpa using h5
 refine⟨⟨f0,f1,trivial⟩,λ(hx:0<=z0) (hx2:z0<=4294967295)=>?_,?_⟩
 rotate_left
 ·show z5=av .or .u64 (z0/2^19) (z0*2^(32-19)% 18446744073709551616)% 4294967296
  rw[h5,h4,show z2=z0/2^19 by rw[show(2:Int)^19=524288 by decide];omega,show 8192*z0+-18446744073709551616*z3=z0*2^(32-19)% 18446744073709551616 by rw[show(2:Int)^(32-19)=8192 by decide];omega]
 show z5=aB 32 19 z0
 rw[h5,h4]
 exact n9 19 (by decide) (by decide) hx hx2 (by rw[show(2:Int)^19=524288 by decide];omega) (by rw[show(2:Int)^(32-19)=8192 by decide];omega)
theorem abw:Lf SB (de SB [bm] 822):=by
 intro z0 a0 bh ai b0 bo _ z2 ct c1 p1 aS z3 d0 d1 q1 aP z4 e0 e1 h4 z5 f0 f1 h5
 have h5:[[z5]]=[[z4% 4294967296]]:=h5
 have h5:z5=z4% 4294967296:=by simpa using h5
 refine⟨⟨f0,f1,trivial⟩,λ(hx:0<=z0) (hx2:z0<=4294967295)=>?_,?_⟩
 rotate_left
 ·show z5=av .or .u64 (z0/2^22) (z0*2^(32-22)% 18446744073709551616)% 4294967296
  rw[h5,h4,show z2=z0/2^22 by rw[show(2:Int)^22=4194304 by decide];omega,show 1024*z0+-18446744073709551616*z3=z0*2^(32-22)% 18446744073709551616 by rw[show(2:Int)^(32-22)=1024 by decide];omega]
 show z5=aB 32 22 z0
 rw[h5,h4]
 exact n9 22 (by decide) (by decide) hx hx2 (by rw[show(2:Int)^22=4194304 by decide];omega) (by rw[show(2:Int)^(32-22)=1024 by decide];omega)
theorem abx:Lg SB (de SB [bm] 825):=by
 intro z0 a0 bh ai b0 bo _ z2 ct c1 p1 aS z3 d0 d1 q1 aP z4 e0 e1 h4 z5 f0 f1 h5
 have h5:[[z5]]=[[z4% 4294967296]]:=h5
 have h5:z5=z4% 4294967296:=by simpa using h5
 refine⟨⟨f0,f1,trivial⟩,λ(hx:0<=z0) (hx2:z0<=4294967295)=>?_,?_⟩
 rotate_left
 ·show z5=av .or .u64 (z0/2^25) (z0*2^(32-25)% 18446744073709551616)% 4294967296
  rw[h5,h4,show z2=z0/2^25 by rw[show(2:Int)^25=33554432 by decide];omega,show 128*z0+-18446744073709551616*z3=z0*2^(32-25)% 18446744073709551616 by rw[show(2:Int)^(32-25)=128 by decide];omega]
 show z5=aB 32 25 z0
 rw[h5,h4]
 exact n9 25 (by decide) (by decide) hx hx2 (by rw[show(2:Int)^25=33554432 by decide];omega) (by rw[show(2:Int)^(32-25)=128 by decide];omega)
theorem aa5:KP SB (de SB [bm] 484):=by
 intro z0 a0 bh ay i1 z4 b0 bo _
 refine⟨trivial,λz5 ct c1 h5=>⟨λh aq d0 d1 d2 d3=>⟨trivial,λan e0 e1 h7=>⟨trivial,λau f0 f1 h8 z9 g0 g1 bz aW cS cf bZ=>⟨⟨cS,cf,trivial⟩,λ(hx:0<=z0) (hx2:z0<=4294967295)=>?_,?_⟩⟩⟩,λh=>⟨trivial,λaq e0 e1 h7=>⟨trivial,λan f0 f1 h8 au g0 g1 bz z9 cS cf bZ=>⟨⟨cS,cf,trivial⟩,λ(hx:0<=z0) (hx2:z0<=4294967295)=>?_,?_⟩⟩⟩⟩⟩
 rotate_left
 ·have h7:an=bF 2 z0:=And.right (show(0<=z0->z0<=4294967295->an=aB 32 2 z0)/\an=bF 2 z0 from h7)
  have h8:au=bF 13 z0:=And.right (show(0<=z0->z0<=4294967295->au=aB 32 13 z0)/\au=bF 13 z0 from h8)
  have h6:aq=z0/2^22:=by rw[show(2:Int)^22=4194304 by decide];omega
  show aW=av .xor .u64 (av .xor .u64 (bF 2 z0) (bF 13 z0)) (if z4=1 then z0/2^22 else bF 22 z0)
  rw[if_pos (of_decide_eq_true h),bZ,bz,h7,h8,h6]
 rotate_left
 ·have h7:aq=bF 2 z0:=And.right (show(0<=z0->z0<=4294967295->aq=aB 32 2 z0)/\aq=bF 2 z0 from h7)
  have h8:an=bF 13 z0:=And.right (show(0<=z0->z0<=4294967295->an=aB 32 13 z0)/\an=bF 13 z0 from h8)
  have h5:z5=bF 22 z0:=And.right (show(0<=z0->z0<=4294967295->z5=aB 32 22 z0)/\z5=bF 22 z0 from h5)
  show z9=av .xor .u64 (av .xor .u64 (bF 2 z0) (bF 13 z0)) (if z4=1 then z0/2^22 else bF 22 z0)
  rw[if_neg (of_decide_eq_false h),bZ,bz,h7,h8,h5]
 all_goals have jZ:=oc 2 (by decide) hx hx2
 all_goals have s9:=oc 13 (by decide) hx hx2
 all_goals have bc:=oc 22 (by decide) hx hx2
 ·have h7:an=aB 32 2 z0:=(show(0<=z0->z0<=4294967295->an=aB 32 2 z0)/\an=bF 2 z0 from h7).1 hx hx2
  have h8:au=aB 32 13 z0:=(show(0<=z0->z0<=4294967295->au=aB 32 13 z0)/\au=bF 13 z0 from h8).1 hx hx2
  have h6:aq=z0/2^22:=by rw[show(2:Int)^22=4194304 by decide];omega
  have b8:=jU (x:=an) (y:=au) (by rw[h7];omega) (by rw[h7];omega) (by rw[h8];omega) (by rw[h8];omega)
  have cO:=jU (x:=av .xor .u32 an au) (y:=aq) b8.2.1 b8.2.2 (by omega) (by omega)
  show aW=av .xor .u32 (av .xor .u32 (av .xor .u32 0 (aB 32 2 z0)) (aB 32 13 z0)) (if z4=1 then z0/2^22 else aB 32 22 z0)
  rw[if_pos (of_decide_eq_true h),bZ,bz,b8.1,cO.1,<-h8,<-h6,sJ jZ.1 jZ.2,<-h7]
 ·have h5:z5=aB 32 22 z0:=(show(0<=z0->z0<=4294967295->z5=aB 32 22 z0)/\z5=bF 22 z0 from h5).1 hx hx2
  have h7:aq=aB 32 2 z0:=(show(0<=z0->z0<=4294967295->aq=aB 32 2 z0)/\aq=bF 2 z0 from h7).1 hx hx2
  have h8:an=aB 32 13 z0:=(show(0<=z0->z0<=4294967295->an=aB 32 13 z0)/\an=bF 13 z0 from h8).1 hx hx2
  have b8:=jU (x:=aq) (y:=an) (by rw[h7];omega) (by rw[h7];omega) (by rw[h8];omega) (by rw[h8];omega)
  have cO:=jU (x:=av .xor .u32 aq an) (y:=z5) b8.2.1 b8.2.2 (by rw[h5];omega) (by rw[h5];omega)
  show z9=av .xor .u32 (av .xor .u32 (av .xor .u32 0 (aB 32 2 z0)) (aB 32 13 z0)) (if z4=1 then z0/2^22 else aB 32 22 z0)
  rw[if_neg (of_decide_eq_false h),bZ,bz,b8.1,cO.1,<-h8,<-h5,sJ jZ.1 jZ.2,<-h7]
theorem aa6:KQ SB (de SB [bm] 485):=by
 intro z0 a0 bh ay i1 z4 b0 bo _
 refine⟨trivial,λz5 ct c1 h5=>⟨λh aq d0 d1 d2 d3=>⟨trivial,λan e0 e1 h7=>⟨trivial,λau f0 f1 h8 z9 g0 g1 bz aW cS cf bZ=>⟨⟨cS,cf,trivial⟩,λ(hx:0<=z0) (hx2:z0<=4294967295)=>?_,?_⟩⟩⟩,λh=>⟨trivial,λaq e0 e1 h7=>⟨trivial,λan f0 f1 h8 au g0 g1 bz z9 cS cf bZ=>⟨⟨cS,cf,trivial⟩,λ(hx:0<=z0) (hx2:z0<=4294967295)=>?_,?_⟩⟩⟩⟩⟩
 rotate_left
 ·have h7:an=bF 6 z0:=And.right (show(0<=z0->z0<=4294967295->an=aB 32 6 z0)/\an=bF 6 z0 from h7)
  have h8:au=bF 11 z0:=And.right (show(0<=z0->z0<=4294967295->au=aB 32 11 z0)/\au=bF 11 z0 from h8)
  have h6:aq=z0/2^25:=by rw[show(2:Int)^25=33554432 by decide];omega
  show aW=av .xor .u64 (av .xor .u64 (bF 6 z0) (bF 11 z0)) (if z4=1 then z0/2^25 else bF 25 z0)
  rw[if_pos (of_decide_eq_true h),bZ,bz,h7,h8,h6]
 rotate_left
 ·have h7:aq=bF 6 z0:=And.right (show(0<=z0->z0<=4294967295->aq=aB 32 6 z0)/\aq=bF 6 z0 from h7)
  have h8:an=bF 11 z0:=And.right (show(0<=z0->z0<=4294967295->an=aB 32 11 z0)/\an=bF 11 z0 from h8)
  have h5:z5=bF 25 z0:=And.right (show(0<=z0->z0<=4294967295->z5=aB 32 25 z0)/\z5=bF 25 z0 from h5)
  show z9=av .xor .u64 (av .xor .u64 (bF 6 z0) (bF 11 z0)) (if z4=1 then z0/2^25 else bF 25 z0)
  rw[if_neg (of_decide_eq_false h),bZ,bz,h7,h8,h5]
 all_goals have jZ:=oc 6 (by decide) hx hx2
 all_goals have s9:=oc 11 (by decide) hx hx2
 all_goals have bc:=oc 25 (by decide) hx hx2
 ·have h7:an=aB 32 6 z0:=(show(0<=z0->z0<=4294967295->an=aB 32 6 z0)/\an=bF 6 z0 from h7).1 hx hx2
  have h8:au=aB 32 11 z0:=(show(0<=z0->z0<=4294967295->au=aB 32 11 z0)/\au=bF 11 z0 from h8).1 hx hx2
  have h6:aq=z0/2^25:=by rw[show(2:Int)^25=33554432 by decide];omega
  have b8:=jU (x:=an) (y:=au) (by rw[h7];omega) (by rw[h7];omega) (by rw[h8];omega) (by rw[h8];omega)
  have cO:=jU (x:=av .xor .u32 an au) (y:=aq) b8.2.1 b8.2.2 (by omega) (by omega)
  show aW=av .xor .u32 (av .xor .u32 (av .xor .u32 0 (aB 32 6 z0)) (aB 32 11 z0)) (if z4=1 then z0/2^25 else aB 32 25 z0)
  rw[if_pos (of_decide_eq_true h),bZ,bz,b8.1,cO.1,<-h8,<-h6,sJ jZ.1 jZ.2,<-h7]
 ·have h5:z5=aB 32 25 z0:=(show(0<=z0->z0<=4294967295->z5=aB 32 25 z0)/\z5=bF 25 z0 from h5).1 hx hx2
  have h7:aq=aB 32 6 z0:=(show(0<=z0->z0<=4294967295->aq=aB 32 6 z0)/\aq=bF 6 z0 from h7).1 hx hx2
  have h8:an=aB 32 11 z0:=(show(0<=z0->z0<=4294967295->an=aB 32 11 z0)/\an=bF 11 z0 from h8).1 hx hx2
  have b8:=jU (x:=aq) (y:=an) (by rw[h7];omega) (by rw[h7];omega) (by rw[h8];omega) (by rw[h8];omega)
  have cO:=jU (x:=av .xor .u32 aq an) (y:=z5) b8.2.1 b8.2.2 (by rw[h5];omega) (by rw[h5];omega)
  show z9=av .xor .u32 (av .xor .u32 (av .xor .u32 0 (aB 32 6 z0)) (aB 32 11 z0)) (if z4=1 then z0/2^25 else aB 32 25 z0)
  rw[if_neg (of_decide_eq_false h),bZ,bz,b8.1,cO.1,<-h8,<-h5,sJ jZ.1 jZ.2,<-h7]
theorem aa7:KR SB (de SB [bm] 486):=by
 intro z0 a0 bh ay i1 z4 b0 bo _
 refine⟨trivial,λz5 ct c1 h5=>⟨λh aq d0 d1 d2 d3=>⟨trivial,λan e0 e1 h7=>⟨trivial,λau f0 f1 h8 z9 g0 g1 bz aW cS cf bZ=>⟨⟨cS,cf,trivial⟩,λ(hx:0<=z0) (hx2:z0<=4294967295)=>?_,?_⟩⟩⟩,λh=>⟨trivial,λaq e0 e1 h7=>⟨trivial,λan f0 f1 h8 au g0 g1 bz z9 cS cf bZ=>⟨⟨cS,cf,trivial⟩,λ(hx:0<=z0) (hx2:z0<=4294967295)=>?_,?_⟩⟩⟩⟩⟩
 rotate_left
 ·have h7:an=bF 7 z0:=And.right (show(0<=z0->z0<=4294967295->an=aB 32 7 z0)/\an=bF 7 z0 from h7)
  have h8:au=bF 18 z0:=And.right (show(0<=z0->z0<=4294967295->au=aB 32 18 z0)/\au=bF 18 z0 from h8)
  have h6:aq=z0/2^3:=by rw[show(2:Int)^3=8 by decide];omega
  show aW=av .xor .u64 (av .xor .u64 (bF 7 z0) (bF 18 z0)) (if z4=1 then z0/2^3 else bF 3 z0)
  rw[if_pos (of_decide_eq_true h),bZ,bz,h7,h8,h6]
 rotate_left
 ·have h7:aq=bF 7 z0:=And.right (show(0<=z0->z0<=4294967295->aq=aB 32 7 z0)/\aq=bF 7 z0 from h7)
  have h8:an=bF 18 z0:=And.right (show(0<=z0->z0<=4294967295->an=aB 32 18 z0)/\an=bF 18 z0 from h8)
  have h5:z5=bF 3 z0:=And.right (show(0<=z0->z0<=4294967295->z5=aB 32 3 z0)/\z5=bF 3 z0 from h5)
  show z9=av .xor .u64 (av .xor .u64 (bF 7 z0) (bF 18 z0)) (if z4=1 then z0/2^3 else bF 3 z0)
  rw[if_neg (of_decide_eq_false h),bZ,bz,h7,h8,h5]
 all_goals have jZ:=oc 7 (by decide) hx hx2
 all_goals have s9:=oc 18 (by decide) hx hx2
 all_goals have bc:=oc 3 (by decide) hx hx2
 ·have h7:an=aB 32 7 z0:=(show(0<=z0->z0<=4294967295->an=aB 32 7 z0)/\an=bF 7 z0 from h7).1 hx hx2
  have h8:au=aB 32 18 z0:=(show(0<=z0->z0<=4294967295->au=aB 32 18 z0)/\au=bF 18 z0 from h8).1 hx hx2
  have h6:aq=z0/2^3:=by rw[show(2:Int)^3=8 by decide];omega
  have b8:=jU (x:=an) (y:=au) (by rw[h7];omega) (by rw[h7];omega) (by rw[h8];omega) (by rw[h8];omega)
  have cO:=jU (x:=av .xor .u32 an au) (y:=aq) b8.2.1 b8.2.2 (by omega) (by omega)
  show aW=av .xor .u32 (av .xor .u32 (av .xor .u32 0 (aB 32 7 z0)) (aB 32 18 z0)) (if z4=1 then z0/2^3 else aB 32 3 z0)
  rw[if_pos (of_decide_eq_true h),bZ,bz,b8.1,cO.1,<-h8,<-h6,sJ jZ.1 jZ.2,<-h7]
 ·have h5:z5=aB 32 3 z0:=(show(0<=z0->z0<=4294967295->z5=aB 32 3 z0)/\z5=bF 3 z0 from h5).1 hx hx2
  have h7:aq=aB 32 7 z0:=(show(0<=z0->z0<=4294967295->aq=aB 32 7 z0)/\aq=bF 7 z0 from h7).1 hx hx2
  have h8:an=aB 32 18 z0:=(show(0<=z0->z0<=4294967295->an=aB 32 18 z0)/\an=bF 18 z0 from h8).1 hx hx2
  have b8:=jU (x:=aq) (y:=an) (by rw[h7];omega) (by rw[h7];omega) (by rw[h8];omega) (by rw[h8];omega)
  have cO:=jU (x:=av .xor .u32 aq an) (y:=z5) b8.2.1 b8.2.2 (by rw[h5];omega) (by rw[h5];omega)
  show z9=av .xor .u32 (av .xor .u32 (av .xor .u32 0 (aB 32 7 z0)) (aB 32 18 z0)) (if z4=1 then z0/2^3 else aB 32 3 z0)
  rw[if_neg (of_decide_eq_false h),bZ,bz,b8.1,cO.1,<-h8,<-h5,sJ jZ.1 jZ.2,<-h7]
theorem aa8:KS SB (de SB [bm] 487):=by
 intro z0 a0 bh ay i1 z4 b0 bo _
 refine⟨trivial,λz5 ct c1 h5=>⟨λh aq d0 d1 d2 d3=>⟨trivial,λan e0 e1 h7=>⟨trivial,λau f0 f1 h8 z9 g0 g1 bz aW cS cf bZ=>⟨⟨cS,cf,trivial⟩,λ(hx:0<=z0) (hx2:z0<=4294967295)=>?_,?_⟩⟩⟩,λh=>⟨trivial,λaq e0 e1 h7=>⟨trivial,λan f0 f1 h8 au g0 g1 bz z9 cS cf bZ=>⟨⟨cS,cf,trivial⟩,λ(hx:0<=z0) (hx2:z0<=4294967295)=>?_,?_⟩⟩⟩⟩⟩
 rotate_left
 ·have h7:an=bF 17 z0:=And.right (show(0<=z0->z0<=4294967295->an=aB 32 17 z0)/\an=bF 17 z0 from h7)
  have h8:au=bF 19 z0:=And.right (show(0<=z0->z0<=4294967295->au=aB 32 19 z0)/\au=bF 19 z0 from h8)
  have h6:aq=z0/2^10:=by rw[show(2:Int)^10=1024 by decide];omega
  show aW=av .xor .u64 (av .xor .u64 (bF 17 z0) (bF 19 z0)) (if z4=1 then z0/2^10 else bF 10 z0)
  rw[if_pos (of_decide_eq_true h),bZ,bz,h7,h8,h6]
 rotate_left
 ·have h7:aq=bF 17 z0:=And.right (show(0<=z0->z0<=4294967295->aq=aB 32 17 z0)/\aq=bF 17 z0 from h7)
  have h8:an=bF 19 z0:=And.right (show(0<=z0->z0<=4294967295->an=aB 32 19 z0)/\an=bF 19 z0 from h8)
  have h5:z5=bF 10 z0:=And.right (show(0<=z0->z0<=4294967295->z5=aB 32 10 z0)/\z5=bF 10 z0 from h5)
  show z9=av .xor .u64 (av .xor .u64 (bF 17 z0) (bF 19 z0)) (if z4=1 then z0/2^10 else bF 10 z0)
  rw[if_neg (of_decide_eq_false h),bZ,bz,h7,h8,h5]
 all_goals have jZ:=oc 17 (by decide) hx hx2
 all_goals have s9:=oc 19 (by decide) hx hx2
 all_goals have bc:=oc 10 (by decide) hx hx2
 ·have h7:an=aB 32 17 z0:=(show(0<=z0->z0<=4294967295->an=aB 32 17 z0)/\an=bF 17 z0 from h7).1 hx hx2
  have h8:au=aB 32 19 z0:=(show(0<=z0->z0<=4294967295->au=aB 32 19 z0)/\au=bF 19 z0 from h8).1 hx hx2
  have h6:aq=z0/2^10:=by rw[show(2:Int)^10=1024 by decide];omega
  have b8:=jU (x:=an) (y:=au) (by rw[h7];omega) (by rw[h7];omega) (by rw[h8];omega) (by rw[h8];omega)
  have cO:=jU (x:=av .xor .u32 an au) (y:=aq) b8.2.1 b8.2.2 (by omega) (by omega)
  show aW=av .xor .u32 (av .xor .u32 (av .xor .u32 0 (aB 32 17 z0)) (aB 32 19 z0)) (if z4=1 then z0/2^10 else aB 32 10 z0)
  rw[if_pos (of_decide_eq_true h),bZ,bz,b8.1,cO.1,<-h8,<-h6,sJ jZ.1 jZ.2,<-h7]
 ·have h5:z5=aB 32 10 z0:=(show(0<=z0->z0<=4294967295->z5=aB 32 10 z0)/\z5=bF 10 z0 from h5).1 hx hx2
  have h7:aq=aB 32 17 z0:=(show(0<=z0->z0<=4294967295->aq=aB 32 17 z0)/\aq=bF 17 z0 from h7).1 hx hx2
  have h8:an=aB 32 19 z0:=(show(0<=z0->z0<=4294967295->an=aB 32 19 z0)/\an=bF 19 z0 from h8).1 hx hx2
  have b8:=jU (x:=aq) (y:=an) (by rw[h7];omega) (by rw[h7];omega) (by rw[h8];omega) (by rw[h8];omega)
  have cO:=jU (x:=av .xor .u32 aq an) (y:=z5) b8.2.1 b8.2.2 (by rw[h5];omega) (by rw[h5];omega)
  show z9=av .xor .u32 (av .xor .u32 (av .xor .u32 0 (aB 32 17 z0)) (aB 32 19 z0)) (if z4=1 then z0/2^10 else aB 32 10 z0)
  rw[if_neg (of_decide_eq_false h),bZ,bz,b8.1,cO.1,<-h8,<-h5,sJ jZ.1 jZ.2,<-h7]
theorem aaX:KH SB (gy SB [.d wg] 489):=by
 intro z0 a0 bh hp ai b0 z2 ct c1 z3 d0 d1 h3
 have hp:(ab z0).length<=1000000000:=hp
 have h3:z3=((ab z0).length:Int):=h3
 refine⟨⟨Int.le_refl _,by omega,by rw[h3];exact Int.le_refl _⟩,λz4 _ _ h4=>?_⟩
 have h4:=gf h4 h3
 refine⟨by show(ab z4).length<=1000000000;rw[h4];exact hp,λz5 _ _ h5 aq _ _ an _ _ h7=>?_⟩
 have h5:aC z5=fk aO (aC z4):=h5
 rw[lk h4]at h5
 have h7:an=((ab z5).length:Int):=h7
 have oS:(aC z5).length=32:=by rw[h5];unfold fk;rw[wk];rfl
 refine EC (by rw[h7,eI]) 32 0 [] (by omega) λq h1 h2 h3=>?_
 rw[List.drop_zero,List.take_of_length_le (by omega)]at h3
 rw[List.nil_append]
 refine⟨XZ (ug 32 q h1 h2),?_⟩
 show [q]=[fk aO (aC z0)]
 rw[h3,h5]
end Go.cU
namespace Go.cU
open Go Go.bx
def Se:List Int:=[1779033703,3144134277,1013904242,2773480762,1359893119,2600822924,528734635,1541459225]
def QG (K:List (List Int)->List (List Int)->Prop) (z0 g:Int):Prop:=
 ∃(cz:List (List Int)->Prop) (dh:List (List Int)->Nat),cz [[0],[0],[0],[(-1)]]/\(gb 0 8 λi=>pY λc=>sx λl=>gW λk=>cz [[i],[c],[l],[k]]->
  mY (decide (i<8))
   (∃(J:List (List Int)->Prop) (Bc:List (List Int)->Nat),J [[24],[c],[l],[k]]/\(gb (-8) 24 λs=>pY λd=>sx λe=>gW λf=>J [[s],[d],[e],[f]]->
     mY (decide (0<=s))
      (U 30 [i,8]/\U 21 [g,i]/\mZ 21 [g,i,0] λx=>∀y:Int,0<=y->y<=18446744073709551615->y=x/2^(s).toNat->eg 0 72057594037927935 y 256 λq=>
        U 31 [d,e]/\U 23 [d,1]/\gX 23 [d,(y+((-256)*q))] λqE=>gW λiL=>(J [[(s+(-8))],[qE],[(e+1)],[iL]]/\Bc [[(s+(-8))],[qE],[(e+1)],[iL]]<Bc [[s],[d],[e],[f]]))
      (cz [[(i+1)],[d],[e],[f]]/\dh [[(i+1)],[d],[e],[f]]<dh [[i],[c],[l],[k]])))
   (U 22 [c,0,l]/\gX 22 [c,0,l] λr=>K [[z0]] [[r]]))
def QE (c n a m0:Int) (P:Int->Prop):Prop:=
 ∃(cz:List (List Int)->Prop) (dh:List (List Int)->Nat),cz [[0],[m0]]/\(gb 0 64 λi=>pY λm=>cz [[i],[m]]->
  mY (decide (i<64))
   (eg 0 15 i 4 λx=>eg 0 15 i 4 λy=>U 30 [y,80]/\U 21 [m,y]/\mZ 21 [m,y,0] λw=>eg 0 255 (256*w) 18446744073709551616 λu=>
     gY ((a+i)+9223372036854775808) 18446744073709551616 λt=>U 30 [(a+(i+((-18446744073709551616)*t))),n]/\U 21 [c,(a+(i+((-18446744073709551616)*t)))]/\
     PM 21 [c,(a+(i+((-18446744073709551616)*t))),0] λb=>U 30 [x,80]/\U 21 [m,x]/\(U 67 [m,x,1]->
     gX 42 [m,x,0,((256*w)+(((-18446744073709551616)*u)+b))] λm'=>(cz [[(i+1)],[m']]/\dh [[(i+1)],[m']]<dh [[i],[m]])))
   (P m))
def QJ (S:Nat->List (List Int)->List (List Int)->Prop) (m0:Int) (P:Int->Prop):Prop:=
 ∃(cz:List (List Int)->Prop) (dh:List (List Int)->Nat),cz [[16],[m0]]/\(gb 16 64 λi=>pY λm=>cz [[i],[m]]->
  mY (decide (i<64))
   (U 30 [(i+(-16)),80]/\U 21 [m,(i+(-16))]/\mZ 21 [m,(i+(-16)),0] λa=>
     U 30 [(i+(-15)),80]/\U 21 [m,(i+(-15))]/\mZ 21 [m,(i+(-15)),0] λb=>
     U 82 [b,7,18,3,1]/\jP λs=>S 486 [[b],[7,18,3],[1]] [[s]]->gY (a+s) 18446744073709551616 λo=>
     U 30 [(i+(-7)),80]/\U 21 [m,(i+(-7))]/\mZ 21 [m,(i+(-7)),0] λc=>
     gY (a+(s+(((-18446744073709551616)*o)+c))) 18446744073709551616 λp=>
     U 30 [(i+(-2)),80]/\U 21 [m,(i+(-2))]/\mZ 21 [m,(i+(-2)),0] λd=>
     U 82 [d,17,19,10,1]/\jP λt=>S 487 [[d],[17,19,10],[1]] [[t]]->
     gY (a+(s+(((-18446744073709551616)*o)+(c+(((-18446744073709551616)*p)+t))))) 18446744073709551616 λq=>
     jP λx=>S 483 [[(a+(s+(((-18446744073709551616)*o)+(c+(((-18446744073709551616)*p)+(t+((-18446744073709551616)*q)))))))]] [[x]]->
     U 30 [i,80]/\U 21 [m,i]/\(U 67 [m,i,1]->gX 42 [m,i,0,x] λm'=>(cz [[(i+1)],[m']]/\dh [[(i+1)],[m']]<dh [[i],[m]])))
   (P m))
def QI (S:Nat->List (List Int)->List (List Int)->Prop) (m:Int) (h:List Int) (P:List Int->Prop):Prop:=
 ∃(cz:List (List Int)->Prop) (dh:List (List Int)->Nat),cz [[0],h]/\(gb 0 64 λi=>∀v:List Int,bd (fj 0 18446744073709551615 8) v->cz [[i],v]->
  mY (decide (i<64))
   (U 82 [List.getD v 4 0,6,11,25,0]/\jP λa=>S 485 [[List.getD v 4 0],[6,11,25],[0]] [[a]]->gY (List.getD v 7 0+a) 18446744073709551616 λo=>
     gb 0 (IntKind.max .u64) λb=>b=av .and .u64 (List.getD v 4 0) (List.getD v 5 0)->
     gb 0 (IntKind.max .u64) λc=>c=av .and .u64 (((-1)*(List.getD v 4 0))+18446744073709551615) (List.getD v 6 0)->
     gb 0 (IntKind.max .u64) λd=>d=av .xor .u64 b c->
     gY (List.getD v 7 0+(a+(((-18446744073709551616)*o)+d))) 18446744073709551616 λp=>
     U 74 [i,80]/\gb 489312712824947311 17689382322260857208 λe0=>e0=List.getD mh i.toNat 0->eg 113926993 4118630271 e0 4294967296 λe=>
     gY (List.getD v 7 0+(a+(((-18446744073709551616)*o)+(d+(((-18446744073709551616)*p)+e))))) 18446744073709551616 λq=>
     U 30 [i,80]/\U 21 [m,i]/\mZ 21 [m,i,0] λx=>
     gY (List.getD v 7 0+(a+(((-18446744073709551616)*o)+(d+(((-18446744073709551616)*p)+(e+(((-18446744073709551616)*q)+x))))))) 18446744073709551616 λr=>
     jP λt=>S 483 [[(List.getD v 7 0+(a+(((-18446744073709551616)*o)+(d+(((-18446744073709551616)*p)+(e+(((-18446744073709551616)*q)+(x+((-18446744073709551616)*r)))))))))]] [[t]]->
     U 82 [List.getD v 0 0,2,13,22,0]/\jP λf=>S 484 [[List.getD v 0 0],[2,13,22],[0]] [[f]]->
     gb 0 (IntKind.max .u64) λg1=>g1=av .and .u64 (List.getD v 0 0) (List.getD v 1 0)->
     gb 0 (IntKind.max .u64) λg2=>g2=av .and .u64 (List.getD v 0 0) (List.getD v 2 0)->
     gb 0 (IntKind.max .u64) λg3=>g3=av .xor .u64 g1 g2->
     gb 0 (IntKind.max .u64) λg4=>g4=av .and .u64 (List.getD v 1 0) (List.getD v 2 0)->
     gb 0 (IntKind.max .u64) λg5=>g5=av .xor .u64 g3 g4->
     gY (f+g5) 18446744073709551616 λgC=>jP λu=>S 483 [[(f+(g5+((-18446744073709551616)*gC)))]] [[u]]->
     gY (t+u) 18446744073709551616 λk6=>jP λy=>S 483 [[(t+(u+((-18446744073709551616)*k6)))]] [[y]]->
     gY (List.getD v 3 0+t) 18446744073709551616 λHA=>jP λw=>S 483 [[(List.getD v 3 0+(t+((-18446744073709551616)*HA)))]] [[w]]->
     (cz [[(i+1)],[y,List.getD v 0 0,List.getD v 1 0,List.getD v 2 0,w,List.getD v 4 0,List.getD v 5 0,List.getD v 6 0]]/\dh [[(i+1)],[y,List.getD v 0 0,List.getD v 1 0,List.getD v 2 0,w,List.getD v 4 0,List.getD v 5 0,List.getD v 6 0]]<dh [[i],v]))
   (P v))
def IQ (S:Nat->List (List Int)->List (List Int)->Prop) (h v:List Int):Nat->Nat->List Int->(List Int->Prop)->Prop
 |0,_,acc,k=>k acc
 |n+1,i,acc,k=>gY (List.getD h i 0+List.getD v i 0) 18446744073709551616 λo=>jP λy=>S 483 [[(List.getD h i 0+(List.getD v i 0+((-18446744073709551616)*o)))]] [[y]]->IQ S h v n (i+1) (acc++[y]) k
def IP (S:Nat->List (List Int)->List (List Int)->Prop) (K:List (List Int)->List (List Int)->Prop) (z0 c n:Int):Prop:=
 ∃(cz:List (List Int)->Prop) (dh:List (List Int)->Nat),cz [[0],Se]/\(sx λa=>∀h:List Int,bd (fj 0 18446744073709551615 8) h->cz [[a],h]->
  mY (decide (a<n))
   (wF QU 0 80 0 λm=>QE c n a m λm=>QJ S m λm=>QI S m h λv=>IQ S h v 8 0 [] λh'=>gY (a+9223372036854775872) 18446744073709551616 λo=>
     U 39 [((a+((-18446744073709551616)*o))+64),0,9223372036854775807]/\(cz [[((a+((-18446744073709551616)*o))+64)],h']/\dh [[((a+((-18446744073709551616)*o))+64)],h']<dh [[a],h]))
   (wF h 0 8 0 λg=>QG K z0 g))
def QD (S:Nat->List (List Int)->List (List Int)->Prop) (K:List (List Int)->List (List Int)->Prop) (z0 z3 aW bS:Int):Prop:=
eg 0 3 (8*z3) 18446744073709551616 λaL=>
 eg 0 255 ((8*z3)+((-18446744073709551616)*aL)) 72057594037927936 λaT=>
 U 31 [aW,bS]/\
 U 23 [aW,1]/\
 gX 23 [aW,aT] λba=>
 gW λbp=>
 eg 0 65535 ((8*z3)+((-18446744073709551616)*aL)) 281474976710656 λbD=>
 eg 0 255 bD 256 λz20=>
 U 31 [ba,(bS+1)]/\
 U 23 [ba,1]/\
 gX 23 [ba,(bD+((-256)*z20))] λz21=>
 gW λz22=>
 eg 0 16777215 ((8*z3)+((-18446744073709551616)*aL)) 1099511627776 λcp=>
 eg 0 65535 cp 256 λz24=>
 U 31 [z21,(bS+2)]/\
 U 23 [z21,1]/\
 gX 23 [z21,(cp+((-256)*z24))] λbM=>
 gW λz26=>
 eg 0 4294967295 ((8*z3)+((-18446744073709551616)*aL)) 4294967296 λbQ=>
 eg 0 16777215 bQ 256 λz28=>
 U 31 [bM,(bS+3)]/\
 U 23 [bM,1]/\
 gX 23 [bM,(bQ+((-256)*z28))] λcl=>
 gW λbT=>
 eg 0 1099511627775 ((8*z3)+((-18446744073709551616)*aL)) 16777216 λz31=>
 eg 0 4294967295 z31 256 λbU=>
 U 31 [cl,(bS+4)]/\
 U 23 [cl,1]/\
 gX 23 [cl,(z31+((-256)*bU))] λcq=>
 gW λcy=>
 eg 0 281474976710655 ((8*z3)+((-18446744073709551616)*aL)) 65536 λbN=>
 eg 0 1099511627775 bN 256 λbK=>
 U 31 [cq,(bS+5)]/\
 U 23 [cq,1]/\
 gX 23 [cq,(bN+((-256)*bK))] λz37=>
 gW λbW=>
 eg 0 72057594037927935 ((8*z3)+((-18446744073709551616)*aL)) 256 λbX=>
 eg 0 281474976710655 bX 256 λz40=>
 U 31 [z37,(bS+6)]/\
 U 23 [z37,1]/\
 gX 23 [z37,(bX+((-256)*z40))] λbP=>
 gW λb1=>
 eg 0 72057594037927935 ((8*z3)+((-18446744073709551616)*aL)) 256 λcv=>
 U 31 [bP,(bS+7)]/\
 U 23 [bP,1]/\
 gX 23 [bP,((8*z3)+(((-18446744073709551616)*aL)+((-256)*cv)))] λcA=>
 gW λb3=>
 IP S K z0 cA (bS+8)
def IS (S:Nat->List (List Int)->List (List Int)->Prop) (K:List (List Int)->List (List Int)->Prop) (z0 z3 an Kj au:Int):Prop:=
∃(sY:List (List Int)->Prop) (Bb:List (List Int)->Nat),sY [[an],[Kj],[au]]/\(pY λaW=>sx λbS=>gW λz12=>sY [[aW],[bS],[z12]]->
  gb (-9223372036854775808) 9223372036854775807 λaf=>S 441 [[z3],[32]] [[af]]->
  eg (-1) 0 (af+9223372036854775800) 18446744073709551616 λao=>
  (mY (decide (bS<((af+((-18446744073709551616)*ao))+(-8)))) (U 31 [aW,bS]/\
   U 23 [aW,1]/\
   gX 23 [aW,0] λaL=>
   gW λaT=>
   (sY [[aL],[(bS+1)],[aT]]/\Bb [[aL],[(bS+1)],[aT]]<Bb [[aW],[bS],[z12]])) (QD S K z0 z3 aW bS))
 )
end Go.cU
namespace Go.cU
open Go Go.bx
def KU (S:Nat->List (List Int)->List (List Int)->Prop) (K:List (List Int)->List (List Int)->Prop):Prop:=
 ∀z0:Int,0<=z0->z0<=aw->
 (U 71 [z0]->
 ∀ai:Int,0<=ai->
 ∀z2:Int,(-1)<=z2->z2<=9223372036854775807->
 ∀z3:Int,0<=z3->z3<=9223372036854775807->z3=aa 20 [z0]->
 U 22 [z0,0,z3]/\
 U 23 [0,z3]/\
 ∀z4:Int,0<=z4->z4<=aw->z4=aa 22 [z0,0,z3]->
 ∀z5:Int,0<=z5->z5<=aw->z5=aa 24 [0,z4]->
 (((decide (z3<=0))=true->
  U 23 [0,1]/\
  ∀aq:Int,0<=aq->aq<=aw->aq=aa 23 [0,128]->
  ∀an:Int,(-1)<=an->an<=9223372036854775807->
  IS S K z0 z3 aq 1 an
 )/\((decide (z3<=0))=false->
  ∀aq:Int,(-1)<=aq->aq<=9223372036854775807->
  U 31 [z5,z3]/\
  U 23 [z5,1]/\
  ∀an:Int,0<=an->an<=aw->an=aa 23 [z5,128]->
  ∀au:Int,(-1)<=au->au<=9223372036854775807->
  IS S K z0 z3 an (z3+1) au
 ))
 )
theorem adM {K:List (List Int)->List (List Int)->Prop} {z0 g:Int} {h:List Int} (hg:aC g=h) (hl:h.length=8) (hb:∀x∈h,0<=x/\x<=4294967295) (ox:∀r,0<=r->r<=aw->aC r=iW aO h->K [[z0]] [[r]]):QG K z0 g:=by
 have ol:∀n,n<=8->(iW aO (h.take n)).length=4*n:=λn hn=>by rw[C8,List.length_take,Nat.min_eq_left (by omega)];show n*4=4*n;omega
 refine⟨λs=>∃(i:Nat) (c l k:Int),s=[[(i:Int)],[c],[l],[k]]/\i<=8/\aC c=iW aO (h.take i)/\l=((4*i:Nat):Int),λs=>(8-(s.getD 0 []).getD 0 0).toNat,⟨0,0,0,-1,rfl,by decide,by rw[pg];rfl,rfl⟩,?_⟩
 intro i i0 i1 c ct c1 l l0 l1 k k0 k1 ⟨n,c',l',aM,e,hn,hc,r7⟩
 simp only[List.cons.injEq,and_true]at e
 obtain⟨rfl,rfl,rfl,rfl⟩:=e
 have fC:(aC c).length=4*n:=by rw[hc,ol n hn]
 refine⟨λhi=>?_,λhi=>?_⟩
 ·have hi:=of_decide_eq_true hi
  have hx:=hb (h.getD n 0) (by rw[List.getD_eq_getElem?_getD,List.getElem?_eq_getElem (by omega)];exact List.getElem_mem (by omega))
  refine⟨λs=>∃(q:Nat) (d e f:Int),s=[[24-8*(q:Int)],[d],[e],[f]]/\q<=4/\aC d=iW aO (h.take n)++(List.range q).map (ix aO (h.getD n 0))/\e=((4*n+q:Nat):Int),λs=>((s.getD 0 []).getD 0 0+8).toNat,⟨0,c,l,k,rfl,by decide,by rw[hc];simp,r7⟩,?_⟩
  intro s kF s1 d d0 d1 e e0 e1 f f0 f1 ⟨q,qE,rU,iL,yZ,hq,hd,he⟩
  simp only[List.cons.injEq,and_true]at yZ
  obtain⟨rfl,rfl,rfl,rfl⟩:=yZ
  have FW:(aC d).length=4*n+q:=by rw[hd,List.length_append,ol n hn];simp
  refine⟨λhs=>?_,λhs=>?_⟩
  ·have hs:=of_decide_eq_true hs
   refine⟨⟨by omega,by omega⟩,ma (by omega) (by rw[hg];omega),λx _ _ h3 y kn iH hy u jS gF nI m2=>⟨iV (by rw[he,FW]),iU (by omega),λd2 _ _ oA f2 _ _=>⟨⟨q+1,d2,e+1,f2,?_,by omega,?_,by omega⟩,?_⟩⟩⟩
   ·rw[show 24-8*(q:Int)+-8=24-8*((q+1:Nat):Int) by omega]
   ·rw[hK oA,hd,List.append_assoc,List.range_succ,List.map_append]
    congr 2
    have h3:x=h.getD n 0:=by rw[aD h3,hg,Int.toNat_natCast]
    show [y+-256*u]=[h.getD n 0/2^(32-8-8*q)% 256]
    rw[h3,show(24-8*(q:Int)).toNat=32-8-8*q by omega]at hy
    rw[<-hy]
    congr 1;omega
   ·show(24-8*(q:Int)+-8+8).toNat<(24-8*(q:Int)+8).toNat
    omega
  ·have hs:=of_decide_eq_false hs
   have:q=4:=by omega
   subst this
   refine⟨⟨n+1,d,e,f,by simp,by omega,?_,by rw[he];omega⟩,?_⟩
   ·rw[hd,sF h n (by omega)]
    unfold iW
    rw[List.flatMap_append]
    congr 1
   ·show(8-((n:Int)+1)).toNat<(8-(n:Int)).toNat
    omega
 ·have hi:=of_decide_eq_false hi
  have:n=8:=by omega
  subst this
  refine⟨⟨Int.le_refl _,by omega,by rw[<-eI,fC];omega⟩,λr ir ay hr=>ox r ir ay ?_⟩
  rw[lk (gf hr (by rw[<-eI,fC,r7])),hc,List.take_of_length_le (by omega)]
def ku (b:List Int) (j k:Nat):Int:=(List.range k).foldl (λy q=>y*256+b.getD (j*4+q) 0) 0
theorem L6 (b:List Int) (j k:Nat):ku b j (k+1)=ku b j k*256+b.getD (j*4+k) 0:=by
 unfold ku;rw[List.range_succ,List.foldl_append];rfl
theorem Bz {b:List Int} (j:Nat):∀k,(∀q,q<k->0<=b.getD (j*4+q) 0/\b.getD (j*4+q) 0<=255)->0<=ku b j k/\ku b j k<256^k
 |0,_=>⟨Int.le_refl _,(by decide:(0:Int)<1)⟩
 |k+1,hb=>by
  have ih:=Bz j k λq hq=>hb q (by omega)
  have h:=hb k (by omega)
  rw[L6,Int.pow_succ]
  omega
theorem adL {c n a m0:Int} {P:Int->Prop} {B:List Int} {k:Nat} (hm:aC m0=List.replicate 80 0) (hB:aC c=B) (hn:n=(B.length:Int)) (ha:a=((64*k:Nat):Int)) (hk:64*k+64<=B.length) (hl:B.length<=1000001000) (dr:∀m,aC m=km aO ((B.drop (64*k)).take 64)++List.replicate 64 0->(∀x∈km aO ((B.drop (64*k)).take 64),0<=x/\x<=4294967295)->P m):QE c n a m0 P:=by
 obtain⟨b,r2⟩:∃b,b=(B.drop (64*k)).take 64:=⟨_,rfl⟩
 obtain⟨W,hW⟩:∃W:Nat->List Int,W=λi=>(List.range 80).map λj=>ku b j (min 4 (i-4*j)):=⟨_,rfl⟩
 have wl:∀i,(W i).length=80:=λi=>by rw[hW];simp
 refine⟨λs=>∃(i:Nat) (m:Int),s=[[(i:Int)],[m]]/\i<=64/\aC m=W i/\∀q,q<i->0<=b.getD q 0/\b.getD q 0<=255,λs=>(64-(s.getD 0 []).getD 0 0).toNat,⟨0,m0,rfl,by decide,by rw[hm,hW];rfl,λq hq=>absurd hq (Nat.not_lt_zero q)⟩,?_⟩
 intro i i0 i1 m m0 fE ⟨p,m',e,hp,hw,df⟩
 simp only[List.cons.injEq,and_true]at e
 obtain⟨rfl,rfl⟩:=e
 have q5:(aC m).length=80:=by rw[hw,wl]
 refine⟨λh x jb b8 cO ev y kn iH ml nJ=>?_,λh=>?_⟩
 ·have h:=of_decide_eq_true h
  have ex:x=((p/4:Nat):Int):=by omega
  have y1:y=((p/4:Nat):Int):=by omega
  refine⟨⟨by omega,by omega⟩,ma (by omega) (by omega),λw w0 cC sb u jS gF nI m2 t t0 t1 t2 t3=>?_⟩
  have rW:t=0:=by omega
  subst rW
  have EX:a+((p:Int)+-18446744073709551616*0)=((64*k+p:Nat):Int):=by omega
  dsimp only
  rw[EX]
  refine⟨⟨by omega,by omega⟩,ma (by omega) (by rw[hB];omega),λz z0 ai hz=>?_⟩
  have Ad:z=b.getD p 0:=by rw[aD hz,hB,Int.toNat_natCast,r2,BO _ _ _ _ (by omega)]
  refine⟨⟨by omega,by omega⟩,ma (by omega) (by omega),λ_ dc _ _ lv=>⟨⟨p+1,dc,rfl,by omega,?_,λq hq=>?_⟩,?_⟩⟩
  ·have GN:w=ku b (p/4) (p% 4):=by
    rw[aD sb,hw,hW,y1,Int.toNat_natCast,List.getD_eq_getElem?_getD,List.getElem?_map,List.getElem?_range (by omega)]
    show ku b (p/4) (min 4 (p-4*(p/4)))=_
    rw[show min 4 (p-4*(p/4))=p% 4 by omega]
   have hlt:ku b (p/4) (p% 4)<16777216:=by
    have h1:=(Bz (b:=b) (p/4) (p% 4) λq hq=>df _ (by omega)).2
    have h2:=(by decide:∀k,k<4->(256:Int)^k<=16777216) (p% 4) (by omega)
    omega
   have gT:=(Bz (b:=b) (p/4) (p% 4) λq hq=>df _ (by omega)).1
   have E3:u=0:=by omega
   rw[Bs lv,hw,ex,Int.toNat_natCast,hW]
   refine Ql (by omega) ?_ λj hj hne=>?_
   ·show ku b (p/4) (min 4 (p+1-4*(p/4)))=_
    rw[show min 4 (p+1-4*(p/4))=p% 4+1 by omega,L6,show p/4*4+p% 4=p by omega,E3,GN,Ad]
    omega
   ·show ku b j (min 4 (p+1-4*j))=ku b j (min 4 (p-4*j))
    rw[show min 4 (p+1-4*j)=min 4 (p-4*j) by omega]
  ·rcases Nat.lt_or_ge q p with h1|h1
   ·exact df q h1
   ·rw[show q=p by omega,<-Ad];exact⟨z0,ai⟩
  ·show(64-((p:Int)+1)).toNat<(64-(p:Int)).toNat
   omega
 ·have h:=of_decide_eq_false h
  have:p=64:=by omega
  subst this
  refine dr m ?_ ?_
  rotate_left
  ·intro x hx
   rw[<-r2]at hx
   obtain⟨j,hj,rfl⟩:=List.mem_map.1 hx
   have hj:=List.mem_range.1 hj
   have h4:=Bz (b:=b) j 4 λq hq=>df _ (by omega)
   have eC:(256:Int)^4=4294967296:=by decide
   rw[eC]at h4
   have hw:yp aO b j=ku b j 4:=rfl
   rw[hw];omega
  have e1:(List.range 80).map (λj=>ku b j (min 4 (64-4*j)))=(List.range 16).map (yp aO b)++List.replicate 64 0:=by
   rw[show(80:Nat)=16+64 from rfl,List.range_add,List.map_append,List.map_map]
   have gF:(List.range 16).map (λj=>ku b j (min 4 (64-4*j)))=(List.range 16).map (yp aO b):=List.map_congr_left λj hj=>by
    have hj:=List.mem_range.1 hj
    show ku b j (min 4 (64-4*j))=ku b j 4
    rw[show min 4 (64-4*j)=4 by omega]
   rw[gF]
   refine congrArg _ (List.eq_replicate_iff.2 ⟨by simp,λx hx=>?_⟩)
   obtain⟨j,_,rfl⟩:=List.mem_map.1 hx
   show ku b (16+j) (min 4 (64-4*(16+j)))=0
   rw[show min 4 (64-4*(16+j))=0 by omega];rfl
  rw[hw,hW,<-r2];exact e1
theorem Zd (m:List Int):0<=lC aO m/\lC aO m<=4294967295:=by unfold lC;rw[mU];omega
theorem E4:∀(j:Nat) (m:List Int),(∀x∈m,0<=x/\x<=4294967295)->∀x∈hN aO j m,0<=x/\x<=4294967295
 |0,m,h=>h
 |j+1,m,h=>E4 j (m++[lC aO m]) λx hx=>by
  rcases List.mem_append.1 hx with hx|hx
  ·exact h x hx
  ·rw[List.mem_singleton.1 hx];exact Zd m
theorem Fj {l:List Int} (h:∀x∈l,0<=x/\x<=4294967295) (i:Nat):0<=l.getD i 0/\l.getD i 0<=4294967295:=by
 rw[List.getD_eq_getElem?_getD]
 cases hi:l[i]? with
 |none=>exact⟨Int.le_refl _,by decide⟩
 |some x=>exact h x (List.mem_of_getElem? hi)
theorem adO {m0:Int} {P:Int->Prop} {ws:List Int} (hm:aC m0=ws++List.replicate 64 0) (hl:ws.length=16) (pF:∀x∈ws,0<=x/\x<=4294967295) (dr:∀m,aC m=sched aO ws++List.replicate 16 0->P m):QJ SB m0 P:=by
 have el:∀j,(hN aO j ws).length=16+j:=λj=>by rw[tk,hl]
 refine⟨λs=>∃(j:Nat) (m:Int),s=[[((16+j:Nat):Int)],[m]]/\j<=48/\aC m=hN aO j ws++List.replicate (64-j) 0,λs=>(64-(s.getD 0 []).getD 0 0).toNat,⟨0,m0,rfl,by decide,hm⟩,?_⟩
 intro i i0 i1 m m0 fE ⟨j,m',e,hj,hw⟩
 simp only[List.cons.injEq,and_true]at e
 obtain⟨rfl,rfl⟩:=e
 have q5:(aC m).length=80:=by rw[hw,List.length_append,el,List.length_replicate];omega
 refine⟨λh=>?_,λh=>?_⟩
 ·have h:=of_decide_eq_true h
  have rd:∀(d:Nat) (x y:Int),1<=d->d<=16->y=((16+j:Nat):Int)+-(d:Int)->x=aa 21 [m,y,0]->x=(hN aO j ws).getD ((hN aO j ws).length-d) 0:=λd x y h1 h2 hy hx=>by
   rw[aD hx,hw,hy,show(((16+j:Nat):Int)+-(d:Int)).toNat=16+j-d by omega,el]
   rw[List.getD_eq_getElem?_getD,List.getD_eq_getElem?_getD,List.getElem?_append_left (by rw[el];omega)]
  have ef:∀d:Int,0<=d->d<=16->U 30 [((16+j:Nat):Int)+-d,80]/\U 21 [m,((16+j:Nat):Int)+-d]:=λd h1 h2=>⟨⟨by omega,by omega⟩,ma (by omega) (by omega)⟩
  refine⟨(ef 16 (by decide) (by decide)).1,(ef 16 (by decide) (by decide)).2,λa a0 bh ha=>⟨(ef 15 (by decide) (by decide)).1,(ef 15 (by decide) (by decide)).2,λb b0 bo hb=>⟨trivial,λs kF s1 hs o jO o1 gC k6=>⟨(ef 7 (by decide) (by decide)).1,(ef 7 (by decide) (by decide)).2,λc ct c1 hc p p0 p1 aS bR=>⟨(ef 2 (by decide) (by decide)).1,(ef 2 (by decide) (by decide)).2,λd d0 d1 hd=>⟨trivial,λt t0 t1 ht q gD q1 aP bA x jb b8 hx=>⟨⟨by omega,by omega⟩,ma (by omega) (by omega),λ_ dc _ _ lv=>⟨⟨j+1,dc,by rw[show((16+(j+1):Nat):Int)=((16+j:Nat):Int)+1 by omega],by omega,?_⟩,?_⟩⟩⟩⟩⟩⟩⟩⟩
  ·have ha:=rd 16 a _ (by decide) (by decide) rfl ha
   have hb:=rd 15 b _ (by decide) (by decide) rfl hb
   have hc:=rd 7 c _ (by decide) (by decide) rfl hc
   have hd:=rd 2 d _ (by decide) (by decide) rfl hd
   have s9:=Fj (E4 j ws pF) ((hN aO j ws).length-15)
   have dJ:=Fj (E4 j ws pF) ((hN aO j ws).length-2)
   rw[<-hb]at s9
   rw[<-hd]at dJ
   have hs:0<=b->b<=4294967295->s=p7 aO b:=And.left (show _/\s=so 7 18 3 1 b from hs)
   have ht:0<=d->d<=4294967295->t=p8 aO d:=And.left (show _/\t=so 17 19 10 1 d from ht)
   have hs:=hs s9.1 s9.2
   have ht:=ht dJ.1 dJ.2
   have hx:[[x]]=[[(a+(s+(-18446744073709551616*o+(c+(-18446744073709551616*p+(t+-18446744073709551616*q))))))% 4294967296]]:=hx
   have hx:x=(a+(s+(-18446744073709551616*o+(c+(-18446744073709551616*p+(t+-18446744073709551616*q))))))% 4294967296:=by simpa using hx
   have EZ:x=lC aO (hN aO j ws):=by
    unfold lC
    rw[mU,<-ha,<-hb,<-hc,<-hd,<-hs,<-ht,hx]
    omega
   rw[Bs lv,hw,y0,<-EZ,show 64-j=(64-(j+1))+1 by omega,List.replicate_succ,show((16+j:Nat):Int).toNat=16+j by omega,yk _ _ _ _ _ (el j),List.append_assoc]
   rfl
  ·show(64-(((16+j:Nat):Int)+1)).toNat<(64-((16+j:Nat):Int)).toNat
   omega
 ·have h:=of_decide_eq_false h
  have:j=48:=by omega
  subst this
  refine dr m ?_
  rw[hw];rfl
theorem adN {m:Int} {h:List Int} {P:List Int->Prop} {ms:List Int} (hm:aC m=ms++List.replicate 16 0) (hl:ms.length=64) (ah:h.length=8) (VC:∀x∈h,0<=x/\x<=4294967295) (dr:bd (fj 0 18446744073709551615 8) (kk aO 0 ms h)->(∀x∈kk aO 0 ms h,0<=x/\x<=4294967295)->P (kk aO 0 ms h)):QI SB m h P:=by
 refine⟨λs=>∃i:Nat,s=[[(i:Int)],kk aO 0 (ms.take i) h]/\i<=64/\∀x∈kk aO 0 (ms.take i) h,0<=x/\x<=4294967295,λs=>(64-(s.getD 0 []).getD 0 0).toNat,⟨0,rfl,by decide,VC⟩,?_⟩
 intro i i0 i1 v hv ⟨n,e,hn,CA⟩
 simp only[List.cons.injEq,and_true]at e
 obtain⟨rfl,rfl⟩:=e
 obtain⟨qb,I8⟩:=qX 8 _ hv
 refine⟨λhi=>?_,λhi=>?_⟩
 ·have hi:=of_decide_eq_true hi
  obtain⟨v,sa⟩:∃v,v=kk aO 0 (ms.take n) h:=⟨_,rfl⟩
  rw[<-sa]at qb I8 CA⊢
  have fh:=λi=>Fj CA i
  refine⟨trivial,λa a0 bh ha o jO o1 gC k6 b b0 bo hb c ct c1 hc d d0 d1 hd p p0 p1 aS bR=>⟨⟨by omega,by omega⟩,λe0 agr ags NP e agt agu agv agw q gD q1 aP bA=>⟨⟨by omega,by omega⟩,ma (by omega) (by rw[hm,List.length_append];omega),λx jb b8 hx r ir ay dM gE t t0 t1 ht=>⟨trivial,λf f0 f1 hf g1 _ _ h1 g2 _ _ h2 g3 _ _ h3 g4 _ _ h4 g5 _ _ h5 Al aay k8 k9 aaE u jS gF hu Am abM rb re o0 y kn iH hy An abU abV abW abX w w0 cC hw=>⟨⟨n+1,?_,by omega,?_⟩,?_⟩⟩⟩⟩⟩
  rotate_left 1
  ·refineλx hx=>?_
   rw[show ms.take (n+1)=ms.take n++[ms.getD n 0] from sF ms n (by omega),yg,<-sa,show 0+(ms.take n).length=n by rw[List.length_take];omega,IC n _ qb]at hx
   simp only[mU]at hx
   simp only[List.mem_cons,List.not_mem_nil,or_false]at hx
   rcases hx with rfl|rfl|rfl|rfl|rfl|rfl|rfl|rfl
   ·exact⟨by omega,by omega⟩
   ·exact fh 0
   ·exact fh 1
   ·exact fh 2
   ·exact⟨by omega,by omega⟩
   ·exact fh 4
   ·exact fh 5
   ·exact fh 6
  rotate_left 1
  ·have ha:0<=v.getD 4 0->v.getD 4 0<=4294967295->a=mJ aO (v.getD 4 0):=And.left (show _/\a=so 6 11 25 0 (v.getD 4 0) from ha)
   have ha:=ha (fh 4).1 (fh 4).2
   have hf:0<=v.getD 0 0->v.getD 0 0<=4294967295->f=mI aO (v.getD 0 0):=And.left (show _/\f=so 2 13 22 0 (v.getD 0 0) from hf)
   have hf:=hf (fh 0).1 (fh 0).2
   have hx:x=ms.getD n 0:=by
    rw[aD hx,hm,Int.toNat_natCast,List.getD_eq_getElem?_getD,List.getD_eq_getElem?_getD,List.getElem?_append_left (by omega)]
   have he:e=o6 aO n:=by
    rw[Int.toNat_natCast]at NP
    show _=mh.getD n 0/2^(64-32)
    rw[<-NP,show(2:Int)^(64-32)=4294967296 by decide]
    omega
   have ht:[[t]]=[[(v.getD 7 0+(a+(-18446744073709551616*o+(d+(-18446744073709551616*p+(e+(-18446744073709551616*q+(x+-18446744073709551616*r))))))))% 4294967296]]:=ht
   have ht:t=(v.getD 7 0+(a+(-18446744073709551616*o+(d+(-18446744073709551616*p+(e+(-18446744073709551616*q+(x+-18446744073709551616*r))))))))% 4294967296:=by simpa using ht
   have hu:[[u]]=[[(f+(g5+-18446744073709551616*Al))% 4294967296]]:=hu
   have hu:u=(f+(g5+-18446744073709551616*Al))% 4294967296:=by simpa using hu
   have hy:[[y]]=[[(t+(u+-18446744073709551616*Am))% 4294967296]]:=hy
   have hy:y=(t+(u+-18446744073709551616*Am))% 4294967296:=by simpa using hy
   have hw:[[w]]=[[(v.getD 3 0+(t+-18446744073709551616*An))% 4294967296]]:=hw
   have hw:w=(v.getD 3 0+(t+-18446744073709551616*An))% 4294967296:=by simpa using hw
   have EB:d=ng aO (v.getD 4 0) (v.getD 5 0) (v.getD 6 0):=by
    unfold ng
    have b8:=yH (fh 4).1 (by have:=(fh 4).2;omega) (fh 5).1 (by have:=(fh 5).2;omega)
    have cO:=Zc (fh 4).1 (by have:=(fh 4).2;omega) (fh 6).1 (by have:=(fh 6).2;omega)
    have ev:=yH (x:=4294967295-v.getD 4 0) (by have:=(fh 4).2;omega) (by have:=(fh 4).1;omega) (fh 6).1 (by have:=(fh 6).2;omega)
    have hb:=hb.trans b8.1
    have hc:=hc.trans cO
    rw[hd,hb,hc,(jU b8.2.1 b8.2.2 ev.2.1 ev.2.2).1]
    show _=av .xor .u32 (av .and .u32 (v.getD 4 0) (v.getD 5 0)) (av .and .u32 ((2:Int)^32-1-v.getD 4 0) (v.getD 6 0))
    rw[show(2:Int)^32-1-v.getD 4 0=4294967295-v.getD 4 0 by rw[show(2:Int)^32=4294967296 by decide];omega]
   have Hs:g5=oV aO (v.getD 0 0) (v.getD 1 0) (v.getD 2 0):=by
    unfold oV
    have b8:=yH (fh 0).1 (by have:=(fh 0).2;omega) (fh 1).1 (by have:=(fh 1).2;omega)
    have cO:=yH (fh 0).1 (by have:=(fh 0).2;omega) (fh 2).1 (by have:=(fh 2).2;omega)
    have eO:=yH (fh 1).1 (by have:=(fh 1).2;omega) (fh 2).1 (by have:=(fh 2).2;omega)
    have ev:=jU b8.2.1 b8.2.2 cO.2.1 cO.2.2
    have h1:=h1.trans b8.1
    have h2:=h2.trans cO.1
    have h4:=h4.trans eO.1
    have h3:g3=av .xor .u32 (av .and .u32 (v.getD 0 0) (v.getD 1 0)) (av .and .u32 (v.getD 0 0) (v.getD 2 0)):=by rw[h3,h1,h2];exact ev.1
    rw[h5,h3,h4]
    exact(jU ev.2.1 ev.2.2 eO.2.1 eO.2.2).1
   have t1:t=md aO (v.getD 7 0+mJ aO (v.getD 4 0)+ng aO (v.getD 4 0) (v.getD 5 0) (v.getD 6 0)+o6 aO n+ms.getD n 0):=by
    rw[mU,<-ha,<-EB,<-he,<-hx];omega
   have gF:u=md aO (mI aO (v.getD 0 0)+oV aO (v.getD 0 0) (v.getD 1 0) (v.getD 2 0)):=by
    rw[mU,<-hf,<-Hs];omega
   rw[sF ms n (by omega),yg,<-sa,show 0+(ms.take n).length=n by rw[List.length_take];omega,IC n _ qb,<-t1,<-gF]
   simp only[mU]
   rw[show(t+u)% 4294967296=y by omega,show(v.getD 3 0+t)% 4294967296=w by omega]
   rfl
  ·show(64-((n:Int)+1)).toNat<(64-(n:Int)).toNat
   omega
 ·have hi:=of_decide_eq_false hi
  have:n=64:=by omega
  subst this
  rw[List.take_of_length_le (by omega)]at hv CA⊢
  exact dr hv CA
theorem QF {h v:List Int} {P:List Int->Prop}:∀(n i:Nat) (acc:List Int),P (acc++(List.range n).map λj=>md aO (h.getD (i+j) 0+v.getD (i+j) 0))->IQ SB h v n i acc P
 |0,i,acc,dr=>by
  show P acc
  simpa using dr
 |n+1,i,acc,dr=>λo jO o1 gC k6 y kn iH hy=>QF n (i+1) (acc++[y]) (by
  have hy:[[y]]=[[(h.getD i 0+(v.getD i 0+-18446744073709551616*o))% 4294967296]]:=hy
  have hy:y=(h.getD i 0+(v.getD i 0+-18446744073709551616*o))% 4294967296:=by simpa using hy
  have e:y=md aO (h.getD (i+0) 0+v.getD (i+0) 0):=by rw[mU,Nat.add_zero];omega
  rw[List.range_succ_eq_map,List.map_cons,<-e,List.map_map]at dr
  rw[List.append_assoc]
  refine Eq.mp (congrArg (λl=>P (acc++([y]++l))) (List.map_congr_left λj _=>?_)) dr
  show md aO (h.getD (i+(j+1)) 0+v.getD (i+(j+1)) 0)=_
  rw[show i+(j+1)=i+1+j by omega])
theorem Q0:∀(l m:List Int),∀x∈List.zipWith (λa b=>md aO (a+b)) l m,0<=x/\x<=4294967295
 |[],_,x,hx=>by simp at hx
 |_::_,[],x,hx=>by simp at hx
 |a::l,b::m,x,hx=>by
  rw[List.zipWith_cons_cons,List.mem_cons]at hx
  rcases hx with rfl|hx
  ·rw[mU];omega
  ·exact Q0 l m x hx
theorem adK {K:List (List Int)->List (List Int)->Prop} {z0 c n:Int} {B:List Int} {q:Nat} (hB:aC c=B) (hn:n=(B.length:Int)) (hq:B.length=64*q) (hl:B.length<=1000001000) (ox:∀r,0<=r->r<=aw->aC r=jY aO B->K [[z0]] [[r]]):IP SB K z0 c n:=by
 refine⟨λs=>∃k:Nat,s=[[((64*k:Nat):Int)],ks aO B k (gS aO)]/\k<=q/\∀x∈ks aO B k (gS aO),0<=x/\x<=4294967295,λs=>(n-(s.getD 0 []).getD 0 0).toNat,⟨0,by rw[show ks aO B 0 (gS aO)=gS aO from rfl,Ed];rfl,Nat.zero_le _,by rw[show ks aO B 0 (gS aO)=gS aO from rfl,Ed];decide⟩,?_⟩
 intro a a0 bh h ah ⟨k,e,hk,hQ⟩
 simp only[List.cons.injEq,and_true]at e
 obtain⟨rfl,e⟩:=e
 obtain⟨h8,df⟩:=qX 8 _ ah
 rw[<-e]at hQ
 refine⟨λhi=>?_,λhi=>?_⟩
 ·have hi:=of_decide_eq_true hi
  refine yR 80 0 0 (by decide) λm hm=>adL (k:=k) (by rw[hm,pg];rfl) hB hn rfl (by omega) hl λdc lv Xe=>adO lv (by unfold km;simp) Xe λuw tP=>adN tP ?_ h8 hQ λ_ _=>QF 8 0 [] ?_
  ·unfold sched;rw[tk];unfold km;simp;rfl
  ·intro o jO o1 gC k6
   have:o=0:=by omega
   subst this
   rw[show((64*k:Nat):Int)+-18446744073709551616*0+64=((64*(k+1):Nat):Int) by omega]
   refine⟨⟨by omega,by omega⟩,⟨k+1,?_,by omega,?_⟩,?_⟩
   ·show _=[[((64*(k+1):Nat):Int)],mi aO (ks aO B k (gS aO)) (km aO ((B.drop (64*k)).take 64))]
    rw[<-e]
    unfold mi
    rw[QX _ h8 (by rw[Dm _ _ _ _ h8])]
    rfl
   ·show ∀x∈mi aO (ks aO B k (gS aO)) (km aO ((B.drop (64*k)).take 64)),_
    unfold mi
    exactλx hx=>Q0 _ _ x hx
   ·show(n-((64*(k+1):Nat):Int)).toNat<(n-((64*k:Nat):Int)).toNat
    omega
 ·have hi:=of_decide_eq_false hi
  have:k=q:=by omega
  subst this
  refine yR 8 0 0 (by omega) λg hg=>adM (h:=h) (by rw[hg,pg,List.nil_append,List.drop_zero,List.take_of_length_le (by omega)]) h8 hQ λr ir ay hr=>ox r ir ay ?_
  rw[hr,e]
  unfold jY
  rw[hq]
  show _=iW aO (ks aO B (64*k/64) (gS aO))
  rw[Nat.mul_div_cancel_left _ (by decide)]
theorem adJ {K:List (List Int)->List (List Int)->Prop} {z0 z3 c l:Int} {B:List Int} {N:Nat} (h3:z3=(N:Int)) (cc:N<=1000000000) (hB:aC c=B) (hl:l=(B.length:Int)) (hb:B.length<=1000000900) (dr:∀z,aC z=B++nP (8*N)->IP SB K z0 z (l+8)):QD SB K z0 z3 c l:=by
 intro aL a0 bh a2 a3 aT b0 bo cj dU
 refine⟨iV (by rw[hB,hl]),iU (by rw[hB];omega),λba _ _ kT bp _ _ bD d0 d1 d2 d3 z20 e0 e1 e2 e3=>?_⟩
 have kT:aC ba=B++[aT]:=by rw[hK kT,hB]
 refine⟨iV (by rw[kT];simp;omega),iU (by rw[kT];simp;omega),λz21 _ _ nk z22 _ _ cp f0 f1 f2 f3 z24 g0 g1 g2 g3=>?_⟩
 have nk:=hK nk;rw[kT,List.append_assoc]at nk
 refine⟨iV (by rw[nk];simp;omega),iU (by rw[nk];simp;omega),λbM _ _ nm z26 _ _ bQ i0 i1 i2 i3 z28 cS cf jK kb=>?_⟩
 have nm:=hK nm;rw[nk,List.append_assoc]at nm
 refine⟨iV (by rw[nm];simp;omega),iU (by rw[nm];simp;omega),λcl _ _ nn bT _ _ z31 k0 k1 k2 k3 bU l0 l1 l2 nA=>?_⟩
 have nn:=hK nn;rw[nm,List.append_assoc]at nn
 refine⟨iV (by rw[nn];simp;omega),iU (by rw[nn];simp;omega),λcq _ _ np cy _ _ bN m0 fE dc uw bK ey aG dC lB=>?_⟩
 have np:=hK np;rw[nn,List.append_assoc]at np
 refine⟨iV (by rw[np];simp;omega),iU (by rw[np];simp;omega),λz37 _ _ lT bW _ _ bX p0 p1 aS bR z40 gD q1 aP bA=>?_⟩
 have lT:=hK lT;rw[np,List.append_assoc]at lT
 refine⟨iV (by rw[lT];simp;omega),iU (by rw[lT];simp;omega),λbP _ _ nq b1 _ _ cv ir ay dM gE=>?_⟩
 have nq:=hK nq;rw[lT,List.append_assoc]at nq
 refine⟨iV (by rw[nq];simp;omega),iU (by rw[nq];simp;omega),λcA _ _ qH b3 _ _=>dr cA ?_⟩
 have qH:=hK qH;rw[nq,List.append_assoc]at qH
 rw[qH]
 congr 1
 have t0:aT=((8*N/72057594037927936% 256:Nat):Int):=by omega
 have t1:bD+-256*z20=((8*N/281474976710656% 256:Nat):Int):=by omega
 have t2:cp+-256*z24=((8*N/1099511627776% 256:Nat):Int):=by omega
 have t3:bQ+-256*z28=((8*N/4294967296% 256:Nat):Int):=by omega
 have t4:z31+-256*bU=((8*N/16777216% 256:Nat):Int):=by omega
 have t5:bN+-256*bK=((8*N/65536% 256:Nat):Int):=by omega
 have t6:bX+-256*z40=((8*N/256% 256:Nat):Int):=by omega
 have t7:8*z3+(-18446744073709551616*aL+-256*cv)=((8*N/1% 256:Nat):Int):=by omega
 rw[t0,t1,t2,t3,t4,t5,t6,t7]
 rfl
theorem QH {K:List (List Int)->List (List Int)->Prop} {z0 z3 c l k:Int} {b:List Int} {N:Nat} (h3:z3=(N:Int)) (cc:N<=1000000000) (hb:b.length=N) (hc:aC c=b++[128]) (hl:l=(N:Int)+1) (ox:∀r,0<=r->r<=aw->aC r=fk aO b->K [[z0]] [[r]]):IS SB K z0 z3 c l k:=by
 obtain⟨q1,⟨q,aP⟩,bA⟩:=HP b
 rw[hb]at q1 aP bA
 have gT:N+9<=ga 32 N:=by
  show N+9<=(N+1+32/4+(2*32-1))/(2*32)*(2*32)
  omega
 have zO:im z3 32=((ga 32 N:Nat):Int):=by
  unfold im
  rw[if_neg (by omega),h3,Int.toNat_natCast];rfl
 obtain⟨M,gL⟩:∃M,M=ga 32 N:=⟨_,rfl⟩
 rw[<-gL]at q1 aP bA gT zO
 refine⟨λs=>∃(j:Nat) (c l k:Int),s=[[c],[l],[k]]/\l=((N+1+j:Nat):Int)/\aC c=b++[128]++List.replicate j 0/\N+1+j<=M-8,λs=>((M:Int)-(s.getD 1 []).getD 0 0).toNat,⟨0,c,l,k,rfl,by omega,by rw[hc];simp,by omega⟩,?_⟩
 intro aW _ _ bS _ _ z12 _ _ ⟨j,c',l',aM,e,tv,bZ,hj⟩ af _ _ hp ao jO o1 gC k6
 simp only[List.cons.injEq,and_true]at e
 obtain⟨rfl,rfl,rfl⟩:=e
 have hp:[[af]]=[[im z3 32]]:=hp
 have hp:af=(M:Int):=by rw[<-zO];simpa using hp
 have lc:(aC aW).length=N+1+j:=by rw[bZ];simp;omega
 refine⟨λh=>?_,λh=>?_⟩
 ·have h:=of_decide_eq_true h
  refine⟨iV (by rw[lc,tv]),iU (by omega),λaL _ _ Fq aT _ _=>⟨⟨j+1,aL,bS+1,aT,rfl,by omega,?_,by omega⟩,?_⟩⟩
  ·rw[hK Fq,bZ,List.append_assoc,List.replicate_succ']
  ·show((M:Int)-(bS+1)).toNat<((M:Int)-bS).toNat
   omega
 ·have h:=of_decide_eq_false h
  have EY:j=M-N-9:=by omega
  refine adJ h3 cc bZ (by rw[tv,<-lc,bZ]) (by rw[<-bZ,lc];omega) λz hz=>?_
  have hz:aC z=jn aO b:=by
   rw[hz,EY,gL]
   unfold jn
   rw[hb];rfl
  have nV:bS+8=((jn aO b).length:Int):=by rw[q1];omega
  exact adK (q:=q) hz nV (by rw[q1,aP]) (by rw[q1];omega) ox
theorem aba:KU SB (gy SB [mW] 488):=by
 intro z0 a0 bh hp ai b0 z2 ct c1 z3 d0 d1 h3
 have hp:(ab z0).length<=1000000000:=hp
 have h3:z3=((ab z0).length:Int):=h3
 refine⟨⟨Int.le_refl _,by omega,by rw[h3];exact Int.le_refl _⟩,by show((ab 0).length:Int)+z3<=1073741824;rw[fQ];simp;omega,λz4 _ _ h4 z5 _ _ h5=>?_⟩
 have h5:aC z5=aC z0:=by rw[LP h5,pg,List.nil_append,lk (gf h4 h3)]
 have ef:∀r,0<=r->r<=aw->aC r=fk aO (aC z0)->gy SB [mW] 488 [[z0]] [[r]]:=λr h0 h1 hr=>⟨⟨h0,h1,trivial⟩,hr⟩
 exact⟨λh=>by
  have h:=of_decide_eq_true h
  have hn:aC z0=[]:=List.eq_nil_of_length_eq_zero (by rw[eI];omega)
  refine⟨by show((ab 0).length:Int)+1<=1073741824;rw[fQ];decide,λaq _ _ h6 an _ _=>?_⟩
  exact QH h3 hp (eI z0) (by rw[hK h6,pg,hn]) (by omega) ef,λ_ aq _ _=>⟨iV (by rw[h5,eI];exact h3),iU (by rw[h5,eI];omega),λan _ _ h7 au _ _=>QH h3 hp (eI z0) (by rw[hK h7,h5]) (by omega) ef⟩⟩
end Go.cU
namespace Go.cU
open Go Go.bx
def KE (dk kZ:Int) (S:Nat->List (List Int)->List (List Int)->Prop) (K:List (List Int)->List (List Int)->Prop):Prop:=
 (U 77 [kZ]->
 (U 71 [dk]->
 U 77 [kZ]/\
 U 71 [dk]/\
 ∀z0:Int,0<=z0->z0<=aw->S 490 [[dk]] [[z0]]->
 ∀ai:Int,0<=ai->
 ∀z2:Int,(-1)<=z2->z2<=9223372036854775807->
 ∀z3:Int,0<=z3->z3<=9223372036854775807->z3=aa 20 [z0]->
 U 22 [z0,0,z3]/\
 ∀z4:Int,0<=z4->z4<=aw->z4=aa 22 [z0,0,z3]->
 U 71 [z4]/\
 ∀z5:Int,0<=z5->z5<=aw->S 442 [[z4]] [[z5]]->
 ∀aq:Int,(-1)<=aq->aq<=9223372036854775807->
 ∀an:Int,0<=an->an<=9223372036854775807->an=aa 20 [z5]->
 U 22 [z5,0,an]/\
 ∀au:Int,0<=au->au<=aw->au=aa 22 [z5,0,an]->
 U 72 [au]/\
 ∀z9:Int,0<=z9->z9<=aw->S 464 [[au]] [[z9]]->
 ∀aW:Int,(-1)<=aW->aW<=9223372036854775807->
 ∀bS:Int,0<=bS->bS<=9223372036854775807->bS=aa 20 [z9]->
 U 30 [31,bS]/\
 U 21 [z9,0]/\
 U 21 [z9,0]/\
 ∀z12:Int,0<=z12->z12<=255->z12=aa 21 [z9,0,0]->
 U 21 [z9,1]/\
 ∀af:Int,0<=af->af<=255->af=aa 21 [z9,1,0]->
 U 21 [z9,2]/\
 ∀ao:Int,0<=ao->ao<=255->ao=aa 21 [z9,2,0]->
 U 21 [z9,3]/\
 ∀aL:Int,0<=aL->aL<=255->aL=aa 21 [z9,3,0]->
 U 21 [z9,4]/\
 ∀aT:Int,0<=aT->aT<=255->aT=aa 21 [z9,4,0]->
 U 21 [z9,5]/\
 ∀ba:Int,0<=ba->ba<=255->ba=aa 21 [z9,5,0]->
 U 21 [z9,6]/\
 ∀bp:Int,0<=bp->bp<=255->bp=aa 21 [z9,6,0]->
 U 21 [z9,7]/\
 ∀bD:Int,0<=bD->bD<=255->bD=aa 21 [z9,7,0]->
 U 21 [z9,8]/\
 ∀z20:Int,0<=z20->z20<=255->z20=aa 21 [z9,8,0]->
 U 21 [z9,9]/\
 ∀z21:Int,0<=z21->z21<=255->z21=aa 21 [z9,9,0]->
 U 21 [z9,10]/\
 ∀z22:Int,0<=z22->z22<=255->z22=aa 21 [z9,10,0]->
 U 21 [z9,11]/\
 ∀cp:Int,0<=cp->cp<=255->cp=aa 21 [z9,11,0]->
 U 21 [z9,12]/\
 ∀z24:Int,0<=z24->z24<=255->z24=aa 21 [z9,12,0]->
 U 21 [z9,13]/\
 ∀bM:Int,0<=bM->bM<=255->bM=aa 21 [z9,13,0]->
 U 21 [z9,14]/\
 ∀z26:Int,0<=z26->z26<=255->z26=aa 21 [z9,14,0]->
 U 21 [z9,15]/\
 ∀bQ:Int,0<=bQ->bQ<=255->bQ=aa 21 [z9,15,0]->
 U 21 [z9,16]/\
 ∀z28:Int,0<=z28->z28<=255->z28=aa 21 [z9,16,0]->
 U 21 [z9,17]/\
 ∀cl:Int,0<=cl->cl<=255->cl=aa 21 [z9,17,0]->
 U 21 [z9,18]/\
 ∀bT:Int,0<=bT->bT<=255->bT=aa 21 [z9,18,0]->
 U 21 [z9,19]/\
 ∀z31:Int,0<=z31->z31<=255->z31=aa 21 [z9,19,0]->
 U 21 [z9,20]/\
 ∀bU:Int,0<=bU->bU<=255->bU=aa 21 [z9,20,0]->
 U 21 [z9,21]/\
 ∀cq:Int,0<=cq->cq<=255->cq=aa 21 [z9,21,0]->
 U 21 [z9,22]/\
 ∀cy:Int,0<=cy->cy<=255->cy=aa 21 [z9,22,0]->
 U 21 [z9,23]/\
 ∀bN:Int,0<=bN->bN<=255->bN=aa 21 [z9,23,0]->
 U 21 [z9,24]/\
 ∀bK:Int,0<=bK->bK<=255->bK=aa 21 [z9,24,0]->
 U 21 [z9,25]/\
 ∀z37:Int,0<=z37->z37<=255->z37=aa 21 [z9,25,0]->
 U 21 [z9,26]/\
 ∀bW:Int,0<=bW->bW<=255->bW=aa 21 [z9,26,0]->
 U 21 [z9,27]/\
 ∀bX:Int,0<=bX->bX<=255->bX=aa 21 [z9,27,0]->
 U 21 [z9,28]/\
 ∀z40:Int,0<=z40->z40<=255->z40=aa 21 [z9,28,0]->
 U 21 [z9,29]/\
 ∀bP:Int,0<=bP->bP<=255->bP=aa 21 [z9,29,0]->
 U 21 [z9,30]/\
 ∀b1:Int,0<=b1->b1<=255->b1=aa 21 [z9,30,0]->
 U 21 [z9,31]/\
 ∀cv:Int,0<=cv->cv<=255->cv=aa 21 [z9,31,0]->
 K [] [[z12,af,ao,aL,aT,ba,bp,bD,z20,z21,z22,cp,z24,bM,z26,bQ,z28,cl,bT,z31,bU,cq,cy,bN,bK,z37,bW,bX,z40,bP,b1,cv]]
 )
 )
def KF (dk kZ:Int) (S:Nat->List (List Int)->List (List Int)->Prop) (K:List (List Int)->List (List Int)->Prop):Prop:=
 (U 77 [kZ]->
 (U 71 [dk]->
 U 77 [kZ]/\
 U 71 [dk]/\
 ∀z0:Int,0<=z0->z0<=aw->S 490 [[dk]] [[z0]]->
 ∀ai:Int,0<=ai->
 ∀z2:Int,(-1)<=z2->z2<=9223372036854775807->
 ∀z3:Int,0<=z3->z3<=9223372036854775807->z3=aa 20 [z0]->
 U 22 [z0,0,z3]/\
 ∀z4:Int,0<=z4->z4<=aw->z4=aa 22 [z0,0,z3]->
 U 71 [z4]/\
 ∀z5:Int,0<=z5->z5<=aw->S 443 [[z4]] [[z5]]->
 ∀aq:Int,(-1)<=aq->aq<=9223372036854775807->
 ∀an:Int,0<=an->an<=9223372036854775807->an=aa 20 [z5]->
 U 22 [z5,0,an]/\
 ∀au:Int,0<=au->au<=aw->au=aa 22 [z5,0,an]->
 U 73 [au]/\
 ∀z9:Int,0<=z9->z9<=aw->S 465 [[au]] [[z9]]->
 ∀aW:Int,(-1)<=aW->aW<=9223372036854775807->
 ∀bS:Int,0<=bS->bS<=9223372036854775807->bS=aa 20 [z9]->
 U 30 [63,bS]/\
 U 21 [z9,0]/\
 U 21 [z9,0]/\
 ∀z12:Int,0<=z12->z12<=255->z12=aa 21 [z9,0,0]->
 U 21 [z9,1]/\
 ∀af:Int,0<=af->af<=255->af=aa 21 [z9,1,0]->
 U 21 [z9,2]/\
 ∀ao:Int,0<=ao->ao<=255->ao=aa 21 [z9,2,0]->
 U 21 [z9,3]/\
 ∀aL:Int,0<=aL->aL<=255->aL=aa 21 [z9,3,0]->
 U 21 [z9,4]/\
 ∀aT:Int,0<=aT->aT<=255->aT=aa 21 [z9,4,0]->
 U 21 [z9,5]/\
 ∀ba:Int,0<=ba->ba<=255->ba=aa 21 [z9,5,0]->
 U 21 [z9,6]/\
 ∀bp:Int,0<=bp->bp<=255->bp=aa 21 [z9,6,0]->
 U 21 [z9,7]/\
 ∀bD:Int,0<=bD->bD<=255->bD=aa 21 [z9,7,0]->
 U 21 [z9,8]/\
 ∀z20:Int,0<=z20->z20<=255->z20=aa 21 [z9,8,0]->
 U 21 [z9,9]/\
 ∀z21:Int,0<=z21->z21<=255->z21=aa 21 [z9,9,0]->
 U 21 [z9,10]/\
 ∀z22:Int,0<=z22->z22<=255->z22=aa 21 [z9,10,0]->
 U 21 [z9,11]/\
 ∀cp:Int,0<=cp->cp<=255->cp=aa 21 [z9,11,0]->
 U 21 [z9,12]/\
 ∀z24:Int,0<=z24->z24<=255->z24=aa 21 [z9,12,0]->
 U 21 [z9,13]/\
 ∀bM:Int,0<=bM->bM<=255->bM=aa 21 [z9,13,0]->
 U 21 [z9,14]/\
 ∀z26:Int,0<=z26->z26<=255->z26=aa 21 [z9,14,0]->
 U 21 [z9,15]/\
 ∀bQ:Int,0<=bQ->bQ<=255->bQ=aa 21 [z9,15,0]->
 U 21 [z9,16]/\
 ∀z28:Int,0<=z28->z28<=255->z28=aa 21 [z9,16,0]->
 U 21 [z9,17]/\
 ∀cl:Int,0<=cl->cl<=255->cl=aa 21 [z9,17,0]->
 U 21 [z9,18]/\
 ∀bT:Int,0<=bT->bT<=255->bT=aa 21 [z9,18,0]->
 U 21 [z9,19]/\
 ∀z31:Int,0<=z31->z31<=255->z31=aa 21 [z9,19,0]->
 U 21 [z9,20]/\
 ∀bU:Int,0<=bU->bU<=255->bU=aa 21 [z9,20,0]->
 U 21 [z9,21]/\
 ∀cq:Int,0<=cq->cq<=255->cq=aa 21 [z9,21,0]->
 U 21 [z9,22]/\
 ∀cy:Int,0<=cy->cy<=255->cy=aa 21 [z9,22,0]->
 U 21 [z9,23]/\
 ∀bN:Int,0<=bN->bN<=255->bN=aa 21 [z9,23,0]->
 U 21 [z9,24]/\
 ∀bK:Int,0<=bK->bK<=255->bK=aa 21 [z9,24,0]->
 U 21 [z9,25]/\
 ∀z37:Int,0<=z37->z37<=255->z37=aa 21 [z9,25,0]->
 U 21 [z9,26]/\
 ∀bW:Int,0<=bW->bW<=255->bW=aa 21 [z9,26,0]->
 U 21 [z9,27]/\
 ∀bX:Int,0<=bX->bX<=255->bX=aa 21 [z9,27,0]->
 U 21 [z9,28]/\
 ∀z40:Int,0<=z40->z40<=255->z40=aa 21 [z9,28,0]->
 U 21 [z9,29]/\
 ∀bP:Int,0<=bP->bP<=255->bP=aa 21 [z9,29,0]->
 U 21 [z9,30]/\
 ∀b1:Int,0<=b1->b1<=255->b1=aa 21 [z9,30,0]->
 U 21 [z9,31]/\
 ∀cv:Int,0<=cv->cv<=255->cv=aa 21 [z9,31,0]->
 U 21 [z9,32]/\
 ∀cA:Int,0<=cA->cA<=255->cA=aa 21 [z9,32,0]->
 U 21 [z9,33]/\
 ∀b3:Int,0<=b3->b3<=255->b3=aa 21 [z9,33,0]->
 U 21 [z9,34]/\
 ∀z46:Int,0<=z46->z46<=255->z46=aa 21 [z9,34,0]->
 U 21 [z9,35]/\
 ∀cm:Int,0<=cm->cm<=255->cm=aa 21 [z9,35,0]->
 U 21 [z9,36]/\
 ∀c4:Int,0<=c4->c4<=255->c4=aa 21 [z9,36,0]->
 U 21 [z9,37]/\
 ∀z49:Int,0<=z49->z49<=255->z49=aa 21 [z9,37,0]->
 U 21 [z9,38]/\
 ∀cD:Int,0<=cD->cD<=255->cD=aa 21 [z9,38,0]->
 U 21 [z9,39]/\
 ∀z51:Int,0<=z51->z51<=255->z51=aa 21 [z9,39,0]->
 U 21 [z9,40]/\
 ∀cH:Int,0<=cH->cH<=255->cH=aa 21 [z9,40,0]->
 U 21 [z9,41]/\
 ∀z53:Int,0<=z53->z53<=255->z53=aa 21 [z9,41,0]->
 U 21 [z9,42]/\
 ∀c0:Int,0<=c0->c0<=255->c0=aa 21 [z9,42,0]->
 U 21 [z9,43]/\
 ∀dG:Int,0<=dG->dG<=255->dG=aa 21 [z9,43,0]->
 U 21 [z9,44]/\
 ∀dH:Int,0<=dH->dH<=255->dH=aa 21 [z9,44,0]->
 U 21 [z9,45]/\
 ∀dT:Int,0<=dT->dT<=255->dT=aa 21 [z9,45,0]->
 U 21 [z9,46]/\
 ∀eT:Int,0<=eT->eT<=255->eT=aa 21 [z9,46,0]->
 U 21 [z9,47]/\
 ∀z59:Int,0<=z59->z59<=255->z59=aa 21 [z9,47,0]->
 U 21 [z9,48]/\
 ∀eU:Int,0<=eU->eU<=255->eU=aa 21 [z9,48,0]->
 U 21 [z9,49]/\
 ∀eV:Int,0<=eV->eV<=255->eV=aa 21 [z9,49,0]->
 U 21 [z9,50]/\
 ∀eW:Int,0<=eW->eW<=255->eW=aa 21 [z9,50,0]->
 U 21 [z9,51]/\
 ∀eX:Int,0<=eX->eX<=255->eX=aa 21 [z9,51,0]->
 U 21 [z9,52]/\
 ∀eY:Int,0<=eY->eY<=255->eY=aa 21 [z9,52,0]->
 U 21 [z9,53]/\
 ∀eZ:Int,0<=eZ->eZ<=255->eZ=aa 21 [z9,53,0]->
 U 21 [z9,54]/\
 ∀e4:Int,0<=e4->e4<=255->e4=aa 21 [z9,54,0]->
 U 21 [z9,55]/\
 ∀e5:Int,0<=e5->e5<=255->e5=aa 21 [z9,55,0]->
 U 21 [z9,56]/\
 ∀e6:Int,0<=e6->e6<=255->e6=aa 21 [z9,56,0]->
 U 21 [z9,57]/\
 ∀e7:Int,0<=e7->e7<=255->e7=aa 21 [z9,57,0]->
 U 21 [z9,58]/\
 ∀z70:Int,0<=z70->z70<=255->z70=aa 21 [z9,58,0]->
 U 21 [z9,59]/\
 ∀e8:Int,0<=e8->e8<=255->e8=aa 21 [z9,59,0]->
 U 21 [z9,60]/\
 ∀z72:Int,0<=z72->z72<=255->z72=aa 21 [z9,60,0]->
 U 21 [z9,61]/\
 ∀e9:Int,0<=e9->e9<=255->e9=aa 21 [z9,61,0]->
 U 21 [z9,62]/\
 ∀fa:Int,0<=fa->fa<=255->fa=aa 21 [z9,62,0]->
 U 21 [z9,63]/\
 ∀z75:Int,0<=z75->z75<=255->z75=aa 21 [z9,63,0]->
 K [] [[z12,af,ao,aL,aT,ba,bp,bD,z20,z21,z22,cp,z24,bM,z26,bQ,z28,cl,bT,z31,bU,cq,cy,bN,bK,z37,bW,bX,z40,bP,b1,cv,cA,b3,z46,cm,c4,z49,cD,z51,cH,z53,c0,dG,dH,dT,eT,z59,eU,eV,eW,eX,eY,eZ,e4,e5,e6,e7,z70,e8,z72,e9,fa,z75]]
 )
 )
def KG (dk kZ:Int) (S:Nat->List (List Int)->List (List Int)->Prop) (K:List (List Int)->List (List Int)->Prop):Prop:=
 (U 77 [kZ]->
 ∀z0:Int,0<=z0->z0<=1->S 456 [] [[z0]]->
 ((((!(decide (z0=1))))=true->
  K [] [[(cond (false) 1 0)]]
 )/\(((!(decide (z0=1))))=false->
  U 77 [kZ]/\
  ∀ai:Int,0<=ai->ai<=1->S 491 [[dk]] [[ai]]->
  (((decide (ai=1))=true->
   K [] [[(cond (true) 1 0)]]
  )/\((decide (ai=1))=false->
   U 77 [kZ]/\
   U 71 [dk]/\
   ∀z2:Int,0<=z2->z2<=aw->S 492 [[dk]] [[z2]]->
   ∀z3:Int,0<=z3->
   ∀z4:Int,(-1)<=z4->z4<=9223372036854775807->
   ∀z5:Int,0<=z5->z5<=9223372036854775807->z5=aa 20 [z2]->
   U 77 [kZ]/\
   U 71 [dk]/\
   ∀vi:List Int,bd (fj 0 255 32) vi->S 493 [[dk]] [vi]->
   U 22 [z2,0,z5]/\
   ∀bW:Int,0<=bW->bW<=aw->bW=aa 22 [z2,0,z5]->
   U 71 [bW]/\
   ∀vh:List Int,bd (fj 0 255 32) vh->S 489 [[bW]] [vh]->
   (((decide (vi=vh))=true->
    U 77 [kZ]/\
    U 71 [dk]/\
    ∀x7:List Int,bd (fj 0 255 64) x7->S 494 [[dk]] [x7]->
    U 22 [z2,0,z5]/\
    ∀ko:Int,0<=ko->ko<=aw->ko=aa 22 [z2,0,z5]->
    U 71 [ko]/\
    ∀sy:List Int,bd (fj 0 255 64) sy->S 478 [[ko]] [sy]->
    K [] [[(cond (decide (x7=sy)) 1 0)]]
   )/\((decide (vi=vh))=false->
    K [] [[(cond (false) 1 0)]]
   ))
  ))
 ))
 )
theorem aaU (dk kZ:Int):KE dk kZ SB (yx SB [.d wg] 493 dk):=by
 intro hg hp
 have hp:(ab dk).length<=1000000000:=hp
 refine⟨hg,hp,λz5 f0 f1 h5 aq g0 an i0 i1 au cS cf h8=>?_⟩
 have h5:ab z5=ab dk:=h5
 have h8:au=((ab z5).length:Int):=h8
 refine⟨⟨Int.le_refl _,by omega,by rw[h8];exact Int.le_refl _⟩,λz9 k0 k1 bz=>?_⟩
 have bz:=gf bz h8
 have gJ:ab z9=ab dk:=by rw[bz,h5]
 refine⟨by show(ab z9).length<=1000000000;rw[gJ];exact hp,λaW l0 l1 bZ bS m0 fE z12 ey aG fV=>?_⟩
 have bZ:aC aW=jn aO (aC z9):=bZ
 have fV:z12=((ab aW).length:Int):=fV
 rw[lk gJ]at bZ
 obtain⟨q1,aP,bA⟩:=HP (aC dk)
 have hl0:(aC dk).length=(ab dk).length:=eI dk
 refine⟨⟨Int.le_refl _,by omega,by rw[fV];exact Int.le_refl _⟩,λaf jO o1 j6=>?_⟩
 have j6:=gf j6 fV
 have tN:(ab af).length=ga 32 (aC dk).length:=by rw[j6,<-eI,bZ,q1]
 refine⟨by show 64∣(ab af).length/\(ab af).length<=1000001000;rw[tN];exact⟨aP,by omega⟩,λao p0 p1 gK aL ir ay aT kF s1 iA=>?_⟩
 have gK:aC ao=jY aO (aC af):=gK
 rw[lk j6,bZ]at gK
 have iA:aT=((ab ao).length:Int):=iA
 have oI:(aC ao).length=32:=by rw[gK,wk];rfl
 have tV:(ab ao).length=32:=by rw[<-eI,oI]
 have aj:∀i:Int,0<=i->i<32->U 21 [ao,i]:=λi h1 h2=>⟨h1,by rw[tV];exact h2⟩
 refine⟨⟨by decide,by omega⟩,aj 0 (by decide) (by decide),?_⟩
 refine⟨aj 0 (by decide) (by decide),?_⟩
 intro ba jb kn t0
 refine⟨aj 1 (by decide) (by decide),?_⟩
 intro bp b8 iH t1
 refine⟨aj 2 (by decide) (by decide),?_⟩
 intro bD cO ml t2
 refine⟨aj 3 (by decide) (by decide),?_⟩
 intro z20 ev nJ t3
 refine⟨aj 4 (by decide) (by decide),?_⟩
 intro z21 eO qh t4
 refine⟨aj 5 (by decide) (by decide),?_⟩
 intro z22 fR qi t5
 refine⟨aj 6 (by decide) (by decide),?_⟩
 intro cp gh qj t6
 refine⟨aj 7 (by decide) (by decide),?_⟩
 intro z24 js qk t7
 refine⟨aj 8 (by decide) (by decide),?_⟩
 intro bM jt ql t8
 refine⟨aj 9 (by decide) (by decide),?_⟩
 intro z26 ju qm t9
 refine⟨aj 10 (by decide) (by decide),?_⟩
 intro bQ jT qe t10
 refine⟨aj 11 (by decide) (by decide),?_⟩
 intro z28 eG o8 t11
 refine⟨aj 12 (by decide) (by decide),?_⟩
 intro cl gg qf t12
 refine⟨aj 13 (by decide) (by decide),?_⟩
 intro bT jr qg t13
 refine⟨aj 14 (by decide) (by decide),?_⟩
 intro z31 rq rv t14
 refine⟨aj 15 (by decide) (by decide),?_⟩
 intro bU rr ry t15
 refine⟨aj 16 (by decide) (by decide),?_⟩
 intro cq vv vL t16
 refine⟨aj 17 (by decide) (by decide),?_⟩
 intro cy vw vM t17
 refine⟨aj 18 (by decide) (by decide),?_⟩
 intro bN vx vN t18
 refine⟨aj 19 (by decide) (by decide),?_⟩
 intro bK vy vO t19
 refine⟨aj 20 (by decide) (by decide),?_⟩
 intro z37 vz vP t20
 refine⟨aj 21 (by decide) (by decide),?_⟩
 intro bW vA vQ t21
 refine⟨aj 22 (by decide) (by decide),?_⟩
 intro bX vB vR t22
 refine⟨aj 23 (by decide) (by decide),?_⟩
 intro z40 vC vS t23
 refine⟨aj 24 (by decide) (by decide),?_⟩
 intro bP vD vT t24
 refine⟨aj 25 (by decide) (by decide),?_⟩
 intro b1 vE vU t25
 refine⟨aj 26 (by decide) (by decide),?_⟩
 intro cv vF vV t26
 refine⟨aj 27 (by decide) (by decide),?_⟩
 intro cA vG vW t27
 refine⟨aj 28 (by decide) (by decide),?_⟩
 intro b3 vH vX t28
 refine⟨aj 29 (by decide) (by decide),?_⟩
 intro z46 vI vY t29
 refine⟨aj 30 (by decide) (by decide),?_⟩
 intro cm vJ vZ t30
 refine⟨aj 31 (by decide) (by decide),?_⟩
 intro c4 vK v7 t31
 have hL:[ba,bp,bD,z20,z21,z22,cp,z24,bM,z26,bQ,z28,cl,bT,z31,bU,cq,cy,bN,bK,z37,bW,bX,z40,bP,b1,cv,cA,b3,z46,cm,c4]=aC ao:=by
  rw[aD t0,aD t1,aD t2,aD t3,aD t4,aD t5,aD t6,aD t7,aD t8,aD t9,aD t10,aD t11,aD t12,aD t13,aD t14,aD t15,aD t16,aD t17,aD t18,aD t19,aD t20,aD t21,aD t22,aD t23,aD t24,aD t25,aD t26,aD t27,aD t28,aD t29,aD t30,aD t31]
  exact(ts (aC ao) 32 oI).symm
 refine⟨?_,?_⟩
 ·show bd (fj 0 255 32++[]) _
  rw[List.append_nil]
  exact ug 32 _ rfl λx hx=>by
   simp only[List.flatten_cons,List.flatten_nil,List.append_nil,List.mem_cons,List.not_mem_nil,or_false]at hx
   rcases hx with rfl|rfl|rfl|rfl|rfl|rfl|rfl|rfl|rfl|rfl|rfl|rfl|rfl|rfl|rfl|rfl|rfl|rfl|rfl|rfl|rfl|rfl|rfl|rfl|rfl|rfl|rfl|rfl|rfl|rfl|rfl|rfl
   ·exact⟨jb,kn⟩
   ·exact⟨b8,iH⟩
   ·exact⟨cO,ml⟩
   ·exact⟨ev,nJ⟩
   ·exact⟨eO,qh⟩
   ·exact⟨fR,qi⟩
   ·exact⟨gh,qj⟩
   ·exact⟨js,qk⟩
   ·exact⟨jt,ql⟩
   ·exact⟨ju,qm⟩
   ·exact⟨jT,qe⟩
   ·exact⟨eG,o8⟩
   ·exact⟨gg,qf⟩
   ·exact⟨jr,qg⟩
   ·exact⟨rq,rv⟩
   ·exact⟨rr,ry⟩
   ·exact⟨vv,vL⟩
   ·exact⟨vw,vM⟩
   ·exact⟨vx,vN⟩
   ·exact⟨vy,vO⟩
   ·exact⟨vz,vP⟩
   ·exact⟨vA,vQ⟩
   ·exact⟨vB,vR⟩
   ·exact⟨vC,vS⟩
   ·exact⟨vD,vT⟩
   ·exact⟨vE,vU⟩
   ·exact⟨vF,vV⟩
   ·exact⟨vG,vW⟩
   ·exact⟨vH,vX⟩
   ·exact⟨vI,vY⟩
   ·exact⟨vJ,vZ⟩
   ·exact⟨vK,v7⟩
 ·show [[ba,bp,bD,z20,z21,z22,cp,z24,bM,z26,bQ,z28,cl,bT,z31,bU,cq,cy,bN,bK,z37,bW,bX,z40,bP,b1,cv,cA,b3,z46,cm,c4]]=[fk aO (aC dk)]
  rw[hL,gK];rfl
theorem aaV (dk kZ:Int):KF dk kZ SB (yx SB [.d wh] 494 dk):=by
 intro hg hp
 have hp:(ab dk).length<=1000000000:=hp
 refine⟨hg,hp,λz5 f0 f1 h5 aq g0 an i0 i1 au cS cf h8=>?_⟩
 have h5:ab z5=ab dk:=h5
 have h8:au=((ab z5).length:Int):=h8
 refine⟨⟨Int.le_refl _,by omega,by rw[h8];exact Int.le_refl _⟩,λz9 k0 k1 bz=>?_⟩
 have bz:=gf bz h8
 have gJ:ab z9=ab dk:=by rw[bz,h5]
 refine⟨by show(ab z9).length<=1000000000;rw[gJ];exact hp,λaW l0 l1 bZ bS m0 fE z12 ey aG fV=>?_⟩
 have bZ:aC aW=jn aX (aC z9):=bZ
 have fV:z12=((ab aW).length:Int):=fV
 rw[lk gJ]at bZ
 obtain⟨q1,aP,bA⟩:=HQ (aC dk)
 have hl0:(aC dk).length=(ab dk).length:=eI dk
 refine⟨⟨Int.le_refl _,by omega,by rw[fV];exact Int.le_refl _⟩,λaf jO o1 j6=>?_⟩
 have j6:=gf j6 fV
 have tN:(ab af).length=ga 64 (aC dk).length:=by rw[j6,<-eI,bZ,q1]
 refine⟨by show 128∣(ab af).length/\(ab af).length<=1000001000;rw[tN];exact⟨aP,by omega⟩,λao p0 p1 gK aL ir ay aT kF s1 iA=>?_⟩
 have gK:aC ao=jY aX (aC af):=gK
 rw[lk j6,bZ]at gK
 have iA:aT=((ab ao).length:Int):=iA
 have oI:(aC ao).length=64:=by rw[gK,wk];rfl
 have tV:(ab ao).length=64:=by rw[<-eI,oI]
 have aj:∀i:Int,0<=i->i<64->U 21 [ao,i]:=λi h1 h2=>⟨h1,by rw[tV];exact h2⟩
 refine⟨⟨by decide,by omega⟩,aj 0 (by decide) (by decide),?_⟩
 refine⟨aj 0 (by decide) (by decide),?_⟩
 intro ba jb kn t0
 refine⟨aj 1 (by decide) (by decide),?_⟩
 intro bp b8 iH t1
 refine⟨aj 2 (by decide) (by decide),?_⟩
 intro bD cO ml t2
 refine⟨aj 3 (by decide) (by decide),?_⟩
 intro z20 ev nJ t3
 refine⟨aj 4 (by decide) (by decide),?_⟩
 intro z21 eO qh t4
 refine⟨aj 5 (by decide) (by decide),?_⟩
 intro z22 fR qi t5
 refine⟨aj 6 (by decide) (by decide),?_⟩
 intro cp gh qj t6
 refine⟨aj 7 (by decide) (by decide),?_⟩
 intro z24 js qk t7
 refine⟨aj 8 (by decide) (by decide),?_⟩
 intro bM jt ql t8
 refine⟨aj 9 (by decide) (by decide),?_⟩
 intro z26 ju qm t9
 refine⟨aj 10 (by decide) (by decide),?_⟩
 intro bQ jT qe t10
 refine⟨aj 11 (by decide) (by decide),?_⟩
 intro z28 eG o8 t11
 refine⟨aj 12 (by decide) (by decide),?_⟩
 intro cl gg qf t12
 refine⟨aj 13 (by decide) (by decide),?_⟩
 intro bT jr qg t13
 refine⟨aj 14 (by decide) (by decide),?_⟩
 intro z31 rq rv t14
 refine⟨aj 15 (by decide) (by decide),?_⟩
 intro bU rr ry t15
 refine⟨aj 16 (by decide) (by decide),?_⟩
 intro cq vv vL t16
 refine⟨aj 17 (by decide) (by decide),?_⟩
 intro cy vw vM t17
 refine⟨aj 18 (by decide) (by decide),?_⟩
 intro bN vx vN t18
 refine⟨aj 19 (by decide) (by decide),?_⟩
 intro bK vy vO t19
 refine⟨aj 20 (by decide) (by decide),?_⟩
 intro z37 vz vP t20
 refine⟨aj 21 (by decide) (by decide),?_⟩
 intro bW vA vQ t21
 refine⟨aj 22 (by decide) (by decide),?_⟩
 intro bX vB vR t22
 refine⟨aj 23 (by decide) (by decide),?_⟩
 intro z40 vC vS t23
 refine⟨aj 24 (by decide) (by decide),?_⟩
 intro bP vD vT t24
 refine⟨aj 25 (by decide) (by decide),?_⟩
 intro b1 vE vU t25
 refine⟨aj 26 (by decide) (by decide),?_⟩
 intro cv vF vV t26
 refine⟨aj 27 (by decide) (by decide),?_⟩
 intro cA vG vW t27
 refine⟨aj 28 (by decide) (by decide),?_⟩
 intro b3 vH vX t28
 refine⟨aj 29 (by decide) (by decide),?_⟩
 intro z46 vI vY t29
 refine⟨aj 30 (by decide) (by decide),?_⟩
 intro cm vJ vZ t30
 refine⟨aj 31 (by decide) (by decide),?_⟩
 intro c4 vK v7 t31
 refine⟨aj 32 (by decide) (by decide),?_⟩
 intro z49 Ja JH t32
 refine⟨aj 33 (by decide) (by decide),?_⟩
 intro cD Jb JI t33
 refine⟨aj 34 (by decide) (by decide),?_⟩
 intro z51 Jc JJ t34
 refine⟨aj 35 (by decide) (by decide),?_⟩
 intro cH Jd JK t35
 refine⟨aj 36 (by decide) (by decide),?_⟩
 intro z53 Je JL t36
 refine⟨aj 37 (by decide) (by decide),?_⟩
 intro c0 Jf JM t37
 refine⟨aj 38 (by decide) (by decide),?_⟩
 intro dG Jg JN t38
 refine⟨aj 39 (by decide) (by decide),?_⟩
 intro dH Jh JO t39
 refine⟨aj 40 (by decide) (by decide),?_⟩
 intro dT Ji JP t40
 refine⟨aj 41 (by decide) (by decide),?_⟩
 intro eT Jj JQ t41
 refine⟨aj 42 (by decide) (by decide),?_⟩
 intro z59 Jk JR t42
 refine⟨aj 43 (by decide) (by decide),?_⟩
 intro eU Jl JS t43
 refine⟨aj 44 (by decide) (by decide),?_⟩
 intro eV Jm JT t44
 refine⟨aj 45 (by decide) (by decide),?_⟩
 intro eW Jn JU t45
 refine⟨aj 46 (by decide) (by decide),?_⟩
 intro eX Jo JV t46
 refine⟨aj 47 (by decide) (by decide),?_⟩
 intro eY Jp JW t47
 refine⟨aj 48 (by decide) (by decide),?_⟩
 intro eZ Jq JX t48
 refine⟨aj 49 (by decide) (by decide),?_⟩
 intro e4 Jr JY t49
 refine⟨aj 50 (by decide) (by decide),?_⟩
 intro e5 Js JZ t50
 refine⟨aj 51 (by decide) (by decide),?_⟩
 intro e6 Jt J0 t51
 refine⟨aj 52 (by decide) (by decide),?_⟩
 intro e7 Ju J1 t52
 refine⟨aj 53 (by decide) (by decide),?_⟩
 intro z70 Jv J2 t53
 refine⟨aj 54 (by decide) (by decide),?_⟩
 intro e8 Jw J3 t54
 refine⟨aj 55 (by decide) (by decide),?_⟩
 intro z72 Jx J4 t55
 refine⟨aj 56 (by decide) (by decide),?_⟩
 intro e9 Jy J5 t56
 refine⟨aj 57 (by decide) (by decide),?_⟩
 intro fa Jz J6 t57
 refine⟨aj 58 (by decide) (by decide),?_⟩
 intro z75 JA J7 t58
 refine⟨aj 59 (by decide) (by decide),?_⟩
 intro z76 JB J8 t59
 refine⟨aj 60 (by decide) (by decide),?_⟩
 intro gm JC J9 t60
 refine⟨aj 61 (by decide) (by decide),?_⟩
 intro hD JD Ka t61
 refine⟨aj 62 (by decide) (by decide),?_⟩
 intro hE JE Kb t62
 refine⟨aj 63 (by decide) (by decide),?_⟩
 intro hG JF Kc t63
 have hL:[ba,bp,bD,z20,z21,z22,cp,z24,bM,z26,bQ,z28,cl,bT,z31,bU,cq,cy,bN,bK,z37,bW,bX,z40,bP,b1,cv,cA,b3,z46,cm,c4,z49,cD,z51,cH,z53,c0,dG,dH,dT,eT,z59,eU,eV,eW,eX,eY,eZ,e4,e5,e6,e7,z70,e8,z72,e9,fa,z75,z76,gm,hD,hE,hG]=aC ao:=by
  rw[aD t0,aD t1,aD t2,aD t3,aD t4,aD t5,aD t6,aD t7,aD t8,aD t9,aD t10,aD t11,aD t12,aD t13,aD t14,aD t15,aD t16,aD t17,aD t18,aD t19,aD t20,aD t21,aD t22,aD t23,aD t24,aD t25,aD t26,aD t27,aD t28,aD t29,aD t30,aD t31,aD t32,aD t33,aD t34,aD t35,aD t36,aD t37,aD t38,aD t39,aD t40,aD t41,aD t42,aD t43,aD t44,aD t45,aD t46,aD t47,aD t48,aD t49,aD t50,aD t51,aD t52,aD t53,aD t54,aD t55,aD t56,aD t57,aD t58,aD t59,aD t60,aD t61,aD t62,aD t63]
  exact(ts (aC ao) 64 oI).symm
 refine⟨?_,?_⟩
 ·show bd (fj 0 255 64++[]) _
  rw[List.append_nil]
  exact ug 64 _ rfl λx hx=>by
   simp only[List.flatten_cons,List.flatten_nil,List.append_nil,List.mem_cons,List.not_mem_nil,or_false]at hx
   rcases hx with rfl|rfl|rfl|rfl|rfl|rfl|rfl|rfl|rfl|rfl|rfl|rfl|rfl|rfl|rfl|rfl|rfl|rfl|rfl|rfl|rfl|rfl|rfl|rfl|rfl|rfl|rfl|rfl|rfl|rfl|rfl|rfl|rfl|rfl|rfl|rfl|rfl|rfl|rfl|rfl|rfl|rfl|rfl|rfl|rfl|rfl|rfl|rfl|rfl|rfl|rfl|rfl|rfl|rfl|rfl|rfl|rfl|rfl|rfl|rfl|rfl|rfl|rfl|rfl
   ·exact⟨jb,kn⟩
   ·exact⟨b8,iH⟩
   ·exact⟨cO,ml⟩
   ·exact⟨ev,nJ⟩
   ·exact⟨eO,qh⟩
   ·exact⟨fR,qi⟩
   ·exact⟨gh,qj⟩
   ·exact⟨js,qk⟩
   ·exact⟨jt,ql⟩
   ·exact⟨ju,qm⟩
   ·exact⟨jT,qe⟩
   ·exact⟨eG,o8⟩
   ·exact⟨gg,qf⟩
   ·exact⟨jr,qg⟩
   ·exact⟨rq,rv⟩
   ·exact⟨rr,ry⟩
   ·exact⟨vv,vL⟩
   ·exact⟨vw,vM⟩
   ·exact⟨vx,vN⟩
   ·exact⟨vy,vO⟩
   ·exact⟨vz,vP⟩
   ·exact⟨vA,vQ⟩
   ·exact⟨vB,vR⟩
   ·exact⟨vC,vS⟩
   ·exact⟨vD,vT⟩
   ·exact⟨vE,vU⟩
   ·exact⟨vF,vV⟩
   ·exact⟨vG,vW⟩
   ·exact⟨vH,vX⟩
   ·exact⟨vI,vY⟩
   ·exact⟨vJ,vZ⟩
   ·exact⟨vK,v7⟩
   ·exact⟨Ja,JH⟩
   ·exact⟨Jb,JI⟩
   ·exact⟨Jc,JJ⟩
   ·exact⟨Jd,JK⟩
   ·exact⟨Je,JL⟩
   ·exact⟨Jf,JM⟩
   ·exact⟨Jg,JN⟩
   ·exact⟨Jh,JO⟩
   ·exact⟨Ji,JP⟩
   ·exact⟨Jj,JQ⟩
   ·exact⟨Jk,JR⟩
   ·exact⟨Jl,JS⟩
   ·exact⟨Jm,JT⟩
   ·exact⟨Jn,JU⟩
   ·exact⟨Jo,JV⟩
   ·exact⟨Jp,JW⟩
   ·exact⟨Jq,JX⟩
   ·exact⟨Jr,JY⟩
   ·exact⟨Js,JZ⟩
   ·exact⟨Jt,J0⟩
   ·exact⟨Ju,J1⟩
   ·exact⟨Jv,J2⟩
   ·exact⟨Jw,J3⟩
   ·exact⟨Jx,J4⟩
   ·exact⟨Jy,J5⟩
   ·exact⟨Jz,J6⟩
   ·exact⟨JA,J7⟩
   ·exact⟨JB,J8⟩
   ·exact⟨JC,J9⟩
   ·exact⟨JD,Ka⟩
   ·exact⟨JE,Kb⟩
   ·exact⟨JF,Kc⟩
 ·show [[ba,bp,bD,z20,z21,z22,cp,z24,bM,z26,bQ,z28,cl,bT,z31,bU,cq,cy,bN,bK,z37,bW,bX,z40,bP,b1,cv,cA,b3,z46,cm,c4,z49,cD,z51,cH,z53,c0,dG,dH,dT,eT,z59,eU,eV,eW,eX,eY,eZ,e4,e5,e6,e7,z70,e8,z72,e9,fa,z75,z76,gm,hD,hE,hG]]=[fk aX (aC dk)]
  rw[hL,gK];rfl
theorem aaW (dk kZ:Int):KG dk kZ SB (yx SB [.d .bool] 495 dk):=by
 intro hg z0 a0 bh h0
 have h0:z0=1:=by have h:[[z0]]=[[(1:Int)]]:=h0;simpa using h
 subst h0
 refine⟨λh=>by simp at h,λ_=>⟨hg,λai b0 bo h1=>⟨λ_=>⟨⟨by decide,by decide,trivial⟩,rfl⟩,λh=>?_⟩⟩⟩
 have h:ai=0:=by have:=of_decide_eq_false h;omega
 have h1:(ab dk).length<=5000:=(show ai=0->(ab dk).length<=5000 from h1) h
 have hp:U 71 [dk]:=by show(ab dk).length<=1000000000;omega
 refine⟨hg,hp,λz2 ct c1 h2 z3 d0 z4 e0 e1 z5 f0 f1 h5=>⟨hg,hp,λvi g0 h6=>?_⟩⟩
 have h2:ab z2=ab dk:=h2
 have h5:z5=((ab z2).length:Int):=h5
 have h6:[vi]=[fk aO (aC dk)]:=h6
 have L7:U 22 [z2,0,z5]:=⟨Int.le_refl _,by omega,by rw[h5];exact Int.le_refl _⟩
 refine⟨L7,λbW i0 i1 r1=>?_⟩
 have Mx:ab bW=ab dk:=(gf r1 h5).trans h2
 refine⟨by show(ab bW).length<=1000000000;rw[Mx];omega,λvh cS ow=>?_⟩
 have ow:[vh]=[fk aO (aC bW)]:=ow
 rw[lk Mx,<-h6]at ow
 have ow:vh=vi:=by simpa using ow
 subst ow
 refine⟨λ_=>⟨hg,hp,λx7 k0 Fv=>⟨L7,λko l0 l1 UE=>?_⟩⟩,λh=>by simp at h⟩
 have Fv:[x7]=[fk aX (aC dk)]:=Fv
 have Mw:ab ko=ab dk:=(gf UE h5).trans h2
 refine⟨by show(ab ko).length<=1000000000;rw[Mw];omega,λsy m0 wV=>?_⟩
 have wV:[sy]=[fk aX (aC ko)]:=wV
 rw[lk Mw,<-Fv]at wV
 have wV:sy=x7:=by simpa using wV
 subst wV
 refine⟨?_,?_⟩
 ·rw[decide_eq_true rfl];exact⟨by decide,by decide,trivial⟩
 ·show(cond (decide (sy=sy)) 1 0:Int)=1
  rw[decide_eq_true rfl];rfl
end Go.cU
namespace Go.cU
open Go Go.bx Go.Proofs
theorem ae1:mD Tryd.prog a7 oR (a8 [] []) br bt [1,1] Ll:=λ_ _=>by kernel_rfl
theorem aea:mD Tryd.prog a7 pH (a8 [] []) br bt [1] Ku:=λ_ _=>by kernel_rfl
theorem aec:mD Tryd.prog a7 pJ (a8 [] []) br bt [1] Kw:=λ_ _=>by kernel_rfl
theorem aee:mD Tryd.prog a7 pL (a8 [] []) br bt [1] Ky:=λ_ _=>by kernel_rfl
theorem aeg:mD Tryd.prog a7 pN (a8 [] []) br bt [1] KA:=λ_ _=>by kernel_rfl
theorem aeb:mD Tryd.prog a7 pI (a8 [] []) br bt [1] Kv:=λ_ _=>by kernel_rfl
theorem aed:mD Tryd.prog a7 pK (a8 [] []) br bt [1] Kx:=λ_ _=>by kernel_rfl
theorem aef:mD Tryd.prog a7 pM (a8 [] []) br bt [1] Kz:=λ_ _=>by kernel_rfl
theorem aeh:mD Tryd.prog a7 pO (a8 [] []) br bt [1] KB:=λ_ _=>by kernel_rfl
theorem ae2 (S K):iw sh Pf S K [1] (cb n6.args) n6.res (n6.tree (fM []) Tryd.prog a7 (a8 [] [oR]) O2 600 6)=Lm S K:=by kernel_rfl
theorem ae3 (S K):iw sh Pg S K [1] (cb n7.args) n7.res (n7.tree (fM []) Tryd.prog a7 (a8 [] [oR]) O3 600 6)=Ln S K:=by kernel_rfl
theorem aei:mD Tryd.prog a7 pP (a8 [] []) br bt [1] KC:=λ_ _=>by kernel_rfl
theorem aej:mD Tryd.prog a7 pQ (a8 [] []) br bt [1] KD:=λ_ _=>by kernel_rfl
theorem ad8 (S K):iw sh bt S K [1] (cb sf.args) sf.res (sf.tree (fM []) Tryd.prog a7 (a8 [] []) br 600 6)=Ks S K:=by kernel_rfl
theorem ad9 (S K):iw sh bt S K [1] (cb sg.args) sg.res (sg.tree (fM []) Tryd.prog a7 (a8 [] []) br 600 6)=Kt S K:=by kernel_rfl
theorem ae4 (S K):iw sh bt S K [1] (cb CN.args) CN.res (uz.tree (o5 [o3] (oa [Aq] (fM [n6]))) Tryd.prog a7 (a8 [] []) br 600 6)=Lo S K:=by kernel_rfl
theorem ae5 (S K):iw sh bt S K [1] (cb CO.args) CO.res (uA.tree (o5 [o4] (oa [Ar] (fM [n7]))) Tryd.prog a7 (a8 [] []) br 600 6)=Lp S K:=by kernel_rfl
theorem ae0 (S K):iw sh Pe S K [1] (cb sk.args) sk.res (sk.tree (fM []) Tryd.prog a7 (a8 [] []) O1 600 6)=Lk S K:=by kernel_rfl
theorem ad5 (S K):iw sh bt S K [] (cb qZ.args) qZ.res (qZ.tree (oa [uz,uA] (fM [sk])) Tryd.prog a7 (a8 [] []) br 600 6)=Kp S K:=by kernel_rfl
theorem aez:mD Tryd.prog a7 oQ (a8 [] []) br bt [1,1] KT:=λ_ _=>by kernel_rfl
end Go.cU
namespace Go.cU
open Go Go.bx Go.Proofs
theorem ad6 (S K):iw sh Pa S K [1] (cb CL.args) CL.res (o3.tree (wA Tryd.prog a7 (a8 [] [pP,pH,pJ,pL,pN]) (qA (fM [sf]) Tryd.prog a7 (a8 [] [pP,pH,pJ,pL,pN]) CR 600 6) CR 600 [(1,0,0,4294967295),(1,1,0,4294967295),(1,2,0,4294967295),(1,3,0,4294967295),(1,4,0,4294967295),(1,5,0,4294967295),(1,6,0,4294967295),(1,7,0,4294967295)] 43))=Kq S K:=by kernel_rfl
end Go.cU
namespace Go.cU
open Go Go.bx Go.Proofs
theorem ad7 (S K):iw sh Pb S K [1] (cb CM.args) CM.res (o4.tree (wA Tryd.prog a7 (a8 [] [pQ,pI,pK,pM,pO]) (qA (fM [sg]) Tryd.prog a7 (a8 [] [pQ,pI,pK,pM,pO]) CS 600 6) CS 600 [(1,0,0,18446744073709551615),(1,1,0,18446744073709551615),(1,2,0,18446744073709551615),(1,3,0,18446744073709551615),(1,4,0,18446744073709551615),(1,5,0,18446744073709551615),(1,6,0,18446744073709551615),(1,7,0,18446744073709551615)] 43))=Kr S K:=by kernel_rfl
end Go.cU
namespace Go.cU
open Go Go.bx Go.Proofs
theorem aeB (S K):iw sh Pd S K [1] (cb sj.args) sj.res (sj.tree (fM []) Tryd.prog a7 (a8 [uK,uL,uM,uN] [oQ,dX]) O0 600 6)=KV S K:=by kernel_rfl
end Go.cU
namespace Go.cU
open Go Go.bx Go.Proofs
theorem aeA (S K):iw sh Pc S K [1] (cb si.args) si.res (si.tree (fM []) Tryd.prog a7 (a8 [uO,uP,uQ,uR] [oQ,c7]) OZ 600 6)=KU S K:=by kernel_rfl
end Go.cU
namespace Go.cU
open Go Go.bx Go.Proofs
theorem aeq:mD Tryd.prog a7 dX (a8 [] []) br bt [1] KK:=λ_ _=>by kernel_rfl
theorem aeC (S K):eB sh bt S K [1,1] (cr xw.args) xw.res (uS.tree Tryd.prog a7 (a8 [] [dX]) br 600 6)=KW S K:=by kernel_rfl
theorem aeK (S K):eB sh bt S K [1,1] (cr xE.args) xE.res (u0.tree Tryd.prog a7 (a8 [] [dX]) br 600 6)=K4 S K:=by kernel_rfl
theorem aeM (S K):eB sh bt S K [1,1] (cr xG.args) xG.res (u2.tree Tryd.prog a7 (a8 [] [dX]) br 600 6)=K6 S K:=by kernel_rfl
theorem aeN (S K):eB sh bt S K [1,1] (cr xH.args) xH.res (u3.tree Tryd.prog a7 (a8 [] [dX]) br 600 6)=K7 S K:=by kernel_rfl
theorem aeD (S K):eB sh bt S K [1,1] (cr xx.args) xx.res (uT.tree Tryd.prog a7 (a8 [] [dX]) br 600 6)=KX S K:=by kernel_rfl
theorem aeE (S K):eB sh bt S K [1,1] (cr xy.args) xy.res (uU.tree Tryd.prog a7 (a8 [] [dX]) br 600 6)=KY S K:=by kernel_rfl
theorem aeF (S K):eB sh bt S K [1,1] (cr xz.args) xz.res (uV.tree Tryd.prog a7 (a8 [] [dX]) br 600 6)=KZ S K:=by kernel_rfl
theorem aeG (S K):eB sh bt S K [1,1] (cr xA.args) xA.res (uW.tree Tryd.prog a7 (a8 [] [dX]) br 600 6)=K0 S K:=by kernel_rfl
theorem aeH (S K):eB sh bt S K [1,1] (cr xB.args) xB.res (uX.tree Tryd.prog a7 (a8 [] [dX]) br 600 6)=K1 S K:=by kernel_rfl
theorem aeI (S K):eB sh bt S K [1,1] (cr xC.args) xC.res (uY.tree Tryd.prog a7 (a8 [] [dX]) br 600 6)=K2 S K:=by kernel_rfl
theorem aeJ (S K):eB sh bt S K [1,1] (cr xD.args) xD.res (uZ.tree Tryd.prog a7 (a8 [] [dX]) br 600 6)=K3 S K:=by kernel_rfl
theorem aeL (S K):eB sh bt S K [1,1] (cr xF.args) xF.res (u1.tree Tryd.prog a7 (a8 [] [dX]) br 600 6)=K5 S K:=by kernel_rfl
theorem aer (S K):eB sh bt S K [1,3,1] (cr xn.args) xn.res (uK.tree Tryd.prog a7 (a8 [uW,uX,uY] []) br 600 6)=KL S K:=by kernel_rfl
theorem aes (S K):eB sh bt S K [1,3,1] (cr xo.args) xo.res (uL.tree Tryd.prog a7 (a8 [uT,uU,uZ] []) br 600 6)=KM S K:=by kernel_rfl
theorem aet (S K):eB sh bt S K [1,3,1] (cr xp.args) xp.res (uM.tree Tryd.prog a7 (a8 [uS,u3,u2] []) br 600 6)=KN S K:=by kernel_rfl
theorem aeu (S K):eB sh bt S K [1,3,1] (cr xq.args) xq.res (uN.tree Tryd.prog a7 (a8 [uV,u1,u0] []) br 600 6)=KO S K:=by kernel_rfl
theorem aeo (S K):iw sh bt S K [1] (cb q2.args) q2.res (q2.tree (fM [sj]) Tryd.prog a7 (a8 [] []) br 600 6)=KI S K:=by kernel_rfl
theorem aep:mD Tryd.prog a7 c7 (a8 [] []) br bt [1] KJ:=λ_ _=>by kernel_rfl
theorem aeU (S K):eB sh bt S K [1,1] (cr xO.args) xO.res (vb.tree Tryd.prog a7 (a8 [] [c7]) br 600 6)=Le S K:=by kernel_rfl
theorem aeX (S K):eB sh bt S K [1,1] (cr xR.args) xR.res (ve.tree Tryd.prog a7 (a8 [] [c7]) br 600 6)=Lh S K:=by kernel_rfl
theorem aeY (S K):eB sh bt S K [1,1] (cr xS.args) xS.res (vf.tree Tryd.prog a7 (a8 [] [c7]) br 600 6)=Li S K:=by kernel_rfl
theorem aeZ (S K):eB sh bt S K [1,1] (cr xT.args) xT.res (vg.tree Tryd.prog a7 (a8 [] [c7]) br 600 6)=Lj S K:=by kernel_rfl
theorem aeO (S K):eB sh bt S K [1,1] (cr xI.args) xI.res (u4.tree Tryd.prog a7 (a8 [] [c7]) br 600 6)=K8 S K:=by kernel_rfl
theorem aeP (S K):eB sh bt S K [1,1] (cr xJ.args) xJ.res (u5.tree Tryd.prog a7 (a8 [] [c7]) br 600 6)=K9 S K:=by kernel_rfl
theorem aeQ (S K):eB sh bt S K [1,1] (cr xK.args) xK.res (u6.tree Tryd.prog a7 (a8 [] [c7]) br 600 6)=La S K:=by kernel_rfl
theorem aeR (S K):eB sh bt S K [1,1] (cr xL.args) xL.res (u7.tree Tryd.prog a7 (a8 [] [c7]) br 600 6)=Lb S K:=by kernel_rfl
theorem aeS (S K):eB sh bt S K [1,1] (cr xM.args) xM.res (u9.tree Tryd.prog a7 (a8 [] [c7]) br 600 6)=Lc S K:=by kernel_rfl
theorem aeT (S K):eB sh bt S K [1,1] (cr xN.args) xN.res (va.tree Tryd.prog a7 (a8 [] [c7]) br 600 6)=Ld S K:=by kernel_rfl
theorem aeV (S K):eB sh bt S K [1,1] (cr xP.args) xP.res (vc.tree Tryd.prog a7 (a8 [] [c7]) br 600 6)=Lf S K:=by kernel_rfl
theorem aeW (S K):eB sh bt S K [1,1] (cr xQ.args) xQ.res (vd.tree Tryd.prog a7 (a8 [] [c7]) br 600 6)=Lg S K:=by kernel_rfl
theorem aev (S K):eB sh bt S K [1,3,1] (cr xr.args) xr.res (uO.tree Tryd.prog a7 (a8 [vb,u6,vc] [c7]) br 600 6)=KP S K:=by kernel_rfl
theorem aew (S K):eB sh bt S K [1,3,1] (cr xt.args) xt.res (uP.tree Tryd.prog a7 (a8 [vf,u5,vd] [c7]) br 600 6)=KQ S K:=by kernel_rfl
theorem aex (S K):eB sh bt S K [1,3,1] (cr xu.args) xu.res (uQ.tree Tryd.prog a7 (a8 [vg,u9,ve] [c7]) br 600 6)=KR S K:=by kernel_rfl
theorem aey (S K):eB sh bt S K [1,3,1] (cr xv.args) xv.res (uR.tree Tryd.prog a7 (a8 [u7,va,u4] [c7]) br 600 6)=KS S K:=by kernel_rfl
theorem aen (S K):iw sh bt S K [1] (cb q0.args) q0.res (q0.tree (fM [si]) Tryd.prog a7 (a8 [] []) br 600 6)=KH S K:=by kernel_rfl
end Go.cU
namespace Go.cU
open Go Go.bx Go.Proofs
theorem aek (q:kM) (x:Value) (S K):iw sh bt S K [] [] uo.res (uo.tree q (o5 [o3] (qY q [um] (fM [n6]))) Tryd.prog a7 (a8 [] []) br 600 6 x)=KE (q.fo x) (q.gd x) S K:=by kernel_rfl
theorem ael (q:kM) (x:Value) (S K):iw sh bt S K [] [] uq.res (uq.tree q (o5 [o4] (qY q [um] (fM [n7]))) Tryd.prog a7 (a8 [] []) br 600 6 x)=KF (q.fo x) (q.gd x) S K:=by kernel_rfl
theorem aem (q:kM) (x:Value) (S K):iw sh bt S K [] [] Ag.res (Ag.tree q (qY q [CI,CJ,uo,uq] (fM [qZ,q0,q2])) Tryd.prog a7 (a8 [] []) br 600 6 x)=KG (q.fo x) (q.gd x) S K:=by kernel_rfl
end Go.cU
