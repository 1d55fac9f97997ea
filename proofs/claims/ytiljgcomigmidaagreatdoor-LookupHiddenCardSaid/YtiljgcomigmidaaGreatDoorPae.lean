/- Pae: a part of the proof of statements of this seat. -/
import Derived.Test.YtiljgcomigmidaaGreatDoorPad
import Derived.Test.YtiljgcomigmidaaGreatDoorPac
import Derived.Test.YtiljgcomigmidaaGreatDoorProg
import Derived.KernelRfl
open Bool renaming and_eq_true->aO
open Function renaming comp->Kg
open Go.IntKind renaming max->hO
open Int renaming le_refl->bB,toNat_natCast->eW,mul_comm->wJ,toNat_zero->y2,ediv_eq_iff_of_pos->aa0
open List renaming getD->aC,map_cons->cp,length_cons->cW,range->c8,length_append->dn,length_nil->eH,replicate->eX,map_append->fY,map_congr_left->gI,append_assoc->gJ,getElem?_eq_getElem->hP,nil_append->jH,length_map->j2,mem_cons->ks,map_map->kN,append_nil->ln,length_take->m5,getD_eq_getElem?_getD->oz,length_drop->qB,not_mem_nil->s9,cons_append->ti,eq_nil_of_length_eq_zero->tl,take_succ_cons->y5,take_zero->Gm,drop_zero->Ke,take_add_one->Rb,drop_eq_getElem_cons->Rc,length_singleton->Rf,ext_getElem->Rp,singleton_append->aaj,drop_succ_cons->aaq,mem_singleton->aar,range_succ_eq_map->aaR,length_replicate->aa1,length_range->avc,replicate_succ'->avd
open List.cons renaming injEq->lp
open Nat renaming ble->bu,blt->bY,le_of_ble_eq_true->eh,zero_le->iF,pow_succ->y3,zero_add->zb,div_div_eq_div_mul->Kk,ble_eq_true_of_le->Ru
open Option.some renaming injEq->aL
open UInt8 renaming ofNat->kq
set_option maxRecDepth 100000
set_option linter.unusedVariables false
set_option linter.unusedSimpArgs false
namespace Go.bE
open Go Go.ba
def Lb (S:zzS) (K:zzK):Prop:=
 di λz0=>cB λae=>bN (-2) aZ λz2=>aI 20 [z0] λz3=>ch (-2) aZ 62 [z2,z3] λz4=>af 22 [z0,0,z3]/\af
 40 [z4,z2]/\bq 22 [z0,0,z3] λz5=>∃(u9:List (List Int)->Prop) (qD:List (List Int)->Nat),u9 [[z5],[z3],[z4]]/\(di λz7=>dC λz8=>bN (-2)
 aZ λz9=>u9 [[z7],[z8],[z9]]->cB λav=>(ak (decide (0<z8)) (af 30 [0,z8]/\af 21 [z7,0]/\ch 0 127 21 [z7,0,0] λaj=>
 af 32 [1,z8,z8]/\(af 68 [z8,z9]->ch 0 bU 33 [0,1,z9] λz12=>(ak (decide (8<(z8+(-1)))) (af 30 [0,(z8+(-1))]/\af 21
 [z7,z12]/\ch 0 127 21 [z7,z12,0] λaA=>af 30 [1,(z8+(-1))]/\af 21 [z7,(z12+1)]/\ch 0 127 21 [z7,(z12+1),0] λaB=>af 30 [2,(z8+
 (-1))]/\af 21 [z7,(z12+2)]/\ch 0 127 21 [z7,(z12+2),0] λau=>af 30 [3,(z8+(-1))]/\af 21 [z7,(z12+3)]/\ch 0 127 21 [z7,(z12+3),0]
 λaT=>af 30 [4,(z8+(-1))]/\af 21 [z7,(z12+4)]/\ch 0 127 21 [z7,(z12+4),0] λbz=>af 30 [5,(z8+(-1))]/\af 21 [z7,(z12+5)]/\ch
 0 127 21 [z7,(z12+5),0] λaF=>af 30 [6,(z8+(-1))]/\af 21 [z7,(z12+6)]/\ch 0 127 21 [z7,(z12+6),0] λcL=>af 30 [7,(z8+(-1))]/\
 af 21 [z7,(z12+7)]/\ch 0 127 21 [z7,(z12+7),0] λz20=>cB λz21=>z21<=hO .u64->z21=cy .and .u64 (aA+((256*aB)+((65536*
 au)+((16777216*aT)+((4294967296*bz)+((1099511627776*aF)+((281474976710656*cL)+(72057594037927936*z20)))))))) 9259542123273814144->(ak
 (decide (z21=0)) (af 32 [8,(z8+(-1)),(z8+(-1))]/\(af 68 [(z8+(-1)),(z9+(-1))]->ch 0 bU 33 [z12,8,(z9+(-1))] λaE=>(ak
 (decide (16<(z8+(-9)))) (af 32 [8,(z8+(-9)),(z8+(-9))]/\(af 68 [(z8+(-9)),(z9+(-9))]->ch 0 bU 33 [aE,8,(z9+(-9))] λ
 cx=>af 30 [0,(z8+(-9))]/\af 21 [z7,aE]/\ch 0 127 21 [z7,aE,0] λz24=>af 30 [1,(z8+(-9))]/\af 21 [z7,(aE+1)]/\ch 0 127 21
 [z7,(aE+1),0] λdP=>af 30 [2,(z8+(-9))]/\af 21 [z7,(aE+2)]/\ch 0 127 21 [z7,(aE+2),0] λcn=>af 30 [3,(z8+(-9))]/\af 21
 [z7,(aE+3)]/\ch 0 127 21 [z7,(aE+3),0] λkM=>af 30 [4,(z8+(-9))]/\af 21 [z7,(aE+4)]/\ch 0 127 21 [z7,(aE+4),0] λz28=>af 30
 [5,(z8+(-9))]/\af 21 [z7,(aE+5)]/\ch 0 127 21 [z7,(aE+5),0] λic=>af 30 [6,(z8+(-9))]/\af 21 [z7,(aE+6)]/\ch 0 127 21 [z7,(aE
 +6),0] λkp=>af 30 [7,(z8+(-9))]/\af 21 [z7,(aE+7)]/\ch 0 127 21 [z7,(aE+7),0] λz31=>af 30 [0,(z8+(-17))]/\af 21 [z7,cx]/\
 ch 0 127 21 [z7,cx,0] λll=>af 30 [1,(z8+(-17))]/\af 21 [z7,(cx+1)]/\ch 0 127 21 [z7,(cx+1),0] λnI=>af 30 [2,(z8+(-17))]/\
 af 21 [z7,(cx+2)]/\ch 0 127 21 [z7,(cx+2),0] λqu=>af 30 [3,(z8+(-17))]/\af 21 [z7,(cx+3)]/\ch 0 127 21 [z7,(cx+3),0] λuS=>
 af 30 [4,(z8+(-17))]/\af 21 [z7,(cx+4)]/\ch 0 127 21 [z7,(cx+4),0] λuT=>af 30 [5,(z8+(-17))]/\af 21 [z7,(cx+5)]/\ch 0 127 21
 [z7,(cx+5),0] λz37=>af 30 [6,(z8+(-17))]/\af 21 [z7,(cx+6)]/\ch 0 127 21 [z7,(cx+6),0] λs6=>af 30 [7,(z8+(-17))]/\af 21
 [z7,(cx+7)]/\ch 0 127 21 [z7,(cx+7),0] λuU=>cB λz40=>z40<=hO .u64->z40=cy .or .u64 (z24+((256*dP)+((65536*cn)+
 ((16777216*kM)+((4294967296*z28)+((1099511627776*ic)+((281474976710656*kp)+(72057594037927936*z31)))))))) (ll+((256*nI)+((65536*
 qu)+((16777216*uS)+((4294967296*uT)+((1099511627776*z37)+((281474976710656*s6)+(72057594037927936*uU))))))))->cB λqv=>qv<=
 hO .u64->qv=cy .and .u64 z40 9259542123273814144->(ak (decide (qv=0)) (af 32 [16,(z8+(-9)),(z8+(-9))]/\(af 68 [(z8+(-9)),(z9+
 (-9))]->ch 0 bU 33 [aE,16,(z9+(-9))] λmv=>af 22 [z7,mv,((z8+mv)+(-25))]/\af 40 [(z9+(-25)),z9]/\bq 22 [z7,mv,((z8
 +mv)+(-25))] λrM=>∃(Lm:List (List Int)->Prop) (aa3:List (List Int)->Nat),Lm [[rM],[(z8+(-25))],[(z9+(-25))]]/\(di λcr=>dC λ
 z46=>bN (-2) aZ λgx=>Lm [[cr],[z46],[gx]]->cB λs7=>(ak (decide (32<z46)) (af 32 [8,z46,z46]/\(af 68 [z46,gx]->ch
 0 bU 33 [0,8,gx] λz49=>af 32 [16,z46,z46]/\(af 68 [z46,gx]->ch 0 bU 33 [0,16,gx] λjG=>af 32
 [24,z46,z46]/\(af 68 [z46,gx]->ch 0 bU 33 [0,24,gx] λz51=>af 30 [0,z46]/\af 21 [cr,0]/\ch 0 127 21 [cr,0,0] λqw=>
 af 30 [1,z46]/\af 21 [cr,1]/\ch 0 127 21 [cr,1,0] λz53=>af 30 [2,z46]/\af 21 [cr,2]/\ch 0 127 21 [cr,2,0] λgG=>af 30 [3,z46]
 /\af 21 [cr,3]/\ch 0 127 21 [cr,3,0] λyW=>af 30 [4,z46]/\af 21 [cr,4]/\ch 0 127 21 [cr,4,0] λyX=>af 30 [5,z46]/\af 21
 [cr,5]/\ch 0 127 21 [cr,5,0] λyY=>af 30 [6,z46]/\af 21 [cr,6]/\ch 0 127 21 [cr,6,0] λyZ=>af 30 [7,z46]/\af 21 [cr,7]/\ch 0
 127 21 [cr,7,0] λz59=>af 30 [0,(z46+(-8))]/\af 21 [cr,z49]/\ch 0 127 21 [cr,z49,0] λFR=>af 30 [1,(z46+(-8))]/\af 21 [cr,(z49+
 1)]/\ch 0 127 21 [cr,(z49+1),0] λFT=>af 30 [2,(z46+(-8))]/\af 21 [cr,(z49+2)]/\ch 0 127 21 [cr,(z49+2),0] λFU=>af 30 [3,(z46
 +(-8))]/\af 21 [cr,(z49+3)]/\ch 0 127 21 [cr,(z49+3),0] λFV=>af 30 [4,(z46+(-8))]/\af 21 [cr,(z49+4)]/\ch 0 127 21 [cr,(z49+
 4),0] λFW=>af 30 [5,(z46+(-8))]/\af 21 [cr,(z49+5)]/\ch 0 127 21 [cr,(z49+5),0] λFX=>af 30 [6,(z46+(-8))]/\af 21 [cr,(z49+
 6)]/\ch 0 127 21 [cr,(z49+6),0] λFY=>af 30 [7,(z46+(-8))]/\af 21 [cr,(z49+7)]/\ch 0 127 21 [cr,(z49+7),0] λFZ=>cB λy0=>
 y0<=hO .u64->y0=cy .or .u64 (qw+((256*z53)+((65536*gG)+((16777216*yW)+((4294967296*yX)+((1099511627776*yY)+
 ((281474976710656*yZ)+(72057594037927936*z59)))))))) (FR+((256*FT)+((65536*FU)+((16777216*FV)+((4294967296*FW)+((1099511627776*
 FX)+((281474976710656*FY)+(72057594037927936*FZ))))))))->af 30 [0,(z46+(-16))]/\af 21 [cr,jG]/\ch 0 127 21 [cr,jG,0] λF1=>af
 30 [1,(z46+(-16))]/\af 21 [cr,(jG+1)]/\ch 0 127 21 [cr,(jG+1),0] λz70=>af 30 [2,(z46+(-16))]/\af 21 [cr,(jG+2)]/\ch 0 127 21
 [cr,(jG+2),0] λCk=>af 30 [3,(z46+(-16))]/\af 21 [cr,(jG+3)]/\ch 0 127 21 [cr,(jG+3),0] λz72=>af 30 [4,(z46+(-16))]/\af
 21 [cr,(jG+4)]/\ch 0 127 21 [cr,(jG+4),0] λF2=>af 30 [5,(z46+(-16))]/\af 21 [cr,(jG+5)]/\ch 0 127 21 [cr,(jG+5),0] λF3=>
 af 30 [6,(z46+(-16))]/\af 21 [cr,(jG+6)]/\ch 0 127 21 [cr,(jG+6),0] λz75=>af 30 [7,(z46+(-16))]/\af 21 [cr,(jG+7)]/\ch 0
 127 21 [cr,(jG+7),0] λz76=>af 30 [0,(z46+(-24))]/\af 21 [cr,z51]/\ch 0 127 21 [cr,z51,0] λs8=>af 30 [1,(z46+(-24))]/\af 21
 [cr,(z51+1)]/\ch 0 127 21 [cr,(z51+1),0] λwD=>af 30 [2,(z46+(-24))]/\af 21 [cr,(z51+2)]/\ch 0 127 21 [cr,(z51+2),0] λaaa=>
 af 30 [3,(z46+(-24))]/\af 21 [cr,(z51+3)]/\ch 0 127 21 [cr,(z51+3),0] λaab=>af 30 [4,(z46+(-24))]/\af 21 [cr,(z51+4)]/\ch 0
 127 21 [cr,(z51+4),0] λaac=>af 30 [5,(z46+(-24))]/\af 21 [cr,(z51+5)]/\ch 0 127 21 [cr,(z51+5),0] λaad=>af 30 [6,(z46+(-24))]
 /\af 21 [cr,(z51+6)]/\ch 0 127 21 [cr,(z51+6),0] λaae=>af 30 [7,(z46+(-24))]/\af 21 [cr,(z51+7)]/\ch 0 127 21 [cr,(z51+7),0]
 λaaf=>cB λz85=>z85<=hO .u64->z85=cy .or .u64 (F1+((256*z70)+((65536*Ck)+((16777216*z72)+((4294967296*F2)+
 ((1099511627776*F3)+((281474976710656*z75)+(72057594037927936*z76)))))))) (s8+((256*wD)+((65536*aaa)+((16777216*aab)+((4294967296*
 aac)+((1099511627776*aad)+((281474976710656*aae)+(72057594037927936*aaf))))))))->cB λKa=>Ka<=hO .u64->Ka=cy .or .u64 y0
 z85->cB λz87=>z87<=hO .u64->z87=cy .and .u64 Ka 9259542123273814144->(ak (decide (z87=0)) (af 32 [32,z46,z46]/\(af 68 [z46,gx]
 ->ch 0 bU 33 [0,32,gx] λF4=>af 22 [cr,F4,((z46+F4)+(-32))]/\af 40 [(gx+(-32)),gx]/\bq 22 [cr,F4,((z46+F4)+
 (-32))] λKb=>(Lm [[Kb],[(z46+(-32))],[(gx+(-32))]]/\aa3 [[Kb],[(z46+(-32))],[(gx+(-32))]]<aa3 [[cr],[z46],[gx]]))) ((u9
 [[cr],[z46],[gx]]/\qD [[cr],[z46],[gx]]<qD [[z7],[z8],[z9]]))))))) ((u9 [[cr],[z46],[gx]]/\qD [[cr],[z46],[gx]]<qD [[z7],[z8],[z9]])))))) (af
 22 [z7,aE,((z8+aE)+(-9))]/\af 40 [(z9+(-9)),z9]/\bq 22 [z7,aE,((z8+aE)+(-9))] λmv=>(u9 [[mv],[(z8+(-9))],[(z9+(-9))]]/\qD
 [[mv],[(z8+(-9))],[(z9+(-9))]]<qD [[z7],[z8],[z9]]))))) (af 22 [z7,aE,((z8+aE)+(-9))]/\af 40 [(z9+(-9)),z9]/\bq 22 [z7,aE,((z8+aE)+
 (-9))] λcx=>(u9 [[cx],[(z8+(-9))],[(z9+(-9))]]/\qD [[cx],[(z8+(-9))],[(z9+(-9))]]<qD [[z7],[z8],[z9]]))))) (af 22 [z7,z12,((z8+z12)+
 (-1))]/\af 40 [(z9+(-1)),z9]/\bq 22 [z7,z12,((z8+z12)+(-1))] λaE=>(u9 [[aE],[(z8+(-1))],[(z9+(-1))]]/\qD [[aE],[(z8+(-1))],[(z9+
 (-1))]]<qD [[z7],[z8],[z9]])))) (af 22 [z7,z12,((z8+z12)+(-1))]/\af 40 [(z9+(-1)),z9]/\bq 22 [z7,z12,((z8+z12)+(-1))] λaA=>(u9
 [[aA],[(z8+(-1))],[(z9+(-1))]]/\qD [[aA],[(z8+(-1))],[(z9+(-1))]]<qD [[z7],[z8],[z9]]))))) (K [[z0]] [[(cond (true) 1 0)]])))
def SI (bl:List (List Int)):Prop:=(bl.getD 1 []).getD 0 0=((ab ((bl.getD 0 []).getD 0 0)).length:Int)
def SJ (bl:List (List Int)):Nat:=((bl.getD 1 []).getD 0 0).toNat
def abJ (m:Int) (bl:List (List Int)):Prop:=SI bl/\(bl.getD 1 []).getD 0 0<=m
theorem wx {z r a c:Int} (h:z=aw 33 [r,a,c]):(a=c->z=r)/\(a≠c->z=r+a):=by
 have h:z=if a=c then r else r+a:=h
 exact⟨λe=>by rw[h,if_pos e],λe=>by rw[h,if_neg e]⟩
theorem yT {z c a b:Int} (h:z=aw 22 [c,a,b]) (h0:0<=a) (h1:a<=b) (h2:b<=((ab c).length:Int)):((ab z).length:Int)=b-a:=by
 rw[h];show((ab (rc (((ab c).drop a.toNat).take (b.toNat-a.toNat)))).length:Int)=b-a;rw[du,m5,qB];omega
set_option maxHeartbeats 4000000 in
theorem aoo:Lb SB (ez SB [.d .bool] 640):=by
 delta Lb ak bN ch cB dC aI di bq aZ bU;dsimp only
 intro z0 aoM ayd;intro ae aoN;intro z2 aoO ayg;intro z3 axT ayh Iv;have Iv:z3=((ab z0).length:Int):=Iv;intro z4 axU ayi ed;have ed:z4=min z2 z3:=ed;refine⟨⟨by omega,by omega,by omega⟩,?_⟩;refine⟨(λ(h:(0:Int)<=_)=>show(0:Int)<=_ by omega),?_⟩;intro z5 ax1 ayo mc;have mc:=yT mc (by omega) (by omega) (by omega);refine⟨SI,SJ,(show z3=((ab z5).length:Int) by omega),?_⟩;intro z7 ax4 ayr;intro z8 ax5 ays;intro z9 ax8 ayv;intro hI;have hI:z8=((ab z7).length:Int):=hI;intro av axQ;refine⟨λc1=>?_,λc1=>?_⟩
 ·have c1:=of_decide_eq_true c1;refine⟨⟨by omega,by omega⟩,?_⟩;refine⟨⟨by omega,by omega⟩,?_⟩;intro aj _ _ _;refine⟨⟨by omega,by omega,by omega⟩,?_⟩;intro g1;have g1:z8<=z9∨z8=0:=g1;intro z12 axR aye We;have We:=wx We;refine⟨λc2=>?_,λc2=>?_⟩
  ·have c2:=of_decide_eq_true c2;refine⟨⟨by omega,by omega⟩,?_⟩;refine⟨⟨by omega,by omega⟩,?_⟩;intro aA _ _ _;refine⟨⟨by omega,by omega⟩,?_⟩;refine⟨⟨by omega,by omega⟩,?_⟩;intro aB _ _ _;refine⟨⟨by omega,by omega⟩,?_⟩;refine⟨⟨by omega,by omega⟩,?_⟩;intro au _ _ _;refine⟨⟨by omega,by omega⟩,?_⟩;refine⟨⟨by omega,by omega⟩,?_⟩;intro aT _ _ _;refine⟨⟨by omega,by omega⟩,?_⟩;refine⟨⟨by omega,by omega⟩,?_⟩;intro bz _ _ _;refine⟨⟨by omega,by omega⟩,?_⟩;refine⟨⟨by omega,by omega⟩,?_⟩;intro aF _ _ _;refine⟨⟨by omega,by omega⟩,?_⟩;refine⟨⟨by omega,by omega⟩,?_⟩;intro cL _ _ _;refine⟨⟨by omega,by omega⟩,?_⟩;refine⟨⟨by omega,by omega⟩,?_⟩;intro z20 _ _ _;intro z21 _ _ _;refine⟨λc3=>?_,λc3=>?_⟩
   ·have c3:=of_decide_eq_true c3;refine⟨⟨by omega,by omega,by omega⟩,?_⟩;intro g2;have g2:(z8+(-1))<=(z9+(-1))∨(z8+(-1))=0:=g2;intro aE aoP aoV EH;have EH:=wx EH;refine⟨λc4=>?_,λc4=>?_⟩
    ·have c4:=of_decide_eq_true c4;refine⟨⟨by omega,by omega,by omega⟩,?_⟩;intro g3;have g3:(z8+(-9))<=(z9+(-9))∨(z8+(-9))=0:=g3;intro cx aoQ aoW EI;have EI:=wx EI;refine⟨⟨by omega,by omega⟩,?_⟩;refine⟨⟨by omega,by omega⟩,?_⟩;intro z24 _ _ _;refine⟨⟨by omega,by omega⟩,?_⟩;refine⟨⟨by omega,by omega⟩,?_⟩;intro dP _ _ _;refine⟨⟨by omega,by omega⟩,?_⟩;refine⟨⟨by omega,by omega⟩,?_⟩;intro cn _ _ _;refine⟨⟨by omega,by omega⟩,?_⟩;refine⟨⟨by omega,by omega⟩,?_⟩;intro kM _ _ _;refine⟨⟨by omega,by omega⟩,?_⟩;refine⟨⟨by omega,by omega⟩,?_⟩;intro z28 _ _ _;refine⟨⟨by omega,by omega⟩,?_⟩;refine⟨⟨by omega,by omega⟩,?_⟩;intro ic _ _ _;refine⟨⟨by omega,by omega⟩,?_⟩;refine⟨⟨by omega,by omega⟩,?_⟩;intro kp _ _ _;refine⟨⟨by omega,by omega⟩,?_⟩;refine⟨⟨by omega,by omega⟩,?_⟩;intro z31 _ _ _;refine⟨⟨by omega,by omega⟩,?_⟩;refine⟨⟨by omega,by omega⟩,?_⟩;intro ll _ _ _;refine⟨⟨by omega,by omega⟩,?_⟩;refine⟨⟨by omega,by omega⟩,?_⟩;intro nI _ _ _;refine⟨⟨by omega,by omega⟩,?_⟩;refine⟨⟨by omega,by omega⟩,?_⟩;intro qu _ _ _;refine⟨⟨by omega,by omega⟩,?_⟩;refine⟨⟨by omega,by omega⟩,?_⟩;intro uS _ _ _;refine⟨⟨by omega,by omega⟩,?_⟩;refine⟨⟨by omega,by omega⟩,?_⟩;intro uT _ _ _;refine⟨⟨by omega,by omega⟩,?_⟩;refine⟨⟨by omega,by omega⟩,?_⟩;intro z37 _ _ _;refine⟨⟨by omega,by omega⟩,?_⟩;refine⟨⟨by omega,by omega⟩,?_⟩;intro s6 _ _ _;refine⟨⟨by omega,by omega⟩,?_⟩;refine⟨⟨by omega,by omega⟩,?_⟩;intro uU _ _ _;intro z40 _ _ _;intro qv _ _ _;refine⟨λc5=>?_,λc5=>?_⟩
     ·have c5:=of_decide_eq_true c5;refine⟨⟨by omega,by omega,by omega⟩,?_⟩;intro g4;have g4:(z8+(-9))<=(z9+(-9))∨(z8+(-9))=0:=g4;intro mv aoR aoX EJ;have EJ:=wx EJ;refine⟨⟨by omega,by omega,by omega⟩,?_⟩;refine⟨(λ(h:(0:Int)<=_)=>show(0:Int)<=_ by omega),?_⟩;intro rM axV ayj Wg;have Wg:=yT Wg (by omega) (by omega) (by omega);refine⟨abJ (z8+(-25)),SJ,⟨(show z8+(-25)=((ab rM).length:Int) by omega),(show z8+(-25)<=z8+(-25) by omega)⟩,?_⟩;intro cr axW ayk;intro z46 axX ayl;intro gx axY aym
      rintro⟨hJ,UO⟩
      have hJ:z46=((ab cr).length:Int):=hJ;have UO:z46<=z8+(-25):=UO;intro s7 axZ;refine⟨λff=>?_,λff=>?_⟩
      ·have ff:=of_decide_eq_true ff;refine⟨⟨by omega,by omega,by omega⟩,?_⟩;intro g5;have g5:z46<=gx∨z46=0:=g5;intro z49 ax0 ayn Wh;have Wh:=wx Wh;refine⟨⟨by omega,by omega,by omega⟩,?_⟩;intro g6;have g6:z46<=gx∨z46=0:=g6;intro jG ax2 ayp Wi;have Wi:=wx Wi;refine⟨⟨by omega,by omega,by omega⟩,?_⟩;intro g7;have g7:z46<=gx∨z46=0:=g7;intro z51 ax3 ayq Wj;have Wj:=wx Wj;refine⟨⟨by omega,by omega⟩,?_⟩;refine⟨⟨by omega,by omega⟩,?_⟩;intro qw _ _ _;refine⟨⟨by omega,by omega⟩,?_⟩;refine⟨⟨by omega,by omega⟩,?_⟩;intro z53 _ _ _;refine⟨⟨by omega,by omega⟩,?_⟩;refine⟨⟨by omega,by omega⟩,?_⟩;intro gG _ _ _;refine⟨⟨by omega,by omega⟩,?_⟩;refine⟨⟨by omega,by omega⟩,?_⟩;intro yW _ _ _;refine⟨⟨by omega,by omega⟩,?_⟩;refine⟨⟨by omega,by omega⟩,?_⟩;intro yX _ _ _;refine⟨⟨by omega,by omega⟩,?_⟩;refine⟨⟨by omega,by omega⟩,?_⟩;intro yY _ _ _;refine⟨⟨by omega,by omega⟩,?_⟩;refine⟨⟨by omega,by omega⟩,?_⟩;intro yZ _ _ _;refine⟨⟨by omega,by omega⟩,?_⟩;refine⟨⟨by omega,by omega⟩,?_⟩;intro z59 _ _ _;refine⟨⟨by omega,by omega⟩,?_⟩;refine⟨⟨by omega,by omega⟩,?_⟩;intro FR _ _ _;refine⟨⟨by omega,by omega⟩,?_⟩;refine⟨⟨by omega,by omega⟩,?_⟩;intro FT _ _ _;refine⟨⟨by omega,by omega⟩,?_⟩;refine⟨⟨by omega,by omega⟩,?_⟩;intro FU _ _ _;refine⟨⟨by omega,by omega⟩,?_⟩;refine⟨⟨by omega,by omega⟩,?_⟩;intro FV _ _ _;refine⟨⟨by omega,by omega⟩,?_⟩;refine⟨⟨by omega,by omega⟩,?_⟩;intro FW _ _ _;refine⟨⟨by omega,by omega⟩,?_⟩;refine⟨⟨by omega,by omega⟩,?_⟩;intro FX _ _ _;refine⟨⟨by omega,by omega⟩,?_⟩;refine⟨⟨by omega,by omega⟩,?_⟩;intro FY _ _ _;refine⟨⟨by omega,by omega⟩,?_⟩;refine⟨⟨by omega,by omega⟩,?_⟩;intro FZ _ _ _;intro y0 _ _ _;refine⟨⟨by omega,by omega⟩,?_⟩;refine⟨⟨by omega,by omega⟩,?_⟩;intro F1 _ _ _;refine⟨⟨by omega,by omega⟩,?_⟩;refine⟨⟨by omega,by omega⟩,?_⟩;intro z70 _ _ _;refine⟨⟨by omega,by omega⟩,?_⟩;refine⟨⟨by omega,by omega⟩,?_⟩;intro Ck _ _ _;refine⟨⟨by omega,by omega⟩,?_⟩;refine⟨⟨by omega,by omega⟩,?_⟩;intro z72 _ _ _;refine⟨⟨by omega,by omega⟩,?_⟩;refine⟨⟨by omega,by omega⟩,?_⟩;intro F2 _ _ _;refine⟨⟨by omega,by omega⟩,?_⟩;refine⟨⟨by omega,by omega⟩,?_⟩;intro F3 _ _ _;refine⟨⟨by omega,by omega⟩,?_⟩;refine⟨⟨by omega,by omega⟩,?_⟩;intro z75 _ _ _;refine⟨⟨by omega,by omega⟩,?_⟩;refine⟨⟨by omega,by omega⟩,?_⟩;intro z76 _ _ _;refine⟨⟨by omega,by omega⟩,?_⟩;refine⟨⟨by omega,by omega⟩,?_⟩;intro s8 _ _ _;refine⟨⟨by omega,by omega⟩,?_⟩;refine⟨⟨by omega,by omega⟩,?_⟩;intro wD _ _ _;refine⟨⟨by omega,by omega⟩,?_⟩;refine⟨⟨by omega,by omega⟩,?_⟩;intro aaa _ _ _;refine⟨⟨by omega,by omega⟩,?_⟩;refine⟨⟨by omega,by omega⟩,?_⟩;intro aab _ _ _;refine⟨⟨by omega,by omega⟩,?_⟩;refine⟨⟨by omega,by omega⟩,?_⟩;intro aac _ _ _;refine⟨⟨by omega,by omega⟩,?_⟩;refine⟨⟨by omega,by omega⟩,?_⟩;intro aad _ _ _;refine⟨⟨by omega,by omega⟩,?_⟩;refine⟨⟨by omega,by omega⟩,?_⟩;intro aae _ _ _;refine⟨⟨by omega,by omega⟩,?_⟩;refine⟨⟨by omega,by omega⟩,?_⟩;intro aaf _ _ _;intro z85 _ _ _;intro Ka _ _ _;intro z87 _ _ _;refine⟨λj7=>?_,λj7=>?_⟩
       ·have j7:=of_decide_eq_true j7;refine⟨⟨by omega,by omega,by omega⟩,?_⟩;intro g8;have g8:z46<=gx∨z46=0:=g8;intro F4 ax6 ayt Wk;have Wk:=wx Wk;refine⟨⟨by omega,by omega,by omega⟩,?_⟩;refine⟨(λ(h:(0:Int)<=_)=>show(0:Int)<=_ by omega),?_⟩;intro Kb ax7 ayu Wl;have Wl:=yT Wl (by omega) (by omega) (by omega);exact⟨⟨(show(z46+(-32))=((ab Kb).length:Int) by omega),(show(z46+(-32))<=z8+(-25) by omega)⟩,(show((z46+(-32))).toNat<(z46).toNat by omega)⟩
       ·have j7:=of_decide_eq_false j7;exact⟨(show z46=((ab cr).length:Int) by omega),(show(z46).toNat<(z8).toNat by omega)⟩
      ·have ff:=of_decide_eq_false ff;exact⟨(show z46=((ab cr).length:Int) by omega),(show(z46).toNat<(z8).toNat by omega)⟩
     ·have c5:=of_decide_eq_false c5;refine⟨⟨by omega,by omega,by omega⟩,?_⟩;refine⟨(λ(h:(0:Int)<=_)=>show(0:Int)<=_ by omega),?_⟩;intro mv aoR aoX EJ;have EJ:=yT EJ (by omega) (by omega) (by omega);exact⟨(show(z8+(-9))=((ab mv).length:Int) by omega),(show((z8+(-9))).toNat<(z8).toNat by omega)⟩
    ·have c4:=of_decide_eq_false c4;refine⟨⟨by omega,by omega,by omega⟩,?_⟩;refine⟨(λ(h:(0:Int)<=_)=>show(0:Int)<=_ by omega),?_⟩;intro cx aoQ aoW EI;have EI:=yT EI (by omega) (by omega) (by omega);exact⟨(show(z8+(-9))=((ab cx).length:Int) by omega),(show((z8+(-9))).toNat<(z8).toNat by omega)⟩
   ·have c3:=of_decide_eq_false c3;refine⟨⟨by omega,by omega,by omega⟩,?_⟩;refine⟨(λ(h:(0:Int)<=_)=>show(0:Int)<=_ by omega),?_⟩;intro aE aoP aoV EH;have EH:=yT EH (by omega) (by omega) (by omega);exact⟨(show(z8+(-1))=((ab aE).length:Int) by omega),(show((z8+(-1))).toNat<(z8).toNat by omega)⟩
  ·have c2:=of_decide_eq_false c2;refine⟨⟨by omega,by omega,by omega⟩,?_⟩;refine⟨(λ(h:(0:Int)<=_)=>show(0:Int)<=_ by omega),?_⟩;intro aA axS ayf Wf;have Wf:=yT Wf (by omega) (by omega) (by omega);exact⟨(show(z8+(-1))=((ab aA).length:Int) by omega),(show((z8+(-1))).toNat<(z8).toNat by omega)⟩
 ·have c1:=of_decide_eq_false c1;exact⟨⟨by decide,by decide,trivial⟩,rfl⟩
end Go.bE
namespace Go.bE
open Go Go.ba
def RT (S:zzS) (K:zzK):Prop:=
 sT λz0=>fr 0 1073741823 (1073741824*z0) 4294967296 λae=>fr 0 1073741823 z0 4 λz2=>cB λz3=>z3<=hO .u32->z3=cy .xor .u32 0
 ((1073741824*z0)+(((-4294967296)*ae)+z2))->fr 0 524287 (524288*z0) 4294967296 λz4=>fr 0 524287 z0 8192 λz5=>cB λz6=>z6<=hO
 .u32->z6=cy .xor .u32 z3 ((524288*z0)+(((-4294967296)*z4)+z5))->fr 0 1023 (1024*z0) 4294967296 λz7=>fr 0 1023 z0 4194304 λz8=>cB λ
 z9=>z9<=hO .u32->z9=cy .xor .u32 z6 ((1024*z0)+(((-4294967296)*z7)+z8))->K [[z0]] [[z9]]
def RU (S:zzS) (K:zzK):Prop:=
 sT λz0=>fr 0 67108863 (67108864*z0) 4294967296 λae=>fr 0 67108863 z0 64 λz2=>cB λz3=>z3<=hO .u32->z3=cy .xor .u32 0
 ((67108864*z0)+(((-4294967296)*ae)+z2))->fr 0 2097151 (2097152*z0) 4294967296 λz4=>fr 0 2097151 z0 2048 λz5=>cB λz6=>z6<=hO
 .u32->z6=cy .xor .u32 z3 ((2097152*z0)+(((-4294967296)*z4)+z5))->fr 0 127 (128*z0) 4294967296 λz7=>fr 0 127 z0 33554432 λz8=>cB λ
 z9=>z9<=hO .u32->z9=cy .xor .u32 z6 ((128*z0)+(((-4294967296)*z7)+z8))->K [[z0]] [[z9]]
def RV (S:zzS) (K:zzK):Prop:=
 sT λz0=>fr 0 33554431 (33554432*z0) 4294967296 λae=>fr 0 33554431 z0 128 λz2=>cB λz3=>z3<=hO .u32->z3=cy .xor .u32 0
 ((33554432*z0)+(((-4294967296)*ae)+z2))->fr 0 16383 (16384*z0) 4294967296 λz4=>fr 0 16383 z0 262144 λz5=>cB λz6=>z6<=hO .u32
 ->z6=cy .xor .u32 z3 ((16384*z0)+(((-4294967296)*z4)+z5))->fr 0 536870911 z0 8 λz7=>cB λz8=>z8<=hO .u32->z8=cy .xor .u32
 z6 z7->K [[z0]] [[z8]]
def RW (S:zzS) (K:zzK):Prop:=
 sT λz0=>fr 0 32767 (32768*z0) 4294967296 λae=>fr 0 32767 z0 131072 λz2=>cB λz3=>z3<=hO .u32->z3=cy .xor .u32 0 ((32768*
 z0)+(((-4294967296)*ae)+z2))->fr 0 8191 (8192*z0) 4294967296 λz4=>fr 0 8191 z0 524288 λz5=>cB λz6=>z6<=hO .u32->z6=cy
 .xor .u32 z3 ((8192*z0)+(((-4294967296)*z4)+z5))->fr 0 4194303 z0 1024 λz7=>cB λz8=>z8<=hO .u32->z8=cy .xor .u32 z6 z7->K
 [[z0]] [[z8]]
theorem apm (w n:Nat) (hn:n<=w) (z q r:Int) (h1:0<=2^(w-n)*z-2^w*q) (h2:2^(w-n)*z-2^w*q<2^w) (h3:0<=z-2^n*r) (h4:z-2^n*r<2^n):(2^(w-n)*z-2^w*q)+r=fU w n z:=by
 have e:(2:Int)^w=2^(w-n)*2^n:=by rw[<-Int.pow_add];congr 1;omega
 have p1:(0:Int)<2^(w-n):=Int.pow_pos (by decide);have br:(0:Int)<2^n:=Int.pow_pos (by decide);have tO:z/2^n=r:=by
  rw[aa0 br];constructor
  ·rw[wJ];omega
  ·rw[wJ r];omega
 have eq:q=r:=by
  rw[e]at h1 h2;have f1:2^(w-n)*z-2^(w-n)*2^n*q=2^(w-n)*(z-2^n*q):=by rw[Int.mul_sub,Int.mul_assoc]
  rw[f1]at h1 h2;have g1:0<=z-2^n*q:=by
   rcases Int.lt_or_le (z-2^n*q) 0 with h|h
   ·have:=Int.mul_neg_of_pos_of_neg p1 h;omega
   ·exact h
  have g2:z-2^n*q<2^n:=Int.lt_of_mul_lt_mul_left h2 (Int.le_of_lt p1);have:=tO;rw[aa0 br]at this;have h5:z/2^n=q:=by
   rw[aa0 br];constructor
   ·rw[wJ];omega
   ·rw[wJ q];omega
  rw[<-h5,tO]
 subst eq;unfold fU;rw[tO,Int.emod_def,tO,e,Int.mul_assoc,<-Int.mul_sub,wJ (z-2^n*q) _];omega
theorem sV (w n:Nat) (hn:n<=w) (A B D:Int) (hA:A=2^(w-n)) (hB:B=2^w) (hD:D=2^n) {z q r:Int} (h1:0<=A*z-B*q) (h2:A*z-B*q<B) (h3:0<=z-D*r) (h4:z-D*r<D):A*z+(-B*q+r)=fU w n z:=by
 subst hA;subst hB;subst hD;rw[<-apm w n hn z q r h1 h2 h3 h4,Int.neg_mul];omega
theorem ans:RT SB (aW SB [oL] 444):=by
 intro z0 a0 a1 ae q1 Fb p1 yw z2 q2 v8 br yx z3 q3 yH e3 z4 db PG dh yy z5 iQ PH dD yz z6 lO PI lA z7 rD PJ oU E7 z8 mm Fe BD Py z9 sS PK l6;have r1:=sV 32 2 (by decide) 1073741824 4294967296 4 (by decide) (by decide) (by decide) p1 yw br yx;have fL:=sV 32 13 (by decide) 524288 4294967296 8192 (by decide) (by decide) (by decide) dh yy dD yz;have yJ:=sV 32 22 (by decide) 1024 4294967296 4194304 (by decide) (by decide) (by decide) oU E7 BD Py;refine⟨⟨sS,PK,trivial⟩,?_⟩;show [[z9]]=[[zE cl z0]];rw[l6,lA,e3,r1,fL,yJ];rfl
theorem ant:RU SB (aW SB [oL] 445):=by
 intro z0 a0 a1 ae q1 Fb p1 yw z2 q2 v8 br yx z3 q3 yH e3 z4 db PG dh yy z5 iQ PH dD yz z6 lO PI lA z7 rD PJ oU E7 z8 mm Fe BD Py z9 sS PK l6;have r1:=sV 32 6 (by decide) 67108864 4294967296 64 (by decide) (by decide) (by decide) p1 yw br yx;have fL:=sV 32 11 (by decide) 2097152 4294967296 2048 (by decide) (by decide) (by decide) dh yy dD yz;have yJ:=sV 32 25 (by decide) 128 4294967296 33554432 (by decide) (by decide) (by decide) oU E7 BD Py;refine⟨⟨sS,PK,trivial⟩,?_⟩;show [[z9]]=[[zF cl z0]];rw[l6,lA,e3,r1,fL,yJ];rfl
theorem anu:RV SB (aW SB [oL] 446):=by
 intro z0 a0 a1 ae q1 Fb p1 yw z2 q2 v8 br yx z3 q3 yH e3 z4 db PG dh yy z5 iQ PH dD yz z6 lO PI lA z7 rD PJ oU E7 z8 mm Fe pa;have r1:=sV 32 7 (by decide) 33554432 4294967296 128 (by decide) (by decide) (by decide) p1 yw br yx;have fL:=sV 32 18 (by decide) 16384 4294967296 262144 (by decide) (by decide) (by decide) dh yy dD yz;have yJ:z7=z0/2^3:=by rw[show(2:Int)^3=8 by decide];omega
 refine⟨⟨mm,Fe,trivial⟩,?_⟩;show [[z8]]=[[FB cl z0]];rw[pa,lA,e3,r1,fL,yJ];rfl
theorem anv:RW SB (aW SB [oL] 447):=by
 intro z0 a0 a1 ae q1 Fb p1 yw z2 q2 v8 br yx z3 q3 yH e3 z4 db PG dh yy z5 iQ PH dD yz z6 lO PI lA z7 rD PJ oU E7 z8 mm Fe pa;have r1:=sV 32 17 (by decide) 32768 4294967296 131072 (by decide) (by decide) (by decide) p1 yw br yx;have fL:=sV 32 19 (by decide) 8192 4294967296 524288 (by decide) (by decide) (by decide) dh yy dD yz;have yJ:z7=z0/2^10:=by rw[show(2:Int)^10=1024 by decide];omega
 refine⟨⟨mm,Fe,trivial⟩,?_⟩;show [[z8]]=[[FC cl z0]];rw[pa,lA,e3,r1,fL,yJ];rfl
end Go.bE
namespace Go.bE
open Go Go.ba
def KB (S:zzS) (K:zzK):Prop:=
 di λz0=>(af 66 [z0]->cB λae=>bN (-2) aZ λz2=>aI 20 [z0] λz3=>(af 53 [z2,z3]->(ak (decide (z2=(-1))) (K [[z0]]
 [[0]]) (af 22 [z0,0,z3]/\af 23 [0,z3]/\bq 22 [z0,0,z3] λz4=>bq 24 [0,z4] λz5=>(ak (decide (z3<=0)) (K [[z0]] [[0]]) (bN (-2)
 aZ λz6=>af 22 [z5,0,z3]/\bq 22 [z5,0,z3] λz7=>K [[z0]] [[z7]]))))))
def K7 (S:zzS) (K:zzK):Prop:=
 bN (-9223372036854775808) aZ λz0=>bN (-9223372036854775808) aZ λae=>(ak (decide (z0<0)) (K [[z0],[ae]] [[0]]) ((ak
 (decide (1099511627776<z0)) (K [[z0],[ae]] [[0]]) ((ak ((!(decide (ae=32)))) ((ak ((!(decide (ae=64)))) (K [[z0],[ae]] [[0]]) (fr (-1) 1 ((2*ae)+
 9223372036854775808) bP λz2=>af 77 [ae]/\fr 0 2305843009213693951 ae 4 λz3=>af 36 [((2*ae)+(ax*z2))]
 /\ch 0 2305844108725321728 38 [((z0+z3)+1),((2*ae)+(ax*z2))] λz4=>fr (-1) 0 (((2*ae)+((ax*z2)+
 ((-1)*z4)))+9223372036854775808) bP λz5=>af 77 [((2*ae)+((ax*z2)+(((-1)*z4)+
 (ax*z5))))]/\af 36 [((2*ae)+(ax*z2))]/\ch 0 9223372036854775806 38 [((2*ae)+
 ((ax*z2)+(((-1)*z4)+(ax*z5)))),((2*ae)+(ax*z2))] λz6=>bk ((z0+(z3+z6))+
 bU) bP λz7=>K [[z0],[ae]] [[((z0+(z3+(z6+(ax*z7))))+1)]]))) (fr (-1) 1 ((2*ae)+
 9223372036854775808) bP λz2=>af 77 [ae]/\fr 0 2305843009213693951 ae 4 λz3=>af 36 [((2*ae)+(ax*z2))]
 /\ch 0 2305844108725321728 38 [((z0+z3)+1),((2*ae)+(ax*z2))] λz4=>fr (-1) 0 (((2*ae)+((ax*z2)+
 ((-1)*z4)))+9223372036854775808) bP λz5=>af 77 [((2*ae)+((ax*z2)+(((-1)*z4)+
 (ax*z5))))]/\af 36 [((2*ae)+(ax*z2))]/\ch 0 9223372036854775806 38 [((2*ae)+
 ((ax*z2)+(((-1)*z4)+(ax*z5)))),((2*ae)+(ax*z2))] λz6=>bk ((z0+(z3+z6))+
 bU) bP λz7=>K [[z0],[ae]] [[((z0+(z3+(z6+(ax*z7))))+1)]]))))))
theorem qm {c l z:Int} (h:z=aw 22 [c,0,l]) (hl:l=((ab c).length:Int)):ab z=ab c:=by
 rw[h];show ab (rc (((ab c).drop (0:Int).toNat).take (l.toNat-(0:Int).toNat)))=_
 rw[du,hl];simp
theorem alw {c:Int} (h:((ab c).length:Int)=0):ab c=[]:=tl (by omega)
theorem anj:KB SB (ez SB [Ji] 462):=by
 delta KB ak bN cB aI di bq aZ;dsimp only
 intro z0 a0 a1 hp ae b1 z2 bA c1 z3 d0 d1 h3 hn;have h3:z3=((ab z0).length:Int):=h3;have hl:(ab z0).length<=1000000:=hp;have hn:z2<0->z3=0:=hn;have fin:∀z,0<=z->z<=cc->ab z=ab z0->ez SB [Ji] 462 [[z0]] [[z]]:=λz h1 h2 h=>⟨⟨h1,h2,trivial⟩,h⟩;have e0:z3<=0->ez SB [Ji] 462 [[z0]] [[0]]:=λh=>fin 0 (bB _) rZ (by rw[fA,alw (c:=z0) (by omega)]);refine⟨λh=>e0 (by have h:=of_decide_eq_true h;have:=hn (by omega);omega),λh=>⟨⟨bB _,by omega,by rw[h3];exact bB _⟩,by show(ab 0).length+z3<=1073741824;rw[fA];simp only[eH];omega,λz4 f0 f1 h4 z5 g0 g1 h5=>?_⟩⟩;have h4:=qm h4 h3;have h5:ab z5=ab z0:=by
  rw[h5];show ab (rc (ab 0++ab z4))=_
  rw[du,fA,h4];rfl
 refine⟨λh=>e0 (of_decide_eq_true h),λh z6 i0 i1=>⟨⟨bB _,by omega,by rw[h3,h5];exact bB _⟩,λz7 fS da h7=>fin z7 fS da ?_⟩⟩;rw[qm h7 (by rw[h3,h5]),h5]
theorem aob:K7 SB (aW SB [zO] 440):=by
 delta K7 ak bk fr bN ch bP ax aZ bU;dsimp only
 intro z0 a0 a1 ae b0 b1;have fin:∀z:Int,-9223372036854775808<=z->z<=9223372036854775807->z=sO z0 ae->aW SB [zO] 440 [[z0],[ae]] [[z]]:=λz h1 h2 h=>⟨⟨h1,h2,trivial⟩,by show [[z]]=[[sO z0 ae]];rw[h]⟩;have bad:(z0<0∨1099511627776<z0∨(ae≠32/\ae≠64))->aW SB [zO] 440 [[z0],[ae]] [[0]]:=λh=>fin 0 (by omega) (by omega) (by unfold sO;rw[if_pos h]);refine⟨λh=>bad (.inl (of_decide_eq_true h)),λh=>⟨λh'=>bad (.inr (.inl (of_decide_eq_true h'))),λh'=>?_⟩⟩;have n0:0<=z0:=by have:=of_decide_eq_false h;omega
 have n1:z0<=1099511627776:=by have:=of_decide_eq_false h';omega
 obtain⟨N,rfl⟩:∃N:Nat,(N:Int)=z0:=⟨z0.toNat,by omega⟩;refine⟨λg=>⟨λbb=>bad (.inr (.inr ⟨by simpa using g,by simpa using bb⟩)),λbb=>?_⟩,λg=>?_⟩
 ·have hz:ae=64:=by simpa using bb
  subst hz;intro z2 bA c1 c2 c3;have:z2=0:=by omega
  subst this;refine⟨by show(0:Int)<=64;decide,λz3 d0 d1 d2 d3=>?_⟩;have:z3=16:=by omega
  subst this;refine⟨by show(0:Int)<2*64+-18446744073709551616*0;decide,λz4 e0 e1 h4 z5 f0 f1 f2 f3=>?_⟩;have h4:z4=((N:Int)+16+1)% (2*64+-18446744073709551616*0):=h4;rw[show(2*64+-18446744073709551616*0:Int)=128 by decide]at h4;have:z5=0:=by omega
  subst this;refine⟨by show(0:Int)<=_;omega,by show(0:Int)<2*64+-18446744073709551616*0;decide,λz6 g0 g1 h6 z7 i0 i1 i2 i3=>?_⟩;have h6:z6=(2*64+(-18446744073709551616*0+(-1*z4+-18446744073709551616*0)))% (2*64+-18446744073709551616*0):=h6;rw[show(2*64+-18446744073709551616*0:Int)=128 by decide]at h6;have:z7=0:=by omega
  subst this;refine fin _ (by omega) (by omega) ?_;unfold sO qj;rw[if_neg (by omega)];simp only[eW];rw[show(64:Int).toNat=64 from rfl];omega
 ·have hz:ae=32:=by simpa using g
  subst hz;intro z2 bA c1 c2 c3;have:z2=0:=by omega
  subst this;refine⟨by show(0:Int)<=32;decide,λz3 d0 d1 d2 d3=>?_⟩;have:z3=8:=by omega
  subst this;refine⟨by show(0:Int)<2*32+-18446744073709551616*0;decide,λz4 e0 e1 h4 z5 f0 f1 f2 f3=>?_⟩;have h4:z4=((N:Int)+8+1)% (2*32+-18446744073709551616*0):=h4;rw[show(2*32+-18446744073709551616*0:Int)=64 by decide]at h4;have:z5=0:=by omega
  subst this;refine⟨by show(0:Int)<=_;omega,by show(0:Int)<2*32+-18446744073709551616*0;decide,λz6 g0 g1 h6 z7 i0 i1 i2 i3=>?_⟩;have h6:z6=(2*32+(-18446744073709551616*0+(-1*z4+-18446744073709551616*0)))% (2*32+-18446744073709551616*0):=h6;rw[show(2*32+-18446744073709551616*0:Int)=64 by decide]at h6;have:z7=0:=by omega
  subst this;refine fin _ (by omega) (by omega) ?_;unfold sO qj;rw[if_neg (by omega)];simp only[eW];rw[show(32:Int).toNat=32 from rfl];omega
end Go.bE
namespace Go.bE
open Go Go.ba
def RX (S:zzS) (K:zzK):Prop:=
 bN 0 79 λz0=>af 74 [z0,80]/\bN 489312712824947311 17689382322260857208 λae=>ae=aC
 [4794697086780616226,8158064640168781261,13096744586834688815,16840607885511220156,4131703408338449720,6480981068601479193,10538285296894168987,12329834152419229976,15566598209576043074,1334009975649890238,2608012711638119052,6128411473006802146,8268148722764581231,9286055187155687089,11230858885718282805,13951009754708518548,16472876342353939154,17275323862435702243,1135362057144423861,2597628984639134821,3308224258029322869,5365058923640841347,6679025012923562964,8573033837759648693,10970295158949994411,12119686244451234320,12683024718118986047,13788192230050041572,14330467153632333762,15395433587784984357,489312712824947311,1452737877330783856,2861767655752347644,3322285676063803686,5560940570517711597,5996557281743188959,7280758554555802590,8532644243296465576,9350256976987008742,10552545826968843579,11727347734174303076,12113106623233404929,14000437183269869457,14369950271660146224,15101387698204529176,15463397548674623760,17586052441742319658,1182934255886127544,1847814050463011016,2177327727835720531,2830643537854262169,3796741975233480872,4115178125766777443,5681478168544905931,6601373596472566643,7507060721942968483,8399075790359081724,8693463985226723168,9568029438360202098,10144078919501101548,10430055236837252648,11840083180663258601,13761210420658862357,14299343276471374635,14566680578165727644,15097957966210449927,16922976911328602910,17689382322260857208,500013540394364858,748580250866718886,1242879168328830382,1977374033974150939,2944078676154940804,3659926193048069267,4368137639120453308,4836135668995329356,5532061633213252278,6448918945643986474,6902733635092675308,7801388544844847127]
 (z0).toNat 0->fr 113926993 4118630271 ae 4294967296 λz2=>K [[z0]] [[z2]]
theorem anw:RX SB (aW SB [oL] 466):=by
 intro z0 a0 a1;refine⟨⟨a0,by omega⟩,λae b0 b1 h1 z2 bA c1 c2 c3=>⟨⟨by omega,by omega,trivial⟩,?_⟩⟩;have h1:ae=BS.getD z0.toNat 0:=h1;show [[z2]]=[[BS.getD z0.toNat 0/2^(64-32)]];rw[<-h1,show(2:Int)^(64-32)=4294967296 by decide];have:z2=ae/4294967296:=by omega
 rw[this]
theorem zG (z:Int):(cm z).length=(ab z).length:=by simp[cm]
theorem Hd {z r:Int} (h:ab r=ab z):cm r=cm z:=by unfold cm;rw[h]
theorem fH {c i z:Int} (h:z=aw 21 [c,i,0]):z=(cm c).getD i.toNat 0:=by
 rw[h];show((ab c).getD i.toNat []).getD (0:Int).toNat 0=_;unfold cm;rw[oz (l:=(ab c).map _),List.getElem?_map,oz (l:=ab c)];cases(ab c)[i.toNat]?<;>rfl
theorem UD (l:List Int) (n:Nat) (h:l.length=n):l=(c8 n).map λi=>l.getD i 0:=by
 apply Rp
 ·simp[h]
 ·intro i h1 h2;simp[aC,h1]
theorem aqj (p:fw) (i:Nat) (x:Int) (v:List Int) (h:v.length=8):(uH p i x v).length=8:=by
 match v,h with
 |[a,b,c,d,e,f,g,k],_=>rfl
theorem YO (p:fw):∀(m:List Int) (i:Nat) (v:List Int),v.length=8->(wj p i m v).length=8
 |[],_,_,h=>h
 |x::m,i,v,h=>YO p m (i+1) _ (aqj p i x v h)
theorem aqC (p:fw) (h m:List Int) (hl:h.length=8):(B7 p h m).length=8:=by
 unfold B7;rw[List.length_zipWith,YO p _ _ _ hl,hl];rfl
theorem acg (p:fw):(vp p).length=8:=by simp[vp];rfl
theorem Tb (p:fw) (b:List Int):∀i,(CQ p b i (vp p)).length=8
 |0=>acg p
 |i+1=>aqC p _ _ (Tb p b i)
theorem X1 (p:fw):∀(h:List Int),(yv p h).length=h.length*(p.w/8)
 |[]=>by simp[yv]
 |x::h=>by
  have:=X1 p h;unfold yv at*;simp only[List.flatMap_cons,dn,j2,avc,this,cW];rw[Nat.succ_mul];omega
theorem LD (p:fw) (b:List Int):(tA p b).length=8*(p.w/8):=by unfold tA;rw[X1,Tb]
theorem aor (b:List Int):(vZ cl b).length=qj 32 b.length/\64∣qj 32 b.length/\qj 32 b.length<=b.length+100:=by
 have e:qj 32 b.length=(b.length+1+8+63)/64*64:=rfl;refine⟨?_,⟨(b.length+1+8+63)/64,by rw[e,Nat.mul_comm]⟩,by rw[e];omega⟩;unfold vZ xa;simp only[dn,cW,eH,aa1,j2,avc];show _+(qj 32 _-_-9)+8=qj 32 _;rw[e];omega
theorem Wz:∀(n:Nat) (l:List Int),l.length=n->(∀x∈l,0<=x/\x<=255)->bd (hW 0 255 n) l
 |0,[],_,_=>trivial
 |n+1,x::l,hl,h=>⟨(h x (by simp)).1,(h x (by simp)).2,Wz n l (by simpa using hl) λy hy=>h y (List.mem_cons_of_mem _ hy)⟩
end Go.bE
namespace Go.bE
open Go Go.ba
def K8 (S:zzS) (K:zzK):Prop:=
 di λz0=>(af 71 [z0]->cB λae=>bN (-2) aZ λz2=>aI 20 [z0] λz3=>bN (-9223372036854775808) aZ λz4=>S
 440 [[z3],[32]] [[z4]]->af 49 [z4,z4]/\bq 26 [z4,0] λz5=>bN (-2) aZ λz6=>af 80 [z5,0,z4]/\af 22 [z0,0,z3]/\aI 62
 [z3,z4] λz7=>bq 22 [z0,0,z7] λz8=>bq 63 [z5,0,z8] λz9=>af 30 [z3,z4]/\af 21 [z9,z3]/\(af 67 [z9,z3,1]->bq 42 [z9,z3,0,128] λav
 =>fr 0 3 (8*z3) bP λaj=>∃(wV:List (List Int)->Prop) (Gs:List (List Int)->Nat),wV [[((8*z3)+(ax*
 aj))],[(z4+(-1))],[av]]/\(Yi λaA=>ql λaB=>di λau=>wV [[aA],[aB],[au]]->(ak (decide (0<aA)) (fr 0 72057594037927935 aA 256 λ
 aT=>af 30 [aB,z4]/\af 21 [au,aB]/\(af 67 [au,aB,1]->bq 42 [au,aB,0,(aA+((-256)*aT))] λbz=>fr 0 72057594037927935 aA 256 λ
 aF=>af 39 [(aB+(-1)),(-1),aZ]/\(wV [[aF],[(aB+(-1))],[bz]]/\Gs [[aF],[(aB+(-1))],[bz]]<Gs [[aA],[aB],[au]])))
 (af 22 [au,0,z4]/\bq 22 [au,0,z4] λaT=>K [[z0]] [[aT]])))))
def rws (l:List Int):List (List Int):=l.map λx=>[x]
theorem LX {z:Int} {l:List Int} (h:ab z=rws l):cm z=l:=by
 unfold cm rws at*;rw[h,kN];exact(gI λx _=>rfl).trans (List.map_id l)
theorem uE (l:List Int):(rws l).length=l.length:=by simp[rws]
theorem YT (a b:List Int):rws (a++b)=rws a++rws b:=by simp[rws]
theorem Qh (n:Nat) (x:Int):rws (eX n x)=eX n [x]:=by simp[rws]
def oX (v:Nat) (j:Nat):List Int:=(c8 j).map λq=>((v/256^(j-1-q)% 256:Nat):Int)
theorem aqK (v j:Nat):(oX v j).length=j:=by simp[oX]
theorem Zt (v j:Nat):oX v (j+1)=((v/256^j% 256:Nat):Int)::oX v j:=by
 unfold oX;rw[aaR,cp,kN];refine congr (congrArg _ (by simp)) (gI λq hq=>?_);have:q<j:=List.mem_range.1 hq;simp only[Kg];rw[show j+1-1-(q+1)=j-1-q by omega]
theorem aqJ (v:Nat):∀(d j:Nat),j+d=8->v/256^j=0->xa v=eX (8-j) 0++oX v j:=by
 have base:xa v=oX v 8:=by
  unfold xa oX;refine gI λq hq=>?_;have:q<8:=List.mem_range.1 hq;have e:(256:Nat)^(8-1-q)=2^(56-8*q):=by
   rw[show(256:Nat)=2^8 by rfl,<-Nat.pow_mul];congr 1;omega
  rw[e]
 intro d;induction d with
 |zero=>
  intro j hj _;have:j=8:=by omega
  subst this;simpa using base
 |succ d ih=>
  intro j hj h0;have h1:v/256^(j+1)=0:=by rw[y3,<-Kk,h0]
  rw[ih (j+1) (by omega) h1,Zt,h0,show 8-j=(8-(j+1))+1 by omega,avd];simp
theorem Y8 {α:Type} (a b:List α) (x y:α) (n:Nat) (h:a.length=n):(a++x::b).set n y=a++y::b:=by
 subst h;induction a with
 |nil=>rfl
 |cons z a ih=>simp[ih]
theorem UC {α:Type} (a b:List α) (x d:α) (n:Nat) (h:a.length=n):(a++x::b).getD n d=x:=by
 subst h;simp[aC]
theorem aoc:K8 SB (ez SB [Jj] 442):=by
 delta K8 ak fr bN cB aI di bq Yi ql bP ax aZ;dsimp only
 intro z0 a0 a1 hp ae b0 z2 bA c1 z3 d0 d1 h3 z4 e0 e1 h4;have hp:(ab z0).length<=1000000000:=hp;have h3:z3=((ab z0).length:Int):=h3;have h4:[[z4]]=[[sO z3 32]]:=h4;obtain⟨n,hn⟩:∃n,(ab z0).length=n:=⟨_,rfl⟩;rw[hn]at h3 hp;have Nt:(cm z0).length=n:=by rw[zG,hn]
 obtain⟨P,lD⟩:∃P,qj 32 n=P:=⟨_,rfl⟩;have awq:P=(n+1+8+63)/64*64:=lD.symm;have h4:z4=(P:Int):=by
  have:z4=sO z3 32:=by simpa using h4
  rw[this];unfold sO;rw[if_neg (by omega),h3];simp only[eW];rw[show(32:Int).toNat=32 from rfl,lD]
 have g1:n+9<=P:=by omega
 have g2:P<=1000001000:=by omega
 refine⟨⟨by omega,by omega,by omega⟩,λz5 f0 f1 h5 z6 i0 i1=>?_⟩;have h5:ab z5=rws (eX P 0):=by
  rw[h5];show ab (rc (eX z4.toNat [0]))=_;rw[du,Qh,h4];simp
 have yn:(ab z5).length=P:=by rw[h5,uE];simp
 refine⟨⟨bB _,by omega,by rw[yn];omega⟩,⟨bB _,by omega,by rw[hn];omega⟩,λz7 fS da h7 z8 e7 k1 h8 z9 m0 fT a8=>?_⟩;have h7:z7=(n:Int):=by
  have:z7=min z3 z4:=h7;rw[this,h3,h4];omega
 have h8:ab z8=ab z0:=qm h8 (by rw[h7,hn]);obtain⟨aBE,OB⟩:∃l:List (List Int),ab z0=l:=⟨_,rfl⟩;have a8:ab z9=ab z0++rws (0::eX (P-n-1) 0):=by
  rw[a8];show ab (rc ((ab z5).take (0:Int).toNat++ab z8++(ab z5).drop ((0:Int).toNat+(ab z8).length)))=_;rw[du,h8,h5,hn];simp only[y2,Gm,jH,zb]
  congr 1
  rw[Qh,List.drop_replicate,<-List.replicate_succ,Qh];rw[show P-n-1+1=P-n by omega]
 have IL:(ab z9).length=P:=by rw[a8,dn,hn,uE];simp;omega
 refine⟨⟨by omega,by omega⟩,⟨by omega,by rw[IL];omega⟩,λ_ av n0 n1 dg aj yu o1 o2 axA=>?_⟩;have:aj=0:=by omega
 subst this;have dg:ab av=ab z0++rws (128::eX (P-n-1) 0):=by
  rw[dg];show ab (rc ((ab z9).set z3.toNat (((ab z9).getD z3.toNat []).take (0:Int).toNat++[128]++((ab z9).getD z3.toNat []).drop ((0:Int).toNat+[(128:Int)].length))))=_;have e1:rws (0::eX (P-n-1) 0)=[0]::rws (eX (P-n-1) 0):=rfl;have e2:rws (128::eX (P-n-1) 0)=[128]::rws (eX (P-n-1) 0):=rfl;have hl:(ab z0).length=z3.toNat:=by rw[hn,h3];simp
  rw[du,a8,e1,e2,UC _ _ _ _ _ hl];simp only[y2,Gm,jH,Rf,aaq,Ke,zb,ln];exact Y8 _ _ _ _ _ hl
 refine⟨λl=>∃(j:Nat) (c:Int),j<=8/\l=[[((8*n/256^j:Nat):Int)],[(P:Int)-1-j],[c]]/\ab c=ab z0++rws (128::eX (P-n-1-j) 0++oX (8*n) j),λl=>((l.getD 0 []).getD 0 0).toNat,⟨0,av,by decide,by
  rw[Nat.pow_zero,Nat.div_one,show(8*z3+-18446744073709551616*0:Int)=((8*n:Nat):Int) by omega,show(z4+-1:Int)=(P:Int)-1-((0:Nat):Int) by omega],by rw[dg];simp[oX]⟩,?_⟩
 intro aA p0 p1 aB q0 q1 au r0 r1 hI;obtain⟨j,c,hj,hl,hc⟩:=hI;simp only[lp,and_true]at hl;obtain⟨vu,qN,C5⟩:=hl;subst C5;have OV:(ab au).length=P:=by
  rw[hc,dn,hn,uE];simp only[dn,cW,aa1,aqK];omega
 refine⟨λgP=>?_,λIg=>⟨⟨bB _,by omega,by rw[OV];omega⟩,λaT s0 s1 kC=>⟨⟨s0,s1,trivial⟩,?_⟩⟩⟩
 ·have gP:=of_decide_eq_true gP;intro aT s0 s1 s2 eO;have awC:j<8:=by
   rcases Nat.lt_or_ge j 8 with h|h
   ·exact h
   ·have:j=8:=by omega
    subst this;have:8*n/256^8=0:=Nat.div_eq_of_lt (by omega);omega
  refine⟨⟨by omega,by omega⟩,⟨by omega,by rw[OV];omega⟩,λ_ bz t0 t1 jM aF u0 ia nF pF=>?_⟩;have qb:ab au=ab z0++rws ((128::eX (P-n-1-j-1) 0)++0::oX (8*n) j):=by
   rw[hc];congr 2;rw[show P-n-1-j=(P-n-1-j-1)+1 by omega,avd];simp
  have aif:ab bz=ab z0++rws ((128::eX (P-n-1-j-1) 0)++(aA+-256*aT)::oX (8*n) j):=by
   rw[jM];show ab (rc ((ab au).set aB.toNat (((ab au).getD aB.toNat []).take (0:Int).toNat++[aA+-256*aT]++((ab au).getD aB.toNat []).drop ((0:Int).toNat+[aA+-256*aT].length))))=_;have e1:∀x:Int,ab z0++rws ((128::eX (P-n-1-j-1) 0)++x::oX (8*n) j)=(ab z0++rws (128::eX (P-n-1-j-1) 0))++[x]::rws (oX (8*n) j):=λx=>by
    rw[YT,gJ];rfl
   have hl:(ab z0++rws (128::eX (P-n-1-j-1) 0)).length=aB.toNat:=by
    rw[dn,hn,uE];simp only[cW,aa1];omega
   rw[du,qb,e1,e1,UC _ _ _ _ _ hl];simp only[y2,Gm,jH,Rf,aaq,Ke,zb,ln];exact Y8 _ _ _ _ _ hl
  have Mo:aT=aA/256:=by omega
  have xi:aF=aA/256:=by omega
  refine⟨⟨by omega,by omega⟩,⟨j+1,bz,by omega,?_,?_⟩,?_⟩
  ·rw[show aF=((8*n/256^(j+1):Nat):Int) by rw[y3,<-Kk,xi,vu];simp,show(aB+-1:Int)=(P:Int)-1-((j+1:Nat):Int) by omega]
  ·rw[aif,Zt]
   congr 2
   rw[show P-n-1-(j+1)=P-n-1-j-1 by omega]
   congr 2
   rw[Mo,vu];omega
  ·show aF.toNat<aA.toNat;omega
 ·have Ig:=of_decide_eq_false Ig;have h0:8*n/256^j=0:=by omega
  show cm aT=vZ cl (cm z0);have kC:=qm kC (by rw[OV,h4]);have e0:ab au=ab z0++rws (128::eX (P-n-9) 0++xa (8*n)):=by
   rw[hc,aqJ (8*n) (8-j) j (by omega) h0]
   congr 2
   rw[show P-n-1-j=(P-n-9)+(8-j) by omega,<-List.replicate_append_replicate];simp only[ti,gJ]
  unfold vZ;rw[Nt,show cl.w=32 from rfl,lD];unfold cm;rw[kC,e0,fY];have:=LX (z:=rc (rws (128::eX (P-n-9) 0++xa (8*n)))) (du _);unfold cm at this;rw[du]at this;rw[this];simp
end Go.bE
namespace Go.bE
open Go Go.ba
theorem Ua (p:fw):∀(j:Nat) (m:List Int),sa p (j+1) m=sa p j m++[Bz p (sa p j m)]
 |0,m=>rfl
 |j+1,m=>by
  show sa p (j+1) (m++[Bz p m])=_;rw[Ua p j];rfl
theorem T9 (p:fw):∀(j:Nat) (m:List Int),(sa p j m).length=m.length+j
 |0,_=>rfl
 |j+1,m=>by
  show(sa p j (m++[Bz p m])).length=_;rw[T9 p j];simp;omega
theorem YP (p:fw):∀(m:List Int) (i:Nat) (x:Int) (v:List Int),wj p i (m++[x]) v=uH p (i+m.length) x (wj p i m v)
 |[],i,x,v=>rfl
 |y::m,i,x,v=>by
  show wj p (i+1) (m++[x]) _=uH p _ x (wj p (i+1) m _);rw[YP p m]
  congr 1
  simp only[cW];omega
theorem aqD (m:List Int) (i:Nat) (h:i<m.length):m.take (i+1)=m.take i++[m.getD i 0]:=by
 rw[Rb,hP h];simp[aC,h]
theorem ake {r:List Int} (h:r.length=8):r=[r.getD 0 0,r.getD 1 0,r.getD 2 0,r.getD 3 0,r.getD 4 0,r.getD 5 0,r.getD 6 0,r.getD 7 0]:=UD r 8 h
theorem MH {c z x:Int} {l:List Int} (h:z=aw 23 [c,x]) (hc:ab c=rws l):ab z=rws (l++[x]):=by
 rw[h];show ab (rc (ab c++[[x]]))=_;rw[du,hc,YT];rfl
theorem Dm {c i z:Int} {l:List Int} (h:z=aw 21 [c,i,0]) (hc:ab c=rws l):z=l.getD i.toNat 0:=by
 rw[fH h,LX hc]
theorem OF {lo hi:Int}:∀(n:Nat) (l:List Int),bd (hW lo hi n) l->l.length=n/\∀x∈l,lo<=x/\x<=hi
 |0,[],_=>⟨rfl,λ_ h=>by cases h⟩
 |n+1,x::l,h=>by
  obtain⟨h1,h2⟩:=OF n l h.2.2;refine⟨by simp[h1],λy hy=>?_⟩;rcases List.mem_cons.1 hy with rfl|hy
  ·exact⟨h.1,h.2.1⟩
  ·exact h2 y hy
 |0,_::_,h=>h.elim
 |_+1,[],h=>h.elim
theorem wv {x c l k:Int} {pre:List Int} {Next:Int->Int->Int->Prop} (hc:ab c=rws pre) (hl:l=(pre.length:Int)) (hb:pre.length<=1000)
 (hn:∀c' bQ a6:Int,0<=c'->c'<=cc->ab c'=rws (pre++(c8 4).map (qL cl x))->bQ=((pre.length+4:Nat):Int)->Next c' bQ a6):
 ∃(I:List (List Int)->Prop) (j3:List (List Int)->Nat),I [[3],[c],[l],[k]]/\(∀au:Int,(-1)<=au->au<=3->∀aT:Int,0<=aT->aT<=cc->∀bz:Int,0<=bz->bz<=9223372036854775807->∀aF:Int,(-2)<=aF->aF<=9223372036854775807->I [[au],[aT],[bz],[aF]]->
 (((decide (0<=au))=true->
  ∀cL:Int,0<=cL->cL<=4294967295->cL=x/2^((8*au)).toNat->
  ∀z20:Int,0<=z20->z20<=16777215->0<=cL-256*z20->cL-256*z20<256->
  af 31 [aT,bz]/\
  af 23 [aT,1]/\
  ∀z21:Int,0<=z21->z21<=cc->z21=aw 23 [aT,(cL+((-256)*z20))]->
  ∀aE:Int,(-2)<=aE->aE<=9223372036854775807->
  (I [[(au+(-1))],[z21],[(bz+1)],[aE]]/\j3 [[(au+(-1))],[z21],[(bz+1)],[aE]]<j3 [[au],[aT],[bz],[aF]])
 )/\((decide (0<=au))=false->Next aT bz aF))):=by
 refine⟨λl=>∃(j:Nat) (c' a6:Int),j<=4/\l=[[3-(j:Int)],[c'],[((pre.length+j:Nat):Int)],[a6]]/\ab c'=rws (pre++(c8 j).map (qL cl x)),λl=>((l.getD 0 []).getD 0 0+1).toNat,⟨0,c,k,by decide,by rw[hl];rfl,by rw[hc];simp⟩,?_⟩;intro au a0 a1 aT b0 b1 bz bA c1 aF d0 d1 ⟨j,c',a6,hj,e,hr⟩;simp only[lp,and_true]at e;obtain⟨e1,e2,e3,fo⟩:=e;subst e2;have hlen:(ab aT).length=pre.length+j:=by rw[hr,uE];simp
 refine⟨λh cL f0 f1 f2 z20 g0 g1 g2 g3=>?_,λh=>?_⟩
 ·have h:=of_decide_eq_true h;refine⟨by show bz=((ab aT).length:Int);rw[hlen,e3],by show(ab aT).length+(1:Int)<=1073741824;rw[hlen];omega,λz21 i0 i1 i2 aE fS da=>⟨⟨j+1,z21,aE,by omega,?_,?_⟩,?_⟩⟩
  ·rw[show au+-1=3-((j+1:Nat):Int) by omega,show bz+1=((pre.length+(j+1):Nat):Int) by omega]
  ·rw[MH i2 hr,gJ,List.range_succ,fY]
   congr 3
   show [cL+-256*z20]=[x/2^(32-8-8*j)% 256];have:(8*au).toNat=32-8-8*j:=by omega
   rw[<-this,<-f2]
   congr 1;omega
  ·show(au+-1+1).toNat<(au+1).toNat;omega
 ·have h:=of_decide_eq_false h;have:j=4:=by omega
  subst this;exact hn aT bz aF b0 b1 hr e3
end Go.bE
namespace Go.bE
open Go Go.ba
def Kz (S:zzS) (K:zzK):Prop:=
 di λz0=>(af 72 [z0]->cB λae=>bN (-2) aZ λz2=>aI 20 [z0] λz3=>af 70 [z3,64]/\∃(eQ:List (List Int)->Prop) (et:
 List (List Int)->Nat),eQ [[1779033703,3144134277,1013904242,2773480762,1359893119,2600822924,528734635,1541459225],[0]]/\(∀cS:List Int,bd (hW 0
 4294967295 8) cS->dC λaA=>eQ [cS,[aA]]->(ak (decide ((64*aA)<z3)) (af 21 [z0,(64*aA)]/\bF 21 [z0,(64*aA),0] λaB=>Ma z0 (64*
 aA) 63 1 [aB] λCM=>L9 CM 16 0 0 λz93=>af 66 [z93]/\di λy1=>S 462 [[z93]] [[y1]]->bN (-2) aZ λQ6=>aI 20 [y1]
 λQ7=>∃(Lo:List (List Int)->Prop) (aa5:List (List Int)->Nat),Lo [[16],[y1],[Q7],[Q6]]/\(bN 16 aZ λjm=>di λlQ=>
 dC λoZ=>bN (-2) aZ λQ2=>Lo [[jm],[lQ],[oZ],[Q2]]->(ak (decide (jm<64)) (af 30 [(jm+(-16)),oZ]/\af 21
 [lQ,(jm+(-16))]/\BJ 21 [lQ,(jm+(-16)),0] λCg=>af 30 [(jm+(-15)),oZ]/\af 21 [lQ,(jm+(-15))]/\BJ 21 [lQ,(jm+(-15)),0] λ
 Q3=>sT λwC=>S 446 [[Q3]] [[wC]]->bk (Cg+wC) 4294967296 λz105=>af 30 [(jm+(-7)),oZ]/\af 21 [lQ,(jm+(-7))]/\BJ 21
 [lQ,(jm+(-7)),0] λFQ=>bk (Cg+(wC+(((-4294967296)*z105)+FQ))) 4294967296 λz107=>af 30 [(jm+(-2)),oZ]/\af 21 [lQ,(jm+
 (-2))]/\BJ 21 [lQ,(jm+(-2)),0] λQ4=>sT λz109=>S 447 [[Q4]] [[z109]]->bk (Cg+(wC+(((-4294967296)*z105)+(FQ+(((-4294967296)
 *z107)+z109))))) 4294967296 λQ5=>af 31 [lQ,oZ]/\af 23 [lQ,1]/\bq 23 [lQ,(Cg+(wC+(((-4294967296)*z105)+(FQ+(((-4294967296)
 *z107)+(z109+((-4294967296)*Q5)))))))] λjZ=>bN (-2) aZ λj0=>(Lo [[(jm+1)],[jZ],[(oZ+1)],[j0]]/\aa5 [[(jm+
 1)],[jZ],[(oZ+1)],[j0]]<aa5 [[jm],[lQ],[oZ],[Q2]])) (∃(Ll:List (List Int)->Prop) (aa2:List (List Int)->Nat),Ll [cS,[0]]/\(∀cV
 :List Int,bd (hW 0 4294967295 8) cV->dC λjZ=>Ll [cV,[jZ]]->(ak (decide (jZ<oZ)) (af 30 [jZ,oZ]/\af 21 [lQ,jZ]/\BJ 21
 [lQ,jZ,0] λj0=>sT λko=>S 445 [[(aC cV 4 0)]] [[ko]]->bk ((aC cV 7 0)+ko) 4294967296 λmu=>cB λuR=>uR<=
 hO .u32->uR=cy .and .u32 (aC cV 4 0) (aC cV 5 0)->cB λz116=>z116<=hO .u32->z116=cy .and .u32 (((-1)*
 (aC cV 4 0))+4294967295) (aC cV 6 0)->cB λz117=>z117<=hO .u32->z117=cy .xor .u32 uR z116->bk ((aC cV 7 0)
 +(ko+(((-4294967296)*mu)+z117))) 4294967296 λmZ=>af 39 [jZ,0,79]/\sT λz119=>S 466 [[jZ]] [[z119]]->bk ((aC cV 7 0)+
 (ko+(((-4294967296)*mu)+(z117+(((-4294967296)*mZ)+z119))))) 4294967296 λrL=>bk ((aC cV 7 0)+(j0+(ko+(((-4294967296)*
 mu)+(z117+(((-4294967296)*mZ)+(z119+((-4294967296)*rL)))))))) 4294967296 λs4=>sT λs5=>S 444 [[(aC cV 0 0)]] [[s5]]->
 cB λJ7=>J7<=hO .u32->J7=cy .and .u32 (aC cV 0 0) (aC cV 1 0)->cB λz124=>z124<=hO .u32->z124=
 cy .and .u32 (aC cV 0 0) (aC cV 2 0)->cB λJ8=>J8<=hO .u32->J8=cy .xor .u32 J7 z124->cB λJ9=>J9<=
 hO .u32->J9=cy .and .u32 (aC cV 1 0) (aC cV 2 0)->cB λz127=>z127<=hO .u32->z127=cy .xor .u32 J8 J9
 ->bk (s5+z127) 4294967296 λCh=>bC λCi=>0<=((aC cV 3 0)+((aC cV 7 0)+(j0+(ko+(((-4294967296)*mu)+(z117+
 (((-4294967296)*mZ)+(z119+(((-4294967296)*rL)+((-4294967296)*s4))))))))))-4294967296*Ci->((aC cV 3 0)+((aC cV 7 0)
 +(j0+(ko+(((-4294967296)*mu)+(z117+(((-4294967296)*mZ)+(z119+(((-4294967296)*rL)+((-4294967296)*s4))))))))))-4294967296*
 Ci<4294967296->bC λz130=>0<=((aC cV 7 0)+(j0+(ko+(((-4294967296)*mu)+(z117+(((-4294967296)*mZ)+(z119+
 (((-4294967296)*rL)+(((-4294967296)*s4)+(s5+(z127+((-4294967296)*Ch))))))))))))-4294967296*z130->((aC cV 7 0)+(j0+
 (ko+(((-4294967296)*mu)+(z117+(((-4294967296)*mZ)+(z119+(((-4294967296)*rL)+(((-4294967296)*s4)+(s5+(z127+((-4294967296)*
 Ch))))))))))))-4294967296*z130<4294967296->bk (jZ+bU) bP λz131=>af 39 [((jZ+(ax
 *z131))+1),0,aZ]/\(Ll [[((aC cV 7 0)+(j0+(ko+(((-4294967296)*mu)+(z117+(((-4294967296)*mZ)+(z119+
 (((-4294967296)*rL)+(((-4294967296)*s4)+(s5+(z127+(((-4294967296)*Ch)+((-4294967296)*z130))))))))))))),(aC cV 0 0),(aC
 cV 1 0),(aC cV 2 0),((aC cV 3 0)+((aC cV 7 0)+(j0+(ko+(((-4294967296)*mu)+(z117+(((-4294967296)*mZ)+(z119
 +(((-4294967296)*rL)+(((-4294967296)*s4)+((-4294967296)*Ci))))))))))),(aC cV 4 0),(aC cV 5 0),(aC cV 6 0)],[((jZ+
 (ax*z131))+1)]]/\aa2 [[((aC cV 7 0)+(j0+(ko+(((-4294967296)*mu)+(z117+(((-4294967296)*mZ)+(z119+
 (((-4294967296)*rL)+(((-4294967296)*s4)+(s5+(z127+(((-4294967296)*Ch)+((-4294967296)*z130))))))))))))),(aC cV 0 0),(aC
 cV 1 0),(aC cV 2 0),((aC cV 3 0)+((aC cV 7 0)+(j0+(ko+(((-4294967296)*mu)+(z117+(((-4294967296)*mZ)+(z119
 +(((-4294967296)*rL)+(((-4294967296)*s4)+((-4294967296)*Ci))))))))))),(aC cV 4 0),(aC cV 5 0),(aC cV 6 0)],[((jZ+
 (ax*z131))+1)]]<aa2 [cV,[jZ]])) (bk ((aC cS 0 0)+(aC cV 0 0)) 4294967296 λj0=>bk ((aC cS 1 0)+
 (aC cV 1 0)) 4294967296 λko=>bk ((aC cS 2 0)+(aC cV 2 0)) 4294967296 λmu=>bk ((aC cS 3 0)+(aC cV 3 0))
 4294967296 λuR=>bk ((aC cS 4 0)+(aC cV 4 0)) 4294967296 λz116=>bk ((aC cS 5 0)+(aC cV 5 0)) 4294967296 λz117
 =>bk ((aC cS 6 0)+(aC cV 6 0)) 4294967296 λmZ=>bk ((aC cS 7 0)+(aC cV 7 0)) 4294967296 λz119=>(eQ [[((aC
 cS 0 0)+((aC cV 0 0)+((-4294967296)*j0))),((aC cS 1 0)+((aC cV 1 0)+((-4294967296)*ko))),((aC cS 2 0)+
 ((aC cV 2 0)+((-4294967296)*mu))),((aC cS 3 0)+((aC cV 3 0)+((-4294967296)*uR))),((aC cS 4 0)+((aC cV 4
 0)+((-4294967296)*z116))),((aC cS 5 0)+((aC cV 5 0)+((-4294967296)*z117))),((aC cS 6 0)+((aC cV 6 0)+((-4294967296)
 *mZ))),((aC cS 7 0)+((aC cV 7 0)+((-4294967296)*z119)))],[(aA+1)]]/\et [[((aC cS 0 0)+((aC cV 0 0)+
 ((-4294967296)*j0))),((aC cS 1 0)+((aC cV 1 0)+((-4294967296)*ko))),((aC cS 2 0)+((aC cV 2 0)+((-4294967296)*
 mu))),((aC cS 3 0)+((aC cV 3 0)+((-4294967296)*uR))),((aC cS 4 0)+((aC cV 4 0)+((-4294967296)*z116))),((aC
 cS 5 0)+((aC cV 5 0)+((-4294967296)*z117))),((aC cS 6 0)+((aC cV 6 0)+((-4294967296)*mZ))),((aC cS 7 0)+
 ((aC cV 7 0)+((-4294967296)*z119)))],[(aA+1)]]<et [cS,[aA]])))))))) (wu (aC cS 0 0) 0 0 (-1) λaT bz aF=>wu (aC cS 1 0)
 aT bz aF λz21 aE cx=>wu (aC cS 2 0) z21 aE cx λcn kM z28=>wu (aC cS 3 0) cn kM z28 λz31 ll nI=>wu (aC cS 4 0)
 z31 ll nI λuT z37 s6=>wu (aC cS 5 0) uT z37 s6 λqv mv rM=>wu (aC cS 6 0) qv mv rM λz46 gx s7=>wu (aC cS 7 0)
 z46 gx s7 λz51 qw z53=>af 22 [z51,0,qw]/\bq 22 [z51,0,qw] λgG=>K [[z0]] [[gG]]))))
theorem XA {L S M k:Int} (h:L=S-M*k) (h1:0<=L) (h2:L<M):L=S% M:=by
 have e:S=L+M*k:=by omega
 rw[e,Int.add_mul_emod_self_left,Int.emod_eq_of_lt h1 h2]
theorem aua (f:Int->Int->Int) {r t:List Int} (h:r.length=8) (h':t.length=8):List.zipWith f r t=[f (r.getD 0 0) (t.getD 0 0),f (r.getD 1 0) (t.getD 1 0),f (r.getD 2 0) (t.getD 2 0),f (r.getD 3 0) (t.getD 3 0),f (r.getD 4 0) (t.getD 4 0),f (r.getD 5 0) (t.getD 5 0),f (r.getD 6 0) (t.getD 6 0),f (r.getD 7 0) (t.getD 7 0)]:=by
 match r,t,h,h' with
 |[_,_,_,_,_,_,_,_],[_,_,_,_,_,_,_,_],_,_=>rfl
theorem aqg (i:Nat) (x:Int) {r:List Int} (hr:r.length=8):uH cl i x r=(let t:=md cl (r.getD 7 0+zF cl (r.getD 4 0)+Hj cl (r.getD 4 0) (r.getD 5 0) (r.getD 6 0)+Ft cl i+x);let u:=md cl (zE cl (r.getD 0 0)+Pj cl (r.getD 0 0) (r.getD 1 0) (r.getD 2 0));[md cl (t+u),r.getD 0 0,r.getD 1 0,r.getD 2 0,md cl (r.getD 3 0+t),r.getD 4 0,r.getD 5 0,r.getD 6 0]):=by
 match r,hr with
 |[_,_,_,_,_,_,_,_],_=>rfl
theorem Bt (x:Int):md cl x=x% 4294967296:=by
 show x% (2:Int)^32=_;rw[show(2:Int)^32=4294967296 by decide]
theorem ach:vp cl=[1779033703,3144134277,1013904242,2773480762,1359893119,2600822924,528734635,1541459225]:=by decide+kernel
theorem Ty {c b:Int} {B:Nat} {k:List Int->Prop} (hb:b=(B:Int)):∀(n i:Nat) (acc:List Int),B+i+n<=(cm c).length->(∀q:List Int,q.length=n->q=((cm c).drop (B+i)).take n->(∀x∈q,0<=x/\x<=255)->k (acc++q))->Ma c b n i acc k
 |0,i,acc,_,h=>by
  have:=h [] rfl (by simp) (by simp);show k acc;simpa using this
 |n+1,i,acc,hn,h=>⟨⟨by omega,by rw[<-zG];omega⟩,λy uQ kL hy=>Ty hb n (i+1) (acc++[y]) (by omega) λq h1 h3 h4=>by
  have hl:B+i<(cm c).length:=by omega
  have e:y=(cm c)[B+i]:=by rw[fH hy,show(b+(i:Int)).toNat=B+i by omega,oz,hP hl];rfl
  have:=h (y::q) (by simp[h1]) (by rw[Rc hl,y5,<-e,h3];rfl) (λx hx=>(List.mem_cons.1 hx).elim (λe=>e▸⟨uQ,kL⟩) (h4 x));simpa using this⟩
theorem Tx {l:List Int} {k:Int->Prop}:∀(n j:Nat) (c:Int) (L:List Int),ab c=rws L->(∀z,ab z=rws (L++(c8 n).map λt=>Ce cl l (j+t))->k z)->L9 l n j c k
 |0,j,c,L,hc,h=>h c (by simpa using hc)
 |n+1,j,c,L,hc,h=>λy _ _ hy=>Tx n (j+1) y _ (MH hy hc) λz hz=>h z (by
  rw[hz,gJ,aaR,cp,kN];have e:(16777216*aC l (4*j) 0)+((65536*aC l (4*j+1) 0)+((256*aC l (4*j+2) 0)+aC l (4*j+3) 0))=Ce cl l (j+0):=by
   show _=(((0*256+l.getD (j*4+0) 0)*256+l.getD (j*4+1) 0)*256+l.getD (j*4+2) 0)*256+l.getD (j*4+3) 0;rw[show j*4=4*j by omega];simp only[Nat.add_zero];omega
  rw[e];refine congrArg (λq=>rws (L++(Ce cl l (j+0)::q))) (gI λt _=>?_);show Ce cl l (j+1+t)=Ce cl l (j+(t+1));rw[show j+1+t=j+(t+1) by omega])
set_option maxHeartbeats 4000000 in
theorem ane:Kz SB (ez SB [Jj] 464):=by
 delta Kz ak bk bN cB dC aI di bq bF bC sT BJ bP ax aZ bU;dsimp only
 intro z0 a0 a1 hp ae b0 z2 bA c1 z3 d0 d1 h3;have hp:64∣(ab z0).length/\(ab z0).length<=1000001000:=hp;have h3:z3=((ab z0).length:Int):=h3;obtain⟨⟨q,hq⟩,xX⟩:=hp;have hbl:(cm z0).length=64*q:=by rw[zG,hq]
 have UK:z3=64*(q:Int):=by rw[h3,hq];simp
 refine⟨⟨(q:Int),UK⟩,λl=>∃(i:Nat),i<=q/\l=[CQ cl (cm z0) i (vp cl),[(i:Int)]],λl=>((q:Int)-(l.getD 1 []).getD 0 0).toNat,⟨0,iF _,by
  show _=[vp cl,[(0:Int)]];rw[ach]⟩,?_⟩
 intro cS ahI aA e0 e1 ⟨i,hi,hI⟩;simp only[lp,and_true]at hI;obtain⟨DF,awp⟩:=hI;obtain⟨yn,pQ⟩:=OF 8 cS ahI;have H9:((ab z0).length:Int)=64*(q:Int):=by rw[<-h3,UK]
 refine⟨λh=>?_,λh=>?_⟩
 ·have h:=of_decide_eq_true h;have VA:i<q:=by omega
  have fP:∀k:Int,0<=k->k<64->af 21 [z0,64*aA+k]:=λk h1 h2=>⟨by omega,by rw[H9];omega⟩;have acD:af 21 [z0,64*aA]:=⟨by omega,by rw[H9];omega⟩;refine⟨acD,?_⟩;intro aB f0 g0 t0;obtain⟨bl,tZ⟩:∃l,((cm z0).drop (64*i)).take 64=l:=⟨_,rfl⟩;have avZ:bl.length=64:=by rw[<-tZ,m5,qB,hbl];omega
  have hz:aA=(i:Int):=by omega
  refine Ty (B:=64*i) (by rw[hz];omega) 63 1 [aB] (by rw[hbl];omega) λq1 h1 h2 _=>?_;have iZ:[aB]++q1=bl:=by
   have e1:aB=(cm z0).getD (64*i) 0:=by rw[fH t0,hz,show(64*(i:Int)).toNat=64*i by omega]
   have l1:64*i<(cm z0).length:=by rw[hbl];omega
   rw[<-tZ,h2,e1,oz,hP l1,Rc l1];rfl
  rw[iZ];obtain⟨ws,Ov⟩:∃l,FK cl bl=l:=⟨_,rfl⟩;refine Tx 16 0 0 [] fA λz93 hr=>?_;have hr:ab z93=rws ws:=by rw[hr,<-Ov,jH];simp[FK]
  have wl:ws.length=16:=by rw[<-Ov];simp[FK]
  refine⟨by show(ab z93).length<=1000000;rw[hr,uE,wl];decide,?_⟩;intro y1 i0 i1 fS Q6 e7 k1 Q7 m0 fT n0;have fS:ab y1=ab z93:=fS;rw[hr]at fS;have n0:Q7=((ab y1).length:Int):=n0;rw[fS,uE,wl]at n0;refine⟨λl=>∃(j:Nat) (c k:Int),j<=48/\l=[[((16+j:Nat):Int)],[c],[((16+j:Nat):Int)],[k]]/\ab c=rws (sa cl j ws),λl=>(64-(l.getD 0 []).getD 0 0).toNat,⟨0,y1,Q6,iF _,by rw[n0];rfl,fS⟩,?_⟩;intro jm yu o1 lQ p0 p1 oZ q0 q1 Q2 r0 r1 ⟨j,c,aU,hj,hl,hc⟩;simp only[lp,and_true]at hl;obtain⟨kD,hl2,H6,awF⟩:=hl;subst hl2;obtain⟨a7,kY⟩:∃l,sa cl j ws=l:=⟨_,rfl⟩;rw[kY]at hc;have Xy:a7.length=16+j:=by rw[<-kY,T9,wl]
  have C1:((ab lQ).length:Int)=16+(j:Int):=by rw[hc,uE,Xy];omega
  refine⟨λhlt=>?_,λfI=>?_⟩
  ·have hlt:=of_decide_eq_true hlt;refine⟨⟨by omega,by omega⟩,⟨by omega,by rw[C1];omega⟩,λCg s0 s1 s2=>⟨⟨by omega,by omega⟩,⟨by omega,by rw[C1];omega⟩,λQ3 ayJ ayL aqy wC ayQ ayR JY z105 ayS ayT ayU ayV=>⟨⟨by omega,by omega⟩,⟨by omega,by rw[C1];omega⟩,λFQ w0 w1 w2 z107 ayY ayZ ayW ayX=>⟨⟨by omega,by omega⟩,⟨by omega,by rw[C1];omega⟩,λQ4 ay0 ay1 at1 z109 SM SN wY Q5 acb acd CN avX=>⟨by show oZ=((ab lQ).length:Int);omega,by show((ab lQ).length:Int)+1<=1073741824;omega,λjZ acM acN L1 j0 adi adj=>?_⟩⟩⟩⟩⟩;have JY:[[wC]]=[[FB cl Q3]]:=JY;have wY:[[z109]]=[[FC cl Q4]]:=wY;simp only[lp,and_true]at JY wY;have e1:=Dm s2 hc;have e2:=Dm aqy hc;have e3:=Dm w2 hc;have fo:=Dm at1 hc;have ahu:Cg+(wC+((-4294967296)*z105+(FQ+((-4294967296)*z107+(z109+(-4294967296)*Q5)))))=Bz cl a7:=by
    unfold Bz;rw[Bt,Xy,show 16+j-16=(jm+-16).toNat by omega,show 16+j-15=(jm+-15).toNat by omega,show 16+j-7=(jm+-7).toNat by omega,show 16+j-2=(jm+-2).toNat by omega,<-e1,<-e2,<-e3,<-fo,<-JY,<-wY];omega
   have gM:=MH L1 hc;rw[ahu]at gM;refine⟨⟨j+1,jZ,j0,by omega,by rw[show jm+1=((16+(j+1):Nat):Int) by omega,show oZ+1=((16+(j+1):Nat):Int) by omega],by rw[Ua,kY];exact gM⟩,?_⟩;show(64-(jm+1)).toNat<(64-jm).toNat;omega
  ·have fI:=of_decide_eq_false fI;have ag2:j=48:=by omega
   have ahP:sched cl ws=a7:=by rw[<-kY,ag2];rfl
   refine⟨λl=>∃(t:Nat),t<=64/\l=[wj cl 0 (a7.take t) cS,[(t:Int)]],λl=>(64-(l.getD 1 []).getD 0 0).toNat,⟨0,iF _,rfl⟩,?_⟩;intro jz ahJ jZ s0 s1 ⟨t,ht,hl⟩;simp only[lp,and_true]at hl;obtain⟨hv,awU⟩:=hl;obtain⟨IL,avW⟩:=OF 8 jz ahJ;refine⟨λhlt=>?_,λVy=>?_⟩
   ·have hlt:=of_decide_eq_true hlt;refine⟨⟨by omega,by omega⟩,⟨by omega,by rw[C1];omega⟩,?_⟩;intro j0 SM SN wY ko acb acd CN mu acM acN L1 acO uR adi adj adk z116 awd awe adF z117 awg awh adT mZ awk awl aef aeg;refine⟨⟨by omega,by omega⟩,?_⟩;intro z119 H5 awy D4 rL awW awX aiw aix s4 awZ aw0 aiS aiT s5 aw9 axa IK J7 axk axl akg z124 axs axt alh J8 axx axy alx J9 axC axD am4 z127 axO axP aoD Ch ax9 aya ayb ayc Ci ayy ayz YK YL z130 ayC ayD aqe aqf z131 ayK ayM ayN ayO;have ahW:t<64:=by omega
    have adt:z131=0:=by omega
    have ex:=Dm wY hc;rw[show jZ.toNat=t by omega]at ex;have CN:[[ko]]=[[zF cl (jz.getD 4 0)]]:=CN;have D4:[[z119]]=[[Ft cl jZ.toNat]]:=D4;have IK:[[s5]]=[[zE cl (jz.getD 0 0)]]:=IK;simp only[lp,and_true]at CN D4 IK;rw[show jZ.toNat=t by omega]at D4;have jP:z117=Hj cl (jz.getD 4 0) (jz.getD 5 0) (jz.getD 6 0):=by
     rw[adT,adk,adF];unfold Hj;rw[show(2:Int)^cl.w-1-jz.getD 4 0=-1*jz.getD 4 0+4294967295 by rw[show(2:Int)^cl.w=4294967296 by decide];omega];rfl
    have ahn:z127=Pj cl (jz.getD 0 0) (jz.getD 1 0) (jz.getD 2 0):=by
     rw[aoD,alx,alh,akg,am4];rfl
    obtain⟨A,hA⟩:∃A,jz.getD 0 0=A:=⟨_,rfl⟩;obtain⟨D,hD⟩:∃A,jz.getD 3 0=A:=⟨_,rfl⟩;obtain⟨H,DE⟩:∃A,jz.getD 7 0=A:=⟨_,rfl⟩;rw[DE]at L1 acO aef aeg aiw aix aiS aiT YK YL aqe aqf⊢;rw[hD]at YK YL⊢;have hstep:=aqg t j0 IL;rw[DE,hD,<-CN,<-jP,<-D4,<-IK,<-ahn]at hstep;have bH:md cl (H+ko+z117+z119+j0)=H+(j0+(ko+((-4294967296)*mu+(z117+((-4294967296)*mZ+(z119+((-4294967296)*rL+(-4294967296)*s4))))))):=by
     rw[Bt];omega
    have ma:md cl (s5+z127)=s5+(z127+(-4294967296)*Ch):=by
     rw[Bt];omega
    simp only[bH,ma]at hstep;refine⟨⟨by omega,by omega⟩,⟨t+1,by omega,?_⟩,?_⟩
    ·rw[aqD a7 t (by omega),YP,<-hv,show 0+(a7.take t).length=t by rw[m5];omega,<-ex,hstep,adt];simp only[lp,and_true];refine⟨⟨?_,trivial,trivial,trivial,?_⟩,?_⟩
     ·rw[Bt];exact XA (k:=z130) (by omega) (by omega) (by omega)
     ·rw[Bt];exact XA (k:=Ci) (by omega) (by omega) (by omega)
     ·omega
    ·show(64-(jZ+-18446744073709551616*z131+1)).toNat<(64-jZ).toNat;omega
   ·have Vy:=of_decide_eq_false Vy;intro j0 SM avv avD avM ko SN avw avE avN mu wY avx avF avO uR avq avy avG avP z116 avr avz avH avQ z117 avs avA avI avR mZ avt avB avJ avS z119 avu avC avK avT;have ahW:t=64:=by omega
    have agS:a7.take t=a7:=List.take_of_length_le (by omega);rw[agS]at hv;have iv:B7 cl cS ws=[cS.getD 0 0+(jz.getD 0 0+(-4294967296)*j0),cS.getD 1 0+(jz.getD 1 0+(-4294967296)*ko),cS.getD 2 0+(jz.getD 2 0+(-4294967296)*mu),cS.getD 3 0+(jz.getD 3 0+(-4294967296)*uR),cS.getD 4 0+(jz.getD 4 0+(-4294967296)*z116),cS.getD 5 0+(jz.getD 5 0+(-4294967296)*z117),cS.getD 6 0+(jz.getD 6 0+(-4294967296)*mZ),cS.getD 7 0+(jz.getD 7 0+(-4294967296)*z119)]:=by
     unfold B7;rw[ahP,<-hv,aua _ yn IL];simp only[Bt,lp,and_true];refine⟨by omega,by omega,by omega,by omega,by omega,by omega,by omega,by omega⟩
    refine⟨⟨i+1,by omega,?_⟩,?_⟩
    ·rw[<-iv,DF];show _=[B7 cl (CQ cl (cm z0) i (vp cl)) (FK cl (((cm z0).drop (64*i)).take 64)),_];rw[tZ,Ov,show aA+1=((i+1:Nat):Int) by omega]
    ·show((q:Int)-(aA+1)).toNat<((q:Int)-aA).toNat;omega
 ·have h:=of_decide_eq_false h;have VA:i=q:=by omega
  have hall:tA cl (cm z0)=yv cl cS:=by
   unfold tA;rw[hbl,show 2*cl.w=64 from rfl,Nat.mul_div_cancel_left q (by decide),<-VA,<-DF]
  have iw:yv cl cS=((((((([]++(c8 4).map (qL cl (cS.getD 0 0)))++(c8 4).map (qL cl (cS.getD 1 0)))++(c8 4).map (qL cl (cS.getD 2 0)))++(c8 4).map (qL cl (cS.getD 3 0)))++(c8 4).map (qL cl (cS.getD 4 0)))++(c8 4).map (qL cl (cS.getD 5 0)))++(c8 4).map (qL cl (cS.getD 6 0)))++(c8 4).map (qL cl (cS.getD 7 0)):=by
   conv=>lhs;rw[ake yn]
   rfl
  refine wv (pre:=[]) fA rfl (by simp) λav0 axb aw1 p0 p1 h0 ads=>?_;refine wv h0 (by rw[ads];simp) (by simp) λav1 WZ aw2 br bT h1 Hs=>?_;refine wv h1 (by rw[Hs];simp) (by simp) λav2 W4 aw3 dh dD h2 Mp=>?_;refine wv h2 (by rw[Mp];simp) (by simp) λHe axf aw4 eB oU h3 Mq=>?_;refine wv h3 (by rw[Mq];simp) (by simp) λav3 axh aw5 BD X3 h4 adu=>?_;refine wv h4 (by rw[adu];simp) (by simp) λav4 axi aw6 X2 axE h5 C9=>?_;refine wv h5 (by rw[C9];simp) (by simp) λav5 axj aw7 axF axG h6 Da=>?_;refine wv h6 (by rw[Da];simp) (by simp) λTk ajn aw8 axH axI h7 adw=>?_;have NV:ab Tk=rws (yv cl cS):=by rw[h7,iw]
  have akf:ajn=((ab Tk).length:Int):=by rw[h7,uE,adw];simp
  refine⟨⟨bB _,by omega,by omega⟩,λat7 x0 x1 x2=>⟨⟨x0,x1,trivial⟩,?_⟩⟩;have hf:=qm x2 akf;show cm at7=tA cl (cm z0);rw[hall];exact LX (by rw[hf,NV])
end Go.bE
namespace Go.bE
open Go Go.ba
def K5 (S:zzS) (K:zzK):Prop:=
 di λz0=>di λae=>di λz2=>(af 75 [z0,ae,z2]->cB λz3=>bN (-2) aZ λz4=>aI 20 [z0] λz5=>cB λz6=>bN (-2)
 aZ λz7=>aI 20 [ae] λz8=>cB λz9=>bN (-2) aZ λav=>aI 20 [z2] λaj=>(ak (decide ((((-1)*z5)+
 aZ)<z8)) (False) (bk ((z5+z8)+9223372036854775808) bP λz12=>bk ((((-1)*z5)+(((-1)*z8)+(bP
 *z12)))+Xo) bP λaA=>(ak (decide (((((-1)*z5)+(((-1)*z8)+((bP*z12)+
 (ax*aA))))+aZ)<aj)) (False) (bk ((z5+(z8+(aj+(ax*z12))))+9223372036854775808)
 bP λaB=>af 26 [(z5+(z8+(aj+((ax*z12)+(ax*aB)))))]/\di λau=>(af 31
 [au,(z5+(z8+(aj+((ax*z12)+(ax*aB)))))]->dC λaT=>(af 79 [(z5+(z8+(aj+
 ((ax*z12)+(ax*aB))))),aT]->af 78 [0,(z5+(z8+(aj+((ax*z12)+
 (ax*aB))))),(z5+(z8+(aj+((ax*z12)+(ax*aB))))),aT]/\Yj 33 [0,0,(z5+(z8+
 (aj+((ax*z12)+(ax*aB)))))] λbz=>af 80 [au,bz,(z5+(z8+(aj+((ax*z12)+
 (ax*aB)))))]/\af 22 [z0,0,z5]/\aI 62 [z5,(z5+(z8+(aj+((ax*z12)+(ax*
 aB)))))] λaF=>bq 22 [z0,0,aF] λcL=>bq 63 [au,bz,cL] λz20=>af 32 [aF,(z5+(z8+(aj+((ax*z12)+
 (ax*aB))))),(z5+(z8+(aj+((ax*z12)+(ax*aB)))))]/\(af 68 [(z5+(z8+(aj+
 ((ax*z12)+(ax*aB))))),(z5+(z8+(aj+((ax*z12)+(ax*aB)))))]
 ->ch 0 bU 33 [bz,aF,(z5+(z8+(aj+((ax*z12)+(ax*aB)))))] λz21=>af 32 [aF,(z5+
 (z8+(aj+((ax*z12)+(ax*aB))))),(z5+(z8+(aj+((ax*z12)+
 (ax*aB)))))]/\(af 68 [(z5+(z8+(aj+((ax*z12)+(ax*aB))))),(z5+(z8+(aj+
 ((ax*z12)+(ax*aB)))))]->ch 0 bU 33 [bz,aF,(z5+(z8+(aj+((ax*
 z12)+(ax*aB)))))] λaE=>af 80 [z20,aE,(z5+(z8+(aj+((ax*z12)+((ax*aB)+
 ((-1)*aF))))))]/\af 22 [ae,0,z8]/\aI 62 [z8,(z5+(z8+(aj+((ax*z12)+((ax*aB)+((-1)*aF))))))]
 λcx=>bq 22 [ae,0,cx] λz24=>bq 63 [z20,aE,z24] λdP=>bk ((aF+cx)+9223372036854775808) bP λcn=>af 32 [(aF+
 (cx+(ax*cn))),(z5+(z8+(aj+((ax*z12)+(ax*aB))))),(z5+(z8+(aj+
 ((ax*z12)+(ax*aB)))))]/\(af 68 [(z5+(z8+(aj+((ax*z12)+
 (ax*aB))))),(z5+(z8+(aj+((ax*z12)+(ax*aB)))))]->ch 0 bU 33
 [bz,(aF+(cx+(ax*cn))),(z5+(z8+(aj+((ax*z12)+(ax*aB)))))] λkM=>af
 32 [(aF+(cx+(ax*cn))),(z5+(z8+(aj+((ax*z12)+(ax*aB))))),(z5+(z8+(aj+
 ((ax*z12)+(ax*aB)))))]/\(af 68 [(z5+(z8+(aj+((ax*z12)+
 (ax*aB))))),(z5+(z8+(aj+((ax*z12)+(ax*aB)))))]->ch 0 bU 33
 [bz,(aF+(cx+(ax*cn))),(z5+(z8+(aj+((ax*z12)+(ax*aB)))))] λz28=>af
 80 [dP,z28,(z5+(z8+(aj+((ax*z12)+((ax*aB)+(((-1)*aF)+(((-1)*cx)+(bP*
 cn))))))))]/\af 22 [z2,0,aj]/\aI 62 [aj,(z5+(z8+(aj+((ax*z12)+((ax*aB)+(((-1)*aF)+(((-1)
 *cx)+(bP*cn))))))))] λic=>bq 22 [z2,0,ic] λkp=>bq 63 [dP,z28,kp] λz31=>bk ((aF+(cx+((ax
 *cn)+ic)))+9223372036854775808) bP λll=>af 22 [z31,bz,(z5+(z8+(aj+((ax*z12)+
 ((ax*aB)+bz)))))]/\af 40 [(z5+(z8+(aj+((ax*z12)+(ax*aB))))),aT]/\bq 22
 [z31,bz,(z5+(z8+(aj+((ax*z12)+((ax*aB)+bz)))))] λnI=>K [[z0],[ae],[z2]] [[nI]])))))))))))
def K9 (S:zzS) (K:zzK):Prop:=
 di λz0=>di λae=>di λz2=>(af 75 [z0,ae,z2]->cB λz3=>bN (-2) aZ λz4=>aI 20 [z0] λz5=>cB λz6=>bN (-2)
 aZ λz7=>aI 20 [ae] λz8=>cB λz9=>bN (-2) aZ λav=>aI 20 [z2] λaj=>af 22 [z0,0,z5]/\bq 22
 [z0,0,z5] λz12=>af 22 [ae,0,z8]/\bq 22 [ae,0,z8] λaA=>af 22 [z2,0,aj]/\bq 22 [z2,0,aj] λaB=>af 75 [z12,aA,aB]/\di λau=>S
 469 [[z12],[aA],[aB]] [[au]]->cB λaT=>bN (-2) aZ λbz=>aI 20 [au] λaF=>af 22 [au,0,aF]/\bq 22 [au,0,aF] λcL
 =>af 71 [cL]/\di λz20=>S 442 [[cL]] [[z20]]->bN (-2) aZ λz21=>aI 20 [z20] λaE=>af 22 [z20,0,aE]/\bq 22
 [z20,0,aE] λcx=>af 72 [cx]/\di λz24=>S 464 [[cx]] [[z24]]->bN (-2) aZ λdP=>aI 20 [z24] λcn=>af 30 [31,cn]/\
 af 21 [z24,0]/\af 21 [z24,0]/\bF 21 [z24,0,0] λkM=>af 21 [z24,1]/\bF 21 [z24,1,0] λz28=>af 21 [z24,2]/\bF 21 [z24,2,0] λic=>
 af 21 [z24,3]/\bF 21 [z24,3,0] λkp=>af 21 [z24,4]/\bF 21 [z24,4,0] λz31=>af 21 [z24,5]/\bF 21 [z24,5,0] λll=>af 21 [z24,6]/\
 bF 21 [z24,6,0] λnI=>af 21 [z24,7]/\bF 21 [z24,7,0] λqu=>af 21 [z24,8]/\bF 21 [z24,8,0] λuS=>af 21 [z24,9]/\bF 21 [z24,9,0] λ
 uT=>af 21 [z24,10]/\bF 21 [z24,10,0] λz37=>af 21 [z24,11]/\bF 21 [z24,11,0] λs6=>af 21 [z24,12]/\bF 21 [z24,12,0] λuU=>af 21
 [z24,13]/\bF 21 [z24,13,0] λz40=>af 21 [z24,14]/\bF 21 [z24,14,0] λqv=>af 21 [z24,15]/\bF 21 [z24,15,0] λmv=>af 21 [z24,16]/\
 bF 21 [z24,16,0] λrM=>af 21 [z24,17]/\bF 21 [z24,17,0] λCj=>af 21 [z24,18]/\bF 21 [z24,18,0] λcr=>af 21 [z24,19]/\bF 21
 [z24,19,0] λz46=>af 21 [z24,20]/\bF 21 [z24,20,0] λgx=>af 21 [z24,21]/\bF 21 [z24,21,0] λs7=>af 21 [z24,22]/\bF 21 [z24,22,0] λ
 z49=>af 21 [z24,23]/\bF 21 [z24,23,0] λjG=>af 21 [z24,24]/\bF 21 [z24,24,0] λz51=>af 21 [z24,25]/\bF 21 [z24,25,0] λqw=>af 21
 [z24,26]/\bF 21 [z24,26,0] λz53=>af 21 [z24,27]/\bF 21 [z24,27,0] λgG=>af 21 [z24,28]/\bF 21 [z24,28,0] λyW=>af 21 [z24,29]/\
 bF 21 [z24,29,0] λyX=>af 21 [z24,30]/\bF 21 [z24,30,0] λyY=>af 21 [z24,31]/\bF 21 [z24,31,0] λyZ=>K [[z0],[ae],[z2]]
 [[kM,z28,ic,kp,z31,ll,nI,qu,uS,uT,z37,s6,uU,z40,qv,mv,rM,Cj,cr,z46,gx,s7,z49,jG,z51,qw,z53,gG,yW,yX,yY,yZ]])
theorem PC {c x s t n a b m r0 r:Int} {A B:List (List Int)} (hc:ab c=A++B) (hA:(A.length:Int)=s) (hB:(B.length:Int)=t-s) (h0:r0=0) (hr:r=aw 33 [r0,a,b]) (ha:a=s) (hb:b=t) (hn:n=((ab x).length:Int)) (hle:n<=t-s) (hm:m=t-s):
 af 80 [c,r,m]/\af 22 [x,0,n]/\∀q,q=aw 62 [n,m]->q=n/\∀src,src=aw 22 [x,0,q]->∀c',c'=aw 63 [c,r,src]->∃rV,ab c'=(A++ab x)++rV/\(rV.length:Int)=t-s-n:=by
 subst h0;subst ha;subst hb;subst hm;have hr:r=if a=b then 0 else 0+a:=hr
 have D9:((ab c).length:Int)=b:=by rw[hc,dn];omega
 have gQ:0<=r/\r<=a/\(a≠b->r=a):=by
  by_cases h:a=b
  ·rw[if_pos h]at hr;exact⟨by omega,by omega,λh2=>absurd h h2⟩
  ·rw[if_neg h]at hr;exact⟨by omega,by omega,λ_=>by omega⟩
 refine⟨⟨gQ.1,by omega,by rw[D9];omega⟩,⟨bB _,by omega,by rw[hn];exact bB _⟩,λq hq=>?_⟩;have hq:q=min n (b-a):=hq;have VS:q=n:=by omega
 refine⟨VS,λsrc hs c' vB=>?_⟩;have hs:ab src=ab x:=qm hs (by rw[VS,hn]);have vB:c'=rc ((ab c).take r.toNat++ab src++(ab c).drop (r.toNat+(ab src).length)):=vB;by_cases h:a=b
 ·have hx0:ab x=[]:=tl (by omega);refine⟨B,?_,by omega⟩;rw[vB,du,hs,hx0,hc];simp
 ·have awP:=gQ.2.2 h;refine⟨B.drop (ab x).length,?_,by rw[qB];omega⟩;have e:r.toNat=A.length:=by omega
  rw[vB,du,hs,hc,e,List.take_left,<-List.drop_drop,List.drop_left]
theorem an9:K5 SB (ez SB [rv] 469):=by
 delta K5 ak bk bN ch cB dC aI di bq Yj bP ax aZ bU Xo;dsimp only
 intro z0 _ _ ae _ _ z2 _ _ hp;have hp:∀z∈([z0,ae,z2]:List Int),(ab z).length<=100000000:=hp;have aoM:=hp z0 (by simp);have aoN:=hp ae (by simp);have aoO:=hp z2 (by simp);intro z3 _ z4 _ _ z5 yn _ h5 z6 _ z7 _ _ z8 W5 _ h8 z9 _ av _ _ aj ER _ dF;have h5:z5=((ab z0).length:Int):=h5;have h8:z8=((ab ae).length:Int):=h8;have dF:aj=((ab z2).length:Int):=dF;refine⟨λh=>?_,λ_=>?_⟩
 ·have h:=of_decide_eq_true h;omega
 intro w _ _ w2 w3;have tP:w=0:=by omega
 subst tP;clear w2 w3;intro w _ _ w2 w3;have tP:w=0:=by omega
 subst tP;clear w2 w3;refine⟨λh=>?_,λ_=>?_⟩
 ·have h:=of_decide_eq_true h;omega
 intro w _ _ w2 w3;have tP:w=0:=by omega
 subst tP;clear w2 w3;obtain⟨t,ht⟩:∃t:Int,z5+z8+aj=t:=⟨_,rfl⟩;refine⟨⟨by omega,by omega⟩,?_⟩;intro bA _ _ hc0;have hc0:_=((ab bA).length:Int):=hc0;intro iW awa _ Ao;have Ao:_<=iW:=Ao;refine⟨⟨by decide,by omega,by omega,by omega⟩,?_⟩;intro r0 _ _ jc;have jc:r0=if(0:Int)=_ then 0 else 0+0:=jc
 have jc:r0=0:=by rw[jc];split<;>rfl
 have i0:ab bA=([]:List (List Int))++ab bA:=rfl;obtain⟨s1,s2,eO⟩:=PC (c:=bA) (x:=z0) (s:=0) (t:=t) (n:=z5) (a:=0) (b:=t) (m:=t) (r0:=0) (r:=0) i0 rfl (by omega) rfl (by show(0:Int)=if(0:Int)=t then 0 else 0+0;split<;>rfl) rfl rfl h5 (by omega) (by omega);have nf:∀x:Int,x=t->x=t:=λ_ h=>h;refine⟨?_,s2,?_⟩
 ·rw[jc];have e:=s1;have hm:∀m:Int,m=t->af 80 [bA,0,m]:=λm h=>by rw[h];exact s1
  exact hm _ (by omega)
 intro q0 _ _ re;have hm:∀m:Int,m=t->q0=aw 62 [z5,m]->q0=aw 62 [z5,t]:=λm h h2=>by rw[h2,h]
 obtain⟨e0,eO⟩:=eO q0 (hm _ (by omega) re);clear hm re s1 s2;intro aqb _ _ Il c1 _ _ hc1;rw[jc]at hc1;obtain⟨avk,i1,da⟩:=eO aqb Il c1 hc1;clear eO;refine⟨⟨by omega,by omega,by omega⟩,λ_=>?_⟩;intro rs _ _ _;refine⟨⟨by omega,by omega,by omega⟩,λ_=>?_⟩;intro r1 _ _ eE;obtain⟨s1,s2,eO⟩:=PC (x:=ae) (t:=t) (n:=z8) (s:=z5) i1 (by simp only[dn,eH];omega) (by omega) jc eE (by omega) (by omega) h8 (by omega) rfl;refine⟨?_,s2,?_⟩
 ·have hm:∀m:Int,m=t-(z5)->af 80 [c1,r1,m]:=λm h=>by rw[h];exact s1
  exact hm _ (by omega)
 intro q1 _ _ nZ;have hm:∀m:Int,m=t-(z5)->q1=aw 62 [z8,m]->q1=aw 62 [z8,t-(z5)]:=λm h h2=>by rw[h2,h]
 obtain⟨e1,eO⟩:=eO q1 (hm _ (by omega) nZ);clear hm nZ s1 s2;intro aqc _ _ x6 c2 _ _ hc2;obtain⟨avl,i2,kH⟩:=eO aqc x6 c2 hc2;clear eO;intro w _ _ w2 w3;have tP:w=0:=by omega
 subst tP;clear w2 w3;refine⟨⟨by omega,by omega,by omega⟩,λ_=>?_⟩;intro rs _ _ _;refine⟨⟨by omega,by omega,by omega⟩,λ_=>?_⟩;intro r2 _ _ fJ;obtain⟨s1,s2,eO⟩:=PC (x:=z2) (t:=t) (n:=aj) (s:=z5+z8) i2 (by simp only[dn,eH];omega) (by omega) jc fJ (by omega) (by omega) dF (by omega) rfl;refine⟨?_,s2,?_⟩
 ·have hm:∀m:Int,m=t-(z5+z8)->af 80 [c2,r2,m]:=λm h=>by rw[h];exact s1
  exact hm _ (by omega)
 intro q2 _ _ n4;have hm:∀m:Int,m=t-(z5+z8)->q2=aw 62 [aj,m]->q2=aw 62 [aj,t-(z5+z8)]:=λm h h2=>by rw[h2,h]
 obtain⟨e2,eO⟩:=eO q2 (hm _ (by omega) n4);clear hm n4 s1 s2;intro aqd _ _ x7 c3 _ _ Vf;obtain⟨abq,i3,mg⟩:=eO aqd x7 c3 Vf;clear eO;intro w _ _ w2 w3;have tP:w=0:=by omega
 subst tP;clear w2 w3;have kW:abq=[]:=tl (by omega);have hl:((ab c3).length:Int)=t:=by rw[i3,kW];simp only[dn,eH];omega
 subst jc;refine⟨⟨bB _,by omega,by omega⟩,λ_=>by omega,?_⟩;intro z _ at4 hz;have hz:=qm hz (by omega);refine⟨⟨by assumption,at4,trivial⟩,?_⟩;show ab z=ab z0++(ab ae++(ab z2));rw[hz,i3,kW];simp only[jH,ln,gJ]
theorem aod:K9 SB (ez SB [.d SL] 472):=by
 delta K9 bN cB aI di bq bF aZ;dsimp only
 intro z0 _ _ ae _ _ z2 _ _ hp;have hp:∀z∈([z0,ae,z2]:List Int),(ab z).length<=100000000:=hp;intro z3 _ z4 _ _ z5 yn _ h5 z6 _ z7 _ _ z8 W5 _ h8 z9 _ av _ _ aj ER _ dF;have h5:z5=((ab z0).length:Int):=h5;have h8:z8=((ab ae).length:Int):=h8;have dF:aj=((ab z2).length:Int):=dF;refine⟨⟨bB _,yn,by rw[h5];exact bB _⟩,?_⟩;intro z12 _ _ dJ;have dJ:=qm dJ h5;refine⟨⟨bB _,W5,by rw[h8];exact bB _⟩,?_⟩;intro aA _ _ dK;have dK:=qm dK h8;refine⟨⟨bB _,ER,by rw[dF];exact bB _⟩,?_⟩;intro aB _ _ eM;have eM:=qm eM dF;refine⟨λz hz=>?_,?_⟩
 ·simp only[ks,s9,or_false]at hz;rcases hz with rfl|rfl|rfl
  ·rw[dJ];exact hp z0 (by simp)
  ·rw[dK];exact hp ae (by simp)
  ·rw[eM];exact hp z2 (by simp)
 intro au _ _ hj;have hj:ab au=ab z12++(ab aA++(ab aB)):=hj;rw[dJ,dK,eM]at hj;have ahc:(ab au).length<=1000000000:=by
  rw[hj];simp only[dn];have:=hp z0 (by simp);have:=hp ae (by simp);have:=hp z2 (by simp);omega
 have agn:cm au=cm z0++(cm ae++(cm z2)):=by
  unfold cm;rw[hj];simp only[fY]
 intro lR _ ay2 _ _ at3 ajo _ hC;have hC:at3=((ab au).length:Int):=hC;refine⟨⟨bB _,ajo,by rw[hC];exact bB _⟩,λz9 e7 k1 a8=>?_⟩;have l6:=qm a8 hC;refine⟨by show(ab z9).length<=1000000000;rw[l6];exact ahc,λav l0 l1 dg aj m0 fT z12 n0 n1 dJ=>?_⟩;have dg:cm av=vZ cl (cm z9):=dg;have dJ:z12=((ab av).length:Int):=dJ;rw[Hd l6]at dg;obtain⟨q1,q2,q3⟩:=aor (cm au);have hl0:(cm au).length=(ab au).length:=zG au;refine⟨⟨bB _,by omega,by rw[dJ];exact bB _⟩,λaA yu o1 dK=>?_⟩;have dK:=qm dK dJ;have ag9:(ab aA).length=qj 32 (cm au).length:=by rw[dK,<-zG,dg,q1]
 refine⟨by show 64∣(ab aA).length/\(ab aA).length<=1000001000;rw[ag9];exact⟨q2,by omega⟩,λaB p0 p1 eM au r0 r1 aT s0 s1 kC=>?_⟩;have eM:cm aB=tA cl (cm aA):=eM;rw[Hd dK,dg]at eM;have kC:aT=((ab aB).length:Int):=kC;have VG:(cm aB).length=32:=by rw[eM,LD];rfl
 have VT:(ab aB).length=32:=by rw[<-zG,VG]
 have fP:∀i:Int,0<=i->i<32->af 21 [aB,i]:=λi h1 h2=>⟨h1,by rw[VT];exact h2⟩;refine⟨⟨by decide,by omega⟩,fP 0 (by decide) (by decide),?_⟩;refine⟨fP 0 (by decide) (by decide),?_⟩;intro uQ u0 v0 t0;refine⟨fP 1 (by decide) (by decide),?_⟩;intro kL ia v1 t1;refine⟨fP 2 (by decide) (by decide),?_⟩;intro mY nF v2 t2;refine⟨fP 3 (by decide) (by decide),?_⟩;intro wB pF v3 t3;refine⟨fP 4 (by decide) (by decide),?_⟩;intro FM u4 v4 t4;refine⟨fP 5 (by decide) (by decide),?_⟩;intro FN QK v5 t5;refine⟨fP 6 (by decide) (by decide),?_⟩;intro FO arn v6 t6;refine⟨fP 7 (by decide) (by decide),?_⟩;intro QZ QL atN t7;refine⟨fP 8 (by decide) (by decide),?_⟩;intro Q0 u8 atO t8;refine⟨fP 9 (by decide) (by decide),?_⟩;intro Q1 aro v9 t9;refine⟨fP 10 (by decide) (by decide),?_⟩;intro QW aqZ v10 t10;refine⟨fP 11 (by decide) (by decide),?_⟩;intro J6 aq0 v11 t11;refine⟨fP 12 (by decide) (by decide),?_⟩;intro QX aq1 v12 t12;refine⟨fP 13 (by decide) (by decide),?_⟩;intro QY aq2 atA t13;refine⟨fP 14 (by decide) (by decide),?_⟩;intro ZS aq3 atB t14;refine⟨fP 15 (by decide) (by decide),?_⟩;intro ZT aq4 atC t15;refine⟨fP 16 (by decide) (by decide),?_⟩;intro ZU u16 atD t16;refine⟨fP 17 (by decide) (by decide),?_⟩;intro ZV aq5 atE t17;refine⟨fP 18 (by decide) (by decide),?_⟩;intro ZW aq6 atF t18;refine⟨fP 19 (by decide) (by decide),?_⟩;intro ZX aq7 atG t19;refine⟨fP 20 (by decide) (by decide),?_⟩;intro ZY aq8 v20 t20;refine⟨fP 21 (by decide) (by decide),?_⟩;intro ZZ aq9 v21 t21;refine⟨fP 22 (by decide) (by decide),?_⟩;intro Z0 ara atH t22;refine⟨fP 23 (by decide) (by decide),?_⟩;intro Z1 arb atI t23;refine⟨fP 24 (by decide) (by decide),?_⟩;intro Z2 arc v24 t24;refine⟨fP 25 (by decide) (by decide),?_⟩;intro Z3 ard atJ t25;refine⟨fP 26 (by decide) (by decide),?_⟩;intro Z4 arf atK t26;refine⟨fP 27 (by decide) (by decide),?_⟩;intro Z5 arh atL t27;refine⟨fP 28 (by decide) (by decide),?_⟩;intro Z6 ari v28 t28;refine⟨fP 29 (by decide) (by decide),?_⟩;intro Z7 arj atM t29;refine⟨fP 30 (by decide) (by decide),?_⟩;intro Z8 ark v30 t30;refine⟨fP 31 (by decide) (by decide),?_⟩;intro Z9 arl v31 t31;have bW:[uQ,kL,mY,wB,FM,FN,FO,QZ,Q0,Q1,QW,J6,QX,QY,ZS,ZT,ZU,ZV,ZW,ZX,ZY,ZZ,Z0,Z1,Z2,Z3,Z4,Z5,Z6,Z7,Z8,Z9]=cm aB:=by
  rw[fH t0,fH t1,fH t2,fH t3,fH t4,fH t5,fH t6,fH t7,fH t8,fH t9,fH t10,fH t11,fH t12,fH t13,fH t14,fH t15,fH t16,fH t17,fH t18,fH t19,fH t20,fH t21,fH t22,fH t23,fH t24,fH t25,fH t26,fH t27,fH t28,fH t29,fH t30,fH t31];exact(UD (cm aB) 32 VG).symm
 refine⟨?_,?_⟩
 ·show bd (hW 0 255 32++[]) _;rw[ln];exact Wz 32 _ rfl λx hx=>by
   simp only[List.flatten_cons,List.flatten_nil,ln,ks,s9,or_false]at hx;rcases hx with rfl|rfl|rfl|rfl|rfl|rfl|rfl|rfl|rfl|rfl|rfl|rfl|rfl|rfl|rfl|rfl|rfl|rfl|rfl|rfl|rfl|rfl|rfl|rfl|rfl|rfl|rfl|rfl|rfl|rfl|rfl|rfl
   ·exact⟨u0,v0⟩
   ·exact⟨ia,v1⟩
   ·exact⟨nF,v2⟩
   ·exact⟨pF,v3⟩
   ·exact⟨u4,v4⟩
   ·exact⟨QK,v5⟩
   ·exact⟨arn,v6⟩
   ·exact⟨QL,atN⟩
   ·exact⟨u8,atO⟩
   ·exact⟨aro,v9⟩
   ·exact⟨aqZ,v10⟩
   ·exact⟨aq0,v11⟩
   ·exact⟨aq1,v12⟩
   ·exact⟨aq2,atA⟩
   ·exact⟨aq3,atB⟩
   ·exact⟨aq4,atC⟩
   ·exact⟨u16,atD⟩
   ·exact⟨aq5,atE⟩
   ·exact⟨aq6,atF⟩
   ·exact⟨aq7,atG⟩
   ·exact⟨aq8,v20⟩
   ·exact⟨aq9,v21⟩
   ·exact⟨ara,atH⟩
   ·exact⟨arb,atI⟩
   ·exact⟨arc,v24⟩
   ·exact⟨ard,atJ⟩
   ·exact⟨arf,atK⟩
   ·exact⟨arh,atL⟩
   ·exact⟨ari,v28⟩
   ·exact⟨arj,atM⟩
   ·exact⟨ark,v30⟩
   ·exact⟨arl,v31⟩
 ·show [[uQ,kL,mY,wB,FM,FN,FO,QZ,Q0,Q1,QW,J6,QX,QY,ZS,ZT,ZU,ZV,ZW,ZX,ZY,ZZ,Z0,Z1,Z2,Z3,Z4,Z5,Z6,Z7,Z8,Z9]]=[nC cl (cm z0++(cm ae++(cm z2)))];rw[bW,eM,agn];rfl
end Go.bE
namespace Go.bE
open Go Go.ba
def RZ (S:zzS) (K:zzK):Prop:=
 bt λz0=>∀r1:List Int,bd (hW 0 bp 2) r1->(af 90 [z0,(aC r1 0 0),(aC r1 1 0)]->af 3 [(aC r1 1 0),33]/\b8 3 [(aC
 r1 1 0),33] λz3=>af 3 [z3,(aC r1 0 0)]/\b8 3 [z3,(aC r1 0 0)] λz4=>bq 27 [z4] λz5=>aI 0 [z4] λz6=>bN (-2)
 9223372036854775807 λz7=>bq 27 [z0] λz8=>aI 0 [z0] λz9=>bN (-2) 9223372036854775807 λav=>af 22 [z5,0,z6]/\bq 22 [z5,0,z6] λaj=>
 bq 23 [0,32] λz12=>af 22 [z8,0,z9]/\bq 22 [z8,0,z9] λaA=>af 75 [aj,z12,aA]/\∀e9:List Int,bd (hW 0 255 32) e9->S 472
 [[aj],[z12],[aA]] [e9]->bq 23 [0,(aC e9 0 0)] λz46=>bq 23 [z46,(aC e9 1 0)] λgx=>bq 23 [gx,(aC e9 2 0)] λs7=>
 bq 23 [s7,(aC e9 3 0)] λz49=>bq 23 [z49,(aC e9 4 0)] λjG=>bq 23 [jG,(aC e9 5 0)] λz51=>bq 23 [z51,(aC e9 6
 0)] λqw=>bq 23 [qw,(aC e9 7 0)] λz53=>bq 23 [z53,(aC e9 8 0)] λgG=>bq 23 [gG,(aC e9 9 0)] λyW=>bq 23
 [yW,(aC e9 10 0)] λyX=>bq 23 [yX,(aC e9 11 0)] λyY=>bq 23 [yY,(aC e9 12 0)] λyZ=>bq 23 [yZ,(aC e9 13 0)]
 λz59=>bq 23 [z59,(aC e9 14 0)] λFR=>bq 23 [FR,(aC e9 15 0)] λFT=>bq 23 [FT,(aC e9 16 0)] λFU=>bq 23
 [FU,(aC e9 17 0)] λFV=>bq 23 [FV,(aC e9 18 0)] λFW=>bq 23 [FW,(aC e9 19 0)] λFX=>bq 23 [FX,(aC e9 20 0)]
 λFY=>bq 23 [FY,(aC e9 21 0)] λFZ=>bq 23 [FZ,(aC e9 22 0)] λy0=>bq 23 [y0,(aC e9 23 0)] λF1=>bq 23
 [F1,(aC e9 24 0)] λz70=>bq 23 [z70,(aC e9 25 0)] λCk=>bq 23 [Ck,(aC e9 26 0)] λz72=>bq 23 [z72,(aC e9 27 0)]
 λF2=>bq 23 [F2,(aC e9 28 0)] λF3=>bq 23 [F3,(aC e9 29 0)] λz75=>bq 23 [z75,(aC e9 30 0)] λz76=>bq 23
 [z76,(aC e9 31 0)] λs8=>af 48 [s8]/\bt λwD=>S 225 [[s8]] [[wD]]->K [[z0],r1] [[wD]])
def R0 (S:zzS) (K:zzK):Prop:=
 bq 23 [0,477315081741,437051401625,1786254407,0] λz0=>bq 23 [0,137532043831960220734537415] λae=>af 22 [z0,0,1]/\bq 22 [z0,0,1] λz2=>af
 22 [ae,0,1]/\bq 22 [ae,0,1] λz3=>bN 0 6 λz4=>bN 0 0 λz5=>bt λz6=>di λz7=>di λz8=>bN 0 21 λz9=>S 678 [[z2],[113],[113],[z3]]
 [[z4],[z5],[z6],[z7],[z8],[z9]]->cB λav=>bN (-2) 9223372036854775807 λaj=>aI 20 [z7] λz12=>cB λaA=>bN (-2) 9223372036854775807 λaB
 =>aI 20 [z8] λau=>af 22 [z7,0,z12]/\bq 22 [z7,0,z12] λaT=>af 22 [z8,0,au]/\bq 22 [z8,0,au] λbz=>∀Jv:List Int,bd
 [(0,4),(0,0),(0,bp),(0,0),(0,0)] Jv->bC λcx=>S 676 [[z4],[z5],[z6],[aT],[bz],[137532043831960220734537415]] [Jv,[cx]]->(ak (decide (z9=0)) ((ak
 (decide (cx=1)) (cf 4 [(aC Jv 2 0),1786254407] λz24=>(ak (decide (z24=1)) (af 90 [113,477315081741,437051401625]/\bt λdP=>S 679
 [[113],[477315081741,437051401625]] [[dP]]->aI 0 [dP] λcn=>K [] [[(cond (decide (cn=43)) 1 0)]]) (K [] [[(cond (false) 1 0)]]))) (K [] [[(cond
 (false) 1 0)]]))) (K [] [[(cond (false) 1 0)]]))
theorem gd {z c x:Int} (h:z=aw 23 [c,x]):ab z=ab c++[[x]]:=by rw[h];exact du _
theorem Th {z s:Int} (h:z=aw 27 [s]):ab z=(qn (U s)).map λx=>[x]:=by
 rw[h];show ab (rc _)=_;rw[du];unfold qn;rw[kN];rfl
theorem Ti {z:Int} {l:List Int} (h:ab z=l.map λx=>[x]):cm z=l:=by
 unfold cm;rw[h,kN];exact List.map_id'' (λ_=>rfl) l
theorem aoZ (l:List Int):(c8 l.length).map (λi=>[l.getD i 0])=l.map λx=>[x]:=by
 refine Rp (by simp) λi h1 h2=>?_;simp only[j2]at h2;simp[aC,h2]
theorem YY {z a b:Int} (h:z=aw 3 [a,b]):U z=U a++U b:=by rw[h];exact dZ _
theorem aoY:c8 32=[0,1,2,3,4,5,6,7,8,9,10,11,12,13,14,15,16,17,18,19,20,21,22,23,24,25,26,27,28,29,30,31]:=by decide+kernel
theorem anH:RZ SB (ez SB [.d .str] 679):=by
 intro z0 n0 n1 r1 hr h;have h:∀z∈([z0,r1.getD 0 0,r1.getD 1 0]:List Int),(U z).length<=10000000:=by simpa only[af,zK]using h
 have l0:=h z0 (by simp);have l1:=h (r1.getD 0 0) (by simp);have l2:=h (r1.getD 1 0) (by simp);clear h;have hsp:U (33:Int)=[32]:=by decide
 have q9:eN=140737488351232:=rfl;refine⟨?_,λz3 _ _ h3=>?_⟩
 ·show(U (r1.getD 1 0)).length+(U 33).length<=eN;rw[hsp,q9];simp only[cW,eH];omega
 have h3:=YY h3;rw[hsp]at h3;refine⟨?_,λz4 _ _ h4 z5 _ _ h5 z6 _ _ h6 z7 _ _ z8 _ _ h8 z9 _ _ a8 av _ _=>?_⟩
 ·show(U z3).length+(U (r1.getD 0 0)).length<=eN;rw[h3,q9];simp only[dn,cW,eH];omega
 have h4:=YY h4;rw[h3]at h4;have h5:=Th h5;have h8:=Th h8;have t5:(ab z5).length=(U z4).length:=by rw[h5];simp[qn]
 have t8:(ab z8).length=(U z0).length:=by rw[h8];simp[qn]
 have h6:z6=((ab z5).length:Int):=by rw[t5];exact h6
 have a8:z9=((ab z8).length:Int):=by rw[t8];exact a8
 refine⟨⟨bB _,by omega,by omega⟩,λaj _ _ dF z12 _ _ dJ=>⟨⟨bB _,by omega,by omega⟩,λaA _ _ dK=>⟨λz hz=>?_,λe9 VT hs=>?_⟩⟩⟩
 ·have dF:=whole h6 dF;have dK:=whole a8 dK;have dJ:ab z12=ab 0++[[32]]:=by rw[dJ];exact du _
  simp only[ks,s9,or_false]at hz;rcases hz with rfl|rfl|rfl
  ·rw[dF,t5,h4];simp only[dn,cW,eH];omega
  ·rw[dJ,fA];decide
  ·rw[dK,t8];omega
 have hs:[e9]=[nC cl (cm aj++(cm z12++cm aA))]:=hs;simp only[lp,and_true]at hs;have ab3:cm aj=qn (U z4):=by rw[Hd (whole h6 dF)];exact Ti h5
 have ab5:cm aA=qn (U z0):=by rw[Hd (whole a8 dK)];exact Ti h8
 have ab4:cm z12=[32]:=by
  have dJ:ab z12=ab 0++[[32]]:=by rw[dJ];exact du _
  unfold cm;rw[dJ,fA];rfl
 rw[ab3,ab4,ab5,h4]at hs;have hlen:e9.length=32:=by rw[hs];exact LD _ _
 intro z46 _ _ mG gx _ _ aeu s7 _ _ sg z49 _ _ aev jG _ _ aew z51 _ _ aex qw _ _ aey z53 _ _ MQ gG _ _ aez yW _ _ aeA yX _ _ aeB yY _ _ MR yZ _ _ aeC z59 _ _ aeD FR _ _ aeF FT _ _ aeG FU _ _ aeH FV _ _ aeI FW _ _ p3 FX _ _ aeJ FY _ _ aeK FZ _ _ HN y0 _ _ aeL F1 _ _ aeM z70 _ _ aeO Ck _ _ aeP z72 _ _ aeQ F2 _ _ aeR F3 _ _ aeS z75 _ _ aeT z76 _ _ aeU s8 _ _ aeV;have T3:ab s8=e9.map λx=>[x]:=by
  rw[gd aeV,gd aeU,gd aeT,gd aeS,gd aeR,gd aeQ,gd aeP,gd aeO,gd aeM,gd aeL,gd HN,gd aeK,gd aeJ,gd p3,gd aeI,gd aeH,gd aeG,gd aeF,gd aeD,gd aeC,gd MR,gd aeB,gd aeA,gd aez,gd MQ,gd aey,gd aex,gd aew,gd aev,gd sg,gd aeu,gd mG,fA,<-aoZ,hlen,aoY];simp only[cp,List.map_nil,jH,ti]
 refine⟨(by show(ab s8).length<=1099511627776;rw[T3,j2,hlen];decide),λwD p0 p1 MS=>⟨⟨p0,p1,trivial⟩,?_⟩⟩;have MS:U wD=eU (gW s8):=MS;show U wD=nj (U z0) (ib r1);have pX:gW s8=e9.map λz=>kq z.toNat:=by
  unfold gW;rw[T3,kN];rfl
 rw[MS,pX,hs];show _=eU ((nC cl (qn (qp (ib r1))++([32]++qn (U z0)))).map λz=>kq z.toNat);unfold qp ib;rfl
theorem Ye:∀l:aq,(eU l).length=(4*l.length+2)/3
 |[]=>rfl
 |[a]=>by unfold eU;simp
 |[a,b]=>by unfold eU;simp
 |a::b::c::r=>by
  have ih:=Ye r;unfold eU;simp only[cW];rw[ih];omega
theorem U8 (p:aq) (w:aq×aq):(nj p w).length=43:=by
 have h:(nC cl (qn (qp w)++([32]++qn p))).length=32:=LD _ _;unfold nj;rw[Ye,j2,h]
theorem WN {k n t a b s f:Int} {r:List Int} (h:SB 676 [[k],[n],[t],[a],[b],[s]] [r,[f]]) (hk:k=6) (hl:(ab a).length=(ab b).length):
 (∀x,nh a b (U s)=some x->f=1/\U (r.getD 2 0)=x)/\(nh a b (U s)=none->f=0/\U (r.getD 2 0)=[]):=by
 have h:match cond (decide (k=6)) (nt a (U s)) none with
  |some i=>i<(ab b).length->r.getD 2 0=((ab b).getD i []).getD 2 0/\f=1
  |none=>U (r.getD 2 0)=[]/\f=0:=h
 rw[decide_eq_true hk,cond_true]at h;unfold nh;cases hi:nt a (U s)with
 |none=>
  rw[hi]at h;exact⟨λx hx=>(by cases hx),λ_=>⟨h.2,h.1⟩⟩
 |some i=>
  rw[hi]at h;have hlt:i<(ab b).length:=by
   unfold nt at hi;have:=(List.findIdx?_eq_some_iff_getElem.1 hi).1;rw[rK]at this;omega
  obtain⟨h1,h2⟩:=h hlt;refine⟨λx hx=>⟨h2,?_⟩,λhx=>(by cases hx)⟩;have hx:(gw b).getD i []=x:=by simpa using hx
  rw[h1,<-hx];simp[gw,aC,hlt]
theorem anK:R0 SB (ez SB [.d .bool] 680):=by
 intro z0 _ _ h0 ae _ _ h1;have h0:ab z0=[[477315081741,437051401625,1786254407,0]]:=by rw[h0];show ab (rc (ab 0++_))=_;rw[du,fA];rfl
 have h1:ab ae=[[137532043831960220734537415]]:=by rw[h1];show ab (rc (ab 0++_))=_;rw[du,fA];rfl
 refine⟨⟨bB _,by decide,by rw[h0];decide⟩,λz2 _ _ h2=>⟨⟨bB _,by decide,by rw[h1];decide⟩,λz3 _ _ h3=>?_⟩⟩;have h2:=(whole (by rw[h0];rfl) h2).trans h0;have h3:=(whole (by rw[h1];rfl) h3).trans h1;intro z4 _ _ z5 _ _ z6 _ _ z7 _ _ z8 _ _ z9 _ _ bW av _ aj _ _ z12 _ _ dJ aA _ aB _ _ au _ _ eZ;have bW:tv qp (bds z2) (U 113) (U 113) (bD z3) z4 z5 z6 z7 z8 z9:=bW;have pX:bds z2=[jL [477315081741,437051401625,1786254407,0]]:=by unfold bds;rw[h2];rfl
 have nf:bD z3=[U 137532043831960220734537415]:=by unfold bD;rw[h3];rfl
 rw[pX,nf]at bW;obtain⟨g1,g2,g3,g4,g5⟩:=bW;have he:ny [jL [477315081741,437051401625,1786254407,0]] (U 113) (U 113) [U 137532043831960220734537415]=0:=by decide+kernel
 rw[he]at g1;obtain⟨g6,g7,g8⟩:=g5 g1;have hw:nh z7 z8 (U 137532043831960220734537415)=some (U 1786254407):=by rw[g8];decide+kernel
 have dJ:z12=((ab z7).length:Int):=dJ;have eZ:au=((ab z8).length:Int):=eZ;refine⟨⟨bB _,by omega,by omega⟩,λaT _ _ kC=>⟨⟨bB _,by omega,by omega⟩,λbz _ _ jM Jv _ cx _ _ hg=>?_⟩⟩;have kC:=whole dJ kC;have jM:=whole eZ jM;have hgo:nh aT bz (U 137532043831960220734537415)=some (U 1786254407):=by
  rw[<-hw];unfold nh nt bD gw;rw[kC,jM]
 obtain⟨k1,k2⟩:=(WN hg g6 (by rw[kC,jM];exact g7.1)).1 _ hgo;refine⟨λ_=>⟨λ_ z24 _ _ sf=>⟨λ_=>⟨?_,λdP _ _ oO cn _ _ p2=>?_⟩,λhq=>?_⟩,λhq=>?_⟩,λhq=>?_⟩
 ·intro z hz;simp only[ks,s9,or_false]at hz;rcases hz with rfl|rfl|rfl<;>decide
 ·have oO:U dP=nj (U 113) (ib [477315081741,437051401625]):=oO;have p2:cn=((U dP).length:Int):=p2;rw[oO,U8]at p2;subst p2;exact⟨⟨by decide,by decide,trivial⟩,rfl⟩
 ·rw[iL sf,k2]at hq;simp at hq
 ·have:=of_decide_eq_false hq;omega
 ·have:=of_decide_eq_false hq;omega
end Go.bE
namespace Go.bE
open Go Go.ba
theorem FJ {p:UInt8->Prop} (h:∀n:Fin 256,p (kq n.val)) (c:UInt8):p c:=by
 have:=h ⟨c.toNat,c.toNat_lt⟩;simpa using this
theorem aiB:∀c:UInt8,oa c=true->c<128:=FJ (by decide+kernel)
theorem aiA:∀c:UInt8,k5 c=true->c<128:=FJ (by decide+kernel)
theorem WI:∀c:UInt8,dM c=true->c<128:=FJ (by decide+kernel)
theorem aiC:∀c:UInt8,rn c=true->c<128:=FJ (by decide+kernel)
theorem akh:∀c:UInt8,c<128->lo c<128:=FJ (by decide+kernel)
theorem XM {inn ik:UInt8->Bool} (hi:∀c:UInt8,inn c=true->c<128) {s:aq} (h:uy inn ik s=true):gV s:=by
 intro b hb;obtain⟨i,nn,rfl⟩:=List.getElem_of_mem hb;have:=List.all_eq_true.1 h i (List.mem_range.2 nn);simp only[aO]at this;have h1:=hi _ this.1.1;rw[oz,hP nn]at h1;exact h1
theorem N6 {s:aq} (h:fR s=true):gV s:=by
 unfold fR at h;simp only[aO]at h;exact XM aiA h.2
theorem akl {s:aq} (h:jV s=true):gV s:=by
 unfold jV at h;simp only[aO]at h;exact XM aiB h.2
theorem SX {p:UInt8->Bool} (hi:∀c:UInt8,p c=true->c<128) {s:aq} (h:s.all p=true):gV s:=λb hb=>hi b (List.all_eq_true.1 h b hb)
theorem CJ {a b:aq} (ha:gV a) (hb:gV b):gV (a++b):=λx hx=>(List.mem_append.1 hx).elim (ha x) (hb x)
theorem LM {c:Int} (h0:0<=c) (h1:c<128) {t:aq} (hi:0<=idx c t) (ha:gV (t.take (idx c t).toNat)) (hb:gV (t.drop ((idx c t).toNat+1))):gV t:=by
 rcases AJ h0 (by omega) t with⟨h,_⟩|⟨_,h2,h3,_,_⟩
 ·omega
 ·have e:t=t.take (idx c t).toNat++([u8 c]++t.drop ((idx c t).toNat+1)):=by
   rw[<-h3,oz,hP h2];simp only[Option.getD_some,aaj,List.getElem_cons_drop,List.take_append_drop]
  rw[e];refine CJ ha (CJ ?_ hb);intro b hb;simp only[aar]at hb;subst hb;have:c.toNat<128:=by omega
  unfold u8;rw[UInt8.lt_iff_toNat_lt];simp only[UInt8.toNat_ofNat'];show c.toNat% 256<128;omega
theorem apV {s:aq} (h:jk s=true):gV s:=by
 unfold jk mF at h;cases hd:decide (0<=idx 58 s)with
 |false=>rw[hd]at h;simp only[cond_false,aO]at h;exact N6 h.1
 |true=>
  rw[hd]at h;simp only[cond_true,aO,Bool.or_eq_true]at h;refine LM (by decide) (by decide) (of_decide_eq_true hd) (N6 h.1) ?_;rcases h.2 with h|h
  ·simp at h
  ·unfold rC at h;simp only[aO]at h;exact SX WI h.2
theorem asG {s:aq} (h:mW s=true):gV s/\s.length<=255/\s≠[]:=by
 unfold mW od at h;simp only[aO,decide_eq_true_eq]at h;obtain⟨⟨⟨h1,h2⟩,h3⟩,h4⟩:=h;cases hc:(bY 0 s.length&&bu s.length 255&&s.getD 0 0==64&&decide (0<=idx 58 s)&&jk (s.drop ((idx 58 s).toNat+1)))with
 |false=>unfold ji at h1;rw[hc]at h1;simp at h1
 |true=>
  have hp:ji 64 s=((s.take (idx 58 s).toNat).drop 1,s.drop ((idx 58 s).toNat+1),1):=by unfold ji;rw[hc];rfl
  rw[hp]at h4;simp only[aO,decide_eq_true_eq,beq_iff_eq]at hc;obtain⟨⟨⟨⟨k1,k2⟩,k3⟩,k4⟩,nw⟩:=hc;have hn:s≠[]:=by intro e;rw[e]at k1;cases k1
  refine⟨LM (by decide) (by decide) k4 ?_ (apV nw),eh k2,hn⟩;have ha:=SX aiC h4
  match s,hn with
  |a::r,_=>
   have k3:a=64:=by simpa using k3
   subst k3;generalize (idx 58 (64::r)).toNat=i at ha⊢;cases i with
   |zero=>intro b hb;simp at hb
   |succ i=>
    have ha:gV (r.take i):=by simpa using ha
    intro b hb;simp only[y5,ks]at hb;rcases hb with rfl|hb
    ·decide
    ·exact ha b hb
theorem aky {t:aq} (h:gV t):gV (lower t):=λb hb=>by
 obtain⟨c,hc,rfl⟩:=List.mem_map.1 hb;exact akh c (h c hc)
theorem adJ {w:aq} (h:(lC w).2=0):gV (lC w).1/\(lC w).1.length<=254:=by
 unfold lC at h⊢;generalize jl _ w=t at h⊢;unfold qP at h⊢;cases hc:(decide (0<=idx 64 t)&&bu t.length 254&&jV (t.take (idx 64 t).toNat)&&fR (t.drop ((idx 64 t).toNat+1))&&(t.drop ((idx 64 t).toNat+1)).contains 46)with
 |false=>rw[hc]at h;cases h
 |true=>
  simp only[cond_true];simp only[aO,decide_eq_true_eq]at hc;obtain⟨⟨⟨⟨k1,k2⟩,k3⟩,k4⟩,_⟩:=hc;exact⟨aky (LM (by decide) (by decide) k1 (akl k3) (N6 k4)),by unfold lower;rw[j2];exact eh k2⟩
theorem GZ:∀(s d:aq) (p:Bool) {d':aq} {p':Bool},gV d->ea s d p=some (d',p')->gV d'
 |[],d,p,d',p',hd,h=>by unfold ea at h;cases h;exact hd
 |c::r,d,p,d',p',hd,h=>by
  unfold ea at h;cases h1:dM c with
  |true=>
   rw[h1]at h;exact GZ r _ p (CJ hd (λb hb=>by simp only[aar]at hb;subst hb;exact WI _ h1)) h
  |false=>
   rw[h1]at h;simp only[cond_false]at h;cases h2:(c==43&&d.isEmpty&& !p)with
   |true=>rw[h2]at h;exact GZ r d true hd h
   |false=>
    rw[h2]at h;simp only[cond_false]at h;cases h3:nB.contains c with
    |true=>rw[h3]at h;exact GZ r d p hd h
    |false=>rw[h3]at h;cases h
theorem aoB {s:aq} (h:(jj [] s).2=0):gV (jj [] s).1/\(jj [] s).1.length<=15:=by
 have hc:iJ []=some ([],[]):=rfl;unfold jj at h⊢;rw[hc]at h⊢;simp only at h⊢;cases hb:ea s [] false with
 |none=>rw[hb]at h;cases h
 |some q=>
  obtain⟨d,p⟩:=q;rw[hb]at h;simp only at h⊢;have hd:=GZ s [] false (λb hb=>by cases hb) hb;have hN:qk [] [] [] d p=d:=by unfold qk;simp
  rw[hN]at h⊢;unfold sP at h⊢;cases hk:(bY d.length 6||bY 15 d.length||d.getD 0 0==48)with
  |true=>rw[hk]at h;cases h
  |false=>
   simp only[cond_false];simp only[Bool.or_eq_false_iff]at hk;refine⟨hd,?_⟩;have:=hk.1.2;have h2:¬15<d.length:=λhlt=>by
    have:bY 15 d.length=true:=Ru hlt;rw[this]at hk;simp at hk
   omega
theorem apf {m w:aq} (h:lf m w=true):gV (qp (m,w))/\m.length<=6/\w.length<=254:=by
 unfold lf at h;simp only[aO,decide_eq_true_eq,beq_iff_eq]at h;obtain⟨⟨h1,h2⟩,h3⟩:=h;have key:gV m/\m.length<=6/\gV w/\w.length<=254:=by
  unfold ld at h1 h2 h3;cases he:(m==qO)with
  |true=>
   rw[he]at h1 h2 h3;simp only[cond_true]at h1 h2 h3;have hm:m=qO:=by simpa using he
   unfold nz at h1 h2 h3;cases hd:decide ((lC w).2=0)with
   |false=>rw[hd]at h1;simp only[cond_false]at h1;exact absurd h1 (of_decide_eq_false hd)
   |true=>
    rw[hd]at h3;have h3:w=(lC w).1:=h3;have:=adJ (of_decide_eq_true hd);rw[<-h3]at this;refine⟨by rw[hm];show ∀b∈qO,b<128;decide,by rw[hm];decide,this⟩
  |false=>
   rw[he]at h1 h2 h3;simp only[cond_false]at h1 h2 h3;cases hs:(m==rz)with
   |false=>rw[hs]at h1;cases h1
   |true=>
    rw[hs]at h1 h2 h3;simp only[cond_true]at h1 h2 h3;have hm:m=rz:=by simpa using hs
    unfold nz at h1 h2 h3;cases hd:decide ((jj [] w).2=0)with
    |false=>rw[hd]at h1;simp only[cond_false]at h1;exact absurd h1 (of_decide_eq_false hd)
    |true=>
     rw[hd]at h3;have h3:w=(jj [] w).1:=h3;have:=aoB (of_decide_eq_true hd);rw[<-h3]at this;exact⟨by rw[hm];show ∀b∈rz,b<128;decide,by rw[hm];decide,this.1,by omega⟩
 obtain⟨k1,k2,k3,k4⟩:=key;exact⟨CJ (CJ k3 (by show ∀b∈([32]:aq),b<128;decide)) k1,k2,k4⟩
theorem vo {b:gA} (h:ig b=true):gV (qp b.1)/\b.1.1.length<=6/\b.1.2.length<=254/\gV b.2.1/\b.2.1.length<=255/\b.2.1≠[]:=by
 unfold ig at h;simp only[aO]at h;obtain⟨h1,h2,h3⟩:=apf h.2.2.1;obtain⟨h4,h5,h6⟩:=asG h.2.2.2;exact⟨h1,h2,h3,h4,h5,h6⟩
theorem PY {l:List gA} (h:hX l=true):l.length<=64/\∀b∈l,ig b=true:=by
 unfold hX at h;simp only[aO]at h;exact⟨eh h.1.1,λb hb=>List.all_eq_true.1 h.1.2 b hb⟩
def yU (nm:aq×aq->aq) (l:List gA) (k:Nat) (s:aq):Option aq:=nG nm (l.take k) s
theorem atT {nm:aq×aq->aq} {l:List gA} {k:Nat} (hk:k<l.length) (s:aq):yU nm l (k+1) s=cond (decide (s=nm l[k].1)) (some l[k].2.1) (yU nm l k s):=by
 unfold yU nG;rw[Rb,hP hk];simp only[Option.toList_some,List.reverse_append,List.reverse_cons,List.reverse_nil,jH,aaj,List.find?_cons];by_cases h:s=nm l[k].1
 ·subst h;simp
 ·have h2:¬nm l[k].1=s:=λe=>h e.symm;simp[h,h2]
theorem ZM {nm:aq×aq->aq} {l:List gA} {s t:aq} (h:nG nm l s=some t):∃b∈l,nm b.1=s/\b.2.1=t:=by
 unfold nG at h;cases hf:l.reverse.find? (λb=>decide (nm b.1=s))with
 |none=>rw[hf]at h;cases h
 |some b=>
  rw[hf]at h;simp only[Option.map_some,aL]at h;have h1:=List.mem_of_find?_eq_some hf;have h2:=List.find?_some hf;exact⟨b,by simpa using h1,of_decide_eq_true h2,h⟩
end Go.bE
namespace Go.bE
open Go Go.ba
def KP (S:zzS) (K:zzK):Prop:=
 di λz0=>bt λae=>bt λz2=>cB λz3=>bN (-2) aZ λz4=>aI 20 [z0] λz5=>bC λz6=>S 680 [] [[z6]]->(ak ((!(decide
 (z6=1)))) (K [[z0],[ae],[z2]] [[(cond (false) 1 0)]]) (af 22 [z0,0,z5]/\bq 22 [z0,0,z5] λz7=>bC λz8=>S 321 [[z7]] [[z8]]->(ak ((!(decide (z8=
 1)))) (K [[z0],[ae],[z2]] [[(cond (true) 1 0)]]) (bC λz9=>S 670 [[ae]] [[z9]]->(ak ((!(decide (z9=1)))) (K [[z0],[ae],[z2]] [[(cond (true) 1 0)]]) (∃
 (jq:List (List Int)->Prop) (lX:List (List Int)->Nat),jq [[0]]/\(dC λaj=>jq [[aj]]->(ak (decide (aj<z5)) (af 30 [aj,z5]/\af 21
 [z0,aj]/\b8 21 [z0,aj,0] λz12=>b8 21 [z0,aj,1] λaA=>af 90 [ae,z12,aA]/\bt λaB=>S 679 [[ae],[z12,aA]] [[aB]]->bq 23 [0,aB] λ
 au=>af 22 [z0,0,z5]/\bq 22 [z0,0,z5] λaT=>af 22 [au,0,1]/\bq 22 [au,0,1] λbz=>bN 0 6 λaF=>bN 0 0 λcL=>bt λz20=>di λ
 z21=>di λaE=>bN 0 21 λcx=>S 685 [[aT],[ae],[ae],[bz]] [[aF],[cL],[z20],[z21],[aE],[cx]]->cB λz24=>bN (-2) aZ λdP
 =>aI 20 [z21] λcn=>cB λkM=>bN (-2) aZ λz28=>aI 20 [aE] λic=>af 22 [z21,0,cn]/\bq 22 [z21,0,cn] λkp=>af
 22 [aE,0,ic]/\bq 22 [aE,0,ic] λz31=>∀Fi:List Int,bd [(0,4),(0,0),(0,bp),(0,0),(0,0)] Fi->bC λz37=>S 676
 [[aF],[cL],[z20],[kp],[z31],[aB]] [Fi,[z37]]->(ak ((!(decide (cx=0)))) (K [[z0],[ae],[z2]] [[(cond (false) 1 0)]]) ((ak ((!(decide (z37=1)))) (K
 [[z0],[ae],[z2]] [[(cond (false) 1 0)]]) (aI 0 [(aC Fi 2 0)] λs6=>(ak (decide (s6=0)) (K [[z0],[ae],[z2]] [[(cond (false) 1 0)]]) (af 22
 [z0,0,z5]/\bq 22 [z0,0,z5] λuU=>af 22 [au,0,1]/\bq 22 [au,0,1] λz40=>bN 0 6 λqv=>bN 0 0 λmv=>bt λrM=>di λCj=>di λ
 cr=>bN 0 21 λz46=>S 685 [[uU],[ae],[z2],[z40]] [[qv],[mv],[rM],[Cj],[cr],[z46]]->cB λgx=>bN (-2) aZ λs7=>aI 20
 [Cj] λz49=>cB λjG=>bN (-2) aZ λz51=>aI 20 [cr] λqw=>cf 4 [z2,ae] λz53=>(ak ((!(decide (z53=1)))) ((ak
 ((!(decide (z46=15)))) (K [[z0],[ae],[z2]] [[(cond (false) 1 0)]]) (bk (aj+bU) bP λgG=>af 39 [((aj+
 (ax*gG))+1),0,aZ]/\(jq [[((aj+(ax*gG))+1)]]/\lX [[((aj+(ax
 *gG))+1)]]<lX [[aj]])))) (bk (aj+bU) bP λgG=>af 39 [((aj+(ax*gG))+
 1),0,aZ]/\(jq [[((aj+(ax*gG))+1)]]/\lX [[((aj+(ax*gG))+1)]]<lX
 [[aj]])))))))))) (K [[z0],[ae],[z2]] [[(cond (true) 1 0)]])))))))))
theorem Y4 {s:aq} (h:hE s=true):s.length<=64:=by
 unfold hE at h;simp only[aO]at h;exact eh h.2.1
theorem Xj {l:List gA} {p q:aq} {d:List aq} (hs:hE p=true) (hr:hX l=true) (hd:d.length<=32):ny l p q d=cond (decide (q=p)) 0 15:=by
 unfold ny;rw[hs,hr,Ru hd];rfl
theorem atU {nm:aq×aq->aq} {l:List gA} {b:gA} (hb:b∈l):∃t,nG nm l (nm b.1)=some t:=by
 unfold nG;cases hf:l.reverse.find? (λc=>decide (nm c.1=nm b.1))with
 |some c=>exact⟨_,rfl⟩
 |none=>
  rw[List.find?_eq_none]at hf;have:=hf b (List.mem_reverse.2 hb);simp at this
theorem anJ:KP SB (ez SB [.d .bool] 686):=by
 delta KP ak bk bN cB dC aI di bq bt b8 bC cf bP ax aZ bU;dsimp only
 intro z0 _ _ ae _ _ z2 _ _ z3 _ z4 _ _ z5 _ _ h5 z6 _ _ cG;have cG:z6=1:=cG;have h5:z5=((ab z0).length:Int):=h5;have xU:∀b:Bool,(!decide (aN b=1))=false->b=true:=λb h=>by cases b<;>first|rfl|cases h
 refine⟨λh=>by rw[cG]at h;simp at h,λ_=>⟨⟨bB _,by omega,by omega⟩,λz7 _ _ h7 z8 _ _ h8=>⟨λ_=>⟨⟨by decide,by decide,trivial⟩,rfl⟩,λpa z9 _ _ a8=>⟨λ_=>⟨⟨by decide,by decide,trivial⟩,rfl⟩,λl6=>?_⟩⟩⟩⟩;have h8:z8=aN (hX (bds z7)):=h8;have pX:bds z7=bds z0:=by unfold bds;rw[whole h5 h7]
 rw[pX]at h8;have a8:z9=aN (hE (U ae)):=a8;rw[h8]at pa;rw[a8]at l6;have hR:=xU _ pa;have bX:=xU _ l6;have VR:=Y4 bX;obtain⟨aha,aX⟩:=PY hR;clear h8 a8 pa l6 pX h7 xU;refine⟨λbl=>(bl.getD 0 []).getD 0 0<=z5,λbl=>(z5-(bl.getD 0 []).getD 0 0).toNat,by show(0:Int)<=z5;omega,λaj ER _ hI=>⟨λhlt=>?_,λ_=>⟨⟨by decide,by decide,trivial⟩,rfl⟩⟩⟩;have hlt:=of_decide_eq_true hlt;obtain⟨i,rfl⟩:∃i:Nat,aj=i:=⟨aj.toNat,by omega⟩;have hi:i<(ab z0).length:=by omega
 have vA:(bds z0).getD i eS∈bds z0:=by
  rw[oz,hP (by rw[tD];exact hi)];exact List.getElem_mem _
 have dS:=G0 hi;obtain⟨-,a2,a3,-,-,-⟩:=vo (aX _ vA);refine⟨⟨ER,hlt⟩,⟨ER,by omega⟩,λz12 _ _ dJ aA _ _ dK=>?_⟩;have C4:U z12=((bds z0).getD i eS).1.1:=by rw[dS,dJ];rfl
 have vu:U aA=((bds z0).getD i eS).1.2:=by rw[dS,dK];rfl
 refine⟨λz hz=>?_,λaB _ _ eM au _ _ eZ=>⟨⟨bB _,by omega,by omega⟩,λaT _ _ kC=>?_⟩⟩
 ·simp only[ks,s9,or_false]at hz;rcases hz with rfl|rfl|rfl
  ·omega
  ·rw[C4];omega
  ·rw[vu];omega
 have eM:U aB=nj (U ae) (U z12,U aA):=eM;rw[C4,vu]at eM;have eM:U aB=nj (U ae) ((bds z0).getD i eS).1:=eM;have C5:ab au=[[aB]]:=by rw[gd eZ,fA];rfl
 have XC:(1:Int)=((ab au).length:Int):=by rw[C5];rfl
 refine⟨⟨bB _,by decide,by omega⟩,λbz _ _ jM aF _ _ cL _ _ z20 _ _ z21 _ _ aE _ _ cx _ _ bW z24 _ dP _ _ cn _ axv p2 kM _ z28 _ _ ic _ axw Dw=>?_⟩;have bW:tv (nj (U ae)) (bds aT) (U ae) (U ae) (bD bz) aF cL z20 z21 aE cx:=bW;have pX:bds aT=bds z0:=by unfold bds;rw[whole h5 kC]
 have nf:bD bz=[U aB]:=by unfold bD;rw[whole XC jM,C5];rfl
 rw[pX,nf]at bW;obtain⟨g1,g2,g3,g4,g5⟩:=bW;rw[Xj bX hR (by simp),decide_eq_true rfl]at g1;have g1:cx=0:=g1;obtain⟨mh,hf,po⟩:=g5 g1;have agQ:(ab z21).length=(ab aE).length:=hf.1;have p2:cn=((ab z21).length:Int):=p2;have Dw:ic=((ab aE).length:Int):=Dw;refine⟨⟨bB _,by omega,by omega⟩,λkp _ _ MO=>⟨⟨bB _,by omega,by omega⟩,λz31 _ _ aen Fi _ z37 _ _ hg=>?_⟩⟩;have C8:=whole p2 MO;have T1:=whole Dw aen;have hgo:nh kp z31 (U aB)=nh z21 aE (U aB):=by unfold nh nt bD gw;rw[C8,T1]
 have hj:=WN hg mh (by rw[C8,T1];exact agQ);rw[hgo,po]at hj;have hc:[U aB].contains (U aB)=true:=by simp
 rw[hc,cond_true]at hj;obtain⟨t,ht⟩:=atU (nm:=nj (U ae)) vA;rw[<-eM]at ht;obtain⟨da,kH⟩:=hj.1 t ht;obtain⟨b,hb,-,hb2⟩:=ZM ht;have hne:=(vo (aX b hb)).2.2.2.2.2;rw[hb2]at hne;refine⟨λh=>by rw[g1]at h;simp at h,λ_=>⟨λh=>by rw[da]at h;simp at h,λ_ s6 _ _ MP=>?_⟩⟩;have MP:s6=((U (Fi.getD 2 0)).length:Int):=MP;rw[kH]at MP;have hl:t.length≠0:=λh=>hne (List.length_eq_zero_iff.1 h);refine⟨λh=>absurd (of_decide_eq_true h) (by omega),λ_=>⟨⟨bB _,by omega,by omega⟩,λuU _ _ aes=>⟨⟨bB _,by decide,by omega⟩,λz40 _ _ aet qv _ _ mv _ _ rM _ _ Cj _ _ cr _ _ z46 _ _ xy gx _ s7 _ _ z49 _ _ _ jG _ z51 _ _ qw _ _ _ z53 _ _ MQ=>?_⟩⟩⟩;have xy:tv (nj (U ae)) (bds uU) (U ae) (U z2) (bD z40) qv mv rM Cj cr z46:=xy;have adC:bds uU=bds z0:=by unfold bds;rw[whole h5 aes]
 have adQ:bD z40=[U aB]:=by unfold bD;rw[whole XC aet,C5];rfl
 have g6:=xy.1;rw[adC,adQ,Xj bX hR (by simp)]at g6;have hd:=iL MQ;have key:∀gG:Int,0<=gG->gG<=1->0<=((i:Int)+9223372036854775809)-18446744073709551616*gG->((i:Int)+9223372036854775809)-18446744073709551616*gG<18446744073709551616->
  (0<=(i:Int)+(-18446744073709551616)*gG+1/\(i:Int)+(-18446744073709551616)*gG+1<=9223372036854775807)/\(i:Int)+(-18446744073709551616)*gG+1<=z5/\(z5-((i:Int)+(-18446744073709551616)*gG+1)).toNat<(z5-(i:Int)).toNat:=λgG p1 br bT dh=>by omega
 refine⟨λhno=>⟨λh=>?_,λ_ gG p1 br bT dh=>key gG p1 br bT dh⟩,λ_ gG p1 br bT dh=>key gG p1 br bT dh⟩;rw[hd]at hno;have:decide (U z2=U ae)=false:=by cases h2:decide (U z2=U ae)<;>rw[h2]at hno<;>first|rfl|cases hno
 rw[this]at g6;have g6:z46=15:=g6;rw[g6]at h;simp at h
end Go.bE
namespace Go.bE
open Go Go.ba Go.Proofs
theorem asu:dH Tryz.prog cg vO (cA [] []) aj7 akV [1,1] Sc:=λ_ _=>by kernel_rfl
theorem asw:dH Tryz.prog cg vP (cA [] []) aj8 akW [1,1] Sd:=λ_ _=>by kernel_rfl
theorem asx:dH Tryz.prog cg Bk (cA [] [vO,vP]) ek en [1] Se:=λ_ _=>by kernel_rfl
theorem ass:dH Tryz.prog cg Bh (cA [] [vO,vP]) ek en [1] Sa:=λ_ _=>by kernel_rfl
theorem arw:dH Tryz.prog cg AM (cA [] [nx]) ek en [1] RO:=λ_ _=>by kernel_rfl
theorem arB:dH Tryz.prog cg AP (cA [] [nx]) ek en [1] RR:=λ_ _=>by kernel_rfl
theorem arC:dH Tryz.prog cg vK (cA [] [nx]) ek en [1] RS:=λ_ _=>by kernel_rfl
theorem ar2:dH Tryz.prog cg A0 (cA [] [nx]) ajT akH [1,1] R2:=λ_ _=>by kernel_rfl
theorem arN:dH Tryz.prog cg sD (cA [] [nx]) ajN akB [1,1] RY:=λ_ _=>by kernel_rfl
theorem ar8:dH Tryz.prog cg A5 (cA [] []) ajW akK [1,1] R4:=λ_ _=>by kernel_rfl
theorem asr:dH Tryz.prog cg Bg (cA [] []) aj5 akT [1] R9:=λ_ _=>by kernel_rfl
theorem ast:dH Tryz.prog cg Bi (cA [] []) aj6 akU [1] Sb:=λ_ _=>by kernel_rfl
theorem asq:dH Tryz.prog cg Bf (cA [] []) aj4 akS [1] R8:=λ_ _=>by kernel_rfl
theorem arZ:dH Tryz.prog cg AY (cA [] []) ajS akG [1] R1:=λ_ _=>by kernel_rfl
theorem asd:dH Tryz.prog cg A9 (cA [] []) ajZ akN [1] R5:=λ_ _=>by kernel_rfl
theorem arM:dH Tryz.prog cg AT (cA [BK] [Bi,Bg,sD]) ek en [1] KH:=λ_ _=>by kernel_rfl
theorem arY:dH Tryz.prog cg AX (cA [BK] [A0,Bh]) ek en [1] KQ:=λ_ _=>by kernel_rfl
theorem asj:dH Tryz.prog cg vM (cA [] [vK,AT,Bf,sD]) ek en [1] K4:=λ_ _=>by kernel_rfl
theorem arF:dH Tryz.prog cg AR (cA [] [Bk,AP,AX,AM,vM,AY,nx]) ek en [1] KF:=λ_ _=>by kernel_rfl
theorem asm:dH Tryz.prog cg vN (cA [] []) ek en [1] K6:=λ_ _=>by kernel_rfl
theorem arL:dH Tryz.prog cg AS (cA [] []) ek en [1] KG:=λ_ _=>by kernel_rfl
theorem arE:dH Tryz.prog cg sC (cA [] []) ek en [1] KE:=λ_ _=>by kernel_rfl
theorem arV:dH Tryz.prog cg AW (cA [] []) ek en [2,2] KO:=λ_ _=>by kernel_rfl
theorem asb:dH Tryz.prog cg A7 (cA [] []) ek en [2,2] KZ:=λ_ _=>by kernel_rfl
theorem asv:dH Tryz.prog cg Bj (cA [] []) ek en [1,1] La:=λ_ _=>by kernel_rfl
theorem ar6:dH Tryz.prog cg A3 (cA [] []) ek en [1] KV:=λ_ _=>by kernel_rfl
theorem ar4 (S K):tx sh en S K [1,1] (dA EN.args) EN.res (Ff.tree Tryz.prog cg (cA [] [IG,IF,Bj]) ek 600 6)=KT S K:=by kernel_rfl
end Go.bE
namespace Go.bE
open Go Go.ba Go.Proofs
theorem ar9:dH Tryz.prog cg vL (cA [] [vN,AS,sC]) ajX akL [1] KX:=λ_ _=>by kernel_rfl
theorem asc:dH Tryz.prog cg A8 (cA [] []) ajY akM [1] K0:=λ_ _=>by kernel_rfl
theorem ar7:dH Tryz.prog cg A4 (cA [] [A8,vL,A5,A9]) ajV akJ [1] KW:=λ_ _=>by kernel_rfl
theorem asf (S K):tx sh akO S K [1,1] (dA EO.args) EO.res (Fg.tree Tryz.prog cg (cA [] [A3]) aj0 600 6)=K2 S K:=by kernel_rfl
theorem ar1:dH Tryz.prog cg AZ (cA [Ff] [AR]) ek en [1,1] KS:=λ_ _=>by kernel_rfl
theorem ase:dH Tryz.prog cg Ba (cA [Fg] [A4]) ek en [1,1] K1:=λ_ _=>by kernel_rfl
theorem asa:dH Tryz.prog cg A6 (cA [] [AZ]) ek en [2] KY:=λ_ _=>by kernel_rfl
theorem asg:dH Tryz.prog cg Bb (cA [] [Ba]) ek en [2] K3:=λ_ _=>by kernel_rfl
end Go.bE
namespace Go.bE
open Go Go.ba Go.Proofs
theorem asy:dH Tryz.prog cg Bl (cA [] []) aj9 akX [1] Sf:=λ_ _=>by kernel_rfl
theorem ary:dH Tryz.prog cg vJ (cA [] []) ajM akA [1] RP:=λ_ _=>by kernel_rfl
theorem ash:dH Tryz.prog cg Bc (cA [] [vJ,vL,sC]) aj1 akP [1] R6:=λ_ _=>by kernel_rfl
theorem ar3:dH Tryz.prog cg A1 (cA [] [vJ,Bc]) ek en [1,1] R3:=λ_ _=>by kernel_rfl
theorem asi:dH Tryz.prog cg Bd (cA [] [A1,vN,sC]) aj2 akQ [1] R7:=λ_ _=>by kernel_rfl
theorem asz:dH Tryz.prog cg Bm (cA [] [vK,Bl,sD,vM]) ek en [1] Sg:=λ_ _=>by kernel_rfl
theorem arv:dH Tryz.prog cg AL (cA [] [A6,Bm]) ek en [4] RN:=λ_ _=>by kernel_rfl
theorem aru:dH Tryz.prog cg AK (cA [] [AW]) ek en [4,2] RM:=λ_ _=>by kernel_rfl
theorem art (S K):iI sh akz S K [1] (cd vI.args) vI.res (vI.tree (iU []) Tryz.prog cg (cA [] [AL,AK]) ajL 600 6)=KA S K:=by kernel_rfl
theorem asC:dH Tryz.prog cg Bn (cA [] [Bb,Bd]) ek en [4] Ld:=λ_ _=>by kernel_rfl
theorem asB (S K):iI sh akZ S K [1] (cd ym.args) ym.res (ym.tree (iU []) Tryz.prog cg (cA [] [Bn,A7]) akb 600 6)=Lc S K:=by kernel_rfl
theorem ar5:dH Tryz.prog cg A2 (cA [] []) ajU akI [1] KU:=λ_ _=>by kernel_rfl
end Go.bE
namespace Go.bE
open Go Go.ba Go.Proofs
theorem arA:dH Tryz.prog cg AO (cA [] [nx]) ek en [1] RQ:=λ_ _=>by kernel_rfl
theorem arQ (S K):iI sh en S K [5] (cd OO.args) OO.res (HG.tree (iU [sE]) Tryz.prog cg (cA [] []) ek 600 12)=KK S K:=by kernel_rfl
theorem arP (S K):iI sh akD S K [1,1] (cd ON.args) ON.res (HF.tree (iU [sE]) Tryz.prog cg (cA [] []) ajP 600 12)=KJ S K:=by kernel_rfl
theorem arz (S K):iI sh en S K [1] (cd AN.args) AN.res (AN.tree (iU []) Tryz.prog cg (cA [] []) ek 600 6)=KC S K:=by kernel_rfl
theorem arD (S K):iI sh en S K [1] (cd AQ.args) AQ.res (AQ.tree (iU []) Tryz.prog cg (cA [] []) ek 600 6)=KD S K:=by kernel_rfl
theorem ar0:dH Tryz.prog cg ru (cA [] [A2,AO]) ek en [1] KR:=λ_ _=>by kernel_rfl
theorem arS (S K):iI sh akE S K [1,1] (cd AU.args) AU.res (AU.tree (iU []) Tryz.prog cg (cA [] []) ajQ 600 6)=KM S K:=by kernel_rfl
theorem arR (S K):iI sh en S K [1,1,1,5] (cd OP.args) OP.res (Dp.tree (tR [HF,HG,HH] (iU [sE])) Tryz.prog cg (cA [] []) ek 600 12)=KL S K:=by kernel_rfl
theorem arO (S K):iI sh akC S K [1,1,1,1,1,1] (cd OM.args) OM.res (xn.tree (iU []) Tryz.prog cg (cA [] []) ajO 600 6)=KI S K:=by kernel_rfl
theorem arT (S K):iI sh en S K [1,1,1,5] (cd OQ.args) OQ.res (HH.tree (Ix [ef,ee] (iU [AU,AN,AQ])) Tryz.prog cg (cA [] []) ek 600 12)=KN S K:=by kernel_rfl
end Go.bE
namespace Go.bE
open Go Go.ba Go.Proofs
theorem asA (S K):iI sh akY S K [1] (cd sE.args) sE.res (sE.tree (iU []) Tryz.prog cg (cA [] []) aka 600 6)=Lb S K:=by kernel_rfl
end Go.bE
namespace Go.bE
open Go Go.ba Go.Proofs
theorem arU (S K):iI sh en S K [1,2] (cd rr.args) rr.res (rr.tree (uB [BF] (iU [IH])) Tryz.prog cg (cA [] []) ek 600 6)=RZ S K:=by kernel_rfl
theorem arX (S K):iI sh en S K [] (cd yk.args) yk.res (yk.tree (tR [zY,xn] (iU [rr])) Tryz.prog cg (cA [] []) ek 600 6)=R0 S K:=by kernel_rfl
theorem arW (S K):iI sh akF S K [1,1,1] (cd EM.args) EM.res (EM.tree (tR [Dq,xn] (iU [yk,rr,ym])) Tryz.prog cg (cA [] [ru]) ajR 600 6)=KP S K:=by kernel_rfl
end Go.bE
namespace Go.bE
open Go Go.ba Go.Proofs
theorem ars (S K):iI sh Xn S K [1] (cd IE.args) IE.res (yK.tree (G9 Tryz.prog cg (cA [] [ur,uk,um,uo,uq]) (xd (iU [yj]) Tryz.prog cg (cA [] [ur,uk,um,uo,uq]) IQ 600 6) IQ 600 [(1,0,0,4294967295),(1,1,0,4294967295),(1,2,0,4294967295),(1,3,0,4294967295),(1,4,0,4294967295),(1,5,0,4294967295),(1,6,0,4294967295),(1,7,0,4294967295)] 115))=Kz S K:=by kernel_rfl
end Go.bE
namespace Go.bE
open Go Go.ba Go.Proofs
theorem arG:dH Tryz.prog cg uk (cA [] []) ek en [1] RT:=λ_ _=>by kernel_rfl
theorem arH:dH Tryz.prog cg um (cA [] []) ek en [1] RU:=λ_ _=>by kernel_rfl
theorem arI:dH Tryz.prog cg uo (cA [] []) ek en [1] RV:=λ_ _=>by kernel_rfl
theorem arJ:dH Tryz.prog cg uq (cA [] []) ek en [1] RW:=λ_ _=>by kernel_rfl
theorem arx (S K):iI sh en S K [1] (cd yj.args) yj.res (yj.tree (iU []) Tryz.prog cg (cA [] []) ek 600 6)=KB S K:=by kernel_rfl
theorem asn:dH Tryz.prog cg Be (cA [] []) ek en [1,1] K7:=λ_ _=>by kernel_rfl
theorem arK:dH Tryz.prog cg ur (cA [] []) ek en [1] RX:=λ_ _=>by kernel_rfl
theorem aso (S K):iI sh akR S K [1] (cd yl.args) yl.res (yl.tree (iU []) Tryz.prog cg (cA [] [Be]) aj3 600 6)=K8 S K:=by kernel_rfl
theorem asl (S K):iI sh en S K [1,1,1] (cd II.args) II.res (yB.tree (iU []) Tryz.prog cg (cA [] []) ek 600 6)=K5 S K:=by kernel_rfl
theorem asp (S K):iI sh en S K [1,1,1] (cd IJ.args) IJ.res (BF.tree (Fj [yK] (uB [yB] (iU [yl]))) Tryz.prog cg (cA [] []) ek 600 6)=K9 S K:=by kernel_rfl
end Go.bE
