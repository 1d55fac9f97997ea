/- FdVcA: a part of the proof of statements of this seat. -/
import Derived.Test.YtacpildnjohidaaGreatDoorPac
import Derived.Test.YtacpildnjohidaaGreatDoorPad
import Derived.Test.YtacpildnjohidaaGreatDoorProg
import Derived.KernelRfl
import Derived.Test.YtacpildnjohidaaGreatDoorPae
open Bool renaming not_eq_true'->cy,not_true->cL,not_eq_false'->c5,not_false->c9
open Go renaming World->aC,FuncId->dD
open Int renaming eq_ofNat_of_zero_le->oP,emod_nonneg->tr,emod_lt_of_pos->vl
open List renaming getD->I,nil_append->eM,getD_cons_zero->gP,getD_cons_succ->h9,append_nil->iq,cons_append->jJ,take_succ_cons->mG,take_of_length_le->oo,take_append_drop->oQ,length_drop->p4,flatten_cons->qO,take_zero->qS,flatten_nil->vk,drop_drop->Cs,drop_of_length_le->IT,take_add->afT
open List.cons renaming injEq->mh
open Nat renaming beq->aR
open Prod.mk renaming injEq->eZ
set_option linter.unusedVariables false
set_option linter.unusedSimpArgs false
set_option maxRecDepth 20000
namespace Go.Fd
open Go.bX
def WJ (S:zzS) (K:zzK):Prop:=
 lA 32 λr0=>
 K [r0] [[((I r0 0 0)+((256*(I r0 1 0))+((65536*(I r0 2 0))+((iX*(I r0 3 0))+((iY*(I r0 4 0))+((iZ*(I r0 5 0))+((ja*(I r0 6 0))+(jt*(I r0 7 0))))))))),((I r0 8 0)+((256*(I r0 9 0))+((65536*(I r0 10 0))+((iX*(I r0 11 0))+((iY*(I r0 12 0))+((iZ*(I r0 13 0))+((ja*(I r0 14 0))+(jt*(I r0 15 0))))))))),((I r0 16 0)+((256*(I r0 17 0))+((65536*(I r0 18 0))+((iX*(I r0 19 0))+((iY*(I r0 20 0))+((iZ*(I r0 21 0))+((ja*(I r0 22 0))+(jt*(I r0 23 0))))))))),((I r0 24 0)+((256*(I r0 25 0))+((65536*(I r0 26 0))+((iX*(I r0 27 0))+((iY*(I r0 28 0))+((iZ*(I r0 29 0))+((ja*(I r0 30 0))+(jt*(I r0 31 0)))))))))]]
theorem adx (G):WJ (fk G) (eT lv.res 37):=by
 simp(maxSteps:=4000000) only[WJ,lA,iX,iY,iZ,ja,jt];intro r0 i0;refine⟨?_,?_⟩
 ·obtain⟨dw,ah,ag,ao,dB,kb,kq,oe,po,pq,p2,jH,k8,pn,y6,y7,y8,y9,za,zb,zc,zd,ze,zf,zg,zh,zi,zj,zk,zl,zm,zn,rfl,cU,cV,cW,cX,cY,cZ,c0,c2,xM,xN,arI,arJ,arK,arL,arM,arN,arO,arP,arQ,arR,aqW,aqX,aqY,aqZ,aq0,aq1,aq2,aq3,aq4,aq5,aq6,aq7,aq8,aq9,ara,arb,arc,ard,arf,arh,ari,arj,ark,arl,arn,aro,arp,arq,ars,art,aru,arv,arw,arx,ary,arz,arA,arB,arC,arD,arE,arF,arG,arH⟩:=HB i0;simp only[lv,aU,D.bds,dA,aS,jJ,eM,iq,qO,vk,ay,and_true,gP,h9];omega
 ·show aa [((I r0 0 0)+((256*(I r0 1 0))+((65536*(I r0 2 0))+((16777216*(I r0 3 0))+((4294967296*(I r0 4 0))+((1099511627776*(I r0 5 0))+((281474976710656*(I r0 6 0))+(72057594037927936*(I r0 7 0))))))))),((I r0 8 0)+((256*(I r0 9 0))+((65536*(I r0 10 0))+((16777216*(I r0 11 0))+((4294967296*(I r0 12 0))+((1099511627776*(I r0 13 0))+((281474976710656*(I r0 14 0))+(72057594037927936*(I r0 15 0))))))))),((I r0 16 0)+((256*(I r0 17 0))+((65536*(I r0 18 0))+((16777216*(I r0 19 0))+((4294967296*(I r0 20 0))+((1099511627776*(I r0 21 0))+((281474976710656*(I r0 22 0))+(72057594037927936*(I r0 23 0))))))))),((I r0 24 0)+((256*(I r0 25 0))+((65536*(I r0 26 0))+((16777216*(I r0 27 0))+((4294967296*(I r0 28 0))+((1099511627776*(I r0 29 0))+((281474976710656*(I r0 30 0))+(72057594037927936*(I r0 31 0)))))))))]=nb r0;obtain⟨dw,ah,ag,ao,dB,kb,kq,oe,po,pq,p2,jH,k8,pn,y6,y7,y8,y9,za,zb,zc,zd,ze,zf,zg,zh,zi,zj,zk,zl,zm,zn,rfl,cU,cV,cW,cX,cY,cZ,c0,c2,xM,xN,arI,arJ,arK,arL,arM,arN,arO,arP,arQ,arR,aqW,aqX,aqY,aqZ,aq0,aq1,aq2,aq3,aq4,aq5,aq6,aq7,aq8,aq9,ara,arb,arc,ard,arf,arh,ari,arj,ark,arl,arn,aro,arp,arq,ars,art,aru,arv,arw,arx,ary,arz,arA,arB,arC,arD,arE,arF,arG,arH⟩:=HB i0;simp only[num,gP,h9];omega
def WR (S:zzS) (K:zzK):Prop:=
 cz 4 λr0=>
 au 0 r6 (I r0 0 0) 256 λz4=>
 au 0 r6 (I r0 0 0) 256 λz5=>
 au 0 r7 z5 256 λbb=>
 au 0 r7 (I r0 0 0) 65536 λaJ=>
 au 0 j6 aJ 256 λaD=>
 au 0 j6 (I r0 0 0) iX λz9=>
 au 0 r4 z9 256 λaW=>
 au 0 r4 (I r0 0 0) iY λaI=>
 au 0 r5 aI 256 λz12=>
 au 0 r5 (I r0 0 0) iZ λaY=>
 au 0 65535 aY 256 λaM=>
 au 0 65535 (I r0 0 0) ja λaT=>
 au 0 255 aT 256 λbd=>
 au 0 255 (I r0 0 0) jt λaX=>
 au 0 r6 (I r0 1 0) 256 λbj=>
 au 0 r6 (I r0 1 0) 256 λbn=>
 au 0 r7 bn 256 λz20=>
 au 0 r7 (I r0 1 0) 65536 λz21=>
 au 0 j6 z21 256 λz22=>
 au 0 j6 (I r0 1 0) iX λbJ=>
 au 0 r4 bJ 256 λz24=>
 au 0 r4 (I r0 1 0) iY λb6=>
 au 0 r5 b6 256 λz26=>
 au 0 r5 (I r0 1 0) iZ λbW=>
 au 0 65535 bW 256 λz28=>
 au 0 65535 (I r0 1 0) ja λb3=>
 au 0 255 b3 256 λcj=>
 au 0 255 (I r0 1 0) jt λz31=>
 au 0 r6 (I r0 2 0) 256 λa7=>
 au 0 r6 (I r0 2 0) 256 λbR=>
 au 0 r7 bR 256 λcf=>
 au 0 r7 (I r0 2 0) 65536 λb7=>
 au 0 j6 b7 256 λck=>
 au 0 j6 (I r0 2 0) iX λz37=>
 au 0 r4 z37 256 λcS=>
 au 0 r4 (I r0 2 0) iY λcG=>
 au 0 r5 cG 256 λz40=>
 au 0 r5 (I r0 2 0) iZ λcI=>
 au 0 65535 cI 256 λc7=>
 au 0 65535 (I r0 2 0) ja λdf=>
 au 0 255 df 256 λdL=>
 au 0 255 (I r0 2 0) jt λdx=>
 au 0 r6 (I r0 3 0) 256 λz46=>
 au 0 r6 (I r0 3 0) 256 λdp=>
 au 0 r7 dp 256 λdC=>
 au 0 r7 (I r0 3 0) 65536 λz49=>
 au 0 j6 z49 256 λey=>
 au 0 j6 (I r0 3 0) iX λz51=>
 au 0 r4 z51 256 λdc=>
 au 0 r4 (I r0 3 0) iY λz53=>
 au 0 r5 z53 256 λef=>
 au 0 r5 (I r0 3 0) iZ λez=>
 au 0 65535 ez 256 λeg=>
 au 0 65535 (I r0 3 0) ja λcO=>
 au 0 255 cO 256 λeE=>
 au 0 255 (I r0 3 0) jt λz59=>
 K [r0] [[((I r0 0 0)+((-256)*z4)),(z5+((-256)*bb)),(aJ+((-256)*aD)),(z9+((-256)*aW)),(aI+((-256)*z12)),(aY+((-256)*aM)),(aT+((-256)*bd)),aX,((I r0 1 0)+((-256)*bj)),(bn+((-256)*z20)),(z21+((-256)*z22)),(bJ+((-256)*z24)),(b6+((-256)*z26)),(bW+((-256)*z28)),(b3+((-256)*cj)),z31,((I r0 2 0)+((-256)*a7)),(bR+((-256)*cf)),(b7+((-256)*ck)),(z37+((-256)*cS)),(cG+((-256)*z40)),(cI+((-256)*c7)),(df+((-256)*dL)),dx,((I r0 3 0)+((-256)*z46)),(dp+((-256)*dC)),(z49+((-256)*ey)),(z51+((-256)*dc)),(z53+((-256)*ef)),(ez+((-256)*eg)),(cO+((-256)*eE)),z59]]
theorem aGq (G):WR (fk G) (eT tU.res 27):=by
 simp(maxSteps:=4000000) only[WR,au,cz,iX,iY,iZ,ja,jt,r6,r7,j6,r4,r5];intro r0 i0 z4 a4 mI dr d4 z5 a5 mJ fY d5 bb pB pE hK d6 aJ p9 qc nr d7 aD jN jP mq d8 z9 a9 fJ kk d9 aW iQ iE qf d10 aI e8 fc mo d11 z12 a12 iJ ou d12 aY fP fT ye d13 aM jf jg pF d14 aT fF fH oS d15 bd jx jz Bg d16 aX fG fU oT d17 bj gd gu ov d18 bn gf gh zO d19 z20 a20 fI ow d20 z21 a21 fy kA d21 z22 a22 fp sK d22 bJ fw dT ox d23 z24 a24 eG oy d24 b6 fQ fV qg d25 z26 a26 fW uz d26 bW fR gi GM d27 z28 a28 gA rM d28 b3 gg gj tw d29 cj gr gk sL d30 z31 a31 gK sM d31 a7 cD gm rN d32 bR e9 fe ll d33 cf fx fA oU d34 b7 fm fq qY d35 ck fa e0 pG d36 z37 a37 fX yf d37 cS fb fr qh d38 cG fo fB oV d39 z40 a40 gL zP d40 cI jM jO qi d41 c7 jy iF oW d42 df kM kS sN d43 dL kN ky uA d44 dx lZ ml GN d45 z46 a46 l3 rO d46 dp kO kT tx d47 dC kP kU sO d48 z49 a49 kV sP d49 ey l0 mm Mk d50 z51 a51 lf rP d51 dc kQ kW rQ d52 z53 a53 lg uB d53 ef lJ lh sQ d54 ez mi mn GO d55 eg kR lj sR d56 cO kv kj qZ d57 eE mj mK GP d58 z59 a59 lk tz d59;have lT:=ct a4 mI dr d4;have VI:=ct a5 mJ fY d5;have D1:=ct pB pE hK d6;have VL:=ct p9 qc nr d7
 have Cj:=ct jN jP mq d8;have IK:=ct a9 fJ kk d9;have DZ:=ct iQ iE qf d10;have Lq:=ct e8 fc mo d11
 have IE:=ct a12 iJ ou d12;have Lr:=ct fP fT ye d13;have P4:=ct jf jg pF d14;have P5:=ct fF fH oS d15
 have P6:=ct jx jz Bg d16;have P7:=ct fG fU oT d17;have zo:=ct gd gu ov d18;have P8:=ct gf gh zO d19
 have Ce:=ct a20 fI ow d20;have IF:=ct a21 fy kA d21;have Cf:=ct a22 fp sK d22;have VD:=ct fw dT ox d23
 have IG:=ct a24 eG oy d24;have P9:=ct fQ fV qg d25;have F8:=ct a26 fW uz d26;have Ls:=ct fR gi GM d27
 have Qa:=ct a28 gA rM d28;have VE:=ct gg gj tw d29;have Lt:=ct gr gk sL d30;have Lu:=ct a31 gK sM d31
 have zp:=ct cD gm rN d32;have VF:=ct e9 fe ll d33;have D0:=ct fx fA oU d34;have Lv:=ct fm fq qY d35
 have Cg:=ct fa e0 pG d36;have Qb:=ct a37 fX yf d37;have F9:=ct fb fr qh d38;have IH:=ct fo fB oV d39
 have Ga:=ct a40 gL zP d40;have VG:=ct jM jO qi d41;have Qc:=ct jy iF oW d42;have Qd:=ct kM kS sN d43
 have Lw:=ct kN ky uA d44;have Lx:=ct lZ ml GN d45;have Ch:=ct a46 l3 rO d46;have VH:=ct kO kT tx d47
 have AR:=ct kP kU sO d48;have Ly:=ct a49 kV sP d49;have Ci:=ct l0 mm Mk d50;have VJ:=ct a51 lf rP d51
 have II:=ct kQ kW rQ d52;have Lz:=ct a53 lg uB d53;have Gb:=ct lJ lh sQ d54;have Qe:=ct mi mn GO d55
 have LA:=ct kR lj sR d56;have IJ:=ct kv kj qZ d57;have LB:=ct mj mK GP d58;have VK:=ct a59 lk tz d59
 clear a4 mI dr d4 a5 mJ fY d5 pB pE hK d6 p9 qc nr d7 jN jP mq d8 a9 fJ kk d9 iQ iE qf d10 e8 fc mo d11 a12 iJ ou d12 fP fT ye d13 jf jg pF d14 fF fH oS d15 jx jz Bg d16 fG fU oT d17 gd gu ov d18 gf gh zO d19 a20 fI ow d20 a21 fy kA d21 a22 fp sK d22 fw dT ox d23 a24 eG oy d24 fQ fV qg d25 a26 fW uz d26 fR gi GM d27 a28 gA rM d28 gg gj tw d29 gr gk sL d30 a31 gK sM d31 cD gm rN d32 e9 fe ll d33 fx fA oU d34 fm fq qY d35 fa e0 pG d36 a37 fX yf d37 fb fr qh d38 fo fB oV d39 a40 gL zP d40 jM jO qi d41 jy iF oW d42 kM kS sN d43 kN ky uA d44 lZ ml GN d45 a46 l3 rO d46 kO kT tx d47 kP kU sO d48 a49 kV sP d49 l0 mm Mk d50 a51 lf rP d51 kQ kW rQ d52 a53 lg uB d53 lJ lh sQ d54 mi mn GO d55 kR lj sR d56 kv kj qZ d57 mj mK GP d58 a59 lk tz d59;refine⟨?_,?_⟩
 ·obtain⟨dw,ah,ag,ao,rfl,cU,cV,cW,cX,cY,cZ,c0,c2⟩:=n0 i0;simp only[gP,h9]at*;simp only[tU,aU,D.bds,gC,aS,jJ,eM,iq,qO,vk,ay,and_true];exact⟨by have:=lT.h;clear cU cV cW cX cY cZ c0 c2;omega,
   by have:=lT.h;clear cU cV cW cX cY cZ c0 c2;omega,
   by have:=VI.h;have:=D1.h;clear cU cV cW cX cY cZ c0 c2;omega,
   by have:=VI.h;have:=D1.h;clear cU cV cW cX cY cZ c0 c2;omega,
   by have:=VL.h;have:=Cj.h;clear cU cV cW cX cY cZ c0 c2;omega,
   by have:=VL.h;have:=Cj.h;clear cU cV cW cX cY cZ c0 c2;omega,
   by have:=IK.h;have:=DZ.h;clear cU cV cW cX cY cZ c0 c2;omega,
   by have:=IK.h;have:=DZ.h;clear cU cV cW cX cY cZ c0 c2;omega,
   by have:=Lq.h;have:=IE.h;clear cU cV cW cX cY cZ c0 c2;omega,
   by have:=Lq.h;have:=IE.h;clear cU cV cW cX cY cZ c0 c2;omega,
   by have:=Lr.h;have:=P4.h;clear cU cV cW cX cY cZ c0 c2;omega,
   by have:=Lr.h;have:=P4.h;clear cU cV cW cX cY cZ c0 c2;omega,
   by have:=P5.h;have:=P6.h;clear cU cV cW cX cY cZ c0 c2;omega,
   by have:=P5.h;have:=P6.h;clear cU cV cW cX cY cZ c0 c2;omega,
   by have:=P7.h;clear cU cV cW cX cY cZ c0 c2;omega,
   by have:=P7.h;clear cU cV cW cX cY cZ c0 c2;omega,
   by have:=zo.h;clear cU cV cW cX cY cZ c0 c2;omega,
   by have:=zo.h;clear cU cV cW cX cY cZ c0 c2;omega,
   by have:=P8.h;have:=Ce.h;clear cU cV cW cX cY cZ c0 c2;omega,
   by have:=P8.h;have:=Ce.h;clear cU cV cW cX cY cZ c0 c2;omega,
   by have:=IF.h;have:=Cf.h;clear cU cV cW cX cY cZ c0 c2;omega,
   by have:=IF.h;have:=Cf.h;clear cU cV cW cX cY cZ c0 c2;omega,
   by have:=VD.h;have:=IG.h;clear cU cV cW cX cY cZ c0 c2;omega,
   by have:=VD.h;have:=IG.h;clear cU cV cW cX cY cZ c0 c2;omega,
   by have:=P9.h;have:=F8.h;clear cU cV cW cX cY cZ c0 c2;omega,
   by have:=P9.h;have:=F8.h;clear cU cV cW cX cY cZ c0 c2;omega,
   by have:=Ls.h;have:=Qa.h;clear cU cV cW cX cY cZ c0 c2;omega,
   by have:=Ls.h;have:=Qa.h;clear cU cV cW cX cY cZ c0 c2;omega,
   by have:=VE.h;have:=Lt.h;clear cU cV cW cX cY cZ c0 c2;omega,
   by have:=VE.h;have:=Lt.h;clear cU cV cW cX cY cZ c0 c2;omega,
   by have:=Lu.h;clear cU cV cW cX cY cZ c0 c2;omega,
   by have:=Lu.h;clear cU cV cW cX cY cZ c0 c2;omega,
   by have:=zp.h;clear cU cV cW cX cY cZ c0 c2;omega,
   by have:=zp.h;clear cU cV cW cX cY cZ c0 c2;omega,
   by have:=VF.h;have:=D0.h;clear cU cV cW cX cY cZ c0 c2;omega,
   by have:=VF.h;have:=D0.h;clear cU cV cW cX cY cZ c0 c2;omega,
   by have:=Lv.h;have:=Cg.h;clear cU cV cW cX cY cZ c0 c2;omega,
   by have:=Lv.h;have:=Cg.h;clear cU cV cW cX cY cZ c0 c2;omega,
   by have:=Qb.h;have:=F9.h;clear cU cV cW cX cY cZ c0 c2;omega,
   by have:=Qb.h;have:=F9.h;clear cU cV cW cX cY cZ c0 c2;omega,
   by have:=IH.h;have:=Ga.h;clear cU cV cW cX cY cZ c0 c2;omega,
   by have:=IH.h;have:=Ga.h;clear cU cV cW cX cY cZ c0 c2;omega,
   by have:=VG.h;have:=Qc.h;clear cU cV cW cX cY cZ c0 c2;omega,
   by have:=VG.h;have:=Qc.h;clear cU cV cW cX cY cZ c0 c2;omega,
   by have:=Qd.h;have:=Lw.h;clear cU cV cW cX cY cZ c0 c2;omega,
   by have:=Qd.h;have:=Lw.h;clear cU cV cW cX cY cZ c0 c2;omega,
   by have:=Lx.h;clear cU cV cW cX cY cZ c0 c2;omega,
   by have:=Lx.h;clear cU cV cW cX cY cZ c0 c2;omega,
   by have:=Ch.h;clear cU cV cW cX cY cZ c0 c2;omega,
   by have:=Ch.h;clear cU cV cW cX cY cZ c0 c2;omega,
   by have:=VH.h;have:=AR.h;clear cU cV cW cX cY cZ c0 c2;omega,
   by have:=VH.h;have:=AR.h;clear cU cV cW cX cY cZ c0 c2;omega,
   by have:=Ly.h;have:=Ci.h;clear cU cV cW cX cY cZ c0 c2;omega,
   by have:=Ly.h;have:=Ci.h;clear cU cV cW cX cY cZ c0 c2;omega,
   by have:=VJ.h;have:=II.h;clear cU cV cW cX cY cZ c0 c2;omega,
   by have:=VJ.h;have:=II.h;clear cU cV cW cX cY cZ c0 c2;omega,
   by have:=Lz.h;have:=Gb.h;clear cU cV cW cX cY cZ c0 c2;omega,
   by have:=Lz.h;have:=Gb.h;clear cU cV cW cX cY cZ c0 c2;omega,
   by have:=Qe.h;have:=LA.h;clear cU cV cW cX cY cZ c0 c2;omega,
   by have:=Qe.h;have:=LA.h;clear cU cV cW cX cY cZ c0 c2;omega,
   by have:=IJ.h;have:=LB.h;clear cU cV cW cX cY cZ c0 c2;omega,
   by have:=IJ.h;have:=LB.h;clear cU cV cW cX cY cZ c0 c2;omega,
   by have:=VK.h;clear cU cV cW cX cY cZ c0 c2;omega,
   by have:=VK.h;clear cU cV cW cX cY cZ c0 c2;omega⟩
 ·show nb [((I r0 0 0)+((-256)*z4)),(z5+((-256)*bb)),(aJ+((-256)*aD)),(z9+((-256)*aW)),(aI+((-256)*z12)),(aY+((-256)*aM)),(aT+((-256)*bd)),aX,((I r0 1 0)+((-256)*bj)),(bn+((-256)*z20)),(z21+((-256)*z22)),(bJ+((-256)*z24)),(b6+((-256)*z26)),(bW+((-256)*z28)),(b3+((-256)*cj)),z31,((I r0 2 0)+((-256)*a7)),(bR+((-256)*cf)),(b7+((-256)*ck)),(z37+((-256)*cS)),(cG+((-256)*z40)),(cI+((-256)*c7)),(df+((-256)*dL)),dx,((I r0 3 0)+((-256)*z46)),(dp+((-256)*dC)),(z49+((-256)*ey)),(z51+((-256)*dc)),(z53+((-256)*ef)),(ez+((-256)*eg)),(cO+((-256)*eE)),z59]=aa r0;obtain⟨dw,ah,ag,ao,rfl,cU,cV,cW,cX,cY,cZ,c0,c2⟩:=n0 i0;simp only[gP,h9]at*;have lz:z4=z5:=by
   have:=lT.h;have:=VI.h
   omega
  subst lz;have oJ:bb=aJ:=by
   have:=lT.h;have:=D1.h;have:=VL.h
   omega
  subst oJ;have Pa:aD=z9:=by
   have:=lT.h;have:=D1.h;have:=Cj.h;have:=IK.h
   omega
  subst Pa;have aIi:aW=aI:=by
   have:=lT.h;have:=D1.h;have:=Cj.h;have:=DZ.h;have:=Lq.h
   omega
  subst aIi;have aIj:z12=aY:=by
   have:=lT.h;have:=D1.h;have:=Cj.h;have:=DZ.h;have:=IE.h;have:=Lr.h
   omega
  subst aIj;have aIk:aM=aT:=by
   have:=lT.h;have:=D1.h;have:=Cj.h;have:=DZ.h;have:=IE.h;have:=P4.h;have:=P5.h
   omega
  subst aIk;have aIl:bd=aX:=by
   have:=lT.h;have:=D1.h;have:=Cj.h;have:=DZ.h;have:=IE.h;have:=P4.h;have:=P6.h;have:=P7.h
   omega
  subst aIl;have aIm:bj=bn:=by
   have:=zo.h;have:=P8.h
   omega
  subst aIm;have aIn:z20=z21:=by
   have:=zo.h;have:=Ce.h;have:=IF.h
   omega
  subst aIn;have aIo:z22=bJ:=by
   have:=zo.h;have:=Ce.h;have:=Cf.h;have:=VD.h
   omega
  subst aIo;have aIp:z24=b6:=by
   have:=zo.h;have:=Ce.h;have:=Cf.h;have:=IG.h;have:=P9.h
   omega
  subst aIp;have aIr:z26=bW:=by
   have:=zo.h;have:=Ce.h;have:=Cf.h;have:=IG.h;have:=F8.h;have:=Ls.h
   omega
  subst aIr;have aIt:z28=b3:=by
   have:=zo.h;have:=Ce.h;have:=Cf.h;have:=IG.h;have:=F8.h;have:=Qa.h;have:=VE.h
   omega
  subst aIt;have aIv:cj=z31:=by
   have:=zo.h;have:=Ce.h;have:=Cf.h;have:=IG.h;have:=F8.h;have:=Qa.h;have:=Lt.h;have:=Lu.h
   omega
  subst aIv;have adJ:a7=bR:=by
   have:=zp.h;have:=VF.h
   omega
  subst adJ;have aIy:cf=b7:=by
   have:=zp.h;have:=D0.h;have:=Lv.h
   omega
  subst aIy;have aIz:ck=z37:=by
   have:=zp.h;have:=D0.h;have:=Cg.h;have:=Qb.h
   omega
  subst aIz;have Ul:cS=cG:=by
   have:=zp.h;have:=D0.h;have:=Cg.h;have:=F9.h;have:=IH.h
   omega
  subst Ul;have aIC:z40=cI:=by
   have:=zp.h;have:=D0.h;have:=Cg.h;have:=F9.h;have:=Ga.h;have:=VG.h
   omega
  subst aIC;have aID:c7=df:=by
   have:=zp.h;have:=D0.h;have:=Cg.h;have:=F9.h;have:=Ga.h;have:=Qc.h;have:=Qd.h
   omega
  subst aID;have aIF:dL=dx:=by
   have:=zp.h;have:=D0.h;have:=Cg.h;have:=F9.h;have:=Ga.h;have:=Qc.h;have:=Lw.h;have:=Lx.h
   omega
  subst aIF;have aIH:z46=dp:=by
   have:=Ch.h;have:=VH.h
   omega
  subst aIH;have aIJ:dC=z49:=by
   have:=Ch.h;have:=AR.h;have:=Ly.h
   omega
  subst aIJ;have aIL:ey=z51:=by
   have:=Ch.h;have:=AR.h;have:=Ci.h;have:=VJ.h
   omega
  subst aIL;have aIN:dc=z53:=by
   have:=Ch.h;have:=AR.h;have:=Ci.h;have:=II.h;have:=Lz.h
   omega
  subst aIN;have aIP:ef=ez:=by
   have:=Ch.h;have:=AR.h;have:=Ci.h;have:=II.h;have:=Gb.h;have:=Qe.h
   omega
  subst aIP;have aIR:eg=cO:=by
   have:=Ch.h;have:=AR.h;have:=Ci.h;have:=II.h;have:=Gb.h;have:=LA.h;have:=IJ.h
   omega
  subst aIR;have aIT:eE=z59:=by
   have:=Ch.h;have:=AR.h;have:=Ci.h;have:=II.h;have:=Gb.h;have:=LA.h;have:=LB.h;have:=VK.h
   omega
  subst aIT
  skip
  simp only[num];omega
def Xb (S:zzS) (K:zzK):Prop:=
 K [] [[18446744073709551597,18446744073709551615,18446744073709551615,9223372036854775807]]
theorem aGO (G):Xb (fk G) (eT mx.res 28):=by
 unfold Xb;refine⟨?_,?_⟩
 ·simp[mx,aU,D.bds,ay,dA,hX,c1,gC,aS]
 ·show aa [18446744073709551597,18446744073709551615,18446744073709551615,9223372036854775807]=57896044618658097711785492504343953926634992332820282019728792003956564819949;decide
def W7 (S:zzS) (K:zzK):Prop:=
 cz 4 λr0=>cz 4 λaZ=>
 ((((!(decide ((I r0 3 0)=(I aZ 3 0)))))=true->
  K [r0,aZ] [[(cond (decide ((I r0 3 0)<(I aZ 3 0))) 1 0)]]
 )/\(((!(decide ((I r0 3 0)=(I aZ 3 0)))))=false->
  ((((!(decide ((I r0 2 0)=(I aZ 2 0)))))=true->
   K [r0,aZ] [[(cond (decide ((I r0 2 0)<(I aZ 2 0))) 1 0)]]
  )/\(((!(decide ((I r0 2 0)=(I aZ 2 0)))))=false->
   ((((!(decide ((I r0 1 0)=(I aZ 1 0)))))=true->
    K [r0,aZ] [[(cond (decide ((I r0 1 0)<(I aZ 1 0))) 1 0)]]
   )/\(((!(decide ((I r0 1 0)=(I aZ 1 0)))))=false->
    ((((!(decide ((I r0 0 0)=(I aZ 0 0)))))=true->
     K [r0,aZ] [[(cond (decide ((I r0 0 0)<(I aZ 0 0))) 1 0)]]
    )/\(((!(decide ((I r0 0 0)=(I aZ 0 0)))))=false->
     K [r0,aZ] [[(cond (false) 1 0)]]
    ))
   ))
  ))
 ))
theorem aGF (G):W7 (fk G) (eT mb.res 42):=by
 simp(maxSteps:=4000000) only[W7,cz];intro r0 i0 aZ i4;refine⟨λh0=>?_,λh0=>?_⟩
 ·skip
  simp only[cy,c5,cL,c9,decide_eq_true_eq,decide_eq_false_iff_not]at h0;refine⟨?_,?_⟩
  ·simp only[mb,aU,D.bds,jJ,eM,qO,vk,ay,and_true];rw[vE];unfold bit;split<;>decide
  ·show(cond (decide ((I r0 3 0)<(I aZ 3 0))) 1 0)=bit (aa r0<aa aZ);obtain⟨dw,ah,ag,ao,rfl,cU,cV,cW,cX,cY,cZ,c0,c2⟩:=n0 i0;obtain⟨jo,an,ak,ax,rfl,wg,wh,wi,wj,wk,wm,wo,wq⟩:=n0 i4;simp only[num,gP,h9]at*;rw[vE];unfold bit
   (repeat' split)<;>omega
 ·skip
  simp only[cy,c5,cL,c9,decide_eq_true_eq,decide_eq_false_iff_not]at h0;refine⟨λh1=>?_,λh1=>?_⟩
  ·skip
   simp only[cy,c5,cL,c9,decide_eq_true_eq,decide_eq_false_iff_not]at h1;refine⟨?_,?_⟩
   ·simp only[mb,aU,D.bds,jJ,eM,qO,vk,ay,and_true];rw[vE];unfold bit;split<;>decide
   ·show(cond (decide ((I r0 2 0)<(I aZ 2 0))) 1 0)=bit (aa r0<aa aZ);obtain⟨dw,ah,ag,ao,rfl,cU,cV,cW,cX,cY,cZ,c0,c2⟩:=n0 i0;obtain⟨jo,an,ak,ax,rfl,wg,wh,wi,wj,wk,wm,wo,wq⟩:=n0 i4;simp only[num,gP,h9]at*;rw[vE];unfold bit
    (repeat' split)<;>omega
  ·skip
   simp only[cy,c5,cL,c9,decide_eq_true_eq,decide_eq_false_iff_not]at h1;refine⟨λh2=>?_,λh2=>?_⟩
   ·skip
    simp only[cy,c5,cL,c9,decide_eq_true_eq,decide_eq_false_iff_not]at h2;refine⟨?_,?_⟩
    ·simp only[mb,aU,D.bds,jJ,eM,qO,vk,ay,and_true];rw[vE];unfold bit;split<;>decide
    ·show(cond (decide ((I r0 1 0)<(I aZ 1 0))) 1 0)=bit (aa r0<aa aZ);obtain⟨dw,ah,ag,ao,rfl,cU,cV,cW,cX,cY,cZ,c0,c2⟩:=n0 i0;obtain⟨jo,an,ak,ax,rfl,wg,wh,wi,wj,wk,wm,wo,wq⟩:=n0 i4;simp only[num,gP,h9]at*;rw[vE];unfold bit
     (repeat' split)<;>omega
   ·skip
    simp only[cy,c5,cL,c9,decide_eq_true_eq,decide_eq_false_iff_not]at h2;refine⟨λh3=>?_,λh3=>?_⟩
    ·skip
     simp only[cy,c5,cL,c9,decide_eq_true_eq,decide_eq_false_iff_not]at h3;refine⟨?_,?_⟩
     ·simp only[mb,aU,D.bds,jJ,eM,qO,vk,ay,and_true];rw[vE];unfold bit;split<;>decide
     ·show(cond (decide ((I r0 0 0)<(I aZ 0 0))) 1 0)=bit (aa r0<aa aZ);obtain⟨dw,ah,ag,ao,rfl,cU,cV,cW,cX,cY,cZ,c0,c2⟩:=n0 i0;obtain⟨jo,an,ak,ax,rfl,wg,wh,wi,wj,wk,wm,wo,wq⟩:=n0 i4;simp only[num,gP,h9]at*;rw[vE];unfold bit
      (repeat' split)<;>omega
    ·skip
     simp only[cy,c5,cL,c9,decide_eq_true_eq,decide_eq_false_iff_not]at h3;refine⟨?_,?_⟩
     ·simp only[mb,aU,D.bds,jJ,eM,qO,vk,ay,and_true];decide
     ·show(cond (false) 1 0)=bit (aa r0<aa aZ);obtain⟨dw,ah,ag,ao,rfl,cU,cV,cW,cX,cY,cZ,c0,c2⟩:=n0 i0;obtain⟨jo,an,ak,ax,rfl,wg,wh,wi,wj,wk,wm,wo,wq⟩:=n0 i4;simp only[num,gP,h9]at*;unfold bit;simp only[cond_false];split<;>omega
def W9 (S:zzS) (K:zzK):Prop:=
 cz 4 λr0=>cz 4 λaZ=>
 au (-1) 0 ((I r0 0 0)+((-1)*(I aZ 0 0))) a8 λaD=>
 au (-1) 0 ((I r0 1 0)+(((-1)*(I aZ 1 0))+aD)) a8 λz9=>
 au (-1) 0 ((I r0 2 0)+(((-1)*(I aZ 2 0))+z9)) a8 λaW=>
 au (-1) 0 ((I r0 3 0)+(((-1)*(I aZ 3 0))+aW)) a8 λaI=>
 K [r0,aZ] [[((I r0 0 0)+(((-1)*(I aZ 0 0))+(ab*aD))),((I r0 1 0)+(((-1)*(I aZ 1 0))+(aD+(ab*z9)))),((I r0 2 0)+(((-1)*(I aZ 2 0))+(z9+(ab*aW)))),((I r0 3 0)+(((-1)*(I aZ 3 0))+(aW+(ab*aI))))],[((-1)*aI)]]
theorem aGH (G):W9 (fk G) (eT n4.res 55):=by
 simp(maxSteps:=4000000) only[W9,au,cz,ab,a8];intro r0 i0 aZ i4 aD jN jP mq d8 z9 a9 fJ kk d9 aW iQ iE qf d10 aI e8 fc mo d11;refine⟨?_,?_⟩
 ·obtain⟨dw,ah,ag,ao,rfl,cU,cV,cW,cX,cY,cZ,c0,c2⟩:=n0 i0;obtain⟨jo,an,ak,ax,rfl,wg,wh,wi,wj,wk,wm,wo,wq⟩:=n0 i4;simp only[n4,aU,D.bds,dA,c1,aS,jJ,eM,iq,qO,vk,ay,and_true,gP,h9]at*;omega
 ·show aa [((I r0 0 0)+(((-1)*(I aZ 0 0))+((-18446744073709551616)*aD))),((I r0 1 0)+(((-1)*(I aZ 1 0))+(aD+((-18446744073709551616)*z9)))),((I r0 2 0)+(((-1)*(I aZ 2 0))+(z9+((-18446744073709551616)*aW)))),((I r0 3 0)+(((-1)*(I aZ 3 0))+(aW+((-18446744073709551616)*aI))))]=aa r0-aa aZ+115792089237316195423570985008687907853269984665640564039457584007913129639936*((-1)*aI);obtain⟨dw,ah,ag,ao,rfl,cU,cV,cW,cX,cY,cZ,c0,c2⟩:=n0 i0;obtain⟨jo,an,ak,ax,rfl,wg,wh,wi,wj,wk,wm,wo,wq⟩:=n0 i4;simp only[num,gP,h9]at*;omega
def Xc (S:zzS) (K:zzK):Prop:=
 cz 4 λr0=>cz 4 λaZ=>
 bo ((I r0 0 0)+(I aZ 0 0)) a8 λaD=>
 bo ((I r0 1 0)+((I aZ 1 0)+aD)) a8 λz9=>
 bo ((I r0 2 0)+((I aZ 2 0)+z9)) a8 λaW=>
 bo ((I r0 3 0)+((I aZ 3 0)+aW)) a8 λaI=>
 K [r0,aZ] [[((I r0 0 0)+((I aZ 0 0)+(ab*aD))),((I r0 1 0)+((I aZ 1 0)+(aD+(ab*z9)))),((I r0 2 0)+((I aZ 2 0)+(z9+(ab*aW)))),((I r0 3 0)+((I aZ 3 0)+(aW+(ab*aI))))],[aI]]
theorem aGQ (G):Xc (fk G) (eT n5.res 56):=by
 simp(maxSteps:=4000000) only[Xc,bo,cz,ab,a8];intro r0 i0 aZ i4 aD jN jP mq d8 z9 a9 fJ kk d9 aW iQ iE qf d10 aI e8 fc mo d11;refine⟨?_,?_⟩
 ·obtain⟨dw,ah,ag,ao,rfl,cU,cV,cW,cX,cY,cZ,c0,c2⟩:=n0 i0;obtain⟨jo,an,ak,ax,rfl,wg,wh,wi,wj,wk,wm,wo,wq⟩:=n0 i4;simp only[n5,aU,D.bds,dA,c1,aS,jJ,eM,iq,qO,vk,ay,and_true,gP,h9]at*;omega
 ·show aa [((I r0 0 0)+((I aZ 0 0)+((-18446744073709551616)*aD))),((I r0 1 0)+((I aZ 1 0)+(aD+((-18446744073709551616)*z9)))),((I r0 2 0)+((I aZ 2 0)+(z9+((-18446744073709551616)*aW)))),((I r0 3 0)+((I aZ 3 0)+(aW+((-18446744073709551616)*aI))))]=aa r0+aa aZ-115792089237316195423570985008687907853269984665640564039457584007913129639936*aI;obtain⟨dw,ah,ag,ao,rfl,cU,cV,cW,cX,cY,cZ,c0,c2⟩:=n0 i0;obtain⟨jo,an,ak,ax,rfl,wg,wh,wi,wj,wk,wm,wo,wq⟩:=n0 i4;simp only[num,gP,h9]at*;omega
def WW (S:zzS) (K:zzK):Prop:=
 cz 4 λr0=>
 dI 4 S 28 [] λaZ=>
 de λaD=>S 42 [r0,aZ] [[aD]]->
 ((((!(decide (aD=1))))=true->
  dI 4 S 28 [] λgw=>
  cz 4 λiy=>de λaX=>S 55 [r0,gw] [iy,[aX]]->
  dI 4 S 28 [] λj8=>
  de λz22=>S 42 [iy,j8] [[z22]]->
  ((((!(decide (z22=1))))=true->
   dI 4 S 28 [] λkn=>
   cz 4 λvT=>de λz31=>S 55 [iy,kn] [vT,[z31]]->
   dI 4 S 28 [] λb8=>
   de λck=>S 42 [vT,b8] [[ck]]->
   ((((!(decide (ck=1))))=true->
    dI 4 S 28 [] λlR=>
    cz 4 λK5=>de λdx=>S 55 [vT,lR] [K5,[dx]]->
    K [r0] [K5]
   )/\(((!(decide (ck=1))))=false->
    K [r0] [vT]
   ))
  )/\(((!(decide (z22=1))))=false->
   dI 4 S 28 [] λkn=>
   de λbW=>S 42 [iy,kn] [[bW]]->
   ((((!(decide (bW=1))))=true->
    dI 4 S 28 [] λmY=>
    cz 4 λb8=>de λck=>S 55 [iy,mY] [b8,[ck]]->
    K [r0] [b8]
   )/\(((!(decide (bW=1))))=false->
    K [r0] [iy]
   ))
  ))
 )/\(((!(decide (aD=1))))=false->
  dI 4 S 28 [] λgw=>
  de λaY=>S 42 [r0,gw] [[aY]]->
  ((((!(decide (aY=1))))=true->
   dI 4 S 28 [] λpT=>
   cz 4 λj8=>de λz22=>S 55 [r0,pT] [j8,[z22]]->
   dI 4 S 28 [] λkn=>
   de λbW=>S 42 [j8,kn] [[bW]]->
   ((((!(decide (bW=1))))=true->
    dI 4 S 28 [] λmY=>
    cz 4 λb8=>de λck=>S 55 [j8,mY] [b8,[ck]]->
    K [r0] [b8]
   )/\(((!(decide (bW=1))))=false->
    K [r0] [j8]
   ))
  )/\(((!(decide (aY=1))))=false->
   dI 4 S 28 [] λpT=>
   de λbj=>S 42 [r0,pT] [[bj]]->
   ((((!(decide (bj=1))))=true->
    dI 4 S 28 [] λPF=>
    cz 4 λkn=>de λbW=>S 55 [r0,PF] [kn,[bW]]->
    K [r0] [kn]
   )/\(((!(decide (bj=1))))=false->
    K [r0] [r0]
   ))
  ))
 ))
theorem aGv (G):WW (fk G) (eT sd.res 39):=by
 simp(maxSteps:=4000000) only[WW,de,dI,cz];intro r0 i0 aZ i4 aF aD jN jP s1;have aF:aa aZ=57896044618658097711785492504343953926634992332820282019728792003956564819949:=aF.1;have s1:aD=bit (aa r0<aa aZ):=s1.1;refine⟨λh0=>?_,λh0=>?_⟩
 ·skip
  simp only[cy,c5,cL,c9,decide_eq_true_eq,decide_eq_false_iff_not]at h0;intro gw i9 s2 iy i13 aX fG fU bm j8 i18 cr z22 a22 fp dJ;have s2:aa gw=57896044618658097711785492504343953926634992332820282019728792003956564819949:=s2.1;have bm:aa iy=aa r0-aa gw+115792089237316195423570985008687907853269984665640564039457584007913129639936*aX:=bm.1;have cr:aa j8=57896044618658097711785492504343953926634992332820282019728792003956564819949:=cr.1;have dJ:z22=bit (aa iy<aa j8):=dJ.1;refine⟨λh1=>?_,λh1=>?_⟩
  ·skip
   simp only[cy,c5,cL,c9,decide_eq_true_eq,decide_eq_false_iff_not]at h1;intro kn i23 ee vT i27 z31 a31 gK eU b8 i32 gG ck fa e0 hG;have ee:aa kn=57896044618658097711785492504343953926634992332820282019728792003956564819949:=ee.1;have eU:aa vT=aa iy-aa kn+115792089237316195423570985008687907853269984665640564039457584007913129639936*z31:=eU.1;have gG:aa b8=57896044618658097711785492504343953926634992332820282019728792003956564819949:=gG.1;have hG:ck=bit (aa vT<aa b8):=hG.1;refine⟨λh2=>?_,λh2=>?_⟩
   ·skip
    simp only[cy,c5,cL,c9,decide_eq_true_eq,decide_eq_false_iff_not]at h2;intro lR i37 ka K5 i41 dx lZ ml ph;have ka:aa lR=57896044618658097711785492504343953926634992332820282019728792003956564819949:=ka.1;have ph:aa K5=aa vT-aa lR+115792089237316195423570985008687907853269984665640564039457584007913129639936*dx:=ph.1;refine⟨?_,?_⟩
    ·exact ld i41
    ·show aa K5=aa r0% 57896044618658097711785492504343953926634992332820282019728792003956564819949;have gE:=du i0;have dA:=du i4;have Dw:=du i9;have OO:=du i13;have KM:=du i18;have KN:=du i23;have aDi:=du i27;have OP:=du i32;have ac3:=du i37;have aRV:=du i41;generalize aa r0=vr at*;generalize aa aZ=A6 at*;generalize aa gw=CE at*;generalize aa iy=L3 at*;generalize aa j8=Jd at*;generalize aa kn=Je at*;generalize aa vT=atM at*;generalize aa b8=XO at*;generalize aa lR=atO at*;generalize aa K5=aPO at*;unfold bit at*
     (repeat' split at*)<;>simp_all<;>omega
   ·skip
    simp only[cy,c5,cL,c9,decide_eq_true_eq,decide_eq_false_iff_not]at h2;refine⟨?_,?_⟩
    ·exact ld i27
    ·show aa vT=aa r0% 57896044618658097711785492504343953926634992332820282019728792003956564819949;have gE:=du i0;have dA:=du i4;have Dw:=du i9;have OO:=du i13;have KM:=du i18;have KN:=du i23;have aDi:=du i27;have OP:=du i32;generalize aa r0=vr at*;generalize aa aZ=A6 at*;generalize aa gw=CE at*;generalize aa iy=L3 at*;generalize aa j8=Jd at*;generalize aa kn=Je at*;generalize aa vT=atM at*;generalize aa b8=XO at*;unfold bit at*
     (repeat' split at*)<;>simp_all<;>omega
  ·skip
   simp only[cy,c5,cL,c9,decide_eq_true_eq,decide_eq_false_iff_not]at h1;intro kn i23 ee bW fR gi eU;have ee:aa kn=57896044618658097711785492504343953926634992332820282019728792003956564819949:=ee.1;have eU:bW=bit (aa iy<aa kn):=eU.1;refine⟨λh3=>?_,λh3=>?_⟩
   ·skip
    simp only[cy,c5,cL,c9,decide_eq_true_eq,decide_eq_false_iff_not]at h3;intro mY i28 gG b8 i32 ck fa e0 hG;have gG:aa mY=57896044618658097711785492504343953926634992332820282019728792003956564819949:=gG.1;have hG:aa b8=aa iy-aa mY+115792089237316195423570985008687907853269984665640564039457584007913129639936*ck:=hG.1;refine⟨?_,?_⟩
    ·exact ld i32
    ·show aa b8=aa r0% 57896044618658097711785492504343953926634992332820282019728792003956564819949;have gE:=du i0;have dA:=du i4;have Dw:=du i9;have OO:=du i13;have KM:=du i18;have KN:=du i23;have aDj:=du i28;have OP:=du i32;generalize aa r0=vr at*;generalize aa aZ=A6 at*;generalize aa gw=CE at*;generalize aa iy=L3 at*;generalize aa j8=Jd at*;generalize aa kn=Je at*;generalize aa mY=atN at*;generalize aa b8=XO at*;unfold bit at*
     (repeat' split at*)<;>simp_all<;>omega
   ·skip
    simp only[cy,c5,cL,c9,decide_eq_true_eq,decide_eq_false_iff_not]at h3;refine⟨?_,?_⟩
    ·exact ld i13
    ·show aa iy=aa r0% 57896044618658097711785492504343953926634992332820282019728792003956564819949;have gE:=du i0;have dA:=du i4;have Dw:=du i9;have OO:=du i13;have KM:=du i18;have KN:=du i23;generalize aa r0=vr at*;generalize aa aZ=A6 at*;generalize aa gw=CE at*;generalize aa iy=L3 at*;generalize aa j8=Jd at*;generalize aa kn=Je at*;unfold bit at*
     (repeat' split at*)<;>simp_all<;>omega
 ·skip
  simp only[cy,c5,cL,c9,decide_eq_true_eq,decide_eq_false_iff_not]at h0;intro gw i9 s2 aY fP fT bm;have s2:aa gw=57896044618658097711785492504343953926634992332820282019728792003956564819949:=s2.1;have bm:aY=bit (aa r0<aa gw):=bm.1;refine⟨λh4=>?_,λh4=>?_⟩
  ·skip
   simp only[cy,c5,cL,c9,decide_eq_true_eq,decide_eq_false_iff_not]at h4;intro pT i14 cr j8 i18 z22 a22 fp dJ kn i23 ee bW fR gi eU;have cr:aa pT=57896044618658097711785492504343953926634992332820282019728792003956564819949:=cr.1;have dJ:aa j8=aa r0-aa pT+115792089237316195423570985008687907853269984665640564039457584007913129639936*z22:=dJ.1;have ee:aa kn=57896044618658097711785492504343953926634992332820282019728792003956564819949:=ee.1;have eU:bW=bit (aa j8<aa kn):=eU.1;refine⟨λh5=>?_,λh5=>?_⟩
   ·skip
    simp only[cy,c5,cL,c9,decide_eq_true_eq,decide_eq_false_iff_not]at h5;intro mY i28 gG b8 i32 ck fa e0 hG;have gG:aa mY=57896044618658097711785492504343953926634992332820282019728792003956564819949:=gG.1;have hG:aa b8=aa j8-aa mY+115792089237316195423570985008687907853269984665640564039457584007913129639936*ck:=hG.1;refine⟨?_,?_⟩
    ·exact ld i32
    ·show aa b8=aa r0% 57896044618658097711785492504343953926634992332820282019728792003956564819949;have gE:=du i0;have dA:=du i4;have Dw:=du i9;have n14:=du i14;have KM:=du i18;have KN:=du i23;have aDj:=du i28;have OP:=du i32;generalize aa r0=vr at*;generalize aa aZ=A6 at*;generalize aa gw=CE at*;generalize aa pT=XN at*;generalize aa j8=Jd at*;generalize aa kn=Je at*;generalize aa mY=atN at*;generalize aa b8=XO at*;unfold bit at*
     (repeat' split at*)<;>simp_all<;>omega
   ·skip
    simp only[cy,c5,cL,c9,decide_eq_true_eq,decide_eq_false_iff_not]at h5;refine⟨?_,?_⟩
    ·exact ld i18
    ·show aa j8=aa r0% 57896044618658097711785492504343953926634992332820282019728792003956564819949;have gE:=du i0;have dA:=du i4;have Dw:=du i9;have n14:=du i14;have KM:=du i18;have KN:=du i23;generalize aa r0=vr at*;generalize aa aZ=A6 at*;generalize aa gw=CE at*;generalize aa pT=XN at*;generalize aa j8=Jd at*;generalize aa kn=Je at*;unfold bit at*
     (repeat' split at*)<;>simp_all<;>omega
  ·skip
   simp only[cy,c5,cL,c9,decide_eq_true_eq,decide_eq_false_iff_not]at h4;intro pT i14 cr bj gd gu dJ;have cr:aa pT=57896044618658097711785492504343953926634992332820282019728792003956564819949:=cr.1;have dJ:bj=bit (aa r0<aa pT):=dJ.1;refine⟨λh6=>?_,λh6=>?_⟩
   ·skip
    simp only[cy,c5,cL,c9,decide_eq_true_eq,decide_eq_false_iff_not]at h6;intro PF i19 ee kn i23 bW fR gi eU;have ee:aa PF=57896044618658097711785492504343953926634992332820282019728792003956564819949:=ee.1;have eU:aa kn=aa r0-aa PF+115792089237316195423570985008687907853269984665640564039457584007913129639936*bW:=eU.1;refine⟨?_,?_⟩
    ·exact ld i23
    ·show aa kn=aa r0% 57896044618658097711785492504343953926634992332820282019728792003956564819949;have gE:=du i0;have dA:=du i4;have Dw:=du i9;have n14:=du i14;have aRS:=du i19;have KN:=du i23;generalize aa r0=vr at*;generalize aa aZ=A6 at*;generalize aa gw=CE at*;generalize aa pT=XN at*;generalize aa PF=aPK at*;generalize aa kn=Je at*;unfold bit at*
     (repeat' split at*)<;>simp_all<;>omega
   ·skip
    simp only[cy,c5,cL,c9,decide_eq_true_eq,decide_eq_false_iff_not]at h6;refine⟨?_,?_⟩
    ·exact ld i0
    ·show aa r0=aa r0% 57896044618658097711785492504343953926634992332820282019728792003956564819949;have gE:=du i0;have dA:=du i4;have Dw:=du i9;have n14:=du i14;generalize aa r0=vr at*;generalize aa aZ=A6 at*;generalize aa gw=CE at*;generalize aa pT=XN at*;unfold bit at*
     (repeat' split at*)<;>simp_all<;>omega
def Xg (S:zzS) (K:zzK):Prop:=
 cz 4 λr0=>cz 4 λaZ=>
 cz 4 λet=>de λz12=>S 56 [r0,aZ] [et,[z12]]->
 dI 4 S 39 [et] λiy=>
 K [r0,aZ] [iy]
theorem aGU (G):Xg (fk G) (eT sg.res 40):=by
 simp(maxSteps:=4000000) only[Xg,de,dI,cz];intro r0 i0 aZ i4 et i8 z12 a12 iJ aF iy i13 s1;have aF:aa et=aa r0+aa aZ-115792089237316195423570985008687907853269984665640564039457584007913129639936*z12:=aF.1;have s1:aa iy=aa et% 57896044618658097711785492504343953926634992332820282019728792003956564819949:=s1.1;refine⟨?_,?_⟩
 ·exact ld i13
 ·show aa iy=(aa r0+aa aZ)% 115792089237316195423570985008687907853269984665640564039457584007913129639936% 57896044618658097711785492504343953926634992332820282019728792003956564819949;have gE:=du i0;have dA:=du i4;have TS:=du i8;have OO:=du i13;generalize aa r0=vr at*;generalize aa aZ=A6 at*;generalize aa et=atP at*;generalize aa iy=L3 at*;omega
def WY (S:zzS) (K:zzK):Prop:=
 cz 4 λr0=>cz 4 λaZ=>
 de λaD=>S 42 [r0,aZ] [[aD]]->
 (((decide (aD=1))=true->
  dI 4 S 28 [] λgw=>
  cz 4 λiy=>de λaX=>S 56 [r0,gw] [iy,[aX]]->
  cz 4 λj8=>de λz22=>S 55 [iy,aZ] [j8,[z22]]->
  K [r0,aZ] [j8]
 )/\((decide (aD=1))=false->
  cz 4 λgw=>de λaY=>S 55 [r0,aZ] [gw,[aY]]->
  K [r0,aZ] [gw]
 ))
theorem aGy (G):WY (fk G) (eT mV.res 41):=by
 simp(maxSteps:=4000000) only[WY,de,dI,cz];intro r0 i0 aZ i4 aD jN jP aF;have aF:aD=bit (aa r0<aa aZ):=aF.1;refine⟨λh0=>?_,λh0=>?_⟩
 ·skip
  simp only[cy,c5,cL,c9,decide_eq_true_eq,decide_eq_false_iff_not]at h0;intro gw i9 s1 iy i13 aX fG fU s2 j8 i18 z22 a22 fp bm;have s1:aa gw=57896044618658097711785492504343953926634992332820282019728792003956564819949:=s1.1;have s2:aa iy=aa r0+aa gw-115792089237316195423570985008687907853269984665640564039457584007913129639936*aX:=s2.1;have bm:aa j8=aa iy-aa aZ+115792089237316195423570985008687907853269984665640564039457584007913129639936*z22:=bm.1;refine⟨?_,?_⟩
  ·exact ld i18
  ·show aa j8=(aa r0-aa aZ+(if aa r0<aa aZ then 57896044618658097711785492504343953926634992332820282019728792003956564819949 else 0))% 115792089237316195423570985008687907853269984665640564039457584007913129639936;have gE:=du i0;have dA:=du i4;have Dw:=du i9;have OO:=du i13;have KM:=du i18;generalize aa r0=vr at*;generalize aa aZ=A6 at*;generalize aa gw=CE at*;generalize aa iy=L3 at*;generalize aa j8=Jd at*;unfold bit at*
   (repeat' split at*)<;>simp_all<;>omega
 ·skip
  simp only[cy,c5,cL,c9,decide_eq_true_eq,decide_eq_false_iff_not]at h0;intro gw i9 aY fP fT s1;have s1:aa gw=aa r0-aa aZ+115792089237316195423570985008687907853269984665640564039457584007913129639936*aY:=s1.1;refine⟨?_,?_⟩
  ·exact ld i9
  ·show aa gw=(aa r0-aa aZ+(if aa r0<aa aZ then 57896044618658097711785492504343953926634992332820282019728792003956564819949 else 0))% 115792089237316195423570985008687907853269984665640564039457584007913129639936;have gE:=du i0;have dA:=du i4;have Dw:=du i9;generalize aa r0=vr at*;generalize aa aZ=A6 at*;generalize aa gw=CE at*;unfold bit at*
   (repeat' split at*)<;>simp_all<;>omega
def W2 (S:zzS) (K:zzK):Prop:=
 cz 4 λr0=>cz 4 λaZ=>
 au 0 37 (38*(I aZ 0 0)) a8 λaD=>
 au 0 37 (38*(I aZ 1 0)) a8 λz9=>
 bo ((38*(I aZ 1 0))+(aD+(ab*z9))) a8 λaW=>
 au 0 37 (38*(I aZ 2 0)) a8 λaI=>
 bo ((38*(I aZ 2 0))+(z9+(aW+(ab*aI)))) a8 λz12=>
 au 0 37 (38*(I aZ 3 0)) a8 λaY=>
 bo ((38*(I aZ 3 0))+(aI+(z12+(ab*aY)))) a8 λaM=>
 cz 4 λeL=>de λbn=>S 56 [r0,[((38*(I aZ 0 0))+(ab*aD)),((38*(I aZ 1 0))+(aD+((ab*z9)+(ab*aW)))),((38*(I aZ 2 0))+(z9+(aW+((ab*aI)+(ab*z12))))),((38*(I aZ 3 0))+(aI+(z12+((ab*aY)+(ab*aM)))))]] [eL,[bn]]->
 cz 4 λdM=>de λz24=>S 56 [eL,[((38*aY)+((38*aM)+(38*bn))),0,0,0]] [dM,[z24]]->
 (((decide (0<z24))=true->
  cz 4 λdP=>de λb3=>S 56 [dM,[38,0,0,0]] [dP,[b3]]->
  dI 4 S 39 [dP] λsq=>
  K [r0,aZ] [sq]
 )/\((decide (0<z24))=false->
  dI 4 S 39 [dM] λdP=>
  K [r0,aZ] [dP]
 ))
theorem aGC (G):W2 (fk G) (eT vL.res 54):=by
 simp(maxSteps:=4000000) only[W2,de,au,bo,dI,cz,ab,a8];intro r0 i0 aZ i4 aD jN jP mq d8 z9 a9 fJ kk d9 aW iQ iE qf d10 aI e8 fc mo d11 z12 a12 iJ ou d12 aY fP fT ye d13 aM jf jg pF d14 eL i15 bn gf gh aF dM i20 z24 a24 eG s1;have aF:aa eL=aa r0+aa [((38*(I aZ 0 0))+((-18446744073709551616)*aD)),((38*(I aZ 1 0))+(aD+(((-18446744073709551616)*z9)+((-18446744073709551616)*aW)))),((38*(I aZ 2 0))+(z9+(aW+(((-18446744073709551616)*aI)+((-18446744073709551616)*z12))))),((38*(I aZ 3 0))+(aI+(z12+(((-18446744073709551616)*aY)+((-18446744073709551616)*aM)))))]-115792089237316195423570985008687907853269984665640564039457584007913129639936*bn:=aF.1;have s1:aa dM=aa eL+aa [((38*aY)+((38*aM)+(38*bn))),0,0,0]-115792089237316195423570985008687907853269984665640564039457584007913129639936*z24:=s1.1;refine⟨λh0=>?_,λh0=>?_⟩
 ·skip
  simp only[cy,c5,cL,c9,decide_eq_true_eq,decide_eq_false_iff_not]at h0;intro dP i25 b3 gg gj s2 sq i30 bm;have s2:aa dP=aa dM+aa [38,0,0,0]-115792089237316195423570985008687907853269984665640564039457584007913129639936*b3:=s2.1;have bm:aa sq=aa dP% 57896044618658097711785492504343953926634992332820282019728792003956564819949:=bm.1;refine⟨?_,?_⟩
  ·exact ld i30
  ·show aa sq=(aa r0+115792089237316195423570985008687907853269984665640564039457584007913129639936*aa aZ)% 57896044618658097711785492504343953926634992332820282019728792003956564819949;obtain⟨jo,an,ak,ax,rfl,wg,wh,wi,wj,wk,wm,wo,wq⟩:=n0 i4;simp only[gP,h9]at*;rw[T0]at s1;have gE:=du i0;have n15:=du i15;have TR:=du i20;have bI:aa [((38*(jo))+((-18446744073709551616)*aD)),((38*(an))+(aD+(((-18446744073709551616)*z9)+((-18446744073709551616)*aW)))),((38*(ak))+(z9+(aW+(((-18446744073709551616)*aI)+((-18446744073709551616)*z12))))),((38*(ax))+(aI+(z12+(((-18446744073709551616)*aY)+((-18446744073709551616)*aM)))))]+115792089237316195423570985008687907853269984665640564039457584007913129639936*(aY+aM)=38*aa [jo,an,ak,ax]:=by
    clear aF s1;simp only[mX];omega
   generalize aa [((38*(jo))+((-18446744073709551616)*aD)),((38*(an))+(aD+(((-18446744073709551616)*z9)+((-18446744073709551616)*aW)))),((38*(ak))+(z9+(aW+(((-18446744073709551616)*aI)+((-18446744073709551616)*z12))))),((38*(ax))+(aI+(z12+(((-18446744073709551616)*aY)+((-18446744073709551616)*aM)))))]=t at*;rw[show aa [38,0,0,0]=38 by decide]at s2;have aol:=du i25;have ar:z24=1:=by omega
   have aG:b3=0:=by clear bI aF;omega
   rw[bm];have bB:aa dM=aa eL+38*(aY+aM+bn)-115792089237316195423570985008687907853269984665640564039457584007913129639936*z24:=by clear bI aF;omega
   have cp:aa dP=aa dM+38*z24:=by clear bI aF bB s1;omega
   exact akB bI aF bB cp
 ·skip
  simp only[cy,c5,cL,c9,decide_eq_true_eq,decide_eq_false_iff_not]at h0;intro dP i25 s2;have s2:aa dP=aa dM% 57896044618658097711785492504343953926634992332820282019728792003956564819949:=s2.1;refine⟨?_,?_⟩
  ·exact ld i25
  ·show aa dP=(aa r0+115792089237316195423570985008687907853269984665640564039457584007913129639936*aa aZ)% 57896044618658097711785492504343953926634992332820282019728792003956564819949;obtain⟨jo,an,ak,ax,rfl,wg,wh,wi,wj,wk,wm,wo,wq⟩:=n0 i4;simp only[gP,h9]at*;rw[T0]at s1;have gE:=du i0;have n15:=du i15;have TR:=du i20;have bI:aa [((38*(jo))+((-18446744073709551616)*aD)),((38*(an))+(aD+(((-18446744073709551616)*z9)+((-18446744073709551616)*aW)))),((38*(ak))+(z9+(aW+(((-18446744073709551616)*aI)+((-18446744073709551616)*z12))))),((38*(ax))+(aI+(z12+(((-18446744073709551616)*aY)+((-18446744073709551616)*aM)))))]+115792089237316195423570985008687907853269984665640564039457584007913129639936*(aY+aM)=38*aa [jo,an,ak,ax]:=by
    clear aF s1;simp only[mX];omega
   generalize aa [((38*(jo))+((-18446744073709551616)*aD)),((38*(an))+(aD+(((-18446744073709551616)*z9)+((-18446744073709551616)*aW)))),((38*(ak))+(z9+(aW+(((-18446744073709551616)*aI)+((-18446744073709551616)*z12))))),((38*(ax))+(aI+(z12+(((-18446744073709551616)*aY)+((-18446744073709551616)*aM)))))]=t at*;have ar:z24=0:=by omega
   rw[s2];have bB:aa dM=aa eL+38*(aY+aM+bn)-115792089237316195423570985008687907853269984665640564039457584007913129639936*z24:=by clear bI aF;omega
   have cp:aa dM=aa dM+38*z24:=by clear bI aF bB s1;omega
   exact akB bI aF bB cp
def Xd (S:zzS) (K:zzK):Prop:=
 cz 4 λr0=>cz 4 λaZ=>
 dS j5 ((I r0 0 0)*(I aZ 0 0)) λaD=>
 au 0 ji aD a8 λz9=>
 dS j5 ((I r0 0 0)*(I aZ 1 0)) λaW=>
 au 0 ji aW a8 λaI=>
 bo (z9+(aW+(ab*aI))) a8 λz12=>
 dS j5 ((I r0 0 0)*(I aZ 2 0)) λaY=>
 au 0 ji aY a8 λaM=>
 bo (aI+(z12+(aY+(ab*aM)))) a8 λaT=>
 dS j5 ((I r0 0 0)*(I aZ 3 0)) λbd=>
 au 0 ji bd a8 λaX=>
 bo (aM+(aT+(bd+(ab*aX)))) a8 λbj=>
 dS j5 ((I r0 1 0)*(I aZ 0 0)) λbn=>
 au 0 ji bn a8 λz20=>
 bo (z9+(aW+((ab*aI)+((ab*z12)+(bn+(ab*z20)))))) a8 λz21=>
 dS j5 ((I r0 1 0)*(I aZ 1 0)) λz22=>
 au 0 ji z22 a8 λbJ=>
 bo (aI+(z12+(aY+((ab*aM)+((ab*aT)+(z22+(ab*bJ))))))) a8 λz24=>
 bo (aI+(z12+(aY+((ab*aM)+((ab*aT)+(z20+(z21+(z22+((ab*bJ)+(ab*z24)))))))))) a8 λb6=>
 bo (bJ+(z24+b6)) a8 λz26=>
 dS j5 ((I r0 1 0)*(I aZ 2 0)) λbW=>
 au 0 ji bW a8 λz28=>
 bo (aM+(aT+(bd+((ab*aX)+((ab*bj)+(bW+(ab*z28))))))) a8 λb3=>
 bo (aM+(aT+(bd+((ab*aX)+((ab*bj)+(bJ+(z24+(b6+((ab*z26)+(bW+((ab*z28)+(ab*b3)))))))))))) a8 λcj=>
 bo (z28+(b3+cj)) a8 λz31=>
 dS j5 ((I r0 1 0)*(I aZ 3 0)) λa7=>
 au 0 ji a7 a8 λbR=>
 bo (aX+(bj+(a7+(ab*bR)))) a8 λcf=>
 bo (aX+(bj+(z28+(b3+(cj+((ab*z31)+(a7+((ab*bR)+(ab*cf))))))))) a8 λb7=>
 bo (bR+(cf+b7)) a8 λck=>
 dS j5 ((I r0 2 0)*(I aZ 0 0)) λz37=>
 au 0 ji z37 a8 λcS=>
 bo (aI+(z12+(aY+((ab*aM)+((ab*aT)+(z20+(z21+(z22+((ab*bJ)+((ab*z24)+((ab*b6)+(z37+(ab*cS))))))))))))) a8 λcG=>
 dS j5 ((I r0 2 0)*(I aZ 1 0)) λz40=>
 au 0 ji z40 a8 λcI=>
 bo (aM+(aT+(bd+((ab*aX)+((ab*bj)+(bJ+(z24+(b6+((ab*z26)+(bW+((ab*z28)+((ab*b3)+((ab*cj)+(z40+(ab*cI))))))))))))))) a8 λc7=>
 bo (aM+(aT+(bd+((ab*aX)+((ab*bj)+(bJ+(z24+(b6+((ab*z26)+(bW+((ab*z28)+((ab*b3)+((ab*cj)+(cS+(cG+(z40+((ab*cI)+(ab*c7)))))))))))))))))) a8 λdf=>
 bo (cI+(c7+df)) a8 λdL=>
 dS j5 ((I r0 2 0)*(I aZ 2 0)) λdx=>
 au 0 ji dx a8 λz46=>
 bo (aX+(bj+(z28+(b3+(cj+((ab*z31)+(a7+((ab*bR)+((ab*cf)+((ab*b7)+(dx+(ab*z46)))))))))))) a8 λdp=>
 bo (aX+(bj+(z28+(b3+(cj+((ab*z31)+(a7+((ab*bR)+((ab*cf)+((ab*b7)+(cI+(c7+(df+((ab*dL)+(dx+((ab*z46)+(ab*dp))))))))))))))))) a8 λdC=>
 bo (z46+(dp+dC)) a8 λz49=>
 dS j5 ((I r0 2 0)*(I aZ 3 0)) λey=>
 au 0 ji ey a8 λz51=>
 bo (bR+(cf+(b7+((ab*ck)+(ey+(ab*z51)))))) a8 λdc=>
 bo (bR+(cf+(b7+((ab*ck)+(z46+(dp+(dC+((ab*z49)+(ey+((ab*z51)+(ab*dc))))))))))) a8 λz53=>
 bo (z51+(dc+z53)) a8 λef=>
 dS j5 ((I r0 3 0)*(I aZ 0 0)) λez=>
 au 0 ji ez a8 λeg=>
 bo (aM+(aT+(bd+((ab*aX)+((ab*bj)+(bJ+(z24+(b6+((ab*z26)+(bW+((ab*z28)+((ab*b3)+((ab*cj)+(cS+(cG+(z40+((ab*cI)+((ab*c7)+((ab*df)+(ez+(ab*eg))))))))))))))))))))) a8 λcO=>
 dS j5 ((I r0 3 0)*(I aZ 1 0)) λeE=>
 au 0 ji eE a8 λz59=>
 bo (aX+(bj+(z28+(b3+(cj+((ab*z31)+(a7+((ab*bR)+((ab*cf)+((ab*b7)+(cI+(c7+(df+((ab*dL)+(dx+((ab*z46)+((ab*dp)+((ab*dC)+(eE+(ab*z59)))))))))))))))))))) a8 λeY=>
 bo (aX+(bj+(z28+(b3+(cj+((ab*z31)+(a7+((ab*bR)+((ab*cf)+((ab*b7)+(cI+(c7+(df+((ab*dL)+(dx+((ab*z46)+((ab*dp)+((ab*dC)+(eg+(cO+(eE+((ab*z59)+(ab*eY))))))))))))))))))))))) a8 λfi=>
 bo (z59+(eY+fi)) a8 λfC=>
 dS j5 ((I r0 3 0)*(I aZ 2 0)) λdY=>
 au 0 ji dY a8 λfN=>
 bo (bR+(cf+(b7+((ab*ck)+(z46+(dp+(dC+((ab*z49)+(ey+((ab*z51)+((ab*dc)+((ab*z53)+(dY+(ab*fN)))))))))))))) a8 λgN=>
 bo (bR+(cf+(b7+((ab*ck)+(z46+(dp+(dC+((ab*z49)+(ey+((ab*z51)+((ab*dc)+((ab*z53)+(z59+(eY+(fi+((ab*fC)+(dY+((ab*fN)+(ab*gN))))))))))))))))))) a8 λgI=>
 bo (fN+(gN+gI)) a8 λgp=>
 dS j5 ((I r0 3 0)*(I aZ 3 0)) λhS=>
 au 0 ji hS a8 λgq=>
 bo (z51+(dc+(z53+((ab*ef)+(hS+(ab*gq)))))) a8 λz70=>
 bo (z51+(dc+(z53+((ab*ef)+(fN+(gN+(gI+((ab*gp)+(hS+((ab*gq)+(ab*z70))))))))))) a8 λhT=>
 bo (gq+(z70+hT)) a8 λz72=>
 dI 4 S 54 [[(aD+(ab*z9)),(z9+(aW+((ab*aI)+((ab*z12)+(bn+((ab*z20)+(ab*z21))))))),(aI+(z12+(aY+((ab*aM)+((ab*aT)+(z20+(z21+(z22+((ab*bJ)+((ab*z24)+((ab*b6)+(z37+((ab*cS)+(ab*cG)))))))))))))),(aM+(aT+(bd+((ab*aX)+((ab*bj)+(bJ+(z24+(b6+((ab*z26)+(bW+((ab*z28)+((ab*b3)+((ab*cj)+(cS+(cG+(z40+((ab*cI)+((ab*c7)+((ab*df)+(ez+((ab*eg)+(ab*cO))))))))))))))))))))))],[(aX+(bj+(z28+(b3+(cj+((ab*z31)+(a7+((ab*bR)+((ab*cf)+((ab*b7)+(cI+(c7+(df+((ab*dL)+(dx+((ab*z46)+((ab*dp)+((ab*dC)+(eg+(cO+(eE+((ab*z59)+((ab*eY)+(ab*fi)))))))))))))))))))))))),(bR+(cf+(b7+((ab*ck)+(z46+(dp+(dC+((ab*z49)+(ey+((ab*z51)+((ab*dc)+((ab*z53)+(z59+(eY+(fi+((ab*fC)+(dY+((ab*fN)+((ab*gN)+(ab*gI)))))))))))))))))))),(z51+(dc+(z53+((ab*ef)+(fN+(gN+(gI+((ab*gp)+(hS+((ab*gq)+((ab*z70)+(ab*hT)))))))))))),(gq+(z70+(hT+(ab*z72))))]] λUv=>
 K [r0,aZ] [Uv]
theorem aGR (G):Xd (fk G) (eT lQ.res 36):=by
 simp(maxSteps:=4000000) only[Xd,dS,au,bo,dI,cz,ab,a8,j5,ji];intro r0 i0 aZ i4 aD jN jP pH z9 a9 fJ kk d9 aW iQ iE qk aI e8 fc mo d11 z12 a12 iJ ou d12 aY fP fT tD aM jf jg pF d14 aT fF fH oS d15 bd jx jz mP aX fG fU oT d17 bj gd gu ov d18 bn gf gh oB z20 a20 fI ow d20 z21 a21 fy kA d21 z22 a22 fp ql bJ fw dT ox d23 z24 a24 eG oy d24 b6 fQ fV qg d25 z26 a26 fW uz d26 bW fR gi q1 z28 a28 gA rM d28 b3 gg gj tw d29 cj gr gk sL d30 z31 a31 gK sM d31 a7 cD gm rS bR e9 fe ll d33 cf fx fA oU d34 b7 fm fq qY d35 ck fa e0 pG d36 z37 a37 fX qm cS fb fr qh d38 cG fo fB oV d39 z40 a40 gL sU cI jM jO qi d41 c7 jy iF oW d42 df kM kS sN d43 dL kN ky uA d44 dx lZ ml tE z46 a46 l3 rO d46 dp kO kT tx d47 dC kP kU sO d48 z49 a49 kV sP d49 ey l0 mm qn z51 a51 lf rP d51 dc kQ kW rQ d52 z53 a53 lg uB d53 ef lJ lh sQ d54 ez mi mn rT eg kR lj sR d56 cO kv kj qZ d57 eE mj mK sV z59 a59 lk tz d59 eY na nj uC d60 fi nc nk vy d61 fC nd mL yg d62 dY pC qa oC fN ir nm uD d64 gN nf nn wS d65 gI ng np vz d66 gp nL nq vA d67 hS pD qb rU gq nM nO uE d69 z70 a70 nP uF d70 hT nN nQ yh d71 z72 a72 nR vB d72 Uv i73 aF
 have aF:aa Uv=(aa [(aD+((-18446744073709551616)*z9)),(z9+(aW+(((-18446744073709551616)*aI)+(((-18446744073709551616)*z12)+(bn+(((-18446744073709551616)*z20)+((-18446744073709551616)*z21))))))),(aI+(z12+(aY+(((-18446744073709551616)*aM)+(((-18446744073709551616)*aT)+(z20+(z21+(z22+(((-18446744073709551616)*bJ)+(((-18446744073709551616)*z24)+(((-18446744073709551616)*b6)+(z37+(((-18446744073709551616)*cS)+((-18446744073709551616)*cG)))))))))))))),(aM+(aT+(bd+(((-18446744073709551616)*aX)+(((-18446744073709551616)*bj)+(bJ+(z24+(b6+(((-18446744073709551616)*z26)+(bW+(((-18446744073709551616)*z28)+(((-18446744073709551616)*b3)+(((-18446744073709551616)*cj)+(cS+(cG+(z40+(((-18446744073709551616)*cI)+(((-18446744073709551616)*c7)+(((-18446744073709551616)*df)+(ez+(((-18446744073709551616)*eg)+((-18446744073709551616)*cO))))))))))))))))))))))]+115792089237316195423570985008687907853269984665640564039457584007913129639936*aa [(aX+(bj+(z28+(b3+(cj+(((-18446744073709551616)*z31)+(a7+(((-18446744073709551616)*bR)+(((-18446744073709551616)*cf)+(((-18446744073709551616)*b7)+(cI+(c7+(df+(((-18446744073709551616)*dL)+(dx+(((-18446744073709551616)*z46)+(((-18446744073709551616)*dp)+(((-18446744073709551616)*dC)+(eg+(cO+(eE+(((-18446744073709551616)*z59)+(((-18446744073709551616)*eY)+((-18446744073709551616)*fi)))))))))))))))))))))))),(bR+(cf+(b7+(((-18446744073709551616)*ck)+(z46+(dp+(dC+(((-18446744073709551616)*z49)+(ey+(((-18446744073709551616)*z51)+(((-18446744073709551616)*dc)+(((-18446744073709551616)*z53)+(z59+(eY+(fi+(((-18446744073709551616)*fC)+(dY+(((-18446744073709551616)*fN)+(((-18446744073709551616)*gN)+((-18446744073709551616)*gI)))))))))))))))))))),(z51+(dc+(z53+(((-18446744073709551616)*ef)+(fN+(gN+(gI+(((-18446744073709551616)*gp)+(hS+(((-18446744073709551616)*gq)+(((-18446744073709551616)*z70)+((-18446744073709551616)*hT)))))))))))),(gq+(z70+(hT+((-18446744073709551616)*z72))))])% 57896044618658097711785492504343953926634992332820282019728792003956564819949:=aF.1;refine⟨?_,?_⟩
 ·exact ld i73
 ·show aa Uv=aa r0*aa aZ% 57896044618658097711785492504343953926634992332820282019728792003956564819949;have aN7:z26=0:=by
   clear i0 i4 jN jP pH a9 fJ kk d9 iQ iE qk e8 fc mo d11 a12 iJ ou d12 fP fT tD jf jg pF d14 fF fH oS jx jz mP fG fU oT d17 gd gu ov d18 gf gh oB a20 ow d20 a21 kA d21 a22 ql fw dT ox d23 a24 eG oy d24 fQ fV d25 fW d26 fR gi q1 a28 gA rM d28 gg gj tw d29 gr gk sL d30 a31 gK sM d31 cD gm rS e9 fe ll d33 fx fA oU d34 fm fq qY d35 fa e0 pG d36 a37 fX qm fb fr qh d38 fo fB oV d39 a40 gL sU jM jO qi d41 jy iF oW d42 kM kS sN d43 kN ky uA d44 lZ ml tE a46 l3 rO d46 kO kT tx d47 kP kU sO d48 a49 kV sP d49 l0 mm qn a51 lf rP d51 kQ kW rQ d52 a53 lg uB d53 lJ lh sQ d54 mi mn rT kR lj sR d56 kv kj qZ d57 mj mK sV a59 lk tz d59 na nj uC d60 nc nk vy d61 nd mL yg d62 pC qa oC ir nm uD d64 nf nn wS d65 ng np vz d66 nL nq vA d67 pD qb rU nM nO uE d69 a70 nP uF d70 nN nQ yh d71 a72 nR vB d72 i73 aF;omega
  have aN8:z31=0:=by
   clear i0 i4 jN jP pH a9 fJ kk d9 iQ iE qk e8 fc mo d11 a12 iJ ou d12 fP fT tD jf jg pF d14 fF fH oS d15 jx jz mP fG fU oT d17 gd gu ov gf gh oB a20 fI ow d20 a21 fy kA d21 a22 fp ql fw dT ox d23 a24 eG oy d24 fQ fV qg d25 a26 fW uz fR q1 a28 gA rM d28 gg gj tw d29 gr gk d30 gK d31 cD gm rS e9 fe ll d33 fx fA oU d34 fm fq qY d35 fa e0 pG d36 a37 fX qm fb fr qh d38 fo fB oV d39 a40 gL sU jM jO qi d41 jy iF oW d42 kM kS sN d43 kN ky uA d44 lZ ml tE a46 l3 rO d46 kO kT tx d47 kP kU sO d48 a49 kV sP d49 l0 mm qn a51 lf rP d51 kQ kW rQ d52 a53 lg uB d53 lJ lh sQ d54 mi mn rT kR lj sR d56 kv kj qZ d57 mj mK sV a59 lk tz d59 na nj uC d60 nc nk vy d61 nd mL yg d62 pC qa oC ir nm uD d64 nf nn wS d65 ng np vz d66 nL nq vA d67 pD qb rU nM nO uE d69 a70 nP uF d70 nN nQ yh d71 a72 nR vB d72 i73 aF;omega
  have aN9:ck=0:=by
   clear i0 i4 jN jP pH a9 fJ kk d9 iQ iE qk e8 fc mo d11 a12 iJ ou d12 fP fT tD jf jg pF d14 fF fH oS d15 jx jz mP fG oT d17 gd ov d18 gf gh oB a20 fI ow d20 a21 fy kA d21 a22 fp ql fw dT ox d23 a24 eG oy d24 fQ fV qg d25 a26 fW uz d26 fR gi q1 a28 gA rM d28 gg gj tw d29 gr gk sL d30 a31 gK sM cD rS e9 fe ll d33 fx fA oU d34 fm fq d35 e0 d36 a37 fX qm fb fr qh d38 fo fB oV d39 a40 gL sU jM jO qi d41 jy iF oW d42 kM kS sN d43 kN ky uA d44 lZ ml tE a46 l3 rO d46 kO kT tx d47 kP kU sO d48 a49 kV sP d49 l0 mm qn a51 lf rP d51 kQ kW rQ d52 a53 lg uB d53 lJ lh sQ d54 mi mn rT kR lj sR d56 kv kj qZ d57 mj mK sV a59 lk tz d59 na nj uC d60 nc nk vy d61 nd mL yg d62 pC qa oC ir nm uD d64 nf nn wS d65 ng np vz d66 nL nq vA d67 pD qb rU nM nO uE d69 a70 nP uF d70 nN nQ yh d71 a72 nR vB d72 i73 aF;omega
  have aOa:dL=0:=by
   clear i0 i4 jN jP pH a9 fJ kk d9 iQ iE qk e8 fc mo d11 a12 iJ ou d12 fP fT tD jf jg pF d14 fF fH oS d15 jx jz mP fG fU oT d17 gd gu ov d18 gf gh oB a20 fI ow d20 a21 fy kA d21 a22 fp ql fw dT ox d23 a24 eG oy d24 fQ fV qg d25 a26 fW uz d26 fR gi q1 a28 gA rM d28 gg gj tw d29 gr gk sL a31 gK sM d31 cD gm rS e9 fe ll d33 fx fA oU d34 fm fq qY d35 fa e0 pG d36 a37 fX qm fb qh d38 fo oV d39 a40 sU jM jO qi d41 jy iF oW d42 kM kS d43 ky d44 lZ ml tE a46 l3 rO d46 kO kT tx d47 kP kU sO d48 a49 kV sP d49 l0 mm qn a51 lf rP d51 kQ kW rQ d52 a53 lg uB d53 lJ lh sQ d54 mi mn rT kR lj sR d56 kv kj qZ d57 mj mK sV a59 lk tz d59 na nj uC d60 nc nk vy d61 nd mL yg d62 pC qa oC ir nm uD d64 nf nn wS d65 ng np vz d66 nL nq vA d67 pD qb rU nM nO uE d69 a70 nP uF d70 nN nQ yh d71 a72 nR vB d72 i73 aF;omega
  have aOb:z49=0:=by
   clear i0 i4 jN jP pH a9 fJ kk d9 iQ iE qk e8 fc mo d11 a12 iJ ou d12 fP fT tD jf jg pF d14 fF fH oS d15 jx jz mP fG fU oT d17 gd gu ov d18 gf gh oB a20 fI ow d20 a21 fy kA d21 a22 fp ql fw dT ox d23 a24 eG oy d24 fQ fV qg d25 a26 fW uz d26 fR gi q1 a28 gA rM d28 gg gj tw d29 gr gk sL d30 a31 gK sM d31 cD gm rS e9 fe ll d33 fx fA oU d34 fm fq qY fa e0 pG d36 a37 fX qm fb fr qh d38 fo fB oV d39 a40 gL sU jM jO qi d41 jy iF oW d42 kM kS sN d43 kN ky uA lZ tE a46 l3 rO d46 kO kT tx d47 kP kU d48 kV d49 l0 mm qn a51 lf rP d51 kQ kW rQ d52 a53 lg uB d53 lJ lh sQ d54 mi mn rT kR lj sR d56 kv kj qZ d57 mj mK sV a59 lk tz d59 na nj uC d60 nc nk vy d61 nd mL yg d62 pC qa oC ir nm uD d64 nf nn wS d65 ng np vz d66 nL nq vA d67 pD qb rU nM nO uE d69 a70 nP uF d70 nN nQ yh d71 a72 nR vB d72 i73 aF;omega
  have aOc:ef=0:=by
   clear i0 i4 jN jP pH a9 fJ kk d9 iQ iE qk e8 fc mo d11 a12 iJ ou d12 fP fT tD jf jg pF d14 fF fH oS d15 jx jz mP fG fU oT d17 gd gu ov d18 gf gh oB a20 fI ow d20 a21 fy kA d21 a22 fp ql fw dT ox d23 a24 eG oy d24 fQ fV qg d25 a26 fW uz d26 fR gi q1 a28 gA rM d28 gg gj tw d29 gr gk sL d30 a31 gK sM d31 cD gm rS e9 fe ll d33 fx fA oU d34 fm fq qY d35 fa e0 pG a37 fX qm fb fr qh d38 fo fB oV d39 a40 gL sU jM jO qi d41 jy iF oW d42 kM kS sN d43 kN ky uA d44 lZ ml tE a46 l3 rO d46 kO kT tx d47 kP kU sO d48 a49 kV sP l0 qn a51 lf rP d51 kQ kW rQ d52 a53 lg d53 lh d54 mi mn rT kR lj sR d56 kv kj qZ d57 mj mK sV a59 lk tz d59 na nj uC d60 nc nk vy d61 nd mL yg d62 pC qa oC ir nm uD d64 nf nn wS d65 ng np vz d66 nL nq vA d67 pD qb rU nM nO uE d69 a70 nP uF d70 nN nQ yh d71 a72 nR vB d72 i73 aF;omega
  have aOd:fC=0:=by
   clear i0 i4 jN jP pH a9 fJ kk d9 iQ iE qk e8 fc mo d11 a12 iJ ou d12 fP fT tD jf jg pF d14 fF fH oS d15 jx jz mP fG fU oT d17 gd gu ov d18 gf gh oB a20 fI ow d20 a21 fy kA d21 a22 fp ql fw dT ox d23 a24 eG oy d24 fQ fV qg d25 a26 fW uz d26 fR gi q1 a28 gA rM d28 gg gj tw d29 gr gk sL d30 a31 gK sM d31 cD gm rS e9 fe ll d33 fx fA oU d34 fm fq qY d35 fa e0 pG d36 a37 fX qm fb fr qh d38 fo fB oV d39 a40 gL sU jM jO qi d41 jy iF oW d42 kM kS sN d43 kN ky uA d44 lZ ml tE a46 l3 rO d46 kO kT tx d47 kP kU sO a49 kV sP d49 l0 mm qn a51 lf rP d51 kQ kW rQ d52 a53 lg uB d53 lJ lh sQ d54 mi mn rT kR sR d56 kv qZ d57 mj sV a59 lk tz d59 na nj uC d60 nc nk d61 mL d62 pC qa oC ir nm uD d64 nf nn wS d65 ng np vz d66 nL nq vA d67 pD qb rU nM nO uE d69 a70 nP uF d70 nN nQ yh d71 a72 nR vB d72 i73 aF;omega
  have aOe:gp=0:=by
   clear i0 i4 jN jP pH a9 fJ kk d9 iQ iE qk e8 fc mo d11 a12 iJ ou d12 fP fT tD jf jg pF d14 fF fH oS d15 jx jz mP fG fU oT d17 gd gu ov d18 gf gh oB a20 fI ow d20 a21 fy kA d21 a22 fp ql fw dT ox d23 a24 eG oy d24 fQ fV qg d25 a26 fW uz d26 fR gi q1 a28 gA rM d28 gg gj tw d29 gr gk sL d30 a31 gK sM d31 cD gm rS e9 fe ll d33 fx fA oU d34 fm fq qY d35 fa e0 pG d36 a37 fX qm fb fr qh d38 fo fB oV d39 a40 gL sU jM jO qi d41 jy iF oW d42 kM kS sN d43 kN ky uA d44 lZ ml tE a46 l3 rO d46 kO kT tx d47 kP kU sO d48 a49 kV sP d49 l0 mm qn a51 lf rP d51 kQ kW rQ d52 a53 lg uB lJ lh sQ d54 mi mn rT kR lj sR d56 kv kj qZ d57 mj mK sV a59 lk tz d59 na nj uC d60 nc nk vy d61 nd mL yg pC oC ir nm uD d64 nf nn wS d65 ng np d66 nq d67 pD qb rU nM nO uE d69 a70 nP uF d70 nN nQ yh d71 a72 nR vB d72 i73 aF;omega
  have aOf:z72=0:=by
   clear i0 i4 jN jP pH a9 fJ kk d9 iQ iE qk e8 fc mo d11 a12 iJ ou d12 fP fT tD jf jg pF d14 fF fH oS d15 jx jz mP fG fU oT d17 gd gu ov d18 gf gh oB a20 fI ow d20 a21 fy kA d21 a22 fp ql fw dT ox d23 a24 eG oy d24 fQ fV qg d25 a26 fW uz d26 fR gi q1 a28 gA rM d28 gg gj tw d29 gr gk sL d30 a31 gK sM d31 cD gm rS e9 fe ll d33 fx fA oU d34 fm fq qY d35 fa e0 pG d36 a37 fX qm fb fr qh d38 fo fB oV d39 a40 gL sU jM jO qi d41 jy iF oW d42 kM kS sN d43 kN ky uA d44 lZ ml tE a46 l3 rO d46 kO kT tx d47 kP kU sO d48 a49 kV sP d49 l0 mm qn a51 lf rP d51 kQ kW rQ d52 a53 lg uB d53 lJ lh sQ mi mn rT kR lj sR d56 kv kj qZ d57 mj mK sV a59 lk tz d59 na nj uC d60 nc nk vy d61 nd mL yg d62 pC qa oC ir nm uD d64 nf nn wS d65 ng np vz d66 nL nq vA pD rU nM nO uE d69 a70 nP uF d70 nN nQ d71 nR d72 i73 aF;omega
  have Bz:aa [(aD+((-18446744073709551616)*z9)),(z9+(aW+(((-18446744073709551616)*aI)+(((-18446744073709551616)*z12)+(bn+(((-18446744073709551616)*z20)+((-18446744073709551616)*z21))))))),(aI+(z12+(aY+(((-18446744073709551616)*aM)+(((-18446744073709551616)*aT)+(z20+(z21+(z22+(((-18446744073709551616)*bJ)+(((-18446744073709551616)*z24)+(((-18446744073709551616)*b6)+(z37+(((-18446744073709551616)*cS)+((-18446744073709551616)*cG)))))))))))))),(aM+(aT+(bd+(((-18446744073709551616)*aX)+(((-18446744073709551616)*bj)+(bJ+(z24+(b6+(((-18446744073709551616)*z26)+(bW+(((-18446744073709551616)*z28)+(((-18446744073709551616)*b3)+(((-18446744073709551616)*cj)+(cS+(cG+(z40+(((-18446744073709551616)*cI)+(((-18446744073709551616)*c7)+(((-18446744073709551616)*df)+(ez+(((-18446744073709551616)*eg)+((-18446744073709551616)*cO))))))))))))))))))))))]+115792089237316195423570985008687907853269984665640564039457584007913129639936*aa [(aX+(bj+(z28+(b3+(cj+(((-18446744073709551616)*z31)+(a7+(((-18446744073709551616)*bR)+(((-18446744073709551616)*cf)+(((-18446744073709551616)*b7)+(cI+(c7+(df+(((-18446744073709551616)*dL)+(dx+(((-18446744073709551616)*z46)+(((-18446744073709551616)*dp)+(((-18446744073709551616)*dC)+(eg+(cO+(eE+(((-18446744073709551616)*z59)+(((-18446744073709551616)*eY)+((-18446744073709551616)*fi)))))))))))))))))))))))),(bR+(cf+(b7+(((-18446744073709551616)*ck)+(z46+(dp+(dC+(((-18446744073709551616)*z49)+(ey+(((-18446744073709551616)*z51)+(((-18446744073709551616)*dc)+(((-18446744073709551616)*z53)+(z59+(eY+(fi+(((-18446744073709551616)*fC)+(dY+(((-18446744073709551616)*fN)+(((-18446744073709551616)*gN)+((-18446744073709551616)*gI)))))))))))))))))))),(z51+(dc+(z53+(((-18446744073709551616)*ef)+(fN+(gN+(gI+(((-18446744073709551616)*gp)+(hS+(((-18446744073709551616)*gq)+(((-18446744073709551616)*z70)+((-18446744073709551616)*hT)))))))))))),(gq+(z70+(hT+((-18446744073709551616)*z72))))]=aD+18446744073709551616*aW+340282366920938463463374607431768211456*aY+6277101735386680763835789423207666416102355444464034512896*bd+18446744073709551616*bn+340282366920938463463374607431768211456*z22+6277101735386680763835789423207666416102355444464034512896*bW+115792089237316195423570985008687907853269984665640564039457584007913129639936*a7+340282366920938463463374607431768211456*z37+6277101735386680763835789423207666416102355444464034512896*z40+115792089237316195423570985008687907853269984665640564039457584007913129639936*dx+2135987035920910082395021706169552114602704522356652769947041607822219725780640550022962086936576*ey+6277101735386680763835789423207666416102355444464034512896*ez+115792089237316195423570985008687907853269984665640564039457584007913129639936*eE+2135987035920910082395021706169552114602704522356652769947041607822219725780640550022962086936576*dY+39402006196394479212279040100143613805079739270465446667948293404245721771497210611414266254884915640806627990306816*hS:=by
   clear i0 i4 jN jP pH a9 fJ kk d9 iQ iE qk e8 fc mo d11 a12 iJ ou d12 fP fT tD jf jg pF d14 fF fH oS d15 jx jz mP fG fU oT d17 gd gu ov d18 gf gh oB a20 fI ow d20 a21 fy kA d21 a22 fp ql fw dT ox d23 a24 eG oy d24 fQ fV qg d25 a26 fW uz d26 fR gi q1 a28 gA rM d28 gg gj tw d29 gr gk sL d30 a31 gK sM d31 cD gm rS e9 fe ll d33 fx fA oU d34 fm fq qY d35 fa e0 pG d36 a37 fX qm fb fr qh d38 fo fB oV d39 a40 gL sU jM jO qi d41 jy iF oW d42 kM kS sN d43 kN ky uA d44 lZ ml tE a46 l3 rO d46 kO kT tx d47 kP kU sO d48 a49 kV sP d49 l0 mm qn a51 lf rP d51 kQ kW rQ d52 a53 lg uB d53 lJ lh sQ d54 mi mn rT kR lj sR d56 kv kj qZ d57 mj mK sV a59 lk tz d59 na nj uC d60 nc nk vy d61 nd mL yg d62 pC qa oC ir nm uD d64 nf nn wS d65 ng np vz d66 nL nq vA d67 pD qb rU nM nO uE d69 a70 nP uF d70 nN nQ yh d71 a72 nR vB d72 i73 aF;simp only[mX];omega
  rw[aF,Bz];clear Bz aF aN7 aN8 aN9 aOa aOb aOc aOd aOe aOf;obtain⟨dw,ah,ag,ao,rfl,cU,cV,cW,cX,cY,cZ,c0,c2⟩:=n0 i0;obtain⟨jo,an,ak,ax,rfl,wg,wh,wi,wj,wk,wm,wo,wq⟩:=n0 i4;simp only[gP,h9]at*;rw[pH,qk,tD,mP,oB,ql,q1,rS,qm,sU,tE,qn,rT,sV,oC,rU];rw[mX,mX,adE]
end Go.Fd
namespace Go.Fd
open Go.bX
def Xh (S:zzS) (K:zzK):Prop:=
 cz 4 λr0=>cz 4 λaZ=>
 ∃(QO:List (List Int)->Prop) (Wr:List (List Int)->Nat),QO [[255],[1,0,0,0]]/\(hP (-1) 255 λz9=>cz 4 λcv=>QO [[z9],cv]->
  (((decide (0<=z9))=true->
   dI 4 S 36 [cv,cv] λpT=>
   au 0 3 z9 64 λbj=>
   dS s7 (I aZ (bj).toNat 0) λbn=>
   au 0 3 z9 64 λz20=>
   dS s7 (bn/2^((z9+((-64)*z20))).toNat) λz21=>
   au 0 xk z21 2 λz22=>
   (((decide ((z21+((-2)*z22))=1))=true->
    dI 4 S 36 [pT,r0] λkn=>
    (QO [[(z9+(-1))],kn]/\Wr [[(z9+(-1))],kn]<Wr [[z9],cv])
   )/\((decide ((z21+((-2)*z22))=1))=false->
    (QO [[(z9+(-1))],pT]/\Wr [[(z9+(-1))],pT]<Wr [[z9],cv])
   ))
  )/\((decide (0<=z9))=false->
   K [r0,aZ] [cv]
  ))
 )
theorem aG8 (G):Xh (fk G) (eT si.res 44):=by
 simp(maxSteps:=4000000) only[Xh,dS,hP,au,dI,cz,xk,s7];intro r0 i0 aZ i4;refine⟨λl=>match l with|[[i],r]=>aa r=cn (aa r0) ((aa aZ).toNat/2^(i+1).toNat)|_=>False,λl=>match l with|[[i],_]=>(i+1).toNat|_=>0,?_,?_⟩
 ·show aa [1,0,0,0]=cn (aa r0) ((aa aZ).toNat/2^(255+1:Int).toNat);rw[aqp i4,B0];decide
 ·intro z9 a9 fJ cv i10 dU;have dU:aa cv=cn (aa r0) ((aa aZ).toNat/2^(z9+1).toNat):=dU;refine⟨λh0=>?_,λh0=>?_⟩
  ·skip
   simp only[cy,c5,cL,c9,decide_eq_true_eq,decide_eq_false_iff_not]at h0;intro pT i14 aF bj gd gu ov d18 bn gf gh oB z20 a20 fI ow d20 z21 a21 fy GW z22 a22 fp sK d22;have aF:aa pT=aa cv*aa cv% 57896044618658097711785492504343953926634992332820282019728792003956564819949:=aF.1;refine⟨λh1=>?_,λh1=>?_⟩
   ·skip
    simp only[cy,c5,cL,c9,decide_eq_true_eq,decide_eq_false_iff_not]at h1;intro kn i23 s1;have s1:aa kn=aa pT*aa r0% 57896044618658097711785492504343953926634992332820282019728792003956564819949:=s1.1;obtain⟨i,rfl⟩:=oP h0;have hb:=Ra i4 fJ ov d18 oB ow d20 GW sK d22;have nv:((i:Int)+1).toNat=i+1:=by omega
    have uH:((i:Int)+(-1)+1).toNat=i:=by omega
    rw[nv]at dU;refine⟨?_,?_⟩
    ·show aa kn=cn (aa r0) ((aa aZ).toNat/2^((i:Int)+(-1)+1).toNat);rw[uH,ao3 (by omega),s1,aF,dU]
    ·show((i:Int)+(-1)+1).toNat<((i:Int)+1).toNat;omega
   ·skip
    simp only[cy,c5,cL,c9,decide_eq_true_eq,decide_eq_false_iff_not]at h1;obtain⟨i,rfl⟩:=oP h0;have hb:=Ra i4 fJ ov d18 oB ow d20 GW sK d22;have nv:((i:Int)+1).toNat=i+1:=by omega
    have uH:((i:Int)+(-1)+1).toNat=i:=by omega
    rw[nv]at dU;refine⟨?_,?_⟩
    ·show aa pT=cn (aa r0) ((aa aZ).toNat/2^((i:Int)+(-1)+1).toNat);rw[uH,ao2 (by omega),aF,dU]
    ·show((i:Int)+(-1)+1).toNat<((i:Int)+1).toNat;omega
  ·skip
   simp only[cy,c5,cL,c9,decide_eq_true_eq,decide_eq_false_iff_not]at h0;refine⟨?_,?_⟩
   ·exact ld i10
   ·show aa cv=cn (aa r0) (aa aZ).toNat;have nv:(z9+1).toNat=0:=by omega
    rw[nv]at dU;simpa using dU
def W5 (S:zzS) (K:zzK):Prop:=
 cz 4 λr0=>
 dI 4 S 28 [] λaZ=>
 cz 4 λet=>de λz12=>S 55 [aZ,[2,0,0,0]] [et,[z12]]->
 dI 4 S 44 [r0,et] λiy=>
 K [r0] [iy]
theorem aGD (G):W5 (fk G) (eT se.res 45):=by
 simp(maxSteps:=4000000) only[W5,de,dI,cz];intro r0 i0 aZ i4 aF et i8 z12 a12 iJ s1 iy i13 s2;have aF:aa aZ=57896044618658097711785492504343953926634992332820282019728792003956564819949:=aF.1;have s1:aa et=aa aZ-aa [2,0,0,0]+115792089237316195423570985008687907853269984665640564039457584007913129639936*z12:=s1.1;have s2:aa iy=cn (aa r0) (aa et).toNat:=s2.1;refine⟨?_,?_⟩
 ·exact ld i13
 ·show aa iy=cn (aa r0) tF;have dA:=du i4;have TS:=du i8;rw[show aa [2,0,0,0]=2 by decide]at s1;have e:aa et=57896044618658097711785492504343953926634992332820282019728792003956564819947:=by omega
  rw[s2,e];rfl
def Xf (S:zzS) (K:zzK):Prop:=
 cz 4 λr0=>
 dI 4 S 44 [r0,[ji,s7,s7,S6]] λaZ=>
 dI 4 S 36 [aZ,aZ] λet=>
 ((((!(decide (et=r0))))=true->
  dI 4 S 44 [[2,0,0,0],[amW,s7,s7,amX]] λjv=>
  dI 4 S 36 [aZ,jv] λdV=>
  dI 4 S 36 [dV,dV] λdM=>
  ((((!(decide (dM=r0))))=true->
   K [r0] [[0,0,0,0],[(cond (false) 1 0)]]
  )/\(((!(decide (dM=r0))))=false->
   au 0 xk (I dV 0 0) 2 λz24=>
   (((decide (((I dV 0 0)+((-2)*z24))=1))=true->
    dI 4 S 41 [[0,0,0,0],dV] λdP=>
    K [r0] [dP,[(cond (true) 1 0)]]
   )/\((decide (((I dV 0 0)+((-2)*z24))=1))=false->
    K [r0] [dV,[(cond (true) 1 0)]]
   ))
  ))
 )/\(((!(decide (et=r0))))=false->
  dI 4 S 36 [aZ,aZ] λjv=>
  ((((!(decide (jv=r0))))=true->
   K [r0] [[0,0,0,0],[(cond (false) 1 0)]]
  )/\(((!(decide (jv=r0))))=false->
   au 0 xk (I aZ 0 0) 2 λbd=>
   (((decide (((I aZ 0 0)+((-2)*bd))=1))=true->
    dI 4 S 41 [[0,0,0,0],aZ] λDH=>
    K [r0] [DH,[(cond (true) 1 0)]]
   )/\((decide (((I aZ 0 0)+((-2)*bd))=1))=false->
    K [r0] [aZ,[(cond (true) 1 0)]]
   ))
  ))
 ))
theorem aGT (G):Xf (fk G) (eT tW.res 38):=by
 simp(maxSteps:=4000000) only[Xf,au,dI,cz,ji,xk,s7,S6,amW,amX];intro r0 i0 aZ i4 aF et i8 s1;have aF:aa aZ=cn (aa r0) (aa [18446744073709551614,18446744073709551615,18446744073709551615,1152921504606846975]).toNat:=aF.1;have s1:aa et=aa aZ*aa aZ% 57896044618658097711785492504343953926634992332820282019728792003956564819949:=s1.1;refine⟨λh0=>?_,λh0=>?_⟩
 ·skip
  simp only[cy,c5,cL,c9,decide_eq_true_eq,decide_eq_false_iff_not]at h0;intro jv i12 s2 dV i16 bm dM i20 cr;have s2:aa jv=cn (aa [2,0,0,0]) (aa [18446744073709551611,18446744073709551615,18446744073709551615,2305843009213693951]).toNat:=s2.1;have bm:aa dV=aa aZ*aa jv% 57896044618658097711785492504343953926634992332820282019728792003956564819949:=bm.1;have cr:aa dM=aa dV*aa dV% 57896044618658097711785492504343953926634992332820282019728792003956564819949:=cr.1;refine⟨λh1=>?_,λh1=>?_⟩
  ·skip
   simp only[cy,c5,cL,c9,decide_eq_true_eq,decide_eq_false_iff_not]at h1;refine⟨?_,?_⟩
   ·simp[tW,aU,D.bds,dA,aS,ay]
   ·show(aa [0,0,0,0],(cond (false) 1 0))=qJ (aa r0);rw[zU]at aF;have tf:¬aa et=aa r0:=λe=>h0 (vP i8 i0 e);have FP:¬aa dM=aa r0:=λe=>h1 (vP i20 i0 e);rw[s1]at tf;unfold qJ;rw[<-aF];simp only;rw[aeI]at s2;rw[s2]at bm;rw[cr]at FP;rw[if_neg tf,<-bm];rw[if_neg FP];decide
  ·skip
   simp only[cy,c5,cL,c9,decide_eq_true_eq,decide_eq_false_iff_not]at h1;intro z24 a24 eG oy d24;refine⟨λh2=>?_,λh2=>?_⟩
   ·skip
    simp only[cy,c5,cL,c9,decide_eq_true_eq,decide_eq_false_iff_not]at h2;intro dP i25 dJ;have dJ:aa dP=(aa [0,0,0,0]-aa dV+(if aa [0,0,0,0]<aa dV then 57896044618658097711785492504343953926634992332820282019728792003956564819949 else 0))% 115792089237316195423570985008687907853269984665640564039457584007913129639936:=dJ.1;refine⟨?_,?_⟩
    ·exact BH i25 ⟨by decide,by decide,trivial⟩
    ·show(aa dP,(cond (true) 1 0))=qJ (aa r0);rw[zU]at aF;have tf:¬aa et=aa r0:=λe=>h0 (vP i8 i0 e);have FP:aa dM=aa r0:=by rw[h1]
     rw[s1]at tf;unfold qJ;rw[<-aF];simp only;rw[aeI]at s2;rw[s2]at bm;rw[cr]at FP;rw[if_neg tf,<-bm];rw[if_pos FP];have hp:=OS dV;have hr:0<=aa dV/\aa dV<57896044618658097711785492504343953926634992332820282019728792003956564819949:=by rw[bm];exact⟨tr _ (by decide),vl _ (by decide)⟩
     rw[if_pos (by omega)];rw[show aa [0,0,0,0]=0 by decide]at dJ;rw[dJ,if_pos (by omega:0<aa dV)];simp only[eZ];refine⟨?_,rfl⟩;rw[TW (by omega) (by omega)];omega
   ·skip
    simp only[cy,c5,cL,c9,decide_eq_true_eq,decide_eq_false_iff_not]at h2;refine⟨?_,?_⟩
    ·exact BH i16 ⟨by decide,by decide,trivial⟩
    ·show(aa dV,(cond (true) 1 0))=qJ (aa r0);rw[zU]at aF;have tf:¬aa et=aa r0:=λe=>h0 (vP i8 i0 e);have FP:aa dM=aa r0:=by rw[h1]
     rw[s1]at tf;unfold qJ;rw[<-aF];simp only;rw[aeI]at s2;rw[s2]at bm;rw[cr]at FP;rw[if_neg tf,<-bm];rw[if_pos FP];have hp:=OS dV;have hr:0<=aa dV/\aa dV<57896044618658097711785492504343953926634992332820282019728792003956564819949:=by rw[bm];exact⟨tr _ (by decide),vl _ (by decide)⟩
     rw[if_neg (by omega)];rfl
 ·skip
  simp only[cy,c5,cL,c9,decide_eq_true_eq,decide_eq_false_iff_not]at h0;intro jv i12 s2;have s2:aa jv=aa aZ*aa aZ% 57896044618658097711785492504343953926634992332820282019728792003956564819949:=s2.1;refine⟨λh3=>?_,λh3=>?_⟩
  ·skip
   simp only[cy,c5,cL,c9,decide_eq_true_eq,decide_eq_false_iff_not]at h3;refine⟨?_,?_⟩
   ·simp[tW,aU,D.bds,dA,aS,ay]
   ·show(aa [0,0,0,0],(cond (false) 1 0))=qJ (aa r0);rw[zU]at aF;have tf:aa et=aa r0:=by rw[h0]
    have FQ:¬aa jv=aa r0:=λe=>h3 (vP i12 i0 e);rw[s1]at tf;unfold qJ;rw[<-aF];simp only;rw[if_pos tf];rw[s2]at FQ;rw[if_neg FQ];decide
  ·skip
   simp only[cy,c5,cL,c9,decide_eq_true_eq,decide_eq_false_iff_not]at h3;intro bd jx jz Bg d16;refine⟨λh4=>?_,λh4=>?_⟩
   ·skip
    simp only[cy,c5,cL,c9,decide_eq_true_eq,decide_eq_false_iff_not]at h4;intro DH i17 bm;have bm:aa DH=(aa [0,0,0,0]-aa aZ+(if aa [0,0,0,0]<aa aZ then 57896044618658097711785492504343953926634992332820282019728792003956564819949 else 0))% 115792089237316195423570985008687907853269984665640564039457584007913129639936:=bm.1;refine⟨?_,?_⟩
    ·exact BH i17 ⟨by decide,by decide,trivial⟩
    ·show(aa DH,(cond (true) 1 0))=qJ (aa r0);rw[zU]at aF;have tf:aa et=aa r0:=by rw[h0]
     have FQ:aa jv=aa r0:=by rw[h3]
     rw[s1]at tf;unfold qJ;rw[<-aF];simp only;rw[if_pos tf];rw[s2]at FQ;rw[if_pos FQ];have hp:=OS aZ;have hr:0<=aa aZ/\aa aZ<57896044618658097711785492504343953926634992332820282019728792003956564819949:=by rw[aF];exact KY _ _
     rw[if_pos (by omega)];rw[show aa [0,0,0,0]=0 by decide]at bm;rw[bm,if_pos (by omega:0<aa aZ)];simp only[eZ];refine⟨?_,rfl⟩;rw[TW (by omega) (by omega)];omega
   ·skip
    simp only[cy,c5,cL,c9,decide_eq_true_eq,decide_eq_false_iff_not]at h4;refine⟨?_,?_⟩
    ·exact BH i4 ⟨by decide,by decide,trivial⟩
    ·show(aa aZ,(cond (true) 1 0))=qJ (aa r0);rw[zU]at aF;have tf:aa et=aa r0:=by rw[h0]
     have FQ:aa jv=aa r0:=by rw[h3]
     rw[s1]at tf;unfold qJ;rw[<-aF];simp only;rw[if_pos tf];rw[s2]at FQ;rw[if_pos FQ];have hp:=OS aZ;have hr:0<=aa aZ/\aa aZ<57896044618658097711785492504343953926634992332820282019728792003956564819949:=by rw[aF];exact KY _ _
     rw[if_neg (by omega)];rfl
end Go.Fd
set_option maxRecDepth 100000
namespace Go.eF
open Go Go.bX
def bh:dD->Nat->Option gz:=λ_ _=>none
def bK:Nat->List Nat:=λ_=>[]
def KD:br:=⟨108,440,[yi,yi],[yi]⟩
def Di:br:=⟨84,448,[eI],[eI]⟩
def Dj:br:=⟨86,449,[eI],[eI]⟩
def Dk:br:=⟨87,450,[eI],[eI]⟩
def Dl:br:=⟨88,451,[eI],[eI]⟩
def xm:fE:=⟨70,443,[j7,.d ra],[HR],71⟩
def aCF:dD->Nat->Option gz:=λf r=>match f,r with
 |70,6=>some ⟨[0,1,5],[(6,0,18446744073709551615),(7,-1,9223372036854775807)],[(1,0,0,0)],[],[],[],[]⟩
 |_,_=>none
def aCV:Nat->List Nat:=λn=>[1,1,1]
def aB2:fE:=⟨71,461,[j7],[j7],71⟩
def OY:la:=⟨aB2,23,true⟩
def Ta:fE:=⟨71,472,[j7,j7],[j7],75⟩
def HV:la:=⟨Ta,23,true⟩
def Tb:fE:=⟨71,469,[j7,j7,j7],[j7],75⟩
def HW:la:=⟨Tb,23,true⟩
def Dm:br:=⟨83,467,[avU],[eI]⟩
def HG:fE:=⟨130,463,[aCY],[Ua],66⟩
def S7:fE:=⟨89,465,[j7],[HR],73⟩
def xy:qX:=⟨S7,[.int .u64 7640891576956012808,.int .u64 13503953896175478587,.int .u64 4354685564936845355,.int .u64 11912009170470909681,.int .u64 5840696475078001361,.int .u64 11170449401992604703,.int .u64 2270897969802886507,.int .u64 6620516959819538809,.int .i64 80,.fn 83,.fn 84,.fn 86,.fn 87,.fn 88],115,[.int .i64 8]⟩
def TJ:dD->Nat->Option gz:=λf r=>match f,r with
 |121,3=>some ⟨[0],[(5,16,9223372036854775807)],[],[],[(4,[.int .u64 0 18446744073709551615],45)],[],[]⟩
 |121,8=>some ⟨[0,106,107],[(108,0,9223372036854775807),(6,0,18446744073709551615),(7,0,18446744073709551615),(8,0,18446744073709551615),(9,0,18446744073709551615),(10,0,18446744073709551615),(11,0,18446744073709551615),(12,0,18446744073709551615),(13,0,18446744073709551615)],[],[],[],[],[]⟩
 |89,15=>some ⟨[3,5,13,47,48],[(14,-1,7)],[],[],[(11,[.int .u8 0 255],5)],[],[]⟩
 |_,_=>none
def anL:Nat->List Nat:=λn=>cond (aR n 4) [8,1] (cond (aR n 166) [8,1] [1,1,1,1])
def Tc:fE:=⟨40,453,[j7],[.d ir],71⟩
def FJ:la:=⟨Tc,23,false⟩
def Td:fE:=⟨40,473,[j7,j7],[.d ir],75⟩
def HX:la:=⟨Td,23,false⟩
def Te:fE:=⟨40,471,[j7,j7,j7],[.d ir],75⟩
def HY:la:=⟨Te,23,false⟩
def OG:br:=⟨15,112,[cD],[cD,RL]⟩
def HM:br:=⟨22,114,[cD],[cD]⟩
def OF:br:=⟨16,115,[cD,cD,cD],[cD,RL]⟩
def OE:br:=⟨14,151,[cD],[.bool]⟩
def Dr:br:=⟨39,152,[ir],[cD]⟩
def OD:br:=⟨26,153,[cD,cD,cD],[cD]⟩
def HL:br:=⟨53,154,[cD],[cD]⟩
def S8:fE:=⟨17,674,[j7,j7],[.d cD],75⟩
def KU:la:=⟨S8,23,false⟩
def S9:fE:=⟨17,675,[j7,j7,j7],[.d cD],75⟩
def FI:la:=⟨S9,23,false⟩
def Kx:fE:=⟨8,680,[.d cD],[.d cD],0⟩
def Ky:fE:=⟨10,681,[.d cD,j7],[.d ir],75⟩
def Dg:fE:=⟨6,682,[.d cD,j7,.d ir],[.d .bool],75⟩
def HK:fE:=⟨5,683,[],[.d .bool],0⟩
def Od:br:=⟨62,690,[dA],[cD]⟩
def HI:br:=⟨46,691,[],[dA]⟩
def Oe:br:=⟨45,693,[cD],[dA]⟩
def HJ:br:=⟨44,694,[dA,dA],[.bool]⟩
def Kv:fE:=⟨19,695,[.d cD],[.d .bool],0⟩
def Oh:br:=⟨18,720,[cD],[cD,RL]⟩
def Og:br:=⟨20,721,[cD,cD,cD],[cD,RL]⟩
def Oi:br:=⟨96,722,[dA,dA],[dA,c1]⟩
def Of:br:=⟨97,723,[dA,dA],[dA,c1]⟩
def KB:br:=⟨110,441,[yi,yi],[yi]⟩
def lx:br:=⟨111,476,[eI,ra],[eI]⟩
def Oo:br:=⟨128,701,[eI,aB6,ra],[eI]⟩
def Pf:jL:=⟨Oo,82⟩
def Oz:br:=⟨128,706,[eI,aCe,ra],[eI]⟩
def Po:jL:=⟨Oz,82⟩
def OB:br:=⟨128,707,[eI,aCg,ra],[eI]⟩
def Pq:jL:=⟨OB,82⟩
def OC:br:=⟨128,708,[eI,aCh,ra],[eI]⟩
def Pr:jL:=⟨OC,82⟩
def Oq:br:=⟨128,714,[eI,aB7,ra],[eI]⟩
def Pg:jL:=⟨Oq,82⟩
def Ot:br:=⟨128,718,[eI,aB8,ra],[eI]⟩
def Ph:jL:=⟨Ot,82⟩
def Ou:br:=⟨128,719,[eI,aB9,ra],[eI]⟩
def Pj:jL:=⟨Ou,82⟩
def Ov:br:=⟨128,728,[eI,aCa,ra],[eI]⟩
def Pk:jL:=⟨Ov,82⟩
def Ow:br:=⟨128,734,[eI,aCb,ra],[eI]⟩
def Pl:jL:=⟨Ow,82⟩
def Ox:br:=⟨128,739,[eI,aCc,ra],[eI]⟩
def Pm:jL:=⟨Ox,82⟩
def Oy:br:=⟨128,741,[eI,aCd,ra],[eI]⟩
def Pn:jL:=⟨Oy,82⟩
def OA:br:=⟨128,761,[eI,aCf,ra],[eI]⟩
def Pp:jL:=⟨OA,82⟩
def Ok:br:=⟨112,479,[eI,aDe,.bool,ra],[eI]⟩
def Pb:jL:=⟨Ok,82⟩
def Ol:br:=⟨112,480,[eI,aDf,.bool,ra],[eI]⟩
def Pc:jL:=⟨Ol,82⟩
def Om:br:=⟨112,481,[eI,aDg,.bool,ra],[eI]⟩
def Pd:jL:=⟨Om,82⟩
def On:br:=⟨112,482,[eI,aDh,.bool,ra],[eI]⟩
def Pe:jL:=⟨On,82⟩
def KC:fE:=⟨72,477,[j7,.d ra],[HR],71⟩
def aCE:dD->Nat->Option gz:=λf r=>match f,r with
 |72,7=>some ⟨[0,1,5,6],[],[],[],[(7,[.int .u8 0 255],5)],[],[]⟩
 |72,21=>some ⟨[0,1,5,6,7,8,10,12],[(13,0,9223372036854775807)],[(1010,0,0,18446744073709551615),(1010,1,0,18446744073709551615),(1010,2,0,18446744073709551615),(1010,3,0,18446744073709551615),(1010,4,0,18446744073709551615),(1010,5,0,18446744073709551615),(1010,6,0,18446744073709551615),(1010,7,0,18446744073709551615)],[],[],[],[]⟩
 |72,25=>some ⟨[0,1,5,6,7,8,10,12,13,14],[(15,0,128)],[(1014,0,0,0)],[],[],[(1014,[.int .u64 0 18446744073709551615],80)],[]⟩
 |72,29=>some ⟨[0,1,5,6,7,8,10,12,13,14],[(16,16,80)],[(1014,0,0,0)],[],[],[],[]⟩
 |72,34=>some ⟨[0,1,5,6,7,8,10,12,13,14,17],[(18,0,80)],[(1017,0,0,18446744073709551615),(1017,1,0,18446744073709551615),(1017,2,0,18446744073709551615),(1017,3,0,18446744073709551615),(1017,4,0,18446744073709551615),(1017,5,0,18446744073709551615),(1017,6,0,18446744073709551615),(1017,7,0,18446744073709551615)],[],[],[],[]⟩
 |72,45=>some ⟨[0,1,5,6,7,8,10,12],[(23,0,8)],[],[],[(22,[.int .u8 0 255],5)],[(1010,[.int .u64 0 18446744073709551615],8)],[]⟩
 |72,48=>some ⟨[0,1,5,6,7,8,10,12,23],[(24,-8,56)],[],[],[(22,[.int .u8 0 255],5)],[],[]⟩
 |_,_=>none
def aCT:Nat->List Nat:=λn=>cond (aR n 45||aR n 46||aR n 141||aR n 142) [1,8] (cond (aR n 8||aR n 9) [1,1,1] (cond (aR n 135||aR n 136||aR n 138||aR n 139) [1,1] [1,1,1,1]))
def Kz:fE:=⟨51,478,[j7],[.d ir],71⟩
def Kw:fE:=⟨61,724,[.d dA,.d dA],[.d dA],0⟩
def Kt:fE:=⟨60,725,[j7],[.d dA],71⟩
def aCD:dD->Nat->Option gz:=λf r=>match f,r with
 |60,3=>some ⟨[0,2,3],[(4,-1,9223372036854775807)],[(1003,0,0,18446744073709551615),(1003,1,0,18446744073709551615),(1003,2,0,18446744073709551615),(1003,3,0,18446744073709551615)],[],[],[],[]⟩
 |_,_=>none
def aCS:Nat->List Nat:=λn=>[1,4]
def Ku:fE:=⟨50,726,[.d ir],[.d cD],0⟩
def KA:fE:=⟨21,697,[j7,j7,j7],[.d cD],75⟩
def HH:fE:=⟨7,727,[.d cD,j7,.d ir],[.d .bool],75⟩
def aCC:dD->Nat->Option gz:=λf r=>match f,r with
 |7,3=>some ⟨[1,3,5,6,7,8],[(9,0,32)],[(1007,0,0,0),(1008,0,0,0)],[],[],[(1005,[.int .u8 0 255],64),(1007,[.int .u8 0 255],32),(1008,[.int .u8 0 255],32)],[]⟩
 |_,_=>none
def aCR:Nat->List Nat:=λn=>[1,1,1]
def Oj:fE:=⟨3,729,[.d cD,j7,.d ir],[.d .bool],0⟩
def sh:Nat->List Nat×List Nat
 |440=>([1,1],[1])
 |448=>([1],[1])
 |449=>([1],[1])
 |450=>([1],[1])
 |451=>([1],[1])
 |443=>([1],[1])
 |461=>([1],[1])
 |472=>([1,1],[1])
 |469=>([1,1,1],[1])
 |467=>([1],[1])
 |463=>([1],[1])
 |465=>([1],[1])
 |453=>([1],[64])
 |473=>([1,1],[64])
 |471=>([1,1,1],[64])
 |112=>([32],[32,1])
 |114=>([32],[32])
 |115=>([32,32,32],[32,1])
 |151=>([32],[1])
 |152=>([64],[32])
 |153=>([32,32,32],[32])
 |154=>([32],[32])
 |674=>([1,1],[32])
 |675=>([1,1,1],[32])
 |680=>([32],[32])
 |681=>([32,1],[64])
 |682=>([32,1,64],[1])
 |683=>([],[1])
 |690=>([4],[32])
 |691=>([],[4])
 |693=>([32],[4])
 |694=>([4,4],[1])
 |695=>([32],[1])
 |720=>([32],[32,1])
 |721=>([32,32,32],[32,1])
 |722=>([4,4],[4,1])
 |723=>([4,4],[4,1])
 |441=>([1,1],[1])
 |476=>([1],[1])
 |701=>([1,1],[1])
 |706=>([1,1],[1])
 |707=>([1,1],[1])
 |708=>([1,1],[1])
 |714=>([1,1],[1])
 |718=>([1,1],[1])
 |719=>([1,1],[1])
 |728=>([1,1],[1])
 |734=>([1,1],[1])
 |739=>([1,1],[1])
 |741=>([1,1],[1])
 |761=>([1,1],[1])
 |479=>([1,3,1],[1])
 |480=>([1,3,1],[1])
 |481=>([1,3,1],[1])
 |482=>([1,3,1],[1])
 |477=>([1],[1])
 |478=>([1],[64])
 |724=>([4,4],[4])
 |725=>([1],[4])
 |726=>([64],[32])
 |697=>([1,1,1],[32])
 |727=>([32,1,64],[1])
 |729=>([32,1,64],[1])
 |_=>([],[])
abbrev Ei (P:Program) (gl:fO) (c:br) (cal:gy) (li:dD->Nat->Option gz) (lsh:Nat->List Nat) (lens:List Nat) (B:(Nat->List (List Int)->List (List Int)->Prop)->(List (List Int)->List (List Int)->Prop)->Prop):Prop:=∀S K,dE sh lsh S K lens (aU c.args) c.res (c.tree P gl cal li 600 6)=B S K
end Go.eF
namespace Go.eF
open Go Go.bX Go.Proofs
theorem aNt:Ei Tryz.prog dX KD (ff [] []) bh bK [1,1] ag5:=λ_ _=>by kernel_rfl
theorem aMp:Ei Tryz.prog dX Di (ff [] []) bh bK [1] agB:=λ_ _=>by kernel_rfl
theorem aMq:Ei Tryz.prog dX Dj (ff [] []) bh bK [1] agC:=λ_ _=>by kernel_rfl
theorem aMr:Ei Tryz.prog dX Dk (ff [] []) bh bK [1] agD:=λ_ _=>by kernel_rfl
theorem aMs:Ei Tryz.prog dX Dl (ff [] []) bh bK [1] agE:=λ_ _=>by kernel_rfl
theorem aNu (S K):lY sh aCV S K [1] (dF xm.args) xm.res (xm.tree (jZ []) Tryz.prog dX (ff [] [KD]) aCF 600 6)=ag6 S K:=by kernel_rfl
theorem aMt:Ei Tryz.prog dX Dm (ff [] []) bh bK [1] agF:=λ_ _=>by kernel_rfl
theorem aL6 (S K):lY sh bK S K [1] (dF HG.args) HG.res (HG.tree (jZ []) Tryz.prog dX (ff [] []) bh 600 6)=agq S K:=by kernel_rfl
theorem aNw (S K):lY sh bK S K [1] (dF Tc.args) Tc.res (FJ.tree (DM [xy] (rn [OY] (jZ [xm]))) Tryz.prog dX (ff [] []) bh 600 6)=ag7 S K:=by kernel_rfl
end Go.eF
namespace Go.eF
open Go Go.bX Go.Proofs
theorem aL0 (S K):lY sh anL S K [1] (dF S7.args) S7.res (xy.tree (Rc Tryz.prog dX (ff [] [Dm,Di,Dj,Dk,Dl]) (Jr (jZ [HG]) Tryz.prog dX (ff [] [Dm,Di,Dj,Dk,Dl]) TJ 600 6) TJ 600 [(1,0,0,18446744073709551615),(1,1,0,18446744073709551615),(1,2,0,18446744073709551615),(1,3,0,18446744073709551615),(1,4,0,18446744073709551615),(1,5,0,18446744073709551615),(1,6,0,18446744073709551615),(1,7,0,18446744073709551615)] 126))=agp S K:=by kernel_rfl
end Go.eF
namespace Go.eF
open Go Go.bX Go.Proofs
theorem aNr (S K):lY sh bK S K [1,1] (dF Ta.args) Ta.res (HV.tree (jZ []) Tryz.prog dX (ff [] []) bh 600 6)=ag3 S K:=by kernel_rfl
theorem aNs (S K):lY sh bK S K [1,1,1] (dF Tb.args) Tb.res (HW.tree (jZ []) Tryz.prog dX (ff [] []) bh 600 6)=ag4 S K:=by kernel_rfl
theorem aNx (S K):lY sh bK S K [1,1] (dF Td.args) Td.res (HX.tree (DM [xy] (rn [HV] (jZ [xm]))) Tryz.prog dX (ff [] []) bh 600 6)=ag8 S K:=by kernel_rfl
theorem aNy (S K):lY sh bK S K [1,1,1] (dF Te.args) Te.res (HY.tree (DM [xy] (rn [HW] (jZ [xm]))) Tryz.prog dX (ff [] []) bh 600 6)=ag9 S K:=by kernel_rfl
end Go.eF
namespace Go.eF
open Go Go.bX Go.Proofs
theorem aMz (S K):lY sh bK S K [1,1] (dF S8.args) S8.res (KU.tree (rn [HX] (jZ [])) Tryz.prog dX (ff [] [Dr]) bh 600 6)=agG S K:=by kernel_rfl
theorem aMA (S K):lY sh bK S K [1,1,1] (dF S9.args) S9.res (FI.tree (rn [HY] (jZ [])) Tryz.prog dX (ff [] [Dr]) bh 600 6)=agH S K:=by kernel_rfl
theorem aMj (S K):lY sh bK S K [32] (dF Kx.args) Kx.res (Kx.tree (rn [FJ] (jZ [])) Tryz.prog dX (ff [] [HL,HM]) bh 600 6)=agx S K:=by kernel_rfl
theorem aMk (S K):lY sh bK S K [32,1] (dF Ky.args) Ky.res (Ky.tree (rn [FJ,KU,FI] (jZ [])) Tryz.prog dX (ff [] [HL,HM,OD]) bh 600 6)=agy S K:=by kernel_rfl
theorem aMl (S K):lY sh bK S K [32,1,64] (dF Dg.args) Dg.res (Dg.tree (rn [FI] (jZ [])) Tryz.prog dX (ff [] [OE,OG,OF]) bh 600 6)=agz S K:=by kernel_rfl
theorem aMi (S K):lY sh bK S K [] (dF HK.args) HK.res (HK.tree (jZ [Kx,Ky,Dg]) Tryz.prog dX (ff [] []) bh 600 6)=agw S K:=by kernel_rfl
end Go.eF
namespace Go.eF
open Go Go.bX Go.Proofs
theorem aNb (S K):lY sh aCT S K [1] (dF KC.args) KC.res (KC.tree (jZ []) Tryz.prog dX (ff [Pb,Pc,Pd,Pe] [KB,lx]) aCE 600 6)=agQ S K:=by kernel_rfl
end Go.eF
namespace Go.eF
open Go Go.bX Go.Proofs
theorem aMg (S K):lY sh bK S K [32] (dF Kv.args) Kv.res (Kv.tree (jZ []) Tryz.prog dX (ff [] [HI,Oe,HJ]) bh 600 6)=agu S K:=by kernel_rfl
theorem aM5:Ei Tryz.prog dX KB (ff [] []) bh bK [1,1] agP:=λ_ _=>by kernel_rfl
theorem aML:Ei Tryz.prog dX lx (ff [] []) bh bK [1] agJ:=λ_ _=>by kernel_rfl
theorem aNc (S K):dE sh bK S K [1,1] (aU Oo.args) Oo.res (Pf.tree Tryz.prog dX (ff [] [lx]) bh 600 6)=agR S K:=by kernel_rfl
theorem aNk (S K):dE sh bK S K [1,1] (aU Oz.args) Oz.res (Po.tree Tryz.prog dX (ff [] [lx]) bh 600 6)=agZ S K:=by kernel_rfl
theorem aNm (S K):dE sh bK S K [1,1] (aU OB.args) OB.res (Pq.tree Tryz.prog dX (ff [] [lx]) bh 600 6)=ag1 S K:=by kernel_rfl
theorem aNn (S K):dE sh bK S K [1,1] (aU OC.args) OC.res (Pr.tree Tryz.prog dX (ff [] [lx]) bh 600 6)=ag2 S K:=by kernel_rfl
theorem aNd (S K):dE sh bK S K [1,1] (aU Oq.args) Oq.res (Pg.tree Tryz.prog dX (ff [] [lx]) bh 600 6)=agS S K:=by kernel_rfl
theorem aNe (S K):dE sh bK S K [1,1] (aU Ot.args) Ot.res (Ph.tree Tryz.prog dX (ff [] [lx]) bh 600 6)=agT S K:=by kernel_rfl
theorem aNf (S K):dE sh bK S K [1,1] (aU Ou.args) Ou.res (Pj.tree Tryz.prog dX (ff [] [lx]) bh 600 6)=agU S K:=by kernel_rfl
theorem aNg (S K):dE sh bK S K [1,1] (aU Ov.args) Ov.res (Pk.tree Tryz.prog dX (ff [] [lx]) bh 600 6)=agV S K:=by kernel_rfl
theorem aNh (S K):dE sh bK S K [1,1] (aU Ow.args) Ow.res (Pl.tree Tryz.prog dX (ff [] [lx]) bh 600 6)=agW S K:=by kernel_rfl
theorem aNi (S K):dE sh bK S K [1,1] (aU Ox.args) Ox.res (Pm.tree Tryz.prog dX (ff [] [lx]) bh 600 6)=agX S K:=by kernel_rfl
theorem aNj (S K):dE sh bK S K [1,1] (aU Oy.args) Oy.res (Pn.tree Tryz.prog dX (ff [] [lx]) bh 600 6)=agY S K:=by kernel_rfl
theorem aNl (S K):dE sh bK S K [1,1] (aU OA.args) OA.res (Pp.tree Tryz.prog dX (ff [] [lx]) bh 600 6)=ag0 S K:=by kernel_rfl
theorem aMY (S K):dE sh bK S K [1,3,1] (aU Ok.args) Ok.res (Pb.tree Tryz.prog dX (ff [Pk,Pl,Pm] []) bh 600 6)=agK S K:=by kernel_rfl
theorem aMZ (S K):dE sh bK S K [1,3,1] (aU Ol.args) Ol.res (Pc.tree Tryz.prog dX (ff [Pg,Ph,Pn] []) bh 600 6)=agL S K:=by kernel_rfl
theorem aM0 (S K):dE sh bK S K [1,3,1] (aU Om.args) Om.res (Pd.tree Tryz.prog dX (ff [Pf,Pr,Pq] []) bh 600 6)=agM S K:=by kernel_rfl
theorem aM1 (S K):dE sh bK S K [1,3,1] (aU On.args) On.res (Pe.tree Tryz.prog dX (ff [Pj,Pp,Po] []) bh 600 6)=agN S K:=by kernel_rfl
theorem aMD (S K):lY sh bK S K [1] (dF Kz.args) Kz.res (Kz.tree (jZ [KC]) Tryz.prog dX (ff [] []) bh 600 6)=agI S K:=by kernel_rfl
theorem aMh (S K):lY sh bK S K [4,4] (dF Kw.args) Kw.res (Kw.tree (jZ []) Tryz.prog dX (ff [] [Oi,HJ,Of,HI]) bh 600 6)=agv S K:=by kernel_rfl
theorem aMd (S K):lY sh aCS S K [1] (dF Kt.args) Kt.res (Kt.tree (jZ [Kw]) Tryz.prog dX (ff [] []) aCD 600 6)=ags S K:=by kernel_rfl
theorem aMf (S K):lY sh bK S K [64] (dF Ku.args) Ku.res (Ku.tree (jZ [Kt]) Tryz.prog dX (ff [] [Od]) bh 600 6)=agt S K:=by kernel_rfl
theorem aM2 (S K):lY sh bK S K [1,1,1] (dF KA.args) KA.res (KA.tree (jZ [Kz,Ku]) Tryz.prog dX (ff [] []) bh 600 6)=agO S K:=by kernel_rfl
end Go.eF
namespace Go.eF
open Go Go.bX Go.Proofs
theorem aMc (S K):lY sh aCR S K [32,1,64] (dF HH.args) HH.res (HH.tree (jZ [Kv,KA]) Tryz.prog dX (ff [] [Oh,Og]) aCC 600 6)=agr S K:=by kernel_rfl
theorem aMm (S K):lY sh bK S K [32,1,64] (dF Oj.args) Oj.res (Oj.tree (jZ [HK,Dg,HH]) Tryz.prog dX (ff [] []) bh 600 6)=agA S K:=by kernel_rfl
end Go.eF
namespace Go.ot
open Go Go.bX Go.Proofs
theorem aLt (S K):(kx lv.bds λzs=>(lv.tree Tryz.prog gl (bq [] [] 102 103 73) mc 600 6).holds S (kh lv.res (K zs)) (λ_ _=>False) (bO (λ_=>0) 0 zs))=XU S K:=by kernel_rfl
theorem aLu (S K):(kx BM.bds λzs=>(BM.tree Tryz.prog gl (bq [] [] 102 103 73) mc 600 6).holds S (kh BM.res (K zs)) (λ_ _=>False) (bO (λ_=>0) 0 zs))=XV S K:=by kernel_rfl
theorem aLv (S K):(kx Dp.bds λzs=>(Dp.tree Tryz.prog gl (bq [] [] 102 103 73) mc 600 6).holds S (kh Dp.res (K zs)) (λ_ _=>False) (bO (λ_=>0) 0 zs))=XW S K:=by kernel_rfl
theorem aLw (S K):(kx (aU jk.args) λzs=>(jk.tree Tryz.prog gl (bq [] [] 102 103 73) mc 600 6).holds S (kh jk.res (K zs)) (λ_ _=>False) (bO (λ_=>0) 0 zs))=XX S K:=by kernel_rfl
theorem aLy (S K):(kx (aU jl.args) λzs=>(jl.tree Tryz.prog gl (bq [] [] 102 103 73) mc 600 6).holds S (kh jl.res (K zs)) (λ_ _=>False) (bO (λ_=>0) 0 zs))=XZ S K:=by kernel_rfl
theorem aLp (S K):(kx (aU jb.args) λzs=>(jb.tree Tryz.prog gl (bq [] [] 102 103 73) mc 600 6).holds S (kh jb.res (K zs)) (λ_ _=>False) (bO (λ_=>0) 0 zs))=XQ S K:=by kernel_rfl
theorem aLz (S K):(kx (aU Dq.args) λzs=>(Dq.tree Tryz.prog gl (bq [] [] 102 103 73) mc 600 6).holds S (kh Dq.res (K zs)) (λ_ _=>False) (bO (λ_=>0) 0 zs))=X0 S K:=by kernel_rfl
theorem aLr (S K):(kx (aU Dh.args) λzs=>(Dh.tree Tryz.prog gl (bq [] [] 102 103 73) mc 600 6).holds S (kh Dh.res (K zs)) (λ_ _=>False) (bO (λ_=>0) 0 zs))=XS S K:=by kernel_rfl
theorem aLB (S K):(kx (aU xl.args) λzs=>(xl.tree Tryz.prog gl (bq [] [Dh,jl,jk] 102 103 73) mc 600 6).holds S (kh xl.res (K zs)) (λ_ _=>False) (bO (λ_=>0) 0 zs))=X2 S K:=by kernel_rfl
theorem aLs (S K):(kx (aU Dn.args) λzs=>(Dn.tree Tryz.prog gl (bq [] [xl] 102 103 73) mc 600 6).holds S (kh Dn.res (K zs)) (λ_ _=>False) (bO (λ_=>0) 0 zs))=XT S K:=by kernel_rfl
theorem aLC (S K):(kx (aU n3.args) λzs=>(n3.tree Tryz.prog gl (bq [lv] [jk] 102 103 73) mc 600 6).holds S (kh n3.res (K zs)) (λ_ _=>False) (bO (λ_=>0) 0 zs))=X3 S K:=by kernel_rfl
theorem aLA (S K):(kx (aU oF.args) λzs=>(oF.tree Tryz.prog gl (bq [BM,Dp] [xl,jb] 102 103 73) mc 600 6).holds S (kh oF.res (K zs)) (λ_ _=>False) (bO (λ_=>0) 0 zs))=X1 S K:=by kernel_rfl
theorem aLx (S K):(kx (aU Fs.args) λzs=>(Fs.tree Tryz.prog gl (bq [lv] [Dq,xl,Dn,jl,jb] 102 103 73) mc 600 6).holds S (kh Fs.res (K zs)) (λ_ _=>False) (bO (λ_=>0) 0 zs))=XY S K:=by kernel_rfl
theorem aLq (S K):(kx (aU Fq.args) λzs=>(Fq.tree Tryz.prog gl (bq [] [] 102 103 73) mc 600 6).holds S (kh Fq.res (K zs)) (λ_ _=>False) (bO (λ_=>0) 0 zs))=XR S K:=by kernel_rfl
end Go.ot
namespace Go.ot
open Go Go.bX Go.Proofs
theorem aN {α:Type} {p:α->Prop}:∀x∈([]:List α),p x:=λ_ h=>by cases h
theorem gv:Tryz.prog.follows .mixedOrders=true:=by kernel_rfl
theorem eh:I7 Tryz.prog 103:=ahX Tryz.func103 (by kernel_rfl) (by kernel_rfl) (by kernel_rfl) (by kernel_rfl)
theorem ev:Jf Tryz.prog 73:=aqg Tryz.func73 (by kernel_rfl) (by kernel_rfl) (by kernel_rfl) (by kernel_rfl)
theorem en:Jc Tryz.prog 102:=aog gv (enters (by kernel_rfl)) (λK=>by kernel_rfl)
theorem vP {n:Nat} {l l':List Int} (h:ay (aS 0 18446744073709551615 n) l) (aP:ay (aS 0 18446744073709551615 n) l') (e:aa l=aa l'):l=l':=OR (b:=18446744073709551616) (by decide) h aP e
theorem xr {n:Nat} {l l':List Int} (h:ay (aS 0 255 n) l) (aP:ay (aS 0 255 n) l') (e:nb l=nb l'):l=l':=OR (b:=256) (by decide) h aP e
theorem NS {X:Int} {rs cK:List Int} (h:ay (aU [b5]) rs) (aP:ay (aU [b5]) cK) (e:aa rs=X) (cQ:aa cK=X):rs=cK:=vP (n:=4) h aP (e.trans cQ.symm)
theorem aAQ {X:Int} {rs cK:List Int} (h:ay (aU [y5]) rs) (aP:ay (aU [y5]) cK) (e:aa rs=X) (cQ:aa cK=X):rs=cK:=vP (n:=8) h aP (e.trans cQ.symm)
theorem abl {X:Int} {rs cK:List Int} (h:ay (aU [gC]) rs) (aP:ay (aU [gC]) cK) (e:nb rs=X) (cQ:nb cK=X):rs=cK:=xr (n:=32) h aP (e.trans cQ.symm)
theorem amk {X:List Int} {rs cK:List Int} (e:rs=X) (cQ:cK=X):rs=cK:=e.trans cQ.symm
theorem SI {rs:List Int} (h:ay (aU [b5,c1]) rs):∃a b c d x,rs=[a,b,c,d,x]/\0<=x/\x<=1/\ay (aS 0 18446744073709551615 4) [a,b,c,d]/\0<=aa [a,b,c,d]/\aa [a,b,c,d]<115792089237316195423570985008687907853269984665640564039457584007913129639936:=by
 match rs,h with
 |[a,b,c,d,x],h=>
  obtain⟨a0,bG,dq,bQ,da,c1,d0,d1,dw,ah,_⟩:=h;exact⟨a,b,c,d,x,rfl,dw,ah,⟨a0,bG,dq,bQ,da,c1,d0,d1,trivial⟩,mX a0 bG dq bQ da c1 d0 d1⟩
theorem aAO {zs rs cK:List Int} (h:ay (aU [b5,c1]) rs) (aP:ay (aU [b5,c1]) cK) (e:ru zs rs) (cQ:ru zs cK):rs=cK:=by
 obtain⟨a,b,c,d,x,rfl,dw,ah,hb,h0,h1⟩:=SI h;obtain⟨dW,b',eW,zR,ht,rfl,aOj,aOk,nW,axZ,E4⟩:=SI aP;simp only[ru,mG,qS,h9,gP]at e cQ;have ex:x=ht:=by omega
 subst ex;have:=vP hb nW (by omega);simp only[mh,and_true]at this;simp[this]
theorem aAP {zs rs cK:List Int} (h:ay (aU [b5,c1]) rs) (aP:ay (aU [b5,c1]) cK) (e:rv zs rs) (cQ:rv zs cK):rs=cK:=by
 obtain⟨a,b,c,d,x,rfl,dw,ah,hb,h0,h1⟩:=SI h;obtain⟨dW,b',eW,zR,ht,rfl,aOj,aOk,nW,axZ,E4⟩:=SI aP;simp only[rv,mG,qS,h9,gP]at e cQ;have ex:x=ht:=by omega
 subst ex;have:=vP hb nW (by omega);simp only[mh,and_true]at this;simp[this]
theorem aAN {zs rs cK:List Int} (h:ay (aU [b5,y5]) rs) (aP:ay (aU [b5,y5]) cK) (e:vX zs rs) (cQ:vX zs cK):rs=cK:=by
 obtain⟨h1,h2⟩:=BI (b:=b5.bds) (b':=y5.bds++[]) h;obtain⟨E4,Hb⟩:=BI (b:=b5.bds) (b':=y5.bds++[]) aP;have ar:=vP (n:=4) h1 E4 (e.1.trans cQ.1.symm);have aG:=vP (n:=8) (l:=rs.drop 4) (l':=cK.drop 4) h2 Hb (e.2.trans cQ.2.symm);rw[<-oQ 4 rs,<-oQ 4 cK,aG]
 congr 1
theorem aaJ {X:Int} (h0:0<=X) (h1:X<115792089237316195423570985008687907853269984665640564039457584007913129639936):∃rs,ay (aU [b5]) rs/\aa rs=X:=
 ⟨Jz 18446744073709551616 4 X,by have:=ajZ (b:=18446744073709551616) (by decide) 4 X;exact this,aoB (b:=18446744073709551616) (by decide) 4 X h0 h1⟩
theorem KO {l:List Int} (h:ay (aS 0 255 32) l):0<=nb l/\nb l<115792089237316195423570985008687907853269984665640564039457584007913129639936:=aor h
section
variable {wb:aC} (hg:gJ gl ⟨wb,wb,λ_=>False,λ_=>False,[]⟩)
include hg
theorem T2:lv.bu Tryz.prog wb (cC 22):=by
 refine lI.pS (S:=cC) (c:=lv) (cal:=(bq [] [] 102 103 73)) (spec:=cC 22) (li:=mc) (rounds:=600) (d:=6) gv (λr ex ro=>eA en eh ev aN aN) hg (enters (by kernel_rfl)) (λzs rs cK hz h aP e cQ=>NS h aP e cQ) (λzs hz=>aaJ (KO (by simpa [lI.bds,lv,aU]using hz)).1 (KO (by simpa [lI.bds,lv,aU]using hz)).2) ?_;rw[aLt];exact adx
omit hg in
theorem R9 {zs:List Int} (h:ay BM.bds zs):ay (aS 0 255 32) (zs.take 32)/\ay (aS 0 255 32) (zs.drop 32):=by
 have aP:ay (aS 0 255 32++aS 0 255 32) zs:=h;exact BI aP
theorem aEj:BM.bu Tryz.prog wb (cC 122):=by
 refine lI.pS (S:=cC) (c:=BM) (cal:=(bq [] [] 102 103 73)) (spec:=cC 122) (li:=mc) (rounds:=600) (d:=6) gv (λr ex ro=>eA en eh ev aN aN) hg (enters (by kernel_rfl)) (λzs rs cK hz h aP e cQ=>NS h aP e cQ) (λzs hz=>aaJ (KO (R9 hz).1).1 (KO (R9 hz).1).2) ?_;rw[aLu];exact aGf
theorem aEk:Dp.bu Tryz.prog wb (cC 222):=by
 refine lI.pS (S:=cC) (c:=Dp) (cal:=(bq [] [] 102 103 73)) (spec:=cC 222) (li:=mc) (rounds:=600) (d:=6) gv (λr ex ro=>eA en eh ev aN aN) hg (enters (by kernel_rfl)) (λzs rs cK hz h aP e cQ=>NS h aP e cQ) (λzs hz=>aaJ (KO (R9 hz).2).1 (KO (R9 hz).2).2) ?_;rw[aLv];exact aGg
theorem T3:jk.bu Tryz.prog wb (cC 29):=by
 refine br.pS (S:=cC) (c:=jk) (cal:=(bq [] [] 102 103 73)) (spec:=cC 29) (li:=mc) (rounds:=600) (d:=6) gv (λr ex ro=>eA en eh ev aN aN) hg (enters (by kernel_rfl)) (λzs rs cK hz h aP e cQ=>aAO h aP e cQ) ?_;rw[aLw];exact ady
theorem T4:jl.bu Tryz.prog wb (cC 24):=by
 refine br.pS (S:=cC) (c:=jl) (cal:=(bq [] [] 102 103 73)) (spec:=cC 24) (li:=mc) (rounds:=600) (d:=6) gv (λr ex ro=>eA en eh ev aN aN) hg (enters (by kernel_rfl)) (λzs rs cK hz h aP e cQ=>aAP h aP e cQ) ?_;rw[aLy];exact adz
theorem T1:jb.bu Tryz.prog wb (cC 26):=by
 refine br.pS (S:=cC) (c:=jb) (cal:=(bq [] [] 102 103 73)) (spec:=cC 26) (li:=mc) (rounds:=600) (d:=6) gv (λr ex ro=>eA en eh ev aN aN) hg (enters (by kernel_rfl)) (λzs rs cK hz h aP e cQ=>abl h aP e cQ) ?_;rw[aLp];exact adw
theorem aEr:Dq.bu Tryz.prog wb (cC 21):=by
 refine br.pS (S:=cC) (c:=Dq) (cal:=(bq [] [] 102 103 73)) (spec:=cC 21) (li:=mc) (rounds:=600) (d:=6) gv (λr ex ro=>eA en eh ev aN aN) hg (enters (by kernel_rfl)) (λzs rs cK hz h aP e cQ=>aAQ h aP e cQ) ?_;rw[aLz];exact aGn
theorem aEa:Dh.bu Tryz.prog wb (cC 35):=by
 refine br.pS (S:=cC) (c:=Dh) (cal:=(bq [] [] 102 103 73)) (spec:=cC 35) (li:=mc) (rounds:=600) (d:=6) gv (λr ex ro=>eA en eh ev aN aN) hg (enters (by kernel_rfl)) (λzs rs cK hz h aP e cQ=>aAN h aP e cQ) ?_;rw[aLr];exact aF6
theorem adh:xl.bu Tryz.prog wb (cC 23):=by
 refine br.pS (S:=cC) (c:=xl) (cal:=(bq [] [Dh,jl,jk] 102 103 73)) (spec:=cC 23) (li:=mc) (rounds:=600) (d:=6) gv (λr ex ro=>eA en eh ev aN (List.forall_mem_cons.2 ⟨(aEa hg).f,(List.forall_mem_cons.2 ⟨(T4 hg).f,(List.forall_mem_cons.2 ⟨(T3 hg).f,aN⟩)⟩)⟩)) hg (enters (by kernel_rfl)) (λzs rs cK hz h aP e cQ=>NS h aP e cQ) ?_;rw[aLB];exact aGA
theorem aEi:Dn.bu Tryz.prog wb (cC 25):=by
 refine br.pS (S:=cC) (c:=Dn) (cal:=(bq [] [xl] 102 103 73)) (spec:=cC 25) (li:=mc) (rounds:=600) (d:=6) gv (λr ex ro=>eA en eh ev aN (List.forall_mem_cons.2 ⟨(adh hg).f,aN⟩)) hg (enters (by kernel_rfl)) (λzs rs cK hz h aP e cQ=>NS h aP e cQ) ?_;rw[aLs];exact aGe
theorem adi:n3.bu Tryz.prog wb (cC 13):=by
 refine br.pS (S:=cC) (c:=n3) (cal:=(bq [lv] [jk] 102 103 73)) (spec:=cC 13) (li:=mc) (rounds:=600) (d:=6) gv (λr ex ro=>eA en eh ev (List.forall_mem_cons.2 ⟨T2 hg,aN⟩) (List.forall_mem_cons.2 ⟨(T3 hg).f,aN⟩)) hg (enters (by kernel_rfl)) (λzs rs cK hz h aP e cQ=>amk e cQ) ?_;rw[aLC];exact adB
theorem adg:oF.bu Tryz.prog wb (cC 11):=by
 refine br.pS (S:=cC) (c:=oF) (cal:=(bq [BM,Dp] [xl,jb] 102 103 73)) (spec:=cC 11) (li:=mc) (rounds:=600) (d:=6) gv (λr ex ro=>eA en eh ev (List.forall_mem_cons.2 ⟨aEj hg,(List.forall_mem_cons.2 ⟨aEk hg,aN⟩)⟩) (List.forall_mem_cons.2 ⟨(adh hg).f,(List.forall_mem_cons.2 ⟨(T1 hg).f,aN⟩)⟩)) hg (enters (by kernel_rfl)) (λzs rs cK hz h aP e cQ=>abl h aP e cQ) ?_;rw[aLA];exact adA
theorem aEm:Fs.bu Tryz.prog wb (cC 8):=by
 refine br.pS (S:=cC) (c:=Fs) (cal:=(bq [lv] [Dq,xl,Dn,jl,jb] 102 103 73)) (spec:=cC 8) (li:=mc) (rounds:=600) (d:=6) gv (λr ex ro=>eA en eh ev (List.forall_mem_cons.2 ⟨T2 hg,aN⟩) (List.forall_mem_cons.2 ⟨(aEr hg).f,(List.forall_mem_cons.2 ⟨(adh hg).f,(List.forall_mem_cons.2 ⟨(aEi hg).f,(List.forall_mem_cons.2 ⟨(T4 hg).f,(List.forall_mem_cons.2 ⟨(T1 hg).f,aN⟩)⟩)⟩)⟩)⟩)) hg (enters (by kernel_rfl)) (λzs rs cK hz h aP e cQ=>abl h aP e cQ) ?_;rw[aLx];exact aGi
theorem aDK:Fq.bu Tryz.prog wb (cC 14):=by
 refine br.pS (S:=cC) (c:=Fq) (cal:=(bq [] [] 102 103 73)) (spec:=cC 14) (li:=mc) (rounds:=600) (d:=6) gv (λr ex ro=>eA en eh ev aN aN) hg (enters (by kernel_rfl)) (λzs rs cK hz h aP e cQ=>amk e cQ) ?_;rw[aLq];exact aFO
end
end Go.ot
namespace Go.Fd
open Go Go.bX Go.Proofs
theorem aMv (S K):dE sh bK S K [32] (aU lv.args) lv.res (lv.tree Tryz.prog gl (bq [] [] 102 103 73) bh 600 6)=WJ S K:=by kernel_rfl
theorem aHz:(lv.tree Tryz.prog gl (bq [] [] 102 103 73) bh 600 6).plain=true:=by kernel_rfl
theorem aMF (S K):dE sh bK S K [4] (aU tU.args) tU.res (tU.tree Tryz.prog gl (bq [] [] 102 103 73) bh 600 6)=WR S K:=by kernel_rfl
theorem aHE:(tU.tree Tryz.prog gl (bq [] [] 102 103 73) bh 600 6).plain=true:=by kernel_rfl
theorem aM4 (S K):dE sh bK S K [] (aU mx.args) mx.res (mx.tree Tryz.prog gl (bq [] [] 102 103 73) bh 600 6)=Xb S K:=by kernel_rfl
theorem aHW:(mx.tree Tryz.prog gl (bq [] [] 102 103 73) bh 600 6).plain=true:=by kernel_rfl
theorem aMV (S K):dE sh bK S K [4,4] (aU mb.args) mb.res (mb.tree Tryz.prog gl (bq [] [] 102 103 73) bh 600 6)=W7 S K:=by kernel_rfl
theorem aHT:(mb.tree Tryz.prog gl (bq [] [] 102 103 73) bh 600 6).plain=true:=by kernel_rfl
theorem aMX (S K):dE sh bK S K [4,4] (aU n4.args) n4.res (n4.tree Tryz.prog gl (bq [] [] 102 103 73) bh 600 6)=W9 S K:=by kernel_rfl
theorem aHU:(n4.tree Tryz.prog gl (bq [] [] 102 103 73) bh 600 6).plain=true:=by kernel_rfl
theorem aM6 (S K):dE sh bK S K [4,4] (aU n5.args) n5.res (n5.tree Tryz.prog gl (bq [] [] 102 103 73) bh 600 6)=Xc S K:=by kernel_rfl
theorem aHX:(n5.tree Tryz.prog gl (bq [] [] 102 103 73) bh 600 6).plain=true:=by kernel_rfl
theorem aMK (S K):dE sh bK S K [4] (aU sd.args) sd.res (sd.tree Tryz.prog gl (bq [] [mb,mx,n4] 102 103 73) bh 600 6)=WW S K:=by kernel_rfl
theorem aHJ:(sd.tree Tryz.prog gl (bq [] [mb,mx,n4] 102 103 73) bh 600 6).plain=true:=by kernel_rfl
theorem aNa (S K):dE sh bK S K [4,4] (aU sg.args) sg.res (sg.tree Tryz.prog gl (bq [] [n5,sd] 102 103 73) bh 600 6)=Xg S K:=by kernel_rfl
theorem aH1:(sg.tree Tryz.prog gl (bq [] [n5,sd] 102 103 73) bh 600 6).plain=true:=by kernel_rfl
theorem aMN (S K):dE sh bK S K [4,4] (aU mV.args) mV.res (mV.tree Tryz.prog gl (bq [] [mb,n5,mx,n4] 102 103 73) bh 600 6)=WY S K:=by kernel_rfl
theorem aHL:(mV.tree Tryz.prog gl (bq [] [mb,n5,mx,n4] 102 103 73) bh 600 6).plain=true:=by kernel_rfl
theorem aMR (S K):dE sh bK S K [4,4] (aU vL.args) vL.res (vL.tree Tryz.prog gl (bq [] [n5,sd] 102 103 73) bh 600 6)=W2 S K:=by kernel_rfl
theorem aHP:(vL.tree Tryz.prog gl (bq [] [n5,sd] 102 103 73) bh 600 6).plain=true:=by kernel_rfl
theorem aM7 (S K):dE sh bK S K [4,4] (aU lQ.args) lQ.res (lQ.tree Tryz.prog gl (bq [] [vL] 102 103 73) bh 600 6)=Xd S K:=by kernel_rfl
theorem aHY:(lQ.tree Tryz.prog gl (bq [] [vL] 102 103 73) bh 600 6).plain=true:=by kernel_rfl
end Go.Fd
namespace Go.Fd
open Go Go.bX Go.Proofs
theorem aNo (S K):dE sh aCU S K [4,4] (aU si.args) si.res (si.tree Tryz.prog gl (bq [] [lQ] 102 103 73) anF 600 6)=Xh S K:=by kernel_rfl
theorem aMT (S K):dE sh bK S K [4] (aU se.args) se.res (se.tree Tryz.prog gl (bq [] [n4,mx,si] 102 103 73) bh 600 6)=W5 S K:=by kernel_rfl
theorem aHR:(se.tree Tryz.prog gl (bq [] [n4,mx,si] 102 103 73) bh 600 6).plain=true:=by kernel_rfl
theorem aM9 (S K):dE sh bK S K [4] (aU tW.args) tW.res (tW.tree Tryz.prog gl (bq [] [si,lQ,mV] 102 103 73) bh 600 6)=Xf S K:=by kernel_rfl
theorem aH0:(tW.tree Tryz.prog gl (bq [] [si,lQ,mV] 102 103 73) bh 600 6).plain=true:=by kernel_rfl
end Go.Fd
namespace Go.Fd
open Go Go.bX Go.Proofs
theorem aL3 (S K):dE sh bK S K [5] (aU k0.args) k0.res (k0.tree Tryz.prog gl (bq [] [] 102 103 73) bh 600 6)=Ww S K:=by kernel_rfl
theorem aHp:(k0.tree Tryz.prog gl (bq [] [] 102 103 73) bh 600 6).plain=true:=by kernel_rfl
theorem aMo (S K):dE sh bK S K [32] (aU r9.args) r9.res (r9.tree Tryz.prog gl (bq [] [k0] 102 103 73) bh 600 6)=WH S K:=by kernel_rfl
theorem aHx:(r9.tree Tryz.prog gl (bq [] [k0] 102 103 73) bh 600 6).plain=true:=by kernel_rfl
theorem aL2 (S K):dE sh bK S K [5] (aU jb.args) jb.res (jb.tree Tryz.prog gl (bq [] [k0] 102 103 73) bh 600 6)=Wv S K:=by kernel_rfl
theorem aHo:(jb.tree Tryz.prog gl (bq [] [k0] 102 103 73) bh 600 6).plain=true:=by kernel_rfl
theorem aMC (S K):dE sh bK S K [5,5] (aU jl.args) jl.res (jl.tree Tryz.prog gl (bq [] [k0] 102 103 73) bh 600 6)=WO S K:=by kernel_rfl
theorem aHD:(jl.tree Tryz.prog gl (bq [] [k0] 102 103 73) bh 600 6).plain=true:=by kernel_rfl
theorem aMx (S K):dE sh bK S K [5,5] (aU jk.args) jk.res (jk.tree Tryz.prog gl (bq [] [k0] 102 103 73) bh 600 6)=WL S K:=by kernel_rfl
theorem aHA:(jk.tree Tryz.prog gl (bq [] [k0] 102 103 73) bh 600 6).plain=true:=by kernel_rfl
theorem aNz (S K):dE sh bK S K [5,5] (aU iv.args) iv.res (iv.tree Tryz.prog gl (bq [] [k0] 102 103 73) bh 600 6)=Xl S K:=by kernel_rfl
theorem aH5:(iv.tree Tryz.prog gl (bq [] [k0] 102 103 73) bh 600 6).plain=true:=by kernel_rfl
end Go.Fd
namespace Go.Fd
open Go Go.bX Go.Proofs
theorem aNv (S K):dE sh bK S K [5] (aU mW.args) mW.res (mW.tree Tryz.prog gl (bq [] [iv] 102 103 73) bh 600 6)=Xk S K:=by kernel_rfl
theorem aH4:(mW.tree Tryz.prog gl (bq [] [iv] 102 103 73) bh 600 6).plain=true:=by kernel_rfl
theorem aMy (S K):dE sh bK S K [5] (aU pP.args) pP.res (pP.tree Tryz.prog gl (bq [] [jk] 102 103 73) bh 600 6)=WM S K:=by kernel_rfl
theorem aHB:(pP.tree Tryz.prog gl (bq [] [jk] 102 103 73) bh 600 6).plain=true:=by kernel_rfl
theorem aME (S K):dE sh anN S K [5,4] (aU re.args) re.res (re.tree Tryz.prog gl (bq [] [mW,iv] 102 103 73) acP 600 6)=WQ S K:=by kernel_rfl
theorem aMu (S K):dE sh bK S K [5] (aU sa.args) sa.res (sa.tree Tryz.prog gl (bq [] [re] 102 103 73) bh 600 6)=WI S K:=by kernel_rfl
theorem aHy:(sa.tree Tryz.prog gl (bq [] [re] 102 103 73) bh 600 6).plain=true:=by kernel_rfl
theorem aNq (S K):dE sh bK S K [5,5] (aU ri.args) ri.res (ri.tree Tryz.prog gl (bq [] [jb] 102 103 73) bh 600 6)=Xj S K:=by kernel_rfl
theorem aH3:(ri.tree Tryz.prog gl (bq [] [jb] 102 103 73) bh 600 6).plain=true:=by kernel_rfl
theorem aMB (S K):dE sh bK S K [5] (aU rb.args) rb.res (rb.tree Tryz.prog gl (bq [] [jb] 102 103 73) bh 600 6)=WN S K:=by kernel_rfl
theorem aHC:(rb.tree Tryz.prog gl (bq [] [jb] 102 103 73) bh 600 6).plain=true:=by kernel_rfl
theorem aM3 (S K):dE sh bK S K [5] (aU uX.args) uX.res (uX.tree Tryz.prog gl (bq [] [re,mW,ri,rb,pP,iv] 102 103 73) bh 600 6)=Xa S K:=by kernel_rfl
theorem aHV:(uX.tree Tryz.prog gl (bq [] [re,mW,ri,rb,pP,iv] 102 103 73) bh 600 6).plain=true:=by kernel_rfl
theorem aMP (S K):dE sh bK S K [32] (aU oF.args) oF.res (oF.tree Tryz.prog gl (bq [] [r9,jb] 102 103 73) bh 600 6)=W0 S K:=by kernel_rfl
theorem aHN:(oF.tree Tryz.prog gl (bq [] [r9,jb] 102 103 73) bh 600 6).plain=true:=by kernel_rfl
theorem aMS (S K):dE sh bK S K [32] (aU n3.args) n3.res (n3.tree Tryz.prog gl (bq [] [oF] 102 103 73) bh 600 6)=W4 S K:=by kernel_rfl
theorem aHQ:(n3.tree Tryz.prog gl (bq [] [oF] 102 103 73) bh 600 6).plain=true:=by kernel_rfl
end Go.Fd
namespace Go.Fd
open Go Go.bX Go.Proofs
theorem aNA (S K):dE sh bK S K [] (aU vN.args) vN.res (vN.tree Tryz.prog gl (bq [] [jl] 102 103 73) bh 600 6)=Xm S K:=by kernel_rfl
theorem aH6:(vN.tree Tryz.prog gl (bq [] [jl] 102 103 73) bh 600 6).plain=true:=by kernel_rfl
theorem aMn (S K):dE sh bK S K [5,5] (aU o8.args) o8.res (o8.tree Tryz.prog gl (bq [] [iv] 102 103 73) bh 600 6)=WG S K:=by kernel_rfl
theorem aHw:(o8.tree Tryz.prog gl (bq [] [iv] 102 103 73) bh 600 6).plain=true:=by kernel_rfl
theorem aL4 (S K):dE sh bK S K [] (aU s8.args) s8.res (s8.tree Tryz.prog gl (bq [] [o8] 102 103 73) bh 600 6)=Wx S K:=by kernel_rfl
theorem aHq:(s8.tree Tryz.prog gl (bq [] [o8] 102 103 73) bh 600 6).plain=true:=by kernel_rfl
theorem aMb (S K):dE sh bK S K [] (aU vJ.args) vJ.res (vJ.tree Tryz.prog gl (bq [] [o8] 102 103 73) bh 600 6)=WD S K:=by kernel_rfl
theorem aHu:(vJ.tree Tryz.prog gl (bq [] [o8] 102 103 73) bh 600 6).plain=true:=by kernel_rfl
theorem aL9 (S K):dE sh bK S K [5,5,5,5] (aU r8.args) r8.res (r8.tree Tryz.prog gl (bq [] [iv] 102 103 73) bh 600 6)=WB S K:=by kernel_rfl
theorem aHs:(r8.tree Tryz.prog gl (bq [] [iv] 102 103 73) bh 600 6).plain=true:=by kernel_rfl
theorem aMa (S K):dE sh bK S K [5,5,5,5,5,5,5,5] (aU s9.args) s9.res (s9.tree Tryz.prog gl (bq [] [jk,iv,jl,vN,r8] 102 103 73) bh 600 6)=WC S K:=by kernel_rfl
theorem aHt:(s9.tree Tryz.prog gl (bq [] [jk,iv,jl,vN,r8] 102 103 73) bh 600 6).plain=true:=by kernel_rfl
theorem aMe (S K):dE sh bK S K [5,5,5] (aU vK.args) vK.res (vK.tree Tryz.prog gl (bq [] [mW,jl,jk,r8] 102 103 73) bh 600 6)=WE S K:=by kernel_rfl
theorem aHv:(vK.tree Tryz.prog gl (bq [] [mW,jl,jk,r8] 102 103 73) bh 600 6).plain=true:=by kernel_rfl
theorem aMw (S K):dE sh anM S K [5,5,5,5,32] (aU o9.args) o9.res (o9.tree Tryz.prog gl (bq [] [vJ,vK,s9] 102 103 73) acO 600 6)=WK S K:=by kernel_rfl
theorem aL5 (S K):dE sh bK S K [5,5,5] (aU qA.args) qA.res (qA.tree Tryz.prog gl (bq [] [sa,iv,jb,rb] 102 103 73) bh 600 6)=Wy S K:=by kernel_rfl
theorem aHr:(qA.tree Tryz.prog gl (bq [] [sa,iv,jb,rb] 102 103 73) bh 600 6).plain=true:=by kernel_rfl
theorem aMO (S K):dE sh bK S K [32] (aU tV.args) tV.res (tV.tree Tryz.prog gl (bq [] [n3,r9,mW,jk,iv,jl,sa,uX,ri,pP,o8] 102 103 73) bh 600 6)=WZ S K:=by kernel_rfl
theorem aHM:(tV.tree Tryz.prog gl (bq [] [n3,r9,mW,jk,iv,jl,sa,uX,ri,pP,o8] 102 103 73) bh 600 6).plain=true:=by kernel_rfl
theorem aL8 (S K):dE sh bK S K [32] (aU Au.args) Au.res (Au.tree Tryz.prog gl (bq [] [tV,pP,qA] 102 103 73) bh 600 6)=WA S K:=by kernel_rfl
theorem aL1 (S K):dE sh bK S K [32] (aU As.args) As.res (As.tree Tryz.prog gl (bq [] [s8,o9,qA] 102 103 73) bh 600 6)=Wu S K:=by kernel_rfl
theorem aHn:(As.tree Tryz.prog gl (bq [] [s8,o9,qA] 102 103 73) bh 600 6).plain=true:=by kernel_rfl
theorem aL7 (S K):dE sh bK S K [32,32,32] (aU At.args) At.res (At.tree Tryz.prog gl (bq [] [tV,o9,s8,s9,qA] 102 103 73) bh 600 6)=Wz S K:=by kernel_rfl
end Go.Fd
namespace Go.Fd
open Go Go.bX Go.Proofs
theorem aMM (S K):dE sh bK S K [] (aU rf.args) rf.res (rf.tree Tryz.prog gl (bq [] [] 102 103 73) bh 600 6)=WX S K:=by kernel_rfl
theorem aHK:(rf.tree Tryz.prog gl (bq [] [] 102 103 73) bh 600 6).plain=true:=by kernel_rfl
theorem aNp (S K):dE sh bK S K [] (aU vM.args) vM.res (vM.tree Tryz.prog gl (bq [] [] 102 103 73) bh 600 6)=Xi S K:=by kernel_rfl
theorem aH2:(vM.tree Tryz.prog gl (bq [] [] 102 103 73) bh 600 6).plain=true:=by kernel_rfl
theorem aMJ (S K):dE sh bK S K [4,4,4,4,4,4] (aU sc.args) sc.res (sc.tree Tryz.prog gl (bq [] [lQ,rf,mV,sg] 102 103 73) bh 600 6)=WV S K:=by kernel_rfl
theorem aHI:(sc.tree Tryz.prog gl (bq [] [lQ,rf,mV,sg] 102 103 73) bh 600 6).plain=true:=by kernel_rfl
theorem aMW (S K):dE sh anO S K [32,4,4,4] (aU rh.args) rh.res (rh.tree Tryz.prog gl (bq [] [vM,sc] 102 103 73) acQ 600 6)=W8 S K:=by kernel_rfl
theorem aMG (S K):dE sh bK S K [4,4,4] (aU sb.args) sb.res (sb.tree Tryz.prog gl (bq [] [se,lQ,tU] 102 103 73) bh 600 6)=WS S K:=by kernel_rfl
theorem aHF:(sb.tree Tryz.prog gl (bq [] [se,lQ,tU] 102 103 73) bh 600 6).plain=true:=by kernel_rfl
theorem aM8 (S K):dE sh bK S K [32] (aU sf.args) sf.res (sf.tree Tryz.prog gl (bq [] [lv,mb,mx,lQ,rf,sg,se,tW,mV] 102 103 73) bh 600 6)=Xe S K:=by kernel_rfl
theorem aHZ:(sf.tree Tryz.prog gl (bq [] [lv,mb,mx,lQ,rf,sg,se,tW,mV] 102 103 73) bh 600 6).plain=true:=by kernel_rfl
theorem aMQ (S K):dE sh bK S K [] (aU uW.args) uW.res (uW.tree Tryz.prog gl (bq [] [] 102 103 73) bh 600 6)=W1 S K:=by kernel_rfl
theorem aHO:(uW.tree Tryz.prog gl (bq [] [] 102 103 73) bh 600 6).plain=true:=by kernel_rfl
theorem aMI (S K):dE sh bK S K [32] (aU Aw.args) Aw.res (Aw.tree Tryz.prog gl (bq [] [sf,mV,sb] 102 103 73) bh 600 6)=WU S K:=by kernel_rfl
theorem aHH:(Aw.tree Tryz.prog gl (bq [] [sf,mV,sb] 102 103 73) bh 600 6).plain=true:=by kernel_rfl
theorem aMH (S K):dE sh bK S K [32,32,32] (aU Av.args) Av.res (Av.tree Tryz.prog gl (bq [] [sf,rh,uW,sc,sb] 102 103 73) bh 600 6)=WT S K:=by kernel_rfl
theorem aHG:(Av.tree Tryz.prog gl (bq [] [sf,rh,uW,sc,sb] 102 103 73) bh 600 6).plain=true:=by kernel_rfl
theorem aMU (S K):dE sh bK S K [] (aU yC.args) yC.res (yC.tree Tryz.prog gl (bq [] [] 102 103 73) bh 600 6)=W6 S K:=by kernel_rfl
theorem aHS:(yC.tree Tryz.prog gl (bq [] [] 102 103 73) bh 600 6).plain=true:=by kernel_rfl
end Go.Fd
namespace Go.Fd
open Go Go.bX Go.Proofs
theorem gv:Tryz.prog.follows .mixedOrders=true:=by kernel_rfl
theorem eh:I7 Tryz.prog 103:=ahX Tryz.func103 (by kernel_rfl) (by kernel_rfl) (by kernel_rfl) (by kernel_rfl)
theorem ev:Jf Tryz.prog 73:=aqg Tryz.func73 (by kernel_rfl) (by kernel_rfl) (by kernel_rfl) (by kernel_rfl)
theorem en:Jc Tryz.prog 102:=aog gv (enters (by kernel_rfl)) (λK=>by kernel_rfl)
theorem vf {α:Type}:∀(n7:List Nat) (l:List α),(cg n7 l).flatten=l
 |[],[]=>rfl
 |[],_::_=>by simp[cg]
 |k::n7,l=>by simp only[cg,qO,vf n7,oQ]
def ei (id:Nat):List Int->List Int->Prop:=λzs rs=>SB id (cg (sh id).1 zs) (cg (sh id).2 rs)
abbrev dG (G:Nat->List Int->List Int):Nat->List Int->List Int->Prop:=e1 sh (fk G)
theorem asN (G:Nat->List Int->List Int):∀id a rs cK,dG G id a rs->dG G id a cK->rs=cK:=λid a rs cK h aP=>by
 have e:=h.2;have cQ:=aP.2;rw[vf,vf]at e cQ;exact e.trans cQ.symm
theorem Vz {lsh:Nat->List Nat} {G:Nat->List Int->List Int} {id:Nat} {lens:List Nat} {bds:List (Int×Int)} {ds:List D} {t:T} (hl:lens=(sh id).1) (hd:ua ds=(sh id).2) (h:dE sh lsh (fk G) (eT ds id) lens bds ds t):
 ∀zs,ay bds zs->t.holds (dG G) (kh ds λrs=>ay (aU ds) rs/\ei id zs rs) (λ_ _=>False) (bO (λ_=>0) 0 zs):=λzs hz=>by
 have h:=nh (L8 h) hz;simp only[eT,vf]at h;rw[hl,hd]at h;exact h
theorem L5 {P:Program} {wb:aC} {c:br} {s Ip:List Int->List Int->Prop} (h:c.bu P wb s) (hs:∀zs rs,s zs rs->Ip zs rs):c.bu P wb Ip:=
 ⟨h.1,λzs hz=>by obtain⟨rs,h1,h2,h3⟩:=h.2 zs hz;exact⟨rs,h1,hs zs rs h2,h3⟩⟩
def e6 (wb:aC) (L:List br) (G:Nat->List Int->List Int):Prop:=∀c∈L,c.bu Tryz.prog wb (dG G c.id)
theorem e6.step {wb:aC} {L:List br} {G:Nat->List Int->List Int} {c:br} (h:e6 wb L G) (dz:(L.all λeW=> !(aR eW.id c.id))=true) (h0:c.bu Tryz.prog wb (ei c.id)):∃e7,e6 wb (c::L) e7:=by
 obtain⟨F,hF⟩:=h0.fn;refine⟨λid=>if id=c.id then F else G id,λeW E8=>?_⟩;rcases List.mem_cons.1 E8 with rfl|hm
 ·refine L5 hF λzs rs ⟨h1,h2⟩=>⟨h2,?_⟩;simp only[vf,if_true];exact h1
 ·refine L5 (h eW hm) λzs rs ⟨h1,h2⟩=>⟨h1,?_⟩;have hb:=List.all_eq_true.1 dz eW hm;have hn:¬eW.id=c.id:=λe=>by rw[e]at hb;simp at hb
  simp only[if_neg hn];exact h2
theorem yH {α:Type} {l:List α} {i:Nat} {a:α} (h:l[i]?=some a):a∈l:=List.mem_of_getElem? h
theorem aN {α:Type} {p:α->Prop}:∀x∈([]:List α),p x:=λ_ h=>by cases h
theorem ve {zs:List Int} {a b:Nat} (h:zs.length=a+b):cg [a,b] zs=[zs.take a,zs.drop a]:=by
 have ar:(zs.drop a).take b=zs.drop a:=oo (by rw[p4];omega);have aG:(zs.drop a).drop b=[]:=IT (by rw[p4];omega);show zs.take a::(zs.drop a).take b::cg [] ((zs.drop a).drop b)=_;rw[ar,aG];rfl
theorem qI {zs:List Int} {a:Nat} (h:zs.length=a):cg [a] zs=[zs]:=by
 have ar:zs.take a=zs:=oo (by omega);have aG:zs.drop a=[]:=IT (by omega);show zs.take a::cg [] (zs.drop a)=_;rw[ar,aG];rfl
theorem hN {wb:aC} {G:Nat->List Int->List Int} {c:br} {cal:gy} {li:dD->Nat->Option gz} {rounds d:Nat} {lsh:Nat->List Nat} {lens:List Nat} (c8:∀r ex ro,iD (dG G) Tryz.prog gl ⟨wb,r,ex,ro,[]⟩ cal) (hg:gJ gl ⟨wb,wb,λ_=>False,λ_=>False,[]⟩)
 (hf:∀args w,(callFunc c.f args).run Tryz.prog w= .ok (.enter c.f args) w) (hp:(c.tree Tryz.prog gl cal li rounds d).plain=true) (hl:lens=(sh c.id).1) (hd:ua c.res=(sh c.id).2)
 (hv:dE sh lsh (fk G) (eT c.res c.id) lens (aU c.args) c.res (c.tree Tryz.prog gl cal li rounds d)):c.bu Tryz.prog wb (ei c.id):=
 br.aDC (S:=dG G) (spec:=ei c.id) gv c8 hg hf (asN G) hp (Vz hl hd hv)
theorem PY {zs:List Int} {a b c:Nat} (h:zs.length=a+(b+c)):cg [a,b,c] zs=[zs.take a,(zs.drop a).take b,(zs.drop a).drop b]:=by
 have e:cg [a,b,c] zs=zs.take a::cg [b,c] (zs.drop a):=rfl;rw[e,ve (zs:=zs.drop a) (a:=b) (b:=c) (by rw[p4];omega)]
theorem apB {rs:List Int} (h:ay (aU [gC,pI]) rs):cg [32,1] rs=[rs.take 32,rs.drop 32]/\ay (aS 0 255 32) (rs.take 32)/\∃e,rs.drop 32=[e]:=by
 rw[aiZ]at h;have hl:rs.length=32+1:=dn h;have hs:=BI h;rw[Ie]at hs;refine⟨ve hl,hs.1,?_⟩;have h2:=hs.2
 match rs.drop 32,h2 with
 |[e],_=>exact⟨e,rfl⟩
theorem aqM {id:Nat} {zs rs cK:List Int} {al:List (List Int)} {o:Option (Int×Int)} (hr:(sh id).2=[32,1]) (ha:cg (sh id).1 zs=al) (iK:∀r e,SB id al [r,[e]]->pz r e o) (h1:ay (aU [gC,pI]) rs) (h2:ay (aU [gC,pI]) cK) (e:ei id zs rs) (cQ:ei id zs cK):rs=cK:=by
 obtain⟨bG,a2,x,a3⟩:=apB h1;obtain⟨bQ,b9,y,dh⟩:=apB h2;unfold ei at e cQ;rw[hr,ha,bG,a3]at e;rw[hr,ha,bQ,dh]at cQ;have k:=atW (iK _ _ e) (iK _ _ cQ) a2 b9;rw[<-oQ 32 rs,<-oQ 32 cK,a3,dh,k.1,k.2]
theorem aLE (zs:List Int):[zs.take 5,(zs.drop 5).take 5,((zs.drop 5).drop 5).take 5,(((zs.drop 5).drop 5).drop 5).take 5].flatten=zs.take 20:=by
 simp only[qO,vk,iq,Cs,Nat.reduceAdd];rw[show(20:Nat)=5+(5+(5+5)) by rfl,afT,afT,afT];simp only[Cs,Nat.reduceAdd]
theorem aC1 {G:Nat->List Int->List Int} {zs:List Int} {r:List (List Int)} (ik:zs.length=20+32) (h:XB G (cg [5,5,5,5,32] zs) r):eT o9.res 107 (cg [5,5,5,5,32] zs) r/\r.flatten=xp G (zs.take 20) (nb (zs.drop 20)).toNat 256:=by
 have e:cg [5,5,5,5,32] zs=[zs.take 5,(zs.drop 5).take 5,((zs.drop 5).drop 5).take 5,(((zs.drop 5).drop 5).drop 5).take 5,zs.drop 20]:=by
  have cw:cg [5,5,5,5,32] zs=zs.take 5::(zs.drop 5).take 5::((zs.drop 5).drop 5).take 5::(((zs.drop 5).drop 5).drop 5).take 5::cg [32] ((((zs.drop 5).drop 5).drop 5).drop 5):=rfl;have ar:((((zs.drop 5).drop 5).drop 5).drop 5)=zs.drop 20:=by simp only[Cs]
  rw[cw,ar,qI (by rw[p4];omega)]
 rw[e]at h⊢;refine⟨h.1,?_⟩;have h2:=h.2;simp only at h2;rw[aLE]at h2;exact h2
theorem aJt {G:Nat->List Int->List Int} {zs:List Int} {r:List (List Int)} (ik:zs.length=32+12) (h:XC G (cg [32,4,4,4] zs) r):eT rh.res 123 (cg [32,4,4,4] zs) r/\r.flatten=u9 G (zs.drop 32) (nb (zs.take 32)).toNat 256:=by
 have cw:cg [32,4,4,4] zs=zs.take 32::cg [4,4,4] (zs.drop 32):=rfl;have ar:=PY (zs:=zs.drop 32) (a:=4) (b:=4) (c:=4) (by rw[p4];omega);rw[cw,ar]at h⊢;refine⟨h.1,?_⟩;have h2:=h.2;simp only at h2;rw[h2]
 congr 1
 have aG:=vf [4,4,4] (zs.drop 32);rw[ar]at aG;exact aG
section
variable {wb:aC} (hg:gJ gl ⟨wb,wb,λ_=>False,λ_=>False,[]⟩) {G:Nat->List Int->List Int}
include hg G
theorem T2:lv.bu Tryz.prog wb (ei lv.id):=by
 refine hN (G:=G) (c:=lv) (cal:=(bq [] [] 102 103 73)) (li:=bh) (rounds:=600) (d:=6) (lsh:=bK) (λr ex ro=>eA en eh ev aN aN) hg (enters (by kernel_rfl)) aHz rfl rfl (lens:=[32]) ?_;rw[aMv];exact adx G
theorem aEu:tU.bu Tryz.prog wb (ei tU.id):=by
 refine hN (G:=G) (c:=tU) (cal:=(bq [] [] 102 103 73)) (li:=bh) (rounds:=600) (d:=6) (lsh:=bK) (λr ex ro=>eA en eh ev aN aN) hg (enters (by kernel_rfl)) aHE rfl rfl (lens:=[4]) ?_;rw[aMF];exact aGq G
theorem aER:mx.bu Tryz.prog wb (ei mx.id):=by
 refine hN (G:=G) (c:=mx) (cal:=(bq [] [] 102 103 73)) (li:=bh) (rounds:=600) (d:=6) (lsh:=bK) (λr ex ro=>eA en eh ev aN aN) hg (enters (by kernel_rfl)) aHW rfl rfl (lens:=[]) ?_;rw[aM4];exact aGO G
theorem aEI:mb.bu Tryz.prog wb (ei mb.id):=by
 refine hN (G:=G) (c:=mb) (cal:=(bq [] [] 102 103 73)) (li:=bh) (rounds:=600) (d:=6) (lsh:=bK) (λr ex ro=>eA en eh ev aN aN) hg (enters (by kernel_rfl)) aHT rfl rfl (lens:=[4,4]) ?_;rw[aMV];exact aGF G
theorem aEK:n4.bu Tryz.prog wb (ei n4.id):=by
 refine hN (G:=G) (c:=n4) (cal:=(bq [] [] 102 103 73)) (li:=bh) (rounds:=600) (d:=6) (lsh:=bK) (λr ex ro=>eA en eh ev aN aN) hg (enters (by kernel_rfl)) aHU rfl rfl (lens:=[4,4]) ?_;rw[aMX];exact aGH G
theorem aET:n5.bu Tryz.prog wb (ei n5.id):=by
 refine hN (G:=G) (c:=n5) (cal:=(bq [] [] 102 103 73)) (li:=bh) (rounds:=600) (d:=6) (lsh:=bK) (λr ex ro=>eA en eh ev aN aN) hg (enters (by kernel_rfl)) aHX rfl rfl (lens:=[4,4]) ?_;rw[aM6];exact aGQ G
theorem aEz (h:∀c∈[mb,mx,n4],c.bu Tryz.prog wb (dG G c.id)):sd.bu Tryz.prog wb (ei sd.id):=by
 refine hN (G:=G) (c:=sd) (cal:=(bq [] [mb,mx,n4] 102 103 73)) (li:=bh) (rounds:=600) (d:=6) (lsh:=bK) (λr ex ro=>eA en eh ev aN (λc hc=>(h c hc).f)) hg (enters (by kernel_rfl)) aHJ rfl rfl (lens:=[4]) ?_;rw[aMK];exact aGv G
theorem aEX (h:∀c∈[n5,sd],c.bu Tryz.prog wb (dG G c.id)):sg.bu Tryz.prog wb (ei sg.id):=by
 refine hN (G:=G) (c:=sg) (cal:=(bq [] [n5,sd] 102 103 73)) (li:=bh) (rounds:=600) (d:=6) (lsh:=bK) (λr ex ro=>eA en eh ev aN (λc hc=>(h c hc).f)) hg (enters (by kernel_rfl)) aH1 rfl rfl (lens:=[4,4]) ?_;rw[aNa];exact aGU G
theorem aEC (h:∀c∈[mb,n5,mx,n4],c.bu Tryz.prog wb (dG G c.id)):mV.bu Tryz.prog wb (ei mV.id):=by
 refine hN (G:=G) (c:=mV) (cal:=(bq [] [mb,n5,mx,n4] 102 103 73)) (li:=bh) (rounds:=600) (d:=6) (lsh:=bK) (λr ex ro=>eA en eh ev aN (λc hc=>(h c hc).f)) hg (enters (by kernel_rfl)) aHL rfl rfl (lens:=[4,4]) ?_;rw[aMN];exact aGy G
theorem aEF (h:∀c∈[n5,sd],c.bu Tryz.prog wb (dG G c.id)):vL.bu Tryz.prog wb (ei vL.id):=by
 refine hN (G:=G) (c:=vL) (cal:=(bq [] [n5,sd] 102 103 73)) (li:=bh) (rounds:=600) (d:=6) (lsh:=bK) (λr ex ro=>eA en eh ev aN (λc hc=>(h c hc).f)) hg (enters (by kernel_rfl)) aHP rfl rfl (lens:=[4,4]) ?_;rw[aMR];exact aGC G
theorem aEU (h:∀c∈[vL],c.bu Tryz.prog wb (dG G c.id)):lQ.bu Tryz.prog wb (ei lQ.id):=by
 refine hN (G:=G) (c:=lQ) (cal:=(bq [] [vL] 102 103 73)) (li:=bh) (rounds:=600) (d:=6) (lsh:=bK) (λr ex ro=>eA en eh ev aN (λc hc=>(h c hc).f)) hg (enters (by kernel_rfl)) aHY rfl rfl (lens:=[4,4]) ?_;rw[aM7];exact aGR G
theorem aFb (h:∀c∈[lQ],c.bu Tryz.prog wb (dG G c.id)):si.bu Tryz.prog wb (ei 44):=
 br.pS (S:=dG G) (spec:=ei 44) (c:=si) (cal:=(bq [] [lQ] 102 103 73)) (li:=anF) (rounds:=600) (d:=6) gv (λr ex ro=>eA en eh ev aN (λc hc=>(h c hc).f)) hg (enters (by kernel_rfl)) (λzs rs cK hz h1 h2 e cQ=>by
  have ik:zs.length=4+4:=dn hz;have l1:rs.length=4:=dn h1;have l2:cK.length=4:=dn h2;unfold ei at e cQ;have hs:sh 44=([4,4],[4]):=rfl;rw[hs]at e cQ;simp only[ve ik,qI l1]at e;simp only[ve ik,qI l2]at cQ;have e:aa rs=cn (aa (zs.take 4)) (aa (zs.drop 4)).toNat:=e;have cQ:aa cK=cn (aa (zs.take 4)) (aa (zs.drop 4)).toNat:=cQ;exact vP h1 h2 (e.trans cQ.symm))
  (uw (Vz (G:=G) (id:=44) (lens:=[4,4]) (bds:=(aU si.args)) (ds:=si.res) rfl rfl (by rw[aNo];exact aG8 G)))
theorem aEG (h:∀c∈[n4,mx,si],c.bu Tryz.prog wb (dG G c.id)):se.bu Tryz.prog wb (ei se.id):=by
 refine hN (G:=G) (c:=se) (cal:=(bq [] [n4,mx,si] 102 103 73)) (li:=bh) (rounds:=600) (d:=6) (lsh:=bK) (λr ex ro=>eA en eh ev aN (λc hc=>(h c hc).f)) hg (enters (by kernel_rfl)) aHR rfl rfl (lens:=[4]) ?_;rw[aMT];exact aGD G
theorem aEW (h:∀c∈[si,lQ,mV],c.bu Tryz.prog wb (dG G c.id)):tW.bu Tryz.prog wb (ei tW.id):=by
 refine hN (G:=G) (c:=tW) (cal:=(bq [] [si,lQ,mV] 102 103 73)) (li:=bh) (rounds:=600) (d:=6) (lsh:=bK) (λr ex ro=>eA en eh ev aN (λc hc=>(h c hc).f)) hg (enters (by kernel_rfl)) aH0 rfl rfl (lens:=[4]) ?_;rw[aM9];exact aGT G
theorem aEB:rf.bu Tryz.prog wb (ei rf.id):=by
 refine hN (G:=G) (c:=rf) (cal:=(bq [] [] 102 103 73)) (li:=bh) (rounds:=600) (d:=6) (lsh:=bK) (λr ex ro=>eA en eh ev aN aN) hg (enters (by kernel_rfl)) aHK rfl rfl (lens:=[]) ?_;rw[aMM];exact aGx G
theorem aFc:vM.bu Tryz.prog wb (ei vM.id):=by
 refine hN (G:=G) (c:=vM) (cal:=(bq [] [] 102 103 73)) (li:=bh) (rounds:=600) (d:=6) (lsh:=bK) (λr ex ro=>eA en eh ev aN aN) hg (enters (by kernel_rfl)) aH2 rfl rfl (lens:=[]) ?_;rw[aNp];exact aG9 G
theorem aEy (h:∀c∈[lQ,rf,mV,sg],c.bu Tryz.prog wb (dG G c.id)):sc.bu Tryz.prog wb (ei sc.id):=by
 refine hN (G:=G) (c:=sc) (cal:=(bq [] [lQ,rf,mV,sg] 102 103 73)) (li:=bh) (rounds:=600) (d:=6) (lsh:=bK) (λr ex ro=>eA en eh ev aN (λc hc=>(h c hc).f)) hg (enters (by kernel_rfl)) aHI rfl rfl (lens:=[4,4,4,4,4,4]) ?_;rw[aMJ];exact aGu G
theorem aEJ (h:∀c∈[vM,sc],c.bu Tryz.prog wb (dG G c.id)):rh.bu Tryz.prog wb (ei 123):=
 L5 (br.pS (S:=dG G) (spec:=λzs rs=>ei 123 zs rs/\rs=u9 G (zs.drop 32) (nb (zs.take 32)).toNat 256) (c:=rh) (cal:=(bq [] [vM,sc] 102 103 73)) (li:=acQ) (rounds:=600) (d:=6) gv (λr ex ro=>eA en eh ev aN (λc hc=>(h c hc).f)) hg (enters (by kernel_rfl)) (λzs rs cK hz h1 h2 e cQ=>e.2.trans cQ.2.symm)
  (uw λzs hz=>by
    have hv:=nh (L8 (S:=fk G) (K:=XC G) (sh:=sh) (lsh:=anO) (lens:=[32,4,4,4]) (bds:=aU rh.args) (ds:=rh.res) (t:=(rh.tree Tryz.prog gl (bq [] [vM,sc] 102 103 73) acQ 600 6)) (by rw[aMW];exact aGG G)) hz;have ik:zs.length=32+12:=dn hz;refine kY (λv ρ hl=>?_) _ _ _ hv;unfold kh at hl⊢;split
    ·rename_i os aw;rw[aw]at hl;have hl:eT rh.res 123 (cg [32,4,4,4] zs) (cg (ua rh.res) (os.map (O.den ρ)))/\(cg (ua rh.res) (os.map (O.den ρ))).flatten=u9 G (zs.drop 32) (nb (zs.take 32)).toNat 256:=aJt ik hl;simp only[eT,vf]at hl;exact⟨hl.1.1,hl.1.2,hl.2⟩
    ·rename_i aw;rw[aw]at hl;exact hl)) λzs rs h=>h.1
theorem aEv (h:∀c∈[se,lQ,tU],c.bu Tryz.prog wb (dG G c.id)):sb.bu Tryz.prog wb (ei sb.id):=by
 refine hN (G:=G) (c:=sb) (cal:=(bq [] [se,lQ,tU] 102 103 73)) (li:=bh) (rounds:=600) (d:=6) (lsh:=bK) (λr ex ro=>eA en eh ev aN (λc hc=>(h c hc).f)) hg (enters (by kernel_rfl)) aHF rfl rfl (lens:=[4,4,4]) ?_;rw[aMG];exact aGr G
theorem aEV (h:∀c∈[lv,mb,mx,lQ,rf,sg,se,tW,mV],c.bu Tryz.prog wb (dG G c.id)):sf.bu Tryz.prog wb (ei sf.id):=by
 refine hN (G:=G) (c:=sf) (cal:=(bq [] [lv,mb,mx,lQ,rf,sg,se,tW,mV] 102 103 73)) (li:=bh) (rounds:=600) (d:=6) (lsh:=bK) (λr ex ro=>eA en eh ev aN (λc hc=>(h c hc).f)) hg (enters (by kernel_rfl)) aHZ rfl rfl (lens:=[32]) ?_;rw[aM8];exact aGS G
theorem aEE:uW.bu Tryz.prog wb (ei uW.id):=by
 refine hN (G:=G) (c:=uW) (cal:=(bq [] [] 102 103 73)) (li:=bh) (rounds:=600) (d:=6) (lsh:=bK) (λr ex ro=>eA en eh ev aN aN) hg (enters (by kernel_rfl)) aHO rfl rfl (lens:=[]) ?_;rw[aMQ];exact aGB G
theorem aEx (h:∀c∈[sf,mV,sb],c.bu Tryz.prog wb (dG G c.id)):Aw.bu Tryz.prog wb (ei Aw.id):=by
 refine hN (G:=G) (c:=Aw) (cal:=(bq [] [sf,mV,sb] 102 103 73)) (li:=bh) (rounds:=600) (d:=6) (lsh:=bK) (λr ex ro=>eA en eh ev aN (λc hc=>(h c hc).f)) hg (enters (by kernel_rfl)) aHH rfl rfl (lens:=[32]) ?_;rw[aMI];exact aGt G
theorem aEw (h:∀c∈[sf,rh,uW,sc,sb],c.bu Tryz.prog wb (dG G c.id)):Av.bu Tryz.prog wb (ei Av.id):=by
 refine hN (G:=G) (c:=Av) (cal:=(bq [] [sf,rh,uW,sc,sb] 102 103 73)) (li:=bh) (rounds:=600) (d:=6) (lsh:=bK) (λr ex ro=>eA en eh ev aN (λc hc=>(h c hc).f)) hg (enters (by kernel_rfl)) aHG rfl rfl (lens:=[32,32,32]) ?_;rw[aMH];exact aGs G
theorem aEH:yC.bu Tryz.prog wb (ei yC.id):=by
 refine hN (G:=G) (c:=yC) (cal:=(bq [] [] 102 103 73)) (li:=bh) (rounds:=600) (d:=6) (lsh:=bK) (λr ex ro=>eA en eh ev aN aN) hg (enters (by kernel_rfl)) aHS rfl rfl (lens:=[]) ?_;rw[aMU];exact aGE G
theorem aDG:k0.bu Tryz.prog wb (ei k0.id):=by
 refine hN (G:=G) (c:=k0) (cal:=(bq [] [] 102 103 73)) (li:=bh) (rounds:=600) (d:=6) (lsh:=bK) (λr ex ro=>eA en eh ev aN aN) hg (enters (by kernel_rfl)) aHp rfl rfl (lens:=[5]) ?_;rw[aL3];exact aFK G
theorem aEb (h:∀c∈[k0],c.bu Tryz.prog wb (dG G c.id)):r9.bu Tryz.prog wb (ei r9.id):=by
 refine hN (G:=G) (c:=r9) (cal:=(bq [] [k0] 102 103 73)) (li:=bh) (rounds:=600) (d:=6) (lsh:=bK) (λr ex ro=>eA en eh ev aN (λc hc=>(h c hc).f)) hg (enters (by kernel_rfl)) aHx rfl rfl (lens:=[32]) ?_;rw[aMo];exact aF7 G
theorem T1 (h:∀c∈[k0],c.bu Tryz.prog wb (dG G c.id)):jb.bu Tryz.prog wb (ei jb.id):=by
 refine hN (G:=G) (c:=jb) (cal:=(bq [] [k0] 102 103 73)) (li:=bh) (rounds:=600) (d:=6) (lsh:=bK) (λr ex ro=>eA en eh ev aN (λc hc=>(h c hc).f)) hg (enters (by kernel_rfl)) aHo rfl rfl (lens:=[5]) ?_;rw[aL2];exact adw G
theorem T4 (h:∀c∈[k0],c.bu Tryz.prog wb (dG G c.id)):jl.bu Tryz.prog wb (ei jl.id):=by
 refine hN (G:=G) (c:=jl) (cal:=(bq [] [k0] 102 103 73)) (li:=bh) (rounds:=600) (d:=6) (lsh:=bK) (λr ex ro=>eA en eh ev aN (λc hc=>(h c hc).f)) hg (enters (by kernel_rfl)) aHD rfl rfl (lens:=[5,5]) ?_;rw[aMC];exact adz G
theorem T3 (h:∀c∈[k0],c.bu Tryz.prog wb (dG G c.id)):jk.bu Tryz.prog wb (ei jk.id):=by
 refine hN (G:=G) (c:=jk) (cal:=(bq [] [k0] 102 103 73)) (li:=bh) (rounds:=600) (d:=6) (lsh:=bK) (λr ex ro=>eA en eh ev aN (λc hc=>(h c hc).f)) hg (enters (by kernel_rfl)) aHA rfl rfl (lens:=[5,5]) ?_;rw[aMx];exact ady G
theorem aFq (h:∀c∈[k0],c.bu Tryz.prog wb (dG G c.id)):iv.bu Tryz.prog wb (ei iv.id):=by
 refine hN (G:=G) (c:=iv) (cal:=(bq [] [k0] 102 103 73)) (li:=bh) (rounds:=600) (d:=6) (lsh:=bK) (λr ex ro=>eA en eh ev aN (λc hc=>(h c hc).f)) hg (enters (by kernel_rfl)) aH5 rfl rfl (lens:=[5,5]) ?_;rw[aNz];exact aHj G
theorem aFk (h:∀c∈[iv],c.bu Tryz.prog wb (dG G c.id)):mW.bu Tryz.prog wb (ei mW.id):=by
 refine hN (G:=G) (c:=mW) (cal:=(bq [] [iv] 102 103 73)) (li:=bh) (rounds:=600) (d:=6) (lsh:=bK) (λr ex ro=>eA en eh ev aN (λc hc=>(h c hc).f)) hg (enters (by kernel_rfl)) aH4 rfl rfl (lens:=[5]) ?_;rw[aNv];exact aHf G
theorem aEn (h:∀c∈[jk],c.bu Tryz.prog wb (dG G c.id)):pP.bu Tryz.prog wb (ei pP.id):=by
 refine hN (G:=G) (c:=pP) (cal:=(bq [] [jk] 102 103 73)) (li:=bh) (rounds:=600) (d:=6) (lsh:=bK) (λr ex ro=>eA en eh ev aN (λc hc=>(h c hc).f)) hg (enters (by kernel_rfl)) aHB rfl rfl (lens:=[5]) ?_;rw[aMy];exact aGj G
theorem aEt (h:∀c∈[mW,iv],c.bu Tryz.prog wb (dG G c.id)):re.bu Tryz.prog wb (ei 43):=
 L5 (br.pS (S:=dG G) (spec:=λzs rs=>ei 43 zs rs/\rs=yR G (zs.take 5) (aa (zs.drop 5)).toNat 256) (c:=re) (cal:=(bq [] [mW,iv] 102 103 73)) (li:=acP) (rounds:=600) (d:=6) gv (λr ex ro=>eA en eh ev aN (λc hc=>(h c hc).f)) hg (enters (by kernel_rfl)) (λzs rs cK hz h1 h2 e cQ=>e.2.trans cQ.2.symm)
  (uw λzs hz=>by
    have hv:=nh (L8 (S:=fk G) (K:=XD G) (sh:=sh) (lsh:=anN) (lens:=[5,4]) (bds:=aU re.args) (ds:=re.res) (t:=(re.tree Tryz.prog gl (bq [] [mW,iv] 102 103 73) acP 600 6)) (by rw[aME];exact aGp G)) hz;have ik:zs.length=5+4:=dn hz;refine kY (λv ρ hl=>?_) _ _ _ hv;unfold kh at hl⊢;split
    ·rename_i os aw;rw[aw]at hl;simp only[XD,eT,vf,ve ik]at hl;refine⟨hl.1.1,?_,hl.2⟩;unfold ei;rw[show(sh 43).1=[5,4] by rfl,ve ik];exact hl.1.2
    ·rename_i aw;rw[aw]at hl;exact hl)) λzs rs h=>h.1
theorem aEh (h:∀c∈[re],c.bu Tryz.prog wb (dG G c.id)):sa.bu Tryz.prog wb (ei sa.id):=by
 refine hN (G:=G) (c:=sa) (cal:=(bq [] [re] 102 103 73)) (li:=bh) (rounds:=600) (d:=6) (lsh:=bK) (λr ex ro=>eA en eh ev aN (λc hc=>(h c hc).f)) hg (enters (by kernel_rfl)) aHy rfl rfl (lens:=[5]) ?_;rw[aMu];exact aGd G
theorem aFd (h:∀c∈[jb],c.bu Tryz.prog wb (dG G c.id)):ri.bu Tryz.prog wb (ei ri.id):=by
 refine hN (G:=G) (c:=ri) (cal:=(bq [] [jb] 102 103 73)) (li:=bh) (rounds:=600) (d:=6) (lsh:=bK) (λr ex ro=>eA en eh ev aN (λc hc=>(h c hc).f)) hg (enters (by kernel_rfl)) aH3 rfl rfl (lens:=[5,5]) ?_;rw[aNq];exact aHa G
theorem aEq (h:∀c∈[jb],c.bu Tryz.prog wb (dG G c.id)):rb.bu Tryz.prog wb (ei rb.id):=by
 refine hN (G:=G) (c:=rb) (cal:=(bq [] [jb] 102 103 73)) (li:=bh) (rounds:=600) (d:=6) (lsh:=bK) (λr ex ro=>eA en eh ev aN (λc hc=>(h c hc).f)) hg (enters (by kernel_rfl)) aHC rfl rfl (lens:=[5]) ?_;rw[aMB];exact aGm G
theorem aEQ (h:∀c∈[re,mW,ri,rb,pP,iv],c.bu Tryz.prog wb (dG G c.id)):uX.bu Tryz.prog wb (ei uX.id):=by
 refine hN (G:=G) (c:=uX) (cal:=(bq [] [re,mW,ri,rb,pP,iv] 102 103 73)) (li:=bh) (rounds:=600) (d:=6) (lsh:=bK) (λr ex ro=>eA en eh ev aN (λc hc=>(h c hc).f)) hg (enters (by kernel_rfl)) aHV rfl rfl (lens:=[5]) ?_;rw[aM3];exact aGN G
theorem adg (h:∀c∈[r9,jb],c.bu Tryz.prog wb (dG G c.id)):oF.bu Tryz.prog wb (ei oF.id):=by
 refine hN (G:=G) (c:=oF) (cal:=(bq [] [r9,jb] 102 103 73)) (li:=bh) (rounds:=600) (d:=6) (lsh:=bK) (λr ex ro=>eA en eh ev aN (λc hc=>(h c hc).f)) hg (enters (by kernel_rfl)) aHN rfl rfl (lens:=[32]) ?_;rw[aMP];exact adA G
theorem adi (h:∀c∈[oF],c.bu Tryz.prog wb (dG G c.id)):n3.bu Tryz.prog wb (ei n3.id):=by
 refine hN (G:=G) (c:=n3) (cal:=(bq [] [oF] 102 103 73)) (li:=bh) (rounds:=600) (d:=6) (lsh:=bK) (λr ex ro=>eA en eh ev aN (λc hc=>(h c hc).f)) hg (enters (by kernel_rfl)) aHQ rfl rfl (lens:=[32]) ?_;rw[aMS];exact adB G
theorem aFr (h:∀c∈[jl],c.bu Tryz.prog wb (dG G c.id)):vN.bu Tryz.prog wb (ei vN.id):=by
 refine hN (G:=G) (c:=vN) (cal:=(bq [] [jl] 102 103 73)) (li:=bh) (rounds:=600) (d:=6) (lsh:=bK) (λr ex ro=>eA en eh ev aN (λc hc=>(h c hc).f)) hg (enters (by kernel_rfl)) aH6 rfl rfl (lens:=[]) ?_;rw[aNA];exact aHk G
theorem aD9 (h:∀c∈[iv],c.bu Tryz.prog wb (dG G c.id)):o8.bu Tryz.prog wb (ei o8.id):=by
 refine hN (G:=G) (c:=o8) (cal:=(bq [] [iv] 102 103 73)) (li:=bh) (rounds:=600) (d:=6) (lsh:=bK) (λr ex ro=>eA en eh ev aN (λc hc=>(h c hc).f)) hg (enters (by kernel_rfl)) aHw rfl rfl (lens:=[5,5]) ?_;rw[aMn];exact aF5 G
theorem aDH (h:∀c∈[o8],c.bu Tryz.prog wb (dG G c.id)):s8.bu Tryz.prog wb (ei s8.id):=by
 refine hN (G:=G) (c:=s8) (cal:=(bq [] [o8] 102 103 73)) (li:=bh) (rounds:=600) (d:=6) (lsh:=bK) (λr ex ro=>eA en eh ev aN (λc hc=>(h c hc).f)) hg (enters (by kernel_rfl)) aHq rfl rfl (lens:=[]) ?_;rw[aL4];exact aFL G
theorem aDP (h:∀c∈[o8],c.bu Tryz.prog wb (dG G c.id)):vJ.bu Tryz.prog wb (ei vJ.id):=by
 refine hN (G:=G) (c:=vJ) (cal:=(bq [] [o8] 102 103 73)) (li:=bh) (rounds:=600) (d:=6) (lsh:=bK) (λr ex ro=>eA en eh ev aN (λc hc=>(h c hc).f)) hg (enters (by kernel_rfl)) aHu rfl rfl (lens:=[]) ?_;rw[aMb];exact aFT G
theorem aDN (h:∀c∈[iv],c.bu Tryz.prog wb (dG G c.id)):r8.bu Tryz.prog wb (ei r8.id):=by
 refine hN (G:=G) (c:=r8) (cal:=(bq [] [iv] 102 103 73)) (li:=bh) (rounds:=600) (d:=6) (lsh:=bK) (λr ex ro=>eA en eh ev aN (λc hc=>(h c hc).f)) hg (enters (by kernel_rfl)) aHs rfl rfl (lens:=[5,5,5,5]) ?_;rw[aL9];exact aFR G
theorem aDO (h:∀c∈[jk,iv,jl,vN,r8],c.bu Tryz.prog wb (dG G c.id)):s9.bu Tryz.prog wb (ei s9.id):=by
 refine hN (G:=G) (c:=s9) (cal:=(bq [] [jk,iv,jl,vN,r8] 102 103 73)) (li:=bh) (rounds:=600) (d:=6) (lsh:=bK) (λr ex ro=>eA en eh ev aN (λc hc=>(h c hc).f)) hg (enters (by kernel_rfl)) aHt rfl rfl (lens:=[5,5,5,5,5,5,5,5]) ?_;rw[aMa];exact aFS G
theorem aDZ (h:∀c∈[mW,jl,jk,r8],c.bu Tryz.prog wb (dG G c.id)):vK.bu Tryz.prog wb (ei vK.id):=by
 refine hN (G:=G) (c:=vK) (cal:=(bq [] [mW,jl,jk,r8] 102 103 73)) (li:=bh) (rounds:=600) (d:=6) (lsh:=bK) (λr ex ro=>eA en eh ev aN (λc hc=>(h c hc).f)) hg (enters (by kernel_rfl)) aHv rfl rfl (lens:=[5,5,5]) ?_;rw[aMe];exact aFW G
theorem aEl (h:∀c∈[vJ,vK,s9],c.bu Tryz.prog wb (dG G c.id)):o9.bu Tryz.prog wb (ei 107):=
 L5 (br.pS (S:=dG G) (spec:=λzs rs=>ei 107 zs rs/\rs=xp G (zs.take 20) (nb (zs.drop 20)).toNat 256) (c:=o9) (cal:=(bq [] [vJ,vK,s9] 102 103 73)) (li:=acO) (rounds:=600) (d:=6) gv (λr ex ro=>eA en eh ev aN (λc hc=>(h c hc).f)) hg (enters (by kernel_rfl)) (λzs rs cK hz h1 h2 e cQ=>e.2.trans cQ.2.symm)
  (uw λzs hz=>by
    have hv:=nh (L8 (S:=fk G) (K:=XB G) (sh:=sh) (lsh:=anM) (lens:=[5,5,5,5,32]) (bds:=aU o9.args) (ds:=o9.res) (t:=(o9.tree Tryz.prog gl (bq [] [vJ,vK,s9] 102 103 73) acO 600 6)) (by rw[aMw];exact aGh G)) hz;have ik:zs.length=20+32:=dn hz;refine kY (λv ρ hl=>?_) _ _ _ hv;unfold kh at hl⊢;split
    ·rename_i os aw;rw[aw]at hl;have hl:eT o9.res 107 (cg [5,5,5,5,32] zs) (cg (ua o9.res) (os.map (O.den ρ)))/\(cg (ua o9.res) (os.map (O.den ρ))).flatten=xp G (zs.take 20) (nb (zs.drop 20)).toNat 256:=aC1 ik hl;simp only[eT,vf]at hl;exact⟨hl.1.1,hl.1.2,hl.2⟩
    ·rename_i aw;rw[aw]at hl;exact hl)) λzs rs h=>h.1
theorem aDI (h:∀c∈[sa,iv,jb,rb],c.bu Tryz.prog wb (dG G c.id)):qA.bu Tryz.prog wb (ei qA.id):=by
 refine hN (G:=G) (c:=qA) (cal:=(bq [] [sa,iv,jb,rb] 102 103 73)) (li:=bh) (rounds:=600) (d:=6) (lsh:=bK) (λr ex ro=>eA en eh ev aN (λc hc=>(h c hc).f)) hg (enters (by kernel_rfl)) aHr rfl rfl (lens:=[5,5,5]) ?_;rw[aL5];exact aFM G
theorem aED (h:∀c∈[n3,r9,mW,jk,iv,jl,sa,uX,ri,pP,o8],c.bu Tryz.prog wb (dG G c.id)):tV.bu Tryz.prog wb (ei tV.id):=by
 refine hN (G:=G) (c:=tV) (cal:=(bq [] [n3,r9,mW,jk,iv,jl,sa,uX,ri,pP,o8] 102 103 73)) (li:=bh) (rounds:=600) (d:=6) (lsh:=bK) (λr ex ro=>eA en eh ev aN (λc hc=>(h c hc).f)) hg (enters (by kernel_rfl)) aHM rfl rfl (lens:=[32]) ?_;rw[aMO];exact aGz G
theorem aDM (h:∀c∈[tV,pP,qA],c.bu Tryz.prog wb (dG G c.id)):Au.bu Tryz.prog wb (ei 112):=
 br.pS (S:=dG G) (spec:=ei 112) (c:=Au) (cal:=(bq [] [tV,pP,qA] 102 103 73)) (li:=bh) (rounds:=600) (d:=6) gv (λr ex ro=>eA en eh ev aN (λc hc=>(h c hc).f)) hg (enters (by kernel_rfl)) (λzs rs cK hz h1 h2 e cQ=>by
  have ik:zs.length=32:=dn hz;exact aqM (id:=112) (al:=[zs]) (o:=(dec (nb (zs))).map qD) rfl (by rw[show(sh 112).1=[32] by rfl];exact qI ik) (λr e h=>h) h1 h2 e cQ)
  (uw (Vz (G:=G) (id:=112) (lens:=[32]) (bds:=(aU Au.args)) (ds:=Au.res) rfl rfl (by rw[aL8];exact aFQ G)))
theorem aDF (h:∀c∈[s8,o9,qA],c.bu Tryz.prog wb (dG G c.id)):As.bu Tryz.prog wb (ei As.id):=by
 refine hN (G:=G) (c:=As) (cal:=(bq [] [s8,o9,qA] 102 103 73)) (li:=bh) (rounds:=600) (d:=6) (lsh:=bK) (λr ex ro=>eA en eh ev aN (λc hc=>(h c hc).f)) hg (enters (by kernel_rfl)) aHn rfl rfl (lens:=[32]) ?_;rw[aL1];exact aFJ G
theorem aDL (h:∀c∈[tV,o9,s8,s9,qA],c.bu Tryz.prog wb (dG G c.id)):At.bu Tryz.prog wb (ei 115):=
 br.pS (S:=dG G) (spec:=ei 115) (c:=At) (cal:=(bq [] [tV,o9,s8,s9,qA] 102 103 73)) (li:=bh) (rounds:=600) (d:=6) gv (λr ex ro=>eA en eh ev aN (λc hc=>(h c hc).f)) hg (enters (by kernel_rfl)) (λzs rs cK hz h1 h2 e cQ=>by
  have ik:zs.length=32+(32+32):=dn hz;exact aqM (id:=115) (al:=[zs.take 32,(zs.drop 32).take 32,(zs.drop 32).drop 32]) (o:=(dec (nb ((zs.drop 32).take 32))).map λA=>fS (eo (nb (zs.take 32)).toNat A) (eo (nb ((zs.drop 32).drop 32)).toNat kz)) rfl (by rw[show(sh 115).1=[32,32,32] by rfl];exact PY ik) (λr e h=>h) h1 h2 e cQ)
  (uw (Vz (G:=G) (id:=115) (lens:=[32,32,32]) (bds:=(aU At.args)) (ds:=At.res) rfl rfl (by rw[aL7];exact aFP G)))
end
theorem cl {α:Type} {P:α->Prop} {c:α} {L l:List α} (h:∀c∈L,P c) (i:Nat) (hx:L[i]?=some c) (t:∀c∈l,P c):∀d∈c::l,P d:=List.forall_mem_cons.2 ⟨h _ (yH hx),t⟩
theorem wG {wb:aC} (hg:gJ gl ⟨wb,wb,λ_=>False,λ_=>False,[]⟩):∃G,e6 wb [At,As,Au,tV,qA,o9,vK,s9,r8,vJ,s8,o8,vN,n3,oF,uX,rb,ri,sa,re,pP,mW,iv,jk,jl,jb,r9,k0,yC,Av,Aw,uW,sf,sb,rh,sc,vM,rf,tW,se,si,lQ,vL,mV,sg,sd,n5,n4,mb,mx,tU,lv] G:=by
 obtain⟨asO,h0⟩:∃G,e6 wb [] G:=⟨λ_ _=>[],aN⟩;obtain⟨G1,h1⟩:=e6.step (c:=lv) h0 (by decide) (T2 hg (G:=asO));obtain⟨QJ,h2⟩:=e6.step (c:=tU) h1 (by decide) (aEu hg (G:=G1));obtain⟨Xu,h3⟩:=e6.step (c:=mx) h2 (by decide) (aER hg (G:=QJ));obtain⟨QK,h4⟩:=e6.step (c:=mb) h3 (by decide) (aEI hg (G:=Xu));obtain⟨att,h5⟩:=e6.step (c:=n4) h4 (by decide) (aEK hg (G:=QK));obtain⟨atx,h6⟩:=e6.step (c:=n5) h5 (by decide) (aET hg (G:=att));obtain⟨aty,h7⟩:=e6.step (c:=sd) h6 (by decide) (aEz hg (G:=atx) (cl h6 2 rfl (cl h6 3 rfl (cl h6 1 rfl aN))));obtain⟨atz,b4⟩:=e6.step (c:=sg) h7 (by decide) (aEX hg (G:=aty) (cl h7 1 rfl (cl h7 0 rfl aN)));obtain⟨atA,dd⟩:=e6.step (c:=mV) b4 (by decide) (aEC hg (G:=atz) (cl b4 4 rfl (cl b4 2 rfl (cl b4 5 rfl (cl b4 3 rfl aN)))));obtain⟨asP,hC⟩:=e6.step (c:=vL) dd (by decide) (aEF hg (G:=atA) (cl dd 3 rfl (cl dd 2 rfl aN)));obtain⟨asQ,j2⟩:=e6.step (c:=lQ) hC (by decide) (aEU hg (G:=asP) (cl hC 0 rfl aN));obtain⟨asR,hM⟩:=e6.step (c:=si) j2 (by decide) (aFb hg (G:=asQ) (cl j2 0 rfl aN));obtain⟨asS,jA⟩:=e6.step (c:=se) hM (by decide) (aEG hg (G:=asR) (cl hM 7 rfl (cl hM 9 rfl (cl hM 0 rfl aN))));obtain⟨asT,kD⟩:=e6.step (c:=tW) jA (by decide) (aEW hg (G:=asS) (cl jA 1 rfl (cl jA 2 rfl (cl jA 4 rfl aN))));obtain⟨asU,yk⟩:=e6.step (c:=rf) kD (by decide) (aEB hg (G:=asT));obtain⟨asV,mv⟩:=e6.step (c:=vM) yk (by decide) (aFc hg (G:=asU));obtain⟨asW,oZ⟩:=e6.step (c:=sc) mv (by decide) (aEy hg (G:=asV) (cl mv 5 rfl (cl mv 1 rfl (cl mv 7 rfl (cl mv 8 rfl aN)))));obtain⟨asX,yl⟩:=e6.step (c:=rh) oZ (by decide) (aEJ hg (G:=asW) (cl oZ 1 rfl (cl oZ 0 rfl aN)));obtain⟨asY,qs⟩:=e6.step (c:=sb) yl (by decide) (aEv hg (G:=asX) (cl yl 5 rfl (cl yl 7 rfl (cl yl 16 rfl aN))));obtain⟨asZ,R2⟩:=e6.step (c:=sf) qs (by decide) (aEV hg (G:=asY) (cl qs 18 rfl (cl qs 15 rfl (cl qs 16 rfl (cl qs 8 rfl (cl qs 4 rfl (cl qs 11 rfl (cl qs 6 rfl (cl qs 5 rfl (cl qs 10 rfl aN))))))))));obtain⟨as0,pK⟩:=e6.step (c:=uW) R2 (by decide) (aEE hg (G:=asZ));obtain⟨as1,Hc⟩:=e6.step (c:=Aw) pK (by decide) (aEx hg (G:=as0) (cl pK 1 rfl (cl pK 12 rfl (cl pK 2 rfl aN))));obtain⟨as2,Z3⟩:=e6.step (c:=Av) Hc (by decide) (aEw hg (G:=as1) (cl Hc 2 rfl (cl Hc 4 rfl (cl Hc 1 rfl (cl Hc 5 rfl (cl Hc 3 rfl aN))))));obtain⟨as3,akZ⟩:=e6.step (c:=yC) Z3 (by decide) (aEH hg (G:=as2));obtain⟨as4,Bw⟩:=e6.step (c:=k0) akZ (by decide) (aDG hg (G:=as3));obtain⟨as5,R3⟩:=e6.step (c:=r9) Bw (by decide) (aEb hg (G:=as4) (cl Bw 0 rfl aN));obtain⟨as6,Z4⟩:=e6.step (c:=jb) R3 (by decide) (T1 hg (G:=as5) (cl R3 1 rfl aN));obtain⟨as7,Z5⟩:=e6.step (c:=jl) Z4 (by decide) (T4 hg (G:=as6) (cl Z4 2 rfl aN));obtain⟨as8,Bx⟩:=e6.step (c:=jk) Z5 (by decide) (T3 hg (G:=as7) (cl Z5 3 rfl aN));obtain⟨as9,Z6⟩:=e6.step (c:=iv) Bx (by decide) (aFq hg (G:=as8) (cl Bx 4 rfl aN));obtain⟨ata,Z7⟩:=e6.step (c:=mW) Z6 (by decide) (aFk hg (G:=as9) (cl Z6 0 rfl aN));obtain⟨atb,R4⟩:=e6.step (c:=pP) Z7 (by decide) (aEn hg (G:=ata) (cl Z7 2 rfl aN))
 obtain⟨atc,By⟩:=e6.step (c:=re) R4 (by decide) (aEt hg (G:=atb) (cl R4 1 rfl (cl R4 2 rfl aN)));obtain⟨atd,Z8⟩:=e6.step (c:=sa) By (by decide) (aEh hg (G:=atc) (cl By 0 rfl aN));obtain⟨ate,vG⟩:=e6.step (c:=ri) Z8 (by decide) (aFd hg (G:=atd) (cl Z8 7 rfl aN));obtain⟨atf,E6⟩:=e6.step (c:=rb) vG (by decide) (aEq hg (G:=ate) (cl vG 8 rfl aN));obtain⟨atg,zZ⟩:=e6.step (c:=uX) E6 (by decide) (aEQ hg (G:=atf) (cl E6 3 rfl (cl E6 5 rfl (cl E6 1 rfl (cl E6 0 rfl (cl E6 4 rfl (cl E6 6 rfl aN)))))));obtain⟨ath,Z9⟩:=e6.step (c:=oF) zZ (by decide) (adg hg (G:=atg) (cl zZ 11 rfl (cl zZ 10 rfl aN)));obtain⟨ati,aaa⟩:=e6.step (c:=n3) Z9 (by decide) (adi hg (G:=ath) (cl Z9 0 rfl aN));obtain⟨atj,aab⟩:=e6.step (c:=vN) aaa (by decide) (aFr hg (G:=ati) (cl aaa 11 rfl aN));obtain⟨atk,z1⟩:=e6.step (c:=o8) aab (by decide) (aD9 hg (G:=atj) (cl aab 10 rfl aN));obtain⟨atl,aac⟩:=e6.step (c:=s8) z1 (by decide) (aDH hg (G:=atk) (cl z1 0 rfl aN));obtain⟨atm,aad⟩:=e6.step (c:=vJ) aac (by decide) (aDP hg (G:=atl) (cl aac 1 rfl aN));obtain⟨atn,wZ⟩:=e6.step (c:=r8) aad (by decide) (aDN hg (G:=atm) (cl aad 13 rfl aN));obtain⟨ato,JQ⟩:=e6.step (c:=s9) wZ (by decide) (aDO hg (G:=atn) (cl wZ 15 rfl (cl wZ 14 rfl (cl wZ 16 rfl (cl wZ 4 rfl (cl wZ 0 rfl aN))))));obtain⟨atp,MW⟩:=e6.step (c:=vK) JQ (by decide) (aDZ hg (G:=ato) (cl JQ 14 rfl (cl JQ 17 rfl (cl JQ 16 rfl (cl JQ 1 rfl aN)))));obtain⟨atq,JR⟩:=e6.step (c:=o9) MW (by decide) (aEl hg (G:=atp) (cl MW 3 rfl (cl MW 0 rfl (cl MW 1 rfl aN))));obtain⟨atr,w1⟩:=e6.step (c:=qA) JR (by decide) (aDI hg (G:=atq) (cl JR 13 rfl (cl JR 17 rfl (cl JR 20 rfl (cl JR 11 rfl aN)))));obtain⟨ats,MX⟩:=e6.step (c:=tV) w1 (by decide) (aED hg (G:=atr) (cl w1 9 rfl (cl w1 22 rfl (cl w1 17 rfl (cl w1 19 rfl (cl w1 18 rfl (cl w1 20 rfl (cl w1 14 rfl (cl w1 11 rfl (cl w1 13 rfl (cl w1 16 rfl (cl w1 7 rfl aN))))))))))));obtain⟨atu,MY⟩:=e6.step (c:=Au) MX (by decide) (aDM hg (G:=ats) (cl MX 0 rfl (cl MX 17 rfl (cl MX 1 rfl aN))));obtain⟨atv,CY⟩:=e6.step (c:=As) MY (by decide) (aDF hg (G:=atu) (cl MY 8 rfl (cl MY 3 rfl (cl MY 2 rfl aN))));obtain⟨atw,ak1⟩:=e6.step (c:=At) CY (by decide) (aDL hg (G:=atv) (cl CY 2 rfl (cl CY 4 rfl (cl CY 9 rfl (cl CY 6 rfl (cl CY 3 rfl aN))))));exact⟨atw,ak1⟩
end Go.Fd
