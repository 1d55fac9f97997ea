/- Pae: a part of the proof of statements of this seat. -/
import Derived.Test.YtacpildnjohidaaGreatDoorPac
import Derived.Test.YtacpildnjohidaaGreatDoorPad
open And renaming intro->y2
open BitVec renaming ofInt->rk
open Bool renaming not_eq_true'->c6,not_true->dD,not_eq_false'->dZ,not_false->ei
open Go renaming FuncId->dv
open Go.IntKind renaming max->cL
open Int renaming le_refl->cn,toNat_natCast->hC,mul_comm->kL,eq_ofNat_of_zero_le->mr,le_of_lt->qv,emod_lt_of_pos->ri,mul_emod->sU,emod_nonneg->sV,add_zero->wI,one_mul->wJ,add_mul_emod_self_left->xQ,le_trans->y3,zero_add->CE,add_emod->MR,pow_succ->Se
open List renaming getD->U,map_cons->df,replicate->dw,range->dP,nil_append->eQ,length_append->fq,append_assoc->fS,getD_cons_zero->gp,append_nil->gO,getD_cons_succ->hq,map_append->hQ,drop_zero->jA,cons_append->j4,map_congr_left->j5,getD_eq_getElem?_getD->ky,map_map->lz,getElem?_eq_getElem->lA,take_succ_cons->l5,take_of_length_le->mu,mem_of_mem_take->mv,mem_cons->m2,length_take->m4,flatten_cons->nH,take_append_drop->nI,getElem?_map->qw,take_zero->qy,flatten_nil->sT,drop_succ_cons->tI,not_mem_nil->uU,eq_nil_of_length_eq_zero->uV,getElem?_append_left->wG,replicate_succ->y8,getElem_mem->CL,drop_eq_getElem_cons->EN,drop_of_length_le->GW,ext_getElem->JO,length_replicate->JT,getElem?_eq_none->M8,range_succ->SC,getElem?_range->Ym,range_succ_eq_map->Yx,replicate_succ'->ajp,range_add->awB,flatMap_append->aXf,foldl_append->aXg
open List.cons renaming injEq->hD
open Nat renaming beq->aU,le_refl->b1,add_zero->m3,pow_add->xS,zero_le->AS,two_pow_pos->CG,min_eq_left->CI,lt_or_ge->CK,mul_div_cancel_left->Sg,div_lt_iff_lt_mul->awb,not_lt_zero->aXh
open Prod.mk renaming injEq->fi
set_option linter.unusedVariables false
set_option linter.unusedSimpArgs false
set_option maxRecDepth 20000
namespace Go.ou
open Go.bX
def aam (S:Nat->List Int->List Int->Prop) (K:List Int->List Int->Prop):Prop:=ax λz0=>ax λar=>ax λz2=>ax λz3=>ax λz4=>ax λz5=>ax λaZ=>ax λaK=>ax λaF=>ax λz9=>ax λaY=>ax λaN=>ax λz12=>ax λa1=>ax λaG=>ax λaS=>ax λba=>ax λaW=>ax λbm=>ax λbp=>ax λz20=>ax λz21=>ax λz22=>ax λbW=>ax λz24=>ax λcr=>ax λz26=>ax λb5=>ax λz28=>ax λcl=>ax λcA=>ax λz31=>K [z0,ar,z2,z3,z4,z5,aZ,aK,aF,z9,aY,aN,z12,a1,aG,aS,ba,aW,bm,bp,z20,z21,z22,bW,z24,cr,z26,b5,z28,cl,cA,z31] [((1*z0+(256*ar+(65536*z2+(iU*z3+(iV*z4+(iW*z5+(iX*aZ+(jM*aK+0))))))))+0),((1*aF+(256*z9+(65536*aY+(iU*aN+(iV*z12+(iW*a1+(iX*aG+(jM*aS+0))))))))+0),((1*ba+(256*aW+(65536*bm+(iU*bp+(iV*z20+(iW*z21+(iX*z22+(jM*bW+0))))))))+0),((1*z24+(256*cr+(65536*z26+(iU*b5+(iV*z28+(iW*cl+(iX*cA+(jM*z31+0))))))))+0)]
theorem agH:aam cQ λzs rs=>ay (aX nt.res) rs/\cQ 22 zs rs:=by
 simp(maxSteps:=4000000) only[aam,ax,iU,iV,iW,iX,jM];intros;simp only[nt,aX,ij,D.bds,aT,j4,eQ,gO,ay,and_true,cQ,uH,num];omega
def aan (S:Nat->List Int->List Int->Prop) (K:List Int->List Int->Prop):Prop:=ax λz0=>ax λar=>ax λz2=>ax λz3=>ax λz4=>ax λz5=>ax λaZ=>ax λaK=>ax λaF=>ax λz9=>ax λaY=>ax λaN=>ax λz12=>ax λa1=>ax λaG=>ax λaS=>ax λba=>ax λaW=>ax λbm=>ax λbp=>ax λz20=>ax λz21=>ax λz22=>ax λbW=>ax λz24=>ax λcr=>ax λz26=>ax λb5=>ax λz28=>ax λcl=>ax λcA=>ax λz31=>ax λbj=>ax λbM=>ax λcw=>ax λb7=>ax λcp=>ax λz37=>ax λcU=>ax λcO=>ax λz40=>ax λc2=>ax λdb=>ax λdc=>ax λeh=>ax λdC=>ax λz46=>ax λdz=>ax λdL=>ax λz49=>ax λe3=>ax λz51=>ax λdA=>ax λz53=>ax λeX=>ax λff=>ax λe4=>ax λdm=>ax λfh=>ax λz59=>ax λfH=>ax λfQ=>ax λfR=>ax λew=>K [z0,ar,z2,z3,z4,z5,aZ,aK,aF,z9,aY,aN,z12,a1,aG,aS,ba,aW,bm,bp,z20,z21,z22,bW,z24,cr,z26,b5,z28,cl,cA,z31,bj,bM,cw,b7,cp,z37,cU,cO,z40,c2,db,dc,eh,dC,z46,dz,dL,z49,e3,z51,dA,z53,eX,ff,e4,dm,fh,z59,fH,fQ,fR,ew] [((1*z0+(256*ar+(65536*z2+(iU*z3+(iV*z4+(iW*z5+(iX*aZ+(jM*aK+0))))))))+0),((1*aF+(256*z9+(65536*aY+(iU*aN+(iV*z12+(iW*a1+(iX*aG+(jM*aS+0))))))))+0),((1*ba+(256*aW+(65536*bm+(iU*bp+(iV*z20+(iW*z21+(iX*z22+(jM*bW+0))))))))+0),((1*z24+(256*cr+(65536*z26+(iU*b5+(iV*z28+(iW*cl+(iX*cA+(jM*z31+0))))))))+0)]
theorem aME:aan cQ λzs rs=>ay (aX BT.res) rs/\cQ 122 zs rs:=by
 simp(maxSteps:=4000000) only[aan,ax,iU,iV,iW,iX,jM];intros;simp only[BT,aX,ij,D.bds,aT,j4,eQ,gO,ay,and_true,cQ,yN,num,l5,qy];omega
def aao (S:Nat->List Int->List Int->Prop) (K:List Int->List Int->Prop):Prop:=ax λz0=>ax λar=>ax λz2=>ax λz3=>ax λz4=>ax λz5=>ax λaZ=>ax λaK=>ax λaF=>ax λz9=>ax λaY=>ax λaN=>ax λz12=>ax λa1=>ax λaG=>ax λaS=>ax λba=>ax λaW=>ax λbm=>ax λbp=>ax λz20=>ax λz21=>ax λz22=>ax λbW=>ax λz24=>ax λcr=>ax λz26=>ax λb5=>ax λz28=>ax λcl=>ax λcA=>ax λz31=>ax λbj=>ax λbM=>ax λcw=>ax λb7=>ax λcp=>ax λz37=>ax λcU=>ax λcO=>ax λz40=>ax λc2=>ax λdb=>ax λdc=>ax λeh=>ax λdC=>ax λz46=>ax λdz=>ax λdL=>ax λz49=>ax λe3=>ax λz51=>ax λdA=>ax λz53=>ax λeX=>ax λff=>ax λe4=>ax λdm=>ax λfh=>ax λz59=>ax λfH=>ax λfQ=>ax λfR=>ax λew=>K [z0,ar,z2,z3,z4,z5,aZ,aK,aF,z9,aY,aN,z12,a1,aG,aS,ba,aW,bm,bp,z20,z21,z22,bW,z24,cr,z26,b5,z28,cl,cA,z31,bj,bM,cw,b7,cp,z37,cU,cO,z40,c2,db,dc,eh,dC,z46,dz,dL,z49,e3,z51,dA,z53,eX,ff,e4,dm,fh,z59,fH,fQ,fR,ew] [((1*bj+(256*bM+(65536*cw+(iU*b7+(iV*cp+(iW*z37+(iX*cU+(jM*cO+0))))))))+0),((1*z40+(256*c2+(65536*db+(iU*dc+(iV*eh+(iW*dC+(iX*z46+(jM*dz+0))))))))+0),((1*dL+(256*z49+(65536*e3+(iU*z51+(iV*dA+(iW*z53+(iX*eX+(jM*ff+0))))))))+0),((1*e4+(256*dm+(65536*fh+(iU*z59+(iV*fH+(iW*fQ+(iX*fR+(jM*ew+0))))))))+0)]
theorem aMF:aao cQ λzs rs=>ay (aX DR.res) rs/\cQ 222 zs rs:=by
 simp(maxSteps:=4000000) only[aao,ax,iU,iV,iW,iX,jM];intros;simp only[DR,aX,ij,D.bds,aT,j4,eQ,gO,ay,and_true,cQ,yO,num,tI,jA];omega
def aap (S:Nat->List Int->List Int->Prop) (K:List Int->List Int->Prop):Prop:=aI λz0=>aI λar=>aI λz2=>aI λz3=>aI λz4=>aI λz5=>aI λaZ=>aI λaK=>aq (-1) 0 ((1*z0+((-1)*z4+0))+0) bk λaF=>aq (-1) 0 ((1*ar+((-1)*z5+(1*aF+0)))+0) bk λz9=>aq (-1) 0 ((1*z2+((-1)*aZ+(1*z9+0)))+0) bk λaY=>aq (-1) 0 ((1*z3+((-1)*aK+(1*aY+0)))+0) bk λaN=>K [z0,ar,z2,z3,z4,z5,aZ,aK] [((1*z0+((-1)*z4+(ab*aF+0)))+0),((1*ar+((-1)*z5+(1*aF+(ab*z9+0))))+0),((1*z2+((-1)*aZ+(1*z9+(ab*aY+0))))+0),((1*z3+((-1)*aK+(1*aY+(ab*aN+0))))+0),(cond (decide ((((-1)*aN+0)+0)=(0+1))) 1 0)]
theorem agI:aap cQ λzs rs=>ay (aX jr.res) rs/\cQ 29 zs rs:=by
 simp(maxSteps:=4000000) only[aap,aI,aq,ab,bk];intros;simp only[jr,aX,ij,D.bds,aT,j4,eQ,gO,ay,and_true,cQ,q8,num,l5,qy,tI,jA,hq,gp,Bool.cond_decide];split<;>omega
def aar (S:Nat->List Int->List Int->Prop) (K:List Int->List Int->Prop):Prop:=aI λz0=>aI λar=>aI λz2=>aI λz3=>aI λz4=>aI λz5=>aI λaZ=>aI λaK=>bg ((1*z0+(1*z4+0))+0) bk λaF=>bg ((1*ar+(1*z5+(1*aF+0)))+0) bk λz9=>bg ((1*z2+(1*aZ+(1*z9+0)))+0) bk λaY=>bg ((1*z3+(1*aK+(1*aY+0)))+0) bk λaN=>K [z0,ar,z2,z3,z4,z5,aZ,aK] [((1*z0+(1*z4+(ab*aF+0)))+0),((1*ar+(1*z5+(1*aF+(ab*z9+0))))+0),((1*z2+(1*aZ+(1*z9+(ab*aY+0))))+0),((1*z3+(1*aK+(1*aY+(ab*aN+0))))+0),((1*aN+0)+0)]
theorem agJ:aar cQ λzs rs=>ay (aX js.res) rs/\cQ 24 zs rs:=by
 simp(maxSteps:=4000000) only[aar,aI,bg,ab,bk];intros;simp only[js,aX,ij,c1,D.bds,aT,j4,eQ,gO,ay,and_true,cQ,q9,num,l5,qy,tI,jA,hq,gp];omega
def aai (S:Nat->List Int->List Int->Prop) (K:List Int->List Int->Prop):Prop:=aI λz0=>aI λar=>aI λz2=>aI λz3=>aq 0 rM ((1*z0+0)+0) 256 λz4=>aq 0 rM ((1*z0+0)+0) 256 λz5=>aq 0 rN ((1*z5+0)+0) 256 λaZ=>aq 0 rN ((1*z0+0)+0) 65536 λaK=>aq 0 ku ((1*aK+0)+0) 256 λaF=>aq 0 ku ((1*z0+0)+0) iU λz9=>aq 0 rK ((1*z9+0)+0) 256 λaY=>aq 0 rK ((1*z0+0)+0) iV λaN=>aq 0 rL ((1*aN+0)+0) 256 λz12=>aq 0 rL ((1*z0+0)+0) iW λa1=>aq 0 65535 ((1*a1+0)+0) 256 λaG=>aq 0 65535 ((1*z0+0)+0) iX λaS=>aq 0 255 ((1*aS+0)+0) 256 λba=>aq 0 255 ((1*z0+0)+0) jM λaW=>aq 0 rM ((1*ar+0)+0) 256 λbm=>aq 0 rM ((1*ar+0)+0) 256 λbp=>aq 0 rN ((1*bp+0)+0) 256 λz20=>aq 0 rN ((1*ar+0)+0) 65536 λz21=>aq 0 ku ((1*z21+0)+0) 256 λz22=>aq 0 ku ((1*ar+0)+0) iU λbW=>aq 0 rK ((1*bW+0)+0) 256 λz24=>aq 0 rK ((1*ar+0)+0) iV λcr=>aq 0 rL ((1*cr+0)+0) 256 λz26=>aq 0 rL ((1*ar+0)+0) iW λb5=>aq 0 65535 ((1*b5+0)+0) 256 λz28=>aq 0 65535 ((1*ar+0)+0) iX λcl=>aq 0 255 ((1*cl+0)+0) 256 λcA=>aq 0 255 ((1*ar+0)+0) jM λz31=>aq 0 rM ((1*z2+0)+0) 256 λbj=>aq 0 rM ((1*z2+0)+0) 256 λbM=>aq 0 rN ((1*bM+0)+0) 256 λcw=>aq 0 rN ((1*z2+0)+0) 65536 λb7=>aq 0 ku ((1*b7+0)+0) 256 λcp=>aq 0 ku ((1*z2+0)+0) iU λz37=>aq 0 rK ((1*z37+0)+0) 256 λcU=>aq 0 rK ((1*z2+0)+0) iV λcO=>aq 0 rL ((1*cO+0)+0) 256 λz40=>aq 0 rL ((1*z2+0)+0) iW λc2=>aq 0 65535 ((1*c2+0)+0) 256 λdb=>aq 0 65535 ((1*z2+0)+0) iX λdc=>aq 0 255 ((1*dc+0)+0) 256 λeh=>aq 0 255 ((1*z2+0)+0) jM λdC=>aq 0 rM ((1*z3+0)+0) 256 λz46=>aq 0 rM ((1*z3+0)+0) 256 λdz=>aq 0 rN ((1*dz+0)+0) 256 λdL=>aq 0 rN ((1*z3+0)+0) 65536 λz49=>aq 0 ku ((1*z49+0)+0) 256 λe3=>aq 0 ku ((1*z3+0)+0) iU λz51=>aq 0 rK ((1*z51+0)+0) 256 λdA=>aq 0 rK ((1*z3+0)+0) iV λz53=>aq 0 rL ((1*z53+0)+0) 256 λeX=>aq 0 rL ((1*z3+0)+0) iW λff=>aq 0 65535 ((1*ff+0)+0) 256 λe4=>aq 0 65535 ((1*z3+0)+0) iX λdm=>aq 0 255 ((1*dm+0)+0) 256 λfh=>aq 0 255 ((1*z3+0)+0) jM λz59=>K [z0,ar,z2,z3] [((1*z0+((-256)*z4+0))+0),((1*z5+((-256)*aZ+0))+0),((1*aK+((-256)*aF+0))+0),((1*z9+((-256)*aY+0))+0),((1*aN+((-256)*z12+0))+0),((1*a1+((-256)*aG+0))+0),((1*aS+((-256)*ba+0))+0),((1*aW+0)+0),((1*ar+((-256)*bm+0))+0),((1*bp+((-256)*z20+0))+0),((1*z21+((-256)*z22+0))+0),((1*bW+((-256)*z24+0))+0),((1*cr+((-256)*z26+0))+0),((1*b5+((-256)*z28+0))+0),((1*cl+((-256)*cA+0))+0),((1*z31+0)+0),((1*z2+((-256)*bj+0))+0),((1*bM+((-256)*cw+0))+0),((1*b7+((-256)*cp+0))+0),((1*z37+((-256)*cU+0))+0),((1*cO+((-256)*z40+0))+0),((1*c2+((-256)*db+0))+0),((1*dc+((-256)*eh+0))+0),((1*dC+0)+0),((1*z3+((-256)*z46+0))+0),((1*dz+((-256)*dL+0))+0),((1*z49+((-256)*e3+0))+0),((1*z51+((-256)*dA+0))+0),((1*z53+((-256)*eX+0))+0),((1*ff+((-256)*e4+0))+0),((1*dm+((-256)*fh+0))+0),((1*z59+0)+0)]
theorem agG:aai cQ λzs rs=>ay (aX iY.res) rs/\cQ 26 zs rs:=by
 simp(maxSteps:=4000000) only[aai,aI,aq,iU,iV,iW,iX,jM,rM,rN,ku,rK,rL];simp only[wJ,wI,CE];intro z0 lb sa ar l1 kY z2 l2 rb z3 n7 yX z4 xn XK a4 ox z5 q1 auD a5 nM aZ ara auE rp rq aK IW auO sk so aF yu u8 pB pE z9 yv XN a9 hH aY Vq Xi oT nL aN xm Xj hS hV z12 Vs Xk a12 ow a1 Vt Xl jd jg aG Vu Xm pA pD aS FX Xn iM iP ba Vv u16 qC qE aW Vw Xo iN iQ bm Vx Xp jB jE bp Vy Xq jC jF z20 Vz Xr a20 iB z21 VA Xs a21 iu z22 VB Xt a22 hW bW VC Xu iz eR z24 VD Xv a24 gA cr VE Xw je jh z26 VF Xx a26 ji b5 VG Xy jf jj z28 VH Xz a28 j8 cl VI XA jD jG cA VJ XB jT jH z31 VK XC a31 km bj LK u32 cN jI bM IT XD hT hX cw VL XE iA iC b7 BU XF iq iv cp IU XG hE hG z37 VM XH a37 jk cU VN XI hU hZ cO VO XJ ir iw z40 VP XL a40 j9 c2 afl aia sj sm db afm aib qD mA dc afn aic u2 u9 eh afo aid u3 va dC afp aie zd zo z46 afq aif a46 zp dz afr aih u4 vb dL afs aii u5 vc z49 aft aij a49 vd e3 afu aik ze zq z51 afv ail a51 wT dA afw aim u6 ve z53 afx ain a53 wU eX afy aio wN wV ff afz aip A6 Bg e4 afA aiq u7 vf dm afB air tL sn fh afC ais A7 Bh z59 afD ait a59 wW;have gX:z4=z5:=JA (by decide) a4 ox a5 nM;have ya:bm=bp:=JA (by decide) jB jE jC jF;have TL:bj=bM:=JA (by decide) cN jI hT hX;have HG:z46=dz:=JA (by decide) a46 zp u4 vb;have pF:aZ=aK:=nP (by decide) a5 nM rp rq sk so;have tS:aF=z9:=nP (by decide) sk so pB pE a9 hH;have Ff:aY=aN:=nP (by decide) a9 hH oT nL hS hV;have Fg:z12=a1:=nP (by decide) hS hV a12 ow jd jg;have By:aG=aS:=nP (by decide) jd jg pA pD iM iP;have tR:ba=aW:=nP (by decide) iM iP qC qE iN iQ;have HC:z20=z21:=nP (by decide) jC jF a20 iB a21 iu;have HD:z22=bW:=nP (by decide) a21 iu a22 hW iz eR;have HE:z24=cr:=nP (by decide) iz eR a24 gA je jh;have De:z26=b5:=nP (by decide) je jh a26 ji jf jj;have TI:z28=cl:=nP (by decide) jf jj a28 j8 jD jG;have TJ:cA=z31:=nP (by decide) jD jG jT jH a31 km;have TM:cw=b7:=nP (by decide) hT hX iA iC iq iv;have KF:cp=z37:=nP (by decide) iq iv hE hG a37 jk;have HF:cU=cO:=nP (by decide) a37 jk hU hZ ir iw;have TN:z40=c2:=nP (by decide) ir iw a40 j9 sj sm;have TO:db=dc:=nP (by decide) sj sm qD mA u2 u9;have Df:eh=dC:=nP (by decide) u2 u9 u3 va zd zo;have TP:dL=z49:=nP (by decide) u4 vb u5 vc a49 vd;have HH:e3=z51:=nP (by decide) a49 vd ze zq a51 wT;have TQ:dA=z53:=nP (by decide) a51 wT u6 ve a53 wU;have KI:eX=ff:=nP (by decide) a53 wU wN wV A6 Bg;have HI:e4=dm:=nP (by decide) A6 Bg u7 vf tL sn;have TR:fh=z59:=nP (by decide) tL sn A7 Bh a59 wW;clear rp rq pB pE oT nL a12 ow pA pD qC qE a20 iB a22 hW a24 gA a26 ji a28 j8 jT jH iA iC hE hG hU hZ a40 j9 qD mA u3 va u5 vc ze zq u6 ve wN wV u7 vf A7 Bh;simp only[gX,ya,TL,HG,pF,tS,Ff,Fg,By,tR,HC,HD,HE,De,TI,TJ,TM,KF,HF,TN,TO,Df,TP,HH,TQ,KI,HI,TR];refine⟨?_,?_⟩
 ·simp only[iY,aX,gK,D.bds,aT,j4,eQ,gO,ay,and_true];refine⟨?_,?_,?_,?_,?_,?_,?_,?_,?_,?_,?_,?_,?_,?_,?_,?_,?_,?_,?_,?_,?_,?_,?_,?_,?_,?_,?_,?_,?_,?_,?_,?_,?_,?_,?_,?_,?_,?_,?_,?_,?_,?_,?_,?_,?_,?_,?_,?_,?_,?_,?_,?_,?_,?_,?_,?_,?_,?_,?_,?_,?_,?_,?_,?_⟩<;>omega
 ·simp only[cQ,uG,num];omega
def aas (S:Nat->List Int->List Int->Prop) (K:List Int->List Int->Prop):Prop:=aI λz0=>aI λar=>aI λz2=>aI λz3=>aI λz4=>aI λz5=>aI λaZ=>aI λaK=>eo kt (((1*z0+0)+0)*((1*z4+0)+0)) λaF=>aq 0 jo ((1*aF+0)+0) bk λz9=>eo kt (((1*z0+0)+0)*((1*z5+0)+0)) λaY=>aq 0 jo ((1*aY+0)+0) bk λaN=>bg ((1*z9+(1*aY+(ab*aN+0)))+0) bk λz12=>eo kt (((1*z0+0)+0)*((1*aZ+0)+0)) λa1=>aq 0 jo ((1*a1+0)+0) bk λaG=>bg ((1*aN+(1*z12+(1*a1+(ab*aG+0))))+0) bk λaS=>eo kt (((1*z0+0)+0)*((1*aK+0)+0)) λba=>aq 0 jo ((1*ba+0)+0) bk λaW=>bg ((1*aG+(1*aS+(1*ba+(ab*aW+0))))+0) bk λbm=>eo kt (((1*ar+0)+0)*((1*z4+0)+0)) λbp=>aq 0 jo ((1*bp+0)+0) bk λz20=>bg ((1*z9+(1*aY+(ab*aN+(ab*z12+(1*bp+(ab*z20+0))))))+0) bk λz21=>eo kt (((1*ar+0)+0)*((1*z5+0)+0)) λz22=>aq 0 jo ((1*z22+0)+0) bk λbW=>bg ((1*aN+(1*z12+(1*a1+(ab*aG+(ab*aS+(1*z22+(ab*bW+0)))))))+0) bk λz24=>bg ((1*aN+(1*z12+(1*a1+(ab*aG+(ab*aS+(1*z20+(1*z21+(1*z22+(ab*bW+(ab*z24+0))))))))))+0) bk λcr=>bg ((1*bW+(1*z24+(1*cr+0)))+0) bk λz26=>eo kt (((1*ar+0)+0)*((1*aZ+0)+0)) λb5=>aq 0 jo ((1*b5+0)+0) bk λz28=>bg ((1*aG+(1*aS+(1*ba+(ab*aW+(ab*bm+(1*b5+(ab*z28+0)))))))+0) bk λcl=>bg ((1*aG+(1*aS+(1*ba+(ab*aW+(ab*bm+(1*bW+(1*z24+(1*cr+(ab*z26+(1*b5+(ab*z28+(ab*cl+0))))))))))))+0) bk λcA=>bg ((1*z28+(1*cl+(1*cA+0)))+0) bk λz31=>eo kt (((1*ar+0)+0)*((1*aK+0)+0)) λbj=>aq 0 jo ((1*bj+0)+0) bk λbM=>bg ((1*aW+(1*bm+(1*bj+(ab*bM+0))))+0) bk λcw=>bg ((1*aW+(1*bm+(1*z28+(1*cl+(1*cA+(ab*z31+(1*bj+(ab*bM+(ab*cw+0)))))))))+0) bk λb7=>bg ((1*bM+(1*cw+(1*b7+0)))+0) bk λcp=>eo kt (((1*z2+0)+0)*((1*z4+0)+0)) λz37=>aq 0 jo ((1*z37+0)+0) bk λcU=>bg ((1*aN+(1*z12+(1*a1+(ab*aG+(ab*aS+(1*z20+(1*z21+(1*z22+(ab*bW+(ab*z24+(ab*cr+(1*z37+(ab*cU+0)))))))))))))+0) bk λcO=>eo kt (((1*z2+0)+0)*((1*z5+0)+0)) λz40=>aq 0 jo ((1*z40+0)+0) bk λc2=>bg ((1*aG+(1*aS+(1*ba+(ab*aW+(ab*bm+(1*bW+(1*z24+(1*cr+(ab*z26+(1*b5+(ab*z28+(ab*cl+(ab*cA+(1*z40+(ab*c2+0)))))))))))))))+0) bk λdb=>bg ((1*aG+(1*aS+(1*ba+(ab*aW+(ab*bm+(1*bW+(1*z24+(1*cr+(ab*z26+(1*b5+(ab*z28+(ab*cl+(ab*cA+(1*cU+(1*cO+(1*z40+(ab*c2+(ab*db+0))))))))))))))))))+0) bk λdc=>bg ((1*c2+(1*db+(1*dc+0)))+0) bk λeh=>eo kt (((1*z2+0)+0)*((1*aZ+0)+0)) λdC=>aq 0 jo ((1*dC+0)+0) bk λz46=>bg ((1*aW+(1*bm+(1*z28+(1*cl+(1*cA+(ab*z31+(1*bj+(ab*bM+(ab*cw+(ab*b7+(1*dC+(ab*z46+0))))))))))))+0) bk λdz=>bg ((1*aW+(1*bm+(1*z28+(1*cl+(1*cA+(ab*z31+(1*bj+(ab*bM+(ab*cw+(ab*b7+(1*c2+(1*db+(1*dc+(ab*eh+(1*dC+(ab*z46+(ab*dz+0)))))))))))))))))+0) bk λdL=>bg ((1*z46+(1*dz+(1*dL+0)))+0) bk λz49=>eo kt (((1*z2+0)+0)*((1*aK+0)+0)) λe3=>aq 0 jo ((1*e3+0)+0) bk λz51=>bg ((1*bM+(1*cw+(1*b7+(ab*cp+(1*e3+(ab*z51+0))))))+0) bk λdA=>bg ((1*bM+(1*cw+(1*b7+(ab*cp+(1*z46+(1*dz+(1*dL+(ab*z49+(1*e3+(ab*z51+(ab*dA+0)))))))))))+0) bk λz53=>bg ((1*z51+(1*dA+(1*z53+0)))+0) bk λeX=>eo kt (((1*z3+0)+0)*((1*z4+0)+0)) λff=>aq 0 jo ((1*ff+0)+0) bk λe4=>bg ((1*aG+(1*aS+(1*ba+(ab*aW+(ab*bm+(1*bW+(1*z24+(1*cr+(ab*z26+(1*b5+(ab*z28+(ab*cl+(ab*cA+(1*cU+(1*cO+(1*z40+(ab*c2+(ab*db+(ab*dc+(1*ff+(ab*e4+0)))))))))))))))))))))+0) bk λdm=>eo kt (((1*z3+0)+0)*((1*z5+0)+0)) λfh=>aq 0 jo ((1*fh+0)+0) bk λz59=>bg ((1*aW+(1*bm+(1*z28+(1*cl+(1*cA+(ab*z31+(1*bj+(ab*bM+(ab*cw+(ab*b7+(1*c2+(1*db+(1*dc+(ab*eh+(1*dC+(ab*z46+(ab*dz+(ab*dL+(1*fh+(ab*z59+0))))))))))))))))))))+0) bk λfH=>bg ((1*aW+(1*bm+(1*z28+(1*cl+(1*cA+(ab*z31+(1*bj+(ab*bM+(ab*cw+(ab*b7+(1*c2+(1*db+(1*dc+(ab*eh+(1*dC+(ab*z46+(ab*dz+(ab*dL+(1*e4+(1*dm+(1*fh+(ab*z59+(ab*fH+0)))))))))))))))))))))))+0) bk λfQ=>bg ((1*z59+(1*fH+(1*fQ+0)))+0) bk λfR=>eo kt (((1*z3+0)+0)*((1*aZ+0)+0)) λew=>aq 0 jo ((1*ew+0)+0) bk λfI=>bg ((1*bM+(1*cw+(1*b7+(ab*cp+(1*z46+(1*dz+(1*dL+(ab*z49+(1*e3+(ab*z51+(ab*dA+(ab*z53+(1*ew+(ab*fI+0))))))))))))))+0) bk λgD=>bg ((1*bM+(1*cw+(1*b7+(ab*cp+(1*z46+(1*dz+(1*dL+(ab*z49+(1*e3+(ab*z51+(ab*dA+(ab*z53+(1*z59+(1*fH+(1*fQ+(ab*fR+(1*ew+(ab*fI+(ab*gD+0)))))))))))))))))))+0) bk λgE=>bg ((1*fI+(1*gD+(1*gE+0)))+0) bk λgg=>eo kt (((1*z3+0)+0)*((1*aK+0)+0)) λgh=>aq 0 jo ((1*gh+0)+0) bk λgn=>bg ((1*z51+(1*dA+(1*z53+(ab*eX+(1*gh+(ab*gn+0))))))+0) bk λz70=>bg ((1*z51+(1*dA+(1*z53+(ab*eX+(1*fI+(1*gD+(1*gE+(ab*gg+(1*gh+(ab*gn+(ab*z70+0)))))))))))+0) bk λgM=>bg ((1*gn+(1*z70+(1*gM+0)))+0) bk λz72=>K [z0,ar,z2,z3,z4,z5,aZ,aK] [((1*aF+(ab*z9+0))+0),((1*z9+(1*aY+(ab*aN+(ab*z12+(1*bp+(ab*z20+(ab*z21+0)))))))+0),((1*aN+(1*z12+(1*a1+(ab*aG+(ab*aS+(1*z20+(1*z21+(1*z22+(ab*bW+(ab*z24+(ab*cr+(1*z37+(ab*cU+(ab*cO+0))))))))))))))+0),((1*aG+(1*aS+(1*ba+(ab*aW+(ab*bm+(1*bW+(1*z24+(1*cr+(ab*z26+(1*b5+(ab*z28+(ab*cl+(ab*cA+(1*cU+(1*cO+(1*z40+(ab*c2+(ab*db+(ab*dc+(1*ff+(ab*e4+(ab*dm+0))))))))))))))))))))))+0),((1*aW+(1*bm+(1*z28+(1*cl+(1*cA+(ab*z31+(1*bj+(ab*bM+(ab*cw+(ab*b7+(1*c2+(1*db+(1*dc+(ab*eh+(1*dC+(ab*z46+(ab*dz+(ab*dL+(1*e4+(1*dm+(1*fh+(ab*z59+(ab*fH+(ab*fQ+0))))))))))))))))))))))))+0),((1*bM+(1*cw+(1*b7+(ab*cp+(1*z46+(1*dz+(1*dL+(ab*z49+(1*e3+(ab*z51+(ab*dA+(ab*z53+(1*z59+(1*fH+(1*fQ+(ab*fR+(1*ew+(ab*fI+(ab*gD+(ab*gE+0))))))))))))))))))))+0),((1*z51+(1*dA+(1*z53+(ab*eX+(1*fI+(1*gD+(1*gE+(ab*gg+(1*gh+(ab*gn+(ab*z70+(ab*gM+0))))))))))))+0),((1*gn+(1*z70+(1*gM+(ab*z72+0))))+0)]
theorem aMM:aas cQ λzs rs=>ay (aX DS.res) rs/\cQ 21 zs rs:=by
 simp(maxSteps:=4000000) only[aas,eo,aI,aq,bg,ab,bk,kt,jo];simp only[wJ,wI,CE];intro z0 lb sa ar l1 kY z2 l2 rb z3 n7 yX z4 xn XK z5 q1 auD aZ ara auE aK IW auO aF yu u8 arY z9 yv XN a9 hH aY Vq Xi arK aN xm Xj hS hV z12 Vs Xk a12 ow a1 Vt Xl arL aG Vu Xm pA pD aS FX Xn iM iP ba Vv u16 arM aW Vw Xo iN iQ bm Vx Xp jB jE bp Vy Xq arN z20 Vz Xr a20 iB z21 VA Xs a21 iu z22 VB Xt arO bW VC Xu iz eR z24 VD Xv a24 gA cr VE Xw je jh z26 VF Xx a26 ji b5 VG Xy arP z28 VH Xz a28 j8 cl VI XA jD jG cA VJ XB jT jH z31 VK XC a31 km bj LK u32 m32 bM IT XD hT hX cw VL XE iA iC b7 BU XF iq iv cp IU XG hE hG z37 VM XH arQ cU VN XI hU hZ cO VO XJ ir iw z40 VP XL arR c2 afl aia sj sm db afm aib qD mA dc afn aic u2 u9 eh afo aid u3 va dC afp aie arS z46 afq aif a46 zp dz afr aih u4 vb dL afs aii u5 vc z49 aft aij a49 vd e3 afu aik arT z51 afv ail a51 wT dA afw aim u6 ve z53 afx ain a53 wU eX afy aio wN wV ff afz aip arU e4 afA aiq u7 vf dm afB air tL sn fh afC ais arV z59 afD ait a59 wW fH arb auF zf zr fQ arc auG zg zt fR ard auH x3 x5 ew arf auI arW fI IV u64 j7 zu gD arh auJ zh zv gE ari auK zi zw gg arj auL zj zx gh VQ auM arX gn ark auN A8 Bi z70 arl auP a70 Bj gM VR auQ A9 Bk z72 arn auR a72 Bl;have Eu:=s8 yu u8 arY;have Ev:=gB yv XN a9 hH;have Er:=s8 Vq Xi arK;have GA:=gB xm Xj hS hV
 have JE:=gB Vs Xk a12 ow;have Es:=s8 Vt Xl arL;have MD:=gB Vu Xm pA pD;have GB:=gB FX Xn iM iP
 have GC:=s8 Vv u16 arM;have GD:=gB Vw Xo iN iQ;have AK:=gB Vx Xp jB jE;have GF:=s8 Vy Xq arN
 have GG:=gB Vz Xr a20 iB;have Cp:=gB VA Xs a21 iu;have Cq:=s8 VB Xt arO;have ME:=gB VC Xu iz eR
 have MF:=gB VD Xv a24 gA;have GH:=gB VE Xw je jh;have Cr:=gB VF Xx a26 ji;have Cs:=s8 VG Xy arP
 have MG:=gB VH Xz a28 j8;have MH:=gB VI XA jD jG;have Ct:=gB VJ XB jT jH;have Cu:=gB VK XC a31 km
 have Et:=s8 LK u32 m32;have XR:=gB IT XD hT hX;have XS:=gB VL XE iA iC;have GI:=gB BU XF iq iv
 have GJ:=gB IU XG hE hG;have MI:=s8 VM XH arQ;have MJ:=gB VN XI hU hZ;have GK:=gB VO XJ ir iw
 have GL:=s8 VP XL arR;have XT:=gB afl aia sj sm;have XU:=gB afm aib qD mA;have MK:=gB afn aic u2 u9
 have GM:=gB afo aid u3 va;have GN:=s8 afp aie arS;have RW:=gB afq aif a46 zp;have XV:=gB afr aih u4 vb
 have GO:=gB afs aii u5 vc;have GP:=gB aft aij a49 vd;have GQ:=s8 afu aik arT;have XW:=gB afv ail a51 wT
 have XX:=gB afw aim u6 ve;have GR:=gB afx ain a53 wU;have GS:=gB afy aio wN wV;have ML:=s8 afz aip arU
 have MM:=gB afA aiq u7 vf;have GU:=gB afB air tL sn;have GV:=s8 afC ais arV;have XY:=gB afD ait a59 wW
 have aVR:=gB arb auF zf zr;have RZ:=gB arc auG zg zt;have R0:=gB ard auH x3 x5;have R1:=s8 arf auI arW
 have aVS:=gB IV u64 j7 zu;have aVT:=gB arh auJ zh zv;have R2:=gB ari auK zi zw;have R3:=gB arj auL zj zx
 have R4:=s8 VQ auM arX;have aVU:=gB ark auN A8 Bi;have aVV:=gB arl auP a70 Bj;have R6:=gB VR auQ A9 Bk
 have R7:=gB arn auR a72 Bl;clear yu u8 arY yv XN a9 hH Vq Xi arK xm Xj hS hV Vs Xk a12 ow Vt Xl arL Vu Xm pA pD FX Xn iM iP Vv u16 arM Vw Xo iN iQ Vx Xp jB jE Vy Xq arN Vz Xr a20 iB VA Xs a21 iu VB Xt arO VC Xu iz eR VD Xv a24 gA VE Xw je jh VF Xx a26 ji VG Xy arP VH Xz a28 j8 VI XA jD jG VJ XB jT jH VK XC a31 km LK u32 m32 IT XD hT hX VL XE iA iC BU XF iq iv IU XG hE hG VM XH arQ VN XI hU hZ VO XJ ir iw VP XL arR afl aia sj sm afm aib qD mA afn aic u2 u9 afo aid u3 va afp aie arS afq aif a46 zp afr aih u4 vb afs aii u5 vc aft aij a49 vd afu aik arT afv ail a51 wT afw aim u6 ve afx ain a53 wU afy aio wN wV afz aip arU afA aiq u7 vf afB air tL sn afC ais arV afD ait a59 wW arb auF zf zr arc auG zg zt ard auH x3 x5 arf auI arW IV u64 j7 zu arh auJ zh zv ari auK zi zw arj auL zj zx VQ auM arX ark auN A8 Bi arl auP a70 Bj VR auQ A9 Bk arn auR a72 Bl;have De:z26=0:=by have:=GB.h.2.2.2;have:=GG.h.2.1;have:=Cp.h.2.1;have:=Cq.h.2.1;have:=GH.h.2.2.1;have:=Cr.h;omega
 have TK:z31=0:=by have:=AK.h.2.2.2;have:=Cr.h.2.2.2;have:=Cs.h.2.1;have:=Ct.h.2.2.1;have:=Cu.h;omega
 have KF:cp=0:=by have:=GD.h.2.1;have:=AK.h.2.1;have:=Cu.h.2.2.2;have:=Et.h.2.1;have:=GI.h.2.2.1;have:=GJ.h;omega
 have Df:eh=0:=by have:=Ct.h.2.2.2;have:=MJ.h.2.1;have:=GK.h.2.1;have:=GL.h.2.1;have:=MK.h.2.2.1;have:=GM.h;omega
 have Ob:z49=0:=by have:=GI.h.2.2.2;have:=GM.h.2.2.2;have:=GN.h.2.1;have:=GO.h.2.2.1;have:=GP.h;omega
 have KI:eX=0:=by have:=GJ.h.2.2.2;have:=GP.h.2.2.2;have:=GQ.h.2.1;have:=GR.h.2.2.1;have:=GS.h;omega
 have HJ:fR=0:=by have:=GO.h.2.2.2;have:=MM.h.2.1;have:=GU.h.2.1;have:=GV.h.2.1;have:=RZ.h.2.2.1;have:=R0.h;omega
 have TS:gg=0:=by have:=GR.h.2.2.2;have:=R0.h.2.2.2;have:=R1.h.2.1;have:=R2.h.2.2.1;have:=R3.h;omega
 have TT:z72=0:=by have:=GS.h.2.2.2;have:=R3.h.2.2.2;have:=R4.h.2.1;have:=R6.h.2.2.1;have:=R7.h;omega
 refine⟨?_,?_⟩
 ·simp only[DS,aX,y0,D.bds,aT,j4,eQ,gO,ay,and_true];clear De TK KF Df Ob KI HJ TS TT;exact⟨by have:=Ev.h;omega,by have:=Ev.h;omega,by have:=Cp.h;omega,by have:=Cp.h;omega,by have:=GK.h;omega,by have:=GK.h;omega,by have:=GU.h;omega,by have:=GU.h;omega,by have:=RZ.h;omega,by have:=RZ.h;omega,by have:=R2.h;omega,by have:=R2.h;omega,by have:=R6.h;omega,by have:=R6.h;omega,by have:=R7.h;omega,by have:=R7.h;omega⟩
 ·simp only[cQ,yR,num,l5,qy,tI,jA];rw[agP,<-Eu.h.2.2,<-Er.h.2.2,<-Es.h.2.2,<-GC.h.2.2,<-GF.h.2.2,<-Cq.h.2.2,<-Cs.h.2.2,<-Et.h.2.2,<-MI.h.2.2,<-GL.h.2.2,<-GN.h.2.2,<-GQ.h.2.2,<-ML.h.2.2,<-GV.h.2.2,<-R1.h.2.2,<-R4.h.2.2]
  skip
  omega
def aak (S:Nat->List Int->List Int->Prop) (K:List Int->List Int->Prop):Prop:=aI λz0=>aI λar=>aI λz2=>aI λz3=>aI λz4=>aI λz5=>aI λaZ=>aI λaK=>aq 0 15 ((1*z3+0)+0) xi λaF=>aq 0 15 ((1*z3+0)+0) xi λz9=>aq 0 15 ((16*z4+0)+0) bk λaY=>aq 0 15 ((1*z4+0)+0) xi λaN=>aq 0 15 ((16*z5+0)+0) bk λz12=>aq 0 15 ((1*z5+0)+0) xi λa1=>aq 0 15 ((16*aZ+0)+0) bk λaG=>aq 0 15 ((1*aZ+0)+0) xi λaS=>aq 0 15 ((16*aK+0)+0) bk λba=>aq 0 15 ((1*aK+0)+0) xi λaW=>aq 0 PG ((nr*z4+(jq*z9+(nq*aY+0)))+0) bk λbm=>aq 0 PG ((nr*z5+(jq*aN+(nq*z12+0)))+0) bk λbp=>bg ((nr*z5+(jq*aN+(nq*z12+(1*bm+(ab*bp+0)))))+0) bk λz20=>aq 0 PG ((nr*aZ+(jq*a1+(nq*aG+0)))+0) bk λz21=>bg ((nr*aZ+(jq*a1+(nq*aG+(1*bp+(1*z20+(ab*z21+0))))))+0) bk λz22=>aq 0 PG ((nr*aK+(jq*aS+(nq*ba+0)))+0) bk λbW=>bg ((nr*aK+(jq*aS+(nq*ba+(1*z21+(1*z22+(ab*bW+0))))))+0) bk λz24=>aq 0 5 ((jq*aW+0)+0) bk λcr=>bg ((jq*aW+(1*bW+(1*z24+(ab*cr+0))))+0) bk λz26=>aq 0 PH ((n0*z4+(j0*z9+(nZ*aY+0)))+0) bk λb5=>bg ((n0*z4+(nr*z5+(j0*z9+(nZ*aY+(jq*aN+(nq*z12+(1*bm+(ab*bp+(ab*z20+(ab*b5+0))))))))))+0) bk λz28=>aq 0 PH ((n0*z5+(j0*aN+(nZ*z12+0)))+0) bk λcl=>bg ((n0*z5+(nr*aZ+(j0*aN+(nZ*z12+(jq*a1+(nq*aG+(1*bp+(1*z20+(ab*z21+(ab*z22+(ab*cl+0)))))))))))+0) bk λcA=>bg ((n0*z5+(nr*aZ+(j0*aN+(nZ*z12+(jq*a1+(nq*aG+(1*bp+(1*z20+(ab*z21+(ab*z22+(1*b5+(1*z28+(ab*cl+(ab*cA+0))))))))))))))+0) bk λz31=>aq 0 PH ((n0*aZ+(j0*a1+(nZ*aG+0)))+0) bk λbj=>bg ((n0*aZ+(nr*aK+(j0*a1+(nZ*aG+(jq*aS+(nq*ba+(1*z21+(1*z22+(ab*bW+(ab*z24+(ab*bj+0)))))))))))+0) bk λbM=>bg ((n0*aZ+(nr*aK+(j0*a1+(nZ*aG+(jq*aS+(nq*ba+(1*z21+(1*z22+(ab*bW+(ab*z24+(1*cl+(1*cA+(1*z31+(ab*bj+(ab*bM+0)))))))))))))))+0) bk λcw=>aq 0 PH ((n0*aK+(j0*aS+(nZ*ba+0)))+0) bk λb7=>bg ((n0*aK+(j0*aS+(nZ*ba+(jq*aW+(1*bW+(1*z24+(ab*cr+(ab*z26+(ab*b7+0)))))))))+0) bk λcp=>bg ((n0*aK+(j0*aS+(nZ*ba+(jq*aW+(1*bW+(1*z24+(ab*cr+(ab*z26+(1*bj+(1*bM+(1*cw+(ab*b7+(ab*cp+0)))))))))))))+0) bk λz37=>bg ((j0*aW+0)+0) bk λcU=>bg ((j0*aW+(1*cr+(1*z26+(ab*cU+0))))+0) bk λcO=>bg ((j0*aW+(1*cr+(1*z26+(1*b7+(1*cp+(1*z37+(ab*cU+(ab*cO+0))))))))+0) bk λz40=>((((K [z0,ar,z2,z3,z4,z5,aZ,aK] [((1*z0+0)+0),((1*ar+0)+0),((1*z2+0)+0),((1*z3+(U0*aF+0))+0),((nr*z4+(jq*z9+(nq*aY+(ab*bm+0))))+0),((n0*z4+(nr*z5+(j0*z9+(nZ*aY+(jq*aN+(nq*z12+(1*bm+(ab*bp+(ab*z20+(ab*b5+(ab*z28+0)))))))))))+0),((n0*z5+(nr*aZ+(j0*aN+(nZ*z12+(jq*a1+(nq*aG+(1*bp+(1*z20+(ab*z21+(ab*z22+(1*b5+(1*z28+(ab*cl+(ab*cA+(ab*z31+0)))))))))))))))+0),((n0*aZ+(nr*aK+(j0*a1+(nZ*aG+(jq*aS+(nq*ba+(1*z21+(1*z22+(ab*bW+(ab*z24+(1*cl+(1*cA+(1*z31+(ab*bj+(ab*bM+(ab*cw+0))))))))))))))))+0),((n0*aK+(j0*aS+(nZ*ba+(jq*aW+(1*bW+(1*z24+(ab*cr+(ab*z26+(1*bj+(1*bM+(1*cw+(ab*b7+(ab*cp+(ab*z37+0))))))))))))))+0),((j0*aW+(1*cr+(1*z26+(1*b7+(1*cp+(1*z37+(ab*cU+(ab*cO+(ab*z40+0)))))))))+0),((1*cU+(1*cO+(1*z40+0)))+0),(0+0)])/\(K [z0,ar,z2,z3,z4,z5,aZ,aK] [((1*z0+0)+0),((1*ar+0)+0),((1*z2+0)+0),((1*z3+(U0*aF+0))+0),((nr*z4+(jq*z9+(nq*aY+(ab*bm+0))))+0),((n0*z4+(nr*z5+(j0*z9+(nZ*aY+(jq*aN+(nq*z12+(1*bm+(ab*bp+(ab*z20+(ab*b5+(ab*z28+0)))))))))))+0),((n0*z5+(nr*aZ+(j0*aN+(nZ*z12+(jq*a1+(nq*aG+(1*bp+(1*z20+(ab*z21+(ab*z22+(1*b5+(1*z28+(ab*cl+(ab*cA+(ab*z31+0)))))))))))))))+0),((n0*aZ+(nr*aK+(j0*a1+(nZ*aG+(jq*aS+(nq*ba+(1*z21+(1*z22+(ab*bW+(ab*z24+(1*cl+(1*cA+(1*z31+(ab*bj+(ab*bM+(ab*cw+0))))))))))))))))+0),((n0*aK+(j0*aS+(nZ*ba+(jq*aW+(1*bW+(1*z24+(ab*cr+(ab*z26+(1*bj+(1*bM+(1*cw+(ab*b7+(ab*cp+(ab*z37+0))))))))))))))+0),((j0*aW+(1*cr+(1*z26+(1*b7+(1*cp+(1*z37+(ab*cU+(ab*cO+(ab*z40+0)))))))))+0),((1*cU+(1*cO+(1*z40+0)))+0),(0+0)])))/\(K [z0,ar,z2,z3,z4,z5,aZ,aK] [((1*z0+0)+0),((1*ar+0)+0),((1*z2+0)+0),((1*z3+(U0*aF+0))+0),((nr*z4+(jq*z9+(nq*aY+(ab*bm+0))))+0),((n0*z4+(nr*z5+(j0*z9+(nZ*aY+(jq*aN+(nq*z12+(1*bm+(ab*bp+(ab*z20+(ab*b5+(ab*z28+0)))))))))))+0),((n0*z5+(nr*aZ+(j0*aN+(nZ*z12+(jq*a1+(nq*aG+(1*bp+(1*z20+(ab*z21+(ab*z22+(1*b5+(1*z28+(ab*cl+(ab*cA+(ab*z31+0)))))))))))))))+0),((n0*aZ+(nr*aK+(j0*a1+(nZ*aG+(jq*aS+(nq*ba+(1*z21+(1*z22+(ab*bW+(ab*z24+(1*cl+(1*cA+(1*z31+(ab*bj+(ab*bM+(ab*cw+0))))))))))))))))+0),((n0*aK+(j0*aS+(nZ*ba+(jq*aW+(1*bW+(1*z24+(ab*cr+(ab*z26+(1*bj+(1*bM+(1*cw+(ab*b7+(ab*cp+(ab*z37+0))))))))))))))+0),((j0*aW+(1*cr+(1*z26+(1*b7+(1*cp+(1*z37+(ab*cU+(ab*cO+(ab*z40+0)))))))))+0),((1*cU+(1*cO+(1*z40+0)))+0),(0+0)]))
theorem aMq:aak cQ λzs rs=>ay (aX DF.res) rs/\cQ 35 zs rs:=by
 simp(maxSteps:=4000000) only[aak,aI,aq,bg,ab,bk,nq,nZ,U0,xi,PG,nr,jq,PH,n0,j0];simp only[wJ,wI,CE];intro z0 lb sa ar l1 kY z2 l2 rb z3 n7 yX z4 xn XK z5 q1 auD aZ ara auE aK IW auO aF yu u8 pB pE z9 yv XN a9 hH aY Vq Xi oT nL aN xm Xj hS hV z12 Vs Xk a12 ow a1 Vt Xl jd jg aG Vu Xm pA pD aS FX Xn iM iP ba Vv u16 qC qE aW Vw Xo iN iQ bm Vx Xp jB jE bp Vy Xq jC jF z20 Vz Xr a20 iB z21 VA Xs a21 iu z22 VB Xt a22 hW bW VC Xu iz eR z24 VD Xv a24 gA cr VE Xw je jh z26 VF Xx a26 ji b5 VG Xy jf jj z28 VH Xz a28 j8 cl VI XA jD jG cA VJ XB jT jH z31 VK XC a31 km bj LK u32 cN jI bM IT XD hT hX cw VL XE iA iC b7 BU XF iq iv cp IU XG hE hG z37 VM XH a37 jk cU VN XI hU hZ cO VO XJ ir iw z40 VP XL a40 j9;have tS:aF=z9:=JA (by decide) pB pE a9 hH;have Ff:aY=aN:=W6 oT nL hS hV;have Fg:z12=a1:=W6 a12 ow jd jg;have By:aG=aS:=W6 pA pD iM iP;have tR:ba=aW:=W6 qC qE iN iQ;subst tS;subst Ff;subst Fg;subst By;subst tR;refine⟨⟨?_,?_⟩,?_⟩<;>
 ·simp only[DF,aX,ij,y0,D.bds,aT,j4,eQ,gO,ay,and_true,cQ,vO,num,l5,qy,tI,jA];have an:(z0+0x10000000000000000*(ar+0x10000000000000000*(z2+0x10000000000000000*(z3+0x10000000000000000*(z4+0x10000000000000000*(z5+0x10000000000000000*(aZ+0x10000000000000000*(aK+0x10000000000000000*0))))))))/0x1000000000000000000000000000000000000000000000000000000000000000=aF+16*(z4+0x10000000000000000*(z5+0x10000000000000000*(aZ+0x10000000000000000*aK))):=by
   clear jB jE jC jF a20 iB a21 iu a22 hW iz eR a24 gA je jh a26 ji jf jj a28 j8 jD jG jT jH a31 km cN jI hT hX iA iC iq iv hE hG a37 jk hU hZ ir iw a40 j9;omega
  refine⟨⟨lb,sa,l1,kY,l2,rb,by clear an hS hV jd jg iM iP iN iQ jB jE jC jF a20 iB a21 iu a22 hW iz eR a24 gA je jh a26 ji jf jj a28 j8 jD jG jT jH a31 km cN jI hT hX iA iC iq iv hE hG a37 jk hU hZ ir iw a40 j9;omega,by clear an hS hV jd jg iM iP iN iQ jB jE jC jF a20 iB a21 iu a22 hW iz eR a24 gA je jh a26 ji jf jj a28 j8 jD jG jT jH a31 km cN jI hT hX iA iC iq iv hE hG a37 jk hU hZ ir iw a40 j9;omega,by clear an a9 hH hS hV jd jg iM iP iN iQ jC jF a20 iB a21 iu a22 hW iz eR a24 gA je jh a26 ji jf jj a28 j8 jD jG jT jH a31 km cN jI hT hX iA iC iq iv hE hG a37 jk hU hZ ir iw a40 j9;omega,by clear an a9 hH hS hV jd jg iM iP iN iQ jC jF a20 iB a21 iu a22 hW iz eR a24 gA je jh a26 ji jf jj a28 j8 jD jG jT jH a31 km cN jI hT hX iA iC iq iv hE hG a37 jk hU hZ ir iw a40 j9;omega,by clear an a9 hH hS hV jd jg iM iP iN iQ jB jE jC jF a20 iB a21 iu a22 hW iz eR a24 gA je jh a26 ji jf jj jD jG jT jH a31 km cN jI hT hX iA iC iq iv hE hG a37 jk hU hZ ir iw a40 j9;omega,by clear an a9 hH hS hV jd jg iM iP iN iQ jB jE jC jF a20 iB a21 iu a22 hW iz eR a24 gA je jh a26 ji jf jj jD jG jT jH a31 km cN jI hT hX iA iC iq iv hE hG a37 jk hU hZ ir iw a40 j9;omega,by clear an a9 hH hS hV jd jg iM iP iN iQ jB jE jC jF a20 iB a21 iu a22 hW iz eR a24 gA je jh a26 ji jf jj a28 j8 jD jG jT jH cN jI hT hX iA iC iq iv hE hG a37 jk hU hZ ir iw a40 j9;omega,by clear an a9 hH hS hV jd jg iM iP iN iQ jB jE jC jF a20 iB a21 iu a22 hW iz eR a24 gA je jh a26 ji jf jj a28 j8 jD jG jT jH cN jI hT hX iA iC iq iv hE hG a37 jk hU hZ ir iw a40 j9;omega,by clear an a9 hH hS hV jd jg iM iP iN iQ jB jE jC jF a20 iB a21 iu a22 hW iz eR a24 gA je jh a26 ji jf jj a28 j8 jD jG jT jH a31 km cN jI hT hX iq iv hE hG a37 jk hU hZ ir iw a40 j9;omega,by clear an a9 hH hS hV jd jg iM iP iN iQ jB jE jC jF a20 iB a21 iu a22 hW iz eR a24 gA je jh a26 ji jf jj a28 j8 jD jG jT jH a31 km cN jI hT hX iq iv hE hG a37 jk hU hZ ir iw a40 j9;omega,by clear an a9 hH hS hV jd jg iM iP iN iQ jB jE jC jF a20 iB a21 iu a22 hW iz eR a24 gA je jh a26 ji jf jj a28 j8 jD jG jT jH a31 km cN jI hT hX iA iC iq iv hE hG hU hZ ir iw a40 j9;omega,by clear an a9 hH hS hV jd jg iM iP iN iQ jB jE jC jF a20 iB a21 iu a22 hW iz eR a24 gA je jh a26 ji jf jj a28 j8 jD jG jT jH a31 km cN jI hT hX iA iC iq iv hE hG hU hZ ir iw a40 j9;omega,by clear an a9 hH hS hV jd jg iM iP iN iQ jB jE jC jF a20 iB a21 iu a22 hW iz eR a24 gA je jh a26 ji jf jj a28 j8 jD jG jT jH a31 km cN jI hT hX iA iC iq iv hE hG a37 jk hU hZ ir iw;omega,by clear an a9 hH hS hV jd jg iM iP iN iQ jB jE jC jF a20 iB a21 iu a22 hW iz eR a24 gA je jh a26 ji jf jj a28 j8 jD jG jT jH a31 km cN jI hT hX iA iC iq iv hE hG a37 jk hU hZ ir iw;omega,by clear an a9 hH hS hV jd jg iM iP iN iQ jB jE jC jF a20 iB a21 iu a22 hW iz eR a24 gA je jh a26 ji jf jj a28 j8 jD jG jT jH a31 km cN jI hT hX iA iC iq iv hE hG a37 jk hU hZ ir iw a40 j9;omega,by clear an a9 hH hS hV jd jg iM iP iN iQ jB jE jC jF a20 iB a21 iu a22 hW iz eR a24 gA je jh a26 ji jf jj a28 j8 jD jG jT jH a31 km cN jI hT hX iA iC iq iv hE hG a37 jk hU hZ ir iw a40 j9;omega,by decide,by decide⟩,?_,?_⟩
  ·rw[Int.emod_def,an];clear an a9 hH hS hV jd jg iM iP iN iQ jB jE jC jF a20 iB a21 iu a22 hW iz eR a24 gA je jh a26 ji jf jj a28 j8 jD jG jT jH a31 km cN jI hT hX iA iC iq iv hE hG a37 jk hU hZ ir iw a40 j9;omega
  ·rw[an];clear an a9 hH hS hV jd jg iM iP iN iQ jB jE jC jF a20 iB a21 iu a22 hW iz eR a24 gA je jh a26 ji jf jj a28 j8 jD jG jT jH a31 km cN jI hT hX iA iC iq iv hE hG a37 jk hU hZ ir iw a40 j9;omega
def aal (S:Nat->List Int->List Int->Prop) (K:List Int->List Int->Prop):Prop:=aI λz0=>aI λar=>aI λz2=>aI λz3=>aI λz4=>aI λz5=>aI λaZ=>aI λaK=>S 23 [((1*z0+0)+0),((1*ar+0)+0),((1*z2+0)+0),((1*z3+0)+0),(0+0),(0+0),(0+0),(0+0)] [z4,z5,aZ,aK]->K [z0,ar,z2,z3] [((1*z4+0)+0),((1*z5+0)+0),((1*aZ+0)+0),((1*aK+0)+0)]
theorem aMD:aal cQ λzs rs=>ay (aX DQ.res) rs/\cQ 25 zs rs:=by
 simp(maxSteps:=4000000) only[aal,aI];simp(maxSteps:=4000000) only[wJ,wI,CE];intro z0 a0 dM ar bR b4 z2 a2 cg z3 a3 dh z4 a4 ox z5 a5 nM aZ rp rq aK sk so aL;simp(maxSteps:=2000000) only[cQ,uH,yN,yO,q8,q9,uG,yR,vO,yM,AH,uJ,yQ,uI,yP,xz,AG,xA,xB,yS,xC,l5,qy,tI,jA,gp,hq]at aL;rw[aI8]at aL;refine⟨?_,?_⟩
 ·simp only[DQ,aX,ij,D.bds,aT,j4,eQ,gO,ay,and_true];exact⟨a4,ox,a5,nM,rp,rq,sk,so⟩
 ·exact aL
def aau (S:Nat->List Int->List Int->Prop) (K:List Int->List Int->Prop):Prop:=aI λz0=>aI λar=>aI λz2=>aI λz3=>aI λz4=>aI λz5=>aI λaZ=>aI λaK=>aI λaF=>aI λz9=>aI λaY=>aI λaN=>aI λz12=>aI λa1=>aI λaG=>aI λaS=>aI λba=>aI λaW=>aI λbm=>aI λbp=>S 35 [((1*z0+0)+0),((1*ar+0)+0),((1*z2+0)+0),((1*z3+0)+0),((1*z4+0)+0),((1*z5+0)+0),((1*aZ+0)+0),((1*aK+0)+0)] [aF,z9,aY,aN,z12,a1,aG,aS,ba,aW,bm,bp]->aI λz20=>aI λz21=>aI λz22=>aI λbW=>dI λz24=>S 24 [(0+0),(0+0),(0+0),(0+0),((1*aF+0)+0),((1*z9+0)+0),((1*aY+0)+0),((1*aN+0)+0)] [z20,z21,z22,bW,z24]->aI λcr=>aI λz26=>aI λb5=>aI λz28=>aI λcl=>aI λcA=>aI λz31=>aI λbj=>aI λbM=>aI λcw=>aI λb7=>aI λcp=>S 35 [((1*z12+0)+0),((1*a1+0)+0),((1*aG+0)+0),((1*aS+0)+0),((1*ba+0)+0),((1*aW+0)+0),((1*bm+0)+0),((1*bp+0)+0)] [cr,z26,b5,z28,cl,cA,z31,bj,bM,cw,b7,cp]->aI λz37=>aI λcU=>aI λcO=>aI λz40=>dI λc2=>S 24 [((1*z20+0)+0),((1*z21+0)+0),((1*z22+0)+0),((1*bW+0)+0),(0+jq),(0+j0),(0+0),(0+xi)] [z37,cU,cO,z40,c2]->aI λdb=>aI λdc=>aI λeh=>aI λdC=>dI λz46=>S 29 [((1*z37+0)+0),((1*cU+0)+0),((1*cO+0)+0),((1*z40+0)+0),((1*cr+0)+0),((1*z26+0)+0),((1*b5+0)+0),((1*z28+0)+0)] [db,dc,eh,dC,z46]->aI λdz=>aI λdL=>aI λz49=>aI λe3=>aI λz51=>aI λdA=>aI λz53=>aI λeX=>aI λff=>aI λe4=>aI λdm=>aI λfh=>S 35 [((1*cl+0)+0),((1*cA+0)+0),((1*z31+0)+0),((1*bj+0)+0),((1*bM+0)+0),((1*cw+0)+0),((1*b7+0)+0),((1*cp+0)+0)] [dz,dL,z49,e3,z51,dA,z53,eX,ff,e4,dm,fh]->aI λz59=>aI λfH=>aI λfQ=>aI λfR=>dI λew=>S 24 [((1*db+0)+0),((1*dc+0)+0),((1*eh+0)+0),((1*dC+0)+0),((1*dz+0)+0),((1*dL+0)+0),((1*z49+0)+0),((1*e3+0)+0)] [z59,fH,fQ,fR,ew]->aI λfI=>aI λgD=>aI λgE=>aI λgg=>aI λgh=>aI λgn=>aI λz70=>aI λgM=>aI λz72=>aI λfZ=>aI λm1=>aI λz75=>S 35 [((1*z51+0)+0),((1*dA+0)+0),((1*z53+0)+0),((1*eX+0)+0),((1*ff+0)+0),((1*e4+0)+0),((1*dm+0)+0),((1*fh+0)+0)] [fI,gD,gE,gg,gh,gn,z70,gM,z72,fZ,m1,z75]->aI λz76=>aI λlN=>aI λlg=>aI λlh=>dI λmm=>S 24 [((1*z59+0)+0),((1*fH+0)+0),((1*fQ+0)+0),((1*fR+0)+0),(0+jq),(0+j0),(0+0),(0+xi)] [z76,lN,lg,lh,mm]->aI λnG=>aI λl0=>aI λkK=>aI λmn=>dI λz85=>S 29 [((1*z76+0)+0),((1*lN+0)+0),((1*lg+0)+0),((1*lh+0)+0),((1*fI+0)+0),((1*gD+0)+0),((1*gE+0)+0),((1*gg+0)+0)] [nG,l0,kK,mn,z85]->∃(Z1:List Int->Prop) (awI:List Int->Nat),Z1 [((1*nG+0)+0),((1*l0+0)+0),((1*kK+0)+0),((1*mn+0)+0)]/\(aI λz87=>aI λoj=>aI λl3=>aI λoO=>Z1 [z87,oj,l3,oO]->aI λz91=>aI λmq=>aI λz93=>aI λly=>dI λoP=>S 29 [((1*z87+0)+0),((1*oj+0)+0),((1*l3+0)+0),((1*oO+0)+0),(0+jq),(0+j0),(0+0),(0+xi)] [z91,mq,z93,ly,oP]->(((decide (((1*oP+0)+0)=(0+1)))=true->K [z0,ar,z2,z3,z4,z5,aZ,aK] [((1*z87+0)+0),((1*oj+0)+0),((1*l3+0)+0),((1*oO+0)+0)])/\((decide (((1*oP+0)+0)=(0+1)))=false->(Z1 [((1*z91+0)+0),((1*mq+0)+0),((1*z93+0)+0),((1*ly+0)+0)]/\awI [((1*z91+0)+0),((1*mq+0)+0),((1*z93+0)+0),((1*ly+0)+0)]<awI [z87,oj,l3,oO]))))
theorem aM0:aau cQ λzs rs=>ay (aX xk.res) rs/\cQ 23 zs rs:=by
 simp(maxSteps:=4000000) only[aau,aI,dI,xi,jq,j0];simp(maxSteps:=4000000) only[wJ,wI,CE];intro z0 a0 dM ar bR b4 z2 a2 cg z3 a3 dh z4 a4 ox z5 a5 nM aZ rp rq aK sk so aF pB pE z9 a9 hH aY oT nL aN hS hV z12 a12 ow a1 jd jg aG pA pD aS iM iP ba qC qE aW iN iQ bm jB jE bp jC jF aL z20 a20 iB z21 a21 iu z22 a22 hW bW iz eR z24 a24 gA s1 cr je jh z26 a26 ji b5 jf jj z28 a28 j8 cl jD jG cA jT jH z31 a31 km bj cN jI bM hT hX cw iA iC b7 iq iv cp hE hG s2 z37 a37 jk cU hU hZ cO ir iw z40 a40 j9 c2 sj sm bx db qD mA dc u2 u9 eh u3 va dC zd zo z46 a46 zp cG dz u4 vb dL u5 vc z49 a49 vd e3 ze zq z51 a51 wT dA u6 ve z53 a53 wU eX wN wV ff A6 Bg e4 u7 vf dm tL sn fh A7 Bh er z59 a59 wW fH zf zr fQ zg zt fR x3 x5 ew Hd Hn eW fI j7 zu gD zh zv gE zi zw gg zj zx gh He E2 gn A8 Bi z70 a70 Bj gM A9 Bk z72 a72 Bl fZ ET Bm m1 Hf Ho z75 a75 E3 gm z76 a76 Bn lN CY C4 lg CZ C5 lh C0 C6 mm Hg Hp hO nG C1 C7 l0 Ba Bo kK Bb Bp mn Bc Bq z85 a85 E4 jx;simp(maxSteps:=2000000) only[cQ,uH,yN,yO,q8,q9,uG,yR,vO,yM,AH,uJ,yQ,uI,yP,xz,AG,xA,xB,yS,xC,l5,qy,tI,jA,gp,hq]at aL s1 s2 bx cG er eW gm hO jx;simp only[agh,aI7]at*;have V2:=mG a20 iB a21 iu a22 hW iz eR;have af8:=mG a37 jk hU hZ ir iw a40 j9;have asf:=mG qD mA u2 u9 u3 va zd zo;have asg:=mG a59 wW zf zr zg zt x3 x5;have ash:=mG a76 Bn CY C4 CZ C5 C0 C6;have asi:=mG C1 C7 Ba Bo Bb Bp Bc Bq;have V3:=mG pB pE a9 hH oT nL hS hV;have ase:=mG je jh a26 ji jf jj a28 j8;have aIU:=mG u4 vb u5 vc a49 vd ze zq;have aIV:=mG j7 zu zh zv zi zw zj zx;have e9:=aI6 a0 dM bR b4 a2 cg a3 dh a4 ox a5 nM rp rq sk so;obtain⟨f0,g0⟩:=aL;obtain⟨f2,g2⟩:=s2;obtain⟨f5,g5⟩:=er;obtain⟨f7,g7⟩:=gm;refine⟨λl=>(ad l-ad [z0,ar,z2,z3,z4,z5,aZ,aK])% 0x1000000000000000000000000000000014def9dea2f79cd65812631a5cf5d3ed=0,λl=>(ad l).toNat,?_,?_⟩
 ·show(ad _-ad _)% 0x1000000000000000000000000000000014def9dea2f79cd65812631a5cf5d3ed=0;clear a0 dM bR b4 a2 cg a3 dh a4 ox a5 nM rp rq sk so pB pE a9 hH oT nL hS hV a12 ow jd jg pA pD iM iP qC qE iN iQ jB jE jC jF a20 iB a21 iu a22 hW iz eR je jh a26 ji jf jj a28 j8 jD jG jT jH a31 km cN jI hT hX iA iC iq iv hE hG a37 jk hU hZ ir iw a40 j9 qD mA u2 u9 u3 va zd zo u4 vb u5 vc a49 vd ze zq a51 wT u6 ve a53 wU wN wV A6 Bg u7 vf tL sn A7 Bh a59 wW zf zr zg zt x3 x5 j7 zu zh zv zi zw zj zx He E2 A8 Bi a70 Bj A9 Bk a72 Bl ET Bm Hf Ho a75 E3 a76 Bn CY C4 CZ C5 C0 C6 C1 C7 Ba Bo Bb Bp Bc Bq;generalize ad [aF,z9,aY,aN]=axM at*;generalize ad [z20,z21,z22,bW]=aXq at*;generalize ad [cr,z26,b5,z28]=aXr at*;generalize ad [z37,cU,cO,z40]=axL at*;generalize ad [db,dc,eh,dC]=aXu at*;generalize ad [dz,dL,z49,e3]=aXv at*;generalize ad [z59,fH,fQ,fR]=aXx at*;generalize ad [fI,gD,gE,gg]=aXy at*;generalize ad [z76,lN,lg,lh]=aXA at*;generalize ad [nG,l0,kK,mn]=aXB at*;generalize ad [z0,ar,z2,z3,z4,z5,aZ,aK]=u0 at*;generalize ad [z12,a1,aG,aS,ba,aW,bm,bp]=aXm at*;generalize ad [cl,cA,z31,bj,bM,cw,b7,cp]=aXs at*;generalize ad [z51,dA,z53,eX,ff,e4,dm,fh]=aXw at*;generalize ad [gh,gn,z70,gM,z72,fZ,m1,z75]=aXz at*;exact aPp e9 f0 g0 f2 g2 f5 g5 f7 g7 (by simpa using s1) bx cG eW hO jx a24 gA sj sm a46 zp Hd Hn Hg Hp a85 E4 V2 af8 asf asg ash asi
 ·clear pB pE a9 hH oT nL hS hV a12 ow jd jg pA pD iM iP qC qE iN iQ jB jE jC jF a20 iB a21 iu a22 hW iz eR je jh a26 ji jf jj a28 j8 jD jG jT jH a31 km cN jI hT hX iA iC iq iv hE hG a37 jk hU hZ ir iw a40 j9 qD mA u2 u9 u3 va zd zo u4 vb u5 vc a49 vd ze zq a51 wT u6 ve a53 wU wN wV A6 Bg u7 vf tL sn A7 Bh a59 wW zf zr zg zt x3 x5 j7 zu zh zv zi zw zj zx He E2 A8 Bi a70 Bj A9 Bk a72 Bl ET Bm Hf Ho a75 E3 a76 Bn CY C4 CZ C5 C0 C6 C1 C7 Ba Bo Bb Bp Bc Bq;intro z87 a87 E5 oj EU E6 l3 EV E7 oO EW E8 ea z91 a91 Hq mq Hh Hr z93 a93 Hs ly Hi Ht oP J7 Ke s;simp(maxSteps:=2000000) only[cQ,uH,yN,yO,q8,q9,uG,yR,vO,yM,AH,uJ,yQ,uI,yP,xz,AG,xA,xB,yS,xC,l5,qy,tI,jA,gp,hq]at s;simp only[agh]at s;have aYG:=mG a87 E5 EU E6 EV E7 EW E8;have aYH:=mG a91 Hq Hh Hr a93 Hs Hi Ht;clear s1 bx cG eW hO jx f0 g0 f2 g2 f5 g5 f7 g7 V3 V2 ase af8 asf aIU asg aIV ash asi a0 dM bR b4 a2 cg a3 dh a4 ox a5 nM rp rq sk so;refine⟨λh=>⟨?_,?_⟩,λh=>⟨?_,?_⟩⟩
  ·simp only[xk,aX,ij,D.bds,aT,j4,eQ,gO,ay,and_true];exact⟨a87,E5,EU,E6,EV,E7,EW,E8⟩
  ·simp only[decide_eq_true_eq]at h;simp only[cQ,uH,yN,yO,q8,q9,uG,yR,vO,yM,AH,uJ,yQ,uI,yP,xz,AG,xA,xB,yS,xC];generalize ad [z87,oj,l3,oO]=akI at*;generalize ad [z91,mq,z93,ly]=akJ at*;generalize ad [z0,ar,z2,z3,z4,z5,aZ,aK]=u0 at*;subst h;omega
  ·simp only[decide_eq_false_iff_not]at h;generalize ad [z87,oj,l3,oO]=akI at*;generalize ad [z91,mq,z93,ly]=akJ at*;generalize ad [z0,ar,z2,z3,z4,z5,aZ,aK]=u0 at*;omega
  ·simp only[decide_eq_false_iff_not]at h;show(ad _).toNat<(ad _).toNat;generalize ad [z87,oj,l3,oO]=akI at*;generalize ad [z91,mq,z93,ly]=akJ at*;generalize ad [z0,ar,z2,z3,z4,z5,aZ,aK]=u0 at*;omega
def aaj (S:Nat->List Int->List Int->Prop) (K:List Int->List Int->Prop):Prop:=ax λz0=>ax λar=>ax λz2=>ax λz3=>ax λz4=>ax λz5=>ax λaZ=>ax λaK=>ax λaF=>ax λz9=>ax λaY=>ax λaN=>ax λz12=>ax λa1=>ax λaG=>ax λaS=>ax λba=>ax λaW=>ax λbm=>ax λbp=>ax λz20=>ax λz21=>ax λz22=>ax λbW=>ax λz24=>ax λcr=>ax λz26=>ax λb5=>ax λz28=>ax λcl=>ax λcA=>ax λz31=>aq 0 31 ((1*z0+0)+0) 8 λbj=>aq 0 3 ((1*z31+0)+0) 64 λbM=>K [z0,ar,z2,z3,z4,z5,aZ,aK,aF,z9,aY,aN,z12,a1,aG,aS,ba,aW,bm,bp,z20,z21,z22,bW,z24,cr,z26,b5,z28,cl,cA,z31] [((8*bj+0)+0),((1*ar+0)+0),((1*z2+0)+0),((1*z3+0)+0),((1*z4+0)+0),((1*z5+0)+0),((1*aZ+0)+0),((1*aK+0)+0),((1*aF+0)+0),((1*z9+0)+0),((1*aY+0)+0),((1*aN+0)+0),((1*z12+0)+0),((1*a1+0)+0),((1*aG+0)+0),((1*aS+0)+0),((1*ba+0)+0),((1*aW+0)+0),((1*bm+0)+0),((1*bp+0)+0),((1*z20+0)+0),((1*z21+0)+0),((1*z22+0)+0),((1*bW+0)+0),((1*z24+0)+0),((1*cr+0)+0),((1*z26+0)+0),((1*b5+0)+0),((1*z28+0)+0),((1*cl+0)+0),((1*cA+0)+0),((1*z31+((-64)*bM+0))+64)]
theorem aL3:aaj cQ λzs rs=>ay (aX FO.res) rs/\cQ 14 zs rs:=by
 simp(maxSteps:=4000000) only[aaj,ax,aq];simp only[wJ,wI,CE];intros;refine⟨?_,?_⟩
 ·simp only[FO,aX,gK,D.bds,aT,j4,eQ,gO,ay,and_true];omega
 ·simp only[cQ,xz,hq,gp,l5,qy,tI,jA,j4,eQ,hD,and_true,true_and];omega
def aav (S:Nat->List Int->List Int->Prop) (K:List Int->List Int->Prop):Prop:=ax λz0=>ax λar=>ax λz2=>ax λz3=>ax λz4=>ax λz5=>ax λaZ=>ax λaK=>ax λaF=>ax λz9=>ax λaY=>ax λaN=>ax λz12=>ax λa1=>ax λaG=>ax λaS=>ax λba=>ax λaW=>ax λbm=>ax λbp=>ax λz20=>ax λz21=>ax λz22=>ax λbW=>ax λz24=>ax λcr=>ax λz26=>ax λb5=>ax λz28=>ax λcl=>ax λcA=>ax λz31=>aI λbj=>aI λbM=>aI λcw=>aI λb7=>S 22 [((1*z0+0)+0),((1*ar+0)+0),((1*z2+0)+0),((1*z3+0)+0),((1*z4+0)+0),((1*z5+0)+0),((1*aZ+0)+0),((1*aK+0)+0),((1*aF+0)+0),((1*z9+0)+0),((1*aY+0)+0),((1*aN+0)+0),((1*z12+0)+0),((1*a1+0)+0),((1*aG+0)+0),((1*aS+0)+0),((1*ba+0)+0),((1*aW+0)+0),((1*bm+0)+0),((1*bp+0)+0),((1*z20+0)+0),((1*z21+0)+0),((1*z22+0)+0),((1*bW+0)+0),((1*z24+0)+0),((1*cr+0)+0),((1*z26+0)+0),((1*b5+0)+0),((1*z28+0)+0),((1*cl+0)+0),((1*cA+0)+0),((1*z31+0)+0)] [bj,bM,cw,b7]->aI λcp=>aI λz37=>aI λcU=>aI λcO=>dI λz40=>S 29 [((1*bj+0)+0),((1*bM+0)+0),((1*cw+0)+0),((1*b7+0)+0),(0+jq),(0+j0),(0+0),(0+xi)] [cp,z37,cU,cO,z40]->K [z0,ar,z2,z3,z4,z5,aZ,aK,aF,z9,aY,aN,z12,a1,aG,aS,ba,aW,bm,bp,z20,z21,z22,bW,z24,cr,z26,b5,z28,cl,cA,z31] [(cond (decide (((1*z40+0)+0)=(0+1))) 1 0)]
theorem agL:aav cQ λzs rs=>ay (aX n1.res) rs/\cQ 13 zs rs:=by
 simp(maxSteps:=4000000) only[aav,ax,aI,dI,xi,jq,j0];simp(maxSteps:=4000000) only[wJ,wI,CE];intro z0 a0 dM ar bR b4 z2 a2 cg z3 a3 dh z4 a4 ox z5 a5 nM aZ rp rq aK sk so aF pB pE z9 a9 hH aY oT nL aN hS hV z12 a12 ow a1 jd jg aG pA pD aS iM iP ba qC qE aW iN iQ bm jB jE bp jC jF z20 a20 iB z21 a21 iu z22 a22 hW bW iz eR z24 a24 gA cr je jh z26 a26 ji b5 jf jj z28 a28 j8 cl jD jG cA jT jH z31 a31 km bj cN jI bM hT hX cw iA iC b7 iq iv aL cp hE hG z37 a37 jk cU hU hZ cO ir iw z40 a40 j9 s1;simp(maxSteps:=2000000) only[cQ,uH,yN,yO,q8,q9,uG,yR,vO,yM,AH,uJ,yQ,uI,yP,xz,AG,xA,xB,yS,xC,l5,qy,tI,jA,gp,hq]at aL s1;have e9:ay (aT 0 255 32) [z0,ar,z2,z3,z4,z5,aZ,aK,aF,z9,aY,aN,z12,a1,aG,aS,ba,aW,bm,bp,z20,z21,z22,bW,z24,cr,z26,b5,z28,cl,cA,z31]:=by
  simp only[aT,ay,and_true];exact⟨a0,dM,bR,b4,a2,cg,a3,dh,a4,ox,a5,nM,rp,rq,sk,so,pB,pE,a9,hH,oT,nL,hS,hV,a12,ow,jd,jg,pA,pD,iM,iP,qC,qE,iN,iQ,jB,jE,jC,jF,a20,iB,a21,iu,a22,hW,iz,eR,a24,gA,je,jh,a26,ji,jf,jj,a28,j8,jD,jG,jT,jH,a31,km⟩
 have m0:=asl e9;have QE:=mG cN jI hT hX iA iC iq iv;have aYE:=mG hE hG a37 jk hU hZ ir iw;rw[agh,aL]at s1;rw[aL]at QE;refine⟨?_,?_⟩
 ·by_cases h:z40=1<;>simp[h,n1,aX,D.bds,ay]
 ·simp only[cQ,uH,yN,yO,q8,q9,uG,yR,vO,yM,AH,uJ,yQ,uI,yP,xz,AG,xA,xB,yS,xC,hD,and_true];clear e9 m0 aL a0 dM bR b4 a2 cg a3 dh a4 ox a5 nM rp rq sk so pB pE a9 hH oT nL hS hV a12 ow jd jg pA pD iM iP qC qE iN iQ jB jE jC jF a20 iB a21 iu a22 hW iz eR a24 gA je jh a26 ji jf jj a28 j8 jD jG jT jH a31 km cN jI hT hX iA iC iq iv hE hG a37 jk hU hZ ir iw;generalize nb [z0,ar,z2,z3,z4,z5,aZ,aK,aF,z9,aY,aN,z12,a1,aG,aS,ba,aW,bm,bp,z20,z21,z22,bW,z24,cr,z26,b5,z28,cl,cA,z31]=A at*;generalize ad [cp,z37,cU,cO]=N at*;by_cases h:z40=1
  ·subst h;simp;omega
  ·simp[h];omega
def aat (S:Nat->List Int->List Int->Prop) (K:List Int->List Int->Prop):Prop:=ax λz0=>ax λar=>ax λz2=>ax λz3=>ax λz4=>ax λz5=>ax λaZ=>ax λaK=>ax λaF=>ax λz9=>ax λaY=>ax λaN=>ax λz12=>ax λa1=>ax λaG=>ax λaS=>ax λba=>ax λaW=>ax λbm=>ax λbp=>ax λz20=>ax λz21=>ax λz22=>ax λbW=>ax λz24=>ax λcr=>ax λz26=>ax λb5=>ax λz28=>ax λcl=>ax λcA=>ax λz31=>ax λbj=>ax λbM=>ax λcw=>ax λb7=>ax λcp=>ax λz37=>ax λcU=>ax λcO=>ax λz40=>ax λc2=>ax λdb=>ax λdc=>ax λeh=>ax λdC=>ax λz46=>ax λdz=>ax λdL=>ax λz49=>ax λe3=>ax λz51=>ax λdA=>ax λz53=>ax λeX=>ax λff=>ax λe4=>ax λdm=>ax λfh=>ax λz59=>ax λfH=>ax λfQ=>ax λfR=>ax λew=>aI λfI=>aI λgD=>aI λgE=>aI λgg=>S 122 [((1*z0+0)+0),((1*ar+0)+0),((1*z2+0)+0),((1*z3+0)+0),((1*z4+0)+0),((1*z5+0)+0),((1*aZ+0)+0),((1*aK+0)+0),((1*aF+0)+0),((1*z9+0)+0),((1*aY+0)+0),((1*aN+0)+0),((1*z12+0)+0),((1*a1+0)+0),((1*aG+0)+0),((1*aS+0)+0),((1*ba+0)+0),((1*aW+0)+0),((1*bm+0)+0),((1*bp+0)+0),((1*z20+0)+0),((1*z21+0)+0),((1*z22+0)+0),((1*bW+0)+0),((1*z24+0)+0),((1*cr+0)+0),((1*z26+0)+0),((1*b5+0)+0),((1*z28+0)+0),((1*cl+0)+0),((1*cA+0)+0),((1*z31+0)+0),((1*bj+0)+0),((1*bM+0)+0),((1*cw+0)+0),((1*b7+0)+0),((1*cp+0)+0),((1*z37+0)+0),((1*cU+0)+0),((1*cO+0)+0),((1*z40+0)+0),((1*c2+0)+0),((1*db+0)+0),((1*dc+0)+0),((1*eh+0)+0),((1*dC+0)+0),((1*z46+0)+0),((1*dz+0)+0),((1*dL+0)+0),((1*z49+0)+0),((1*e3+0)+0),((1*z51+0)+0),((1*dA+0)+0),((1*z53+0)+0),((1*eX+0)+0),((1*ff+0)+0),((1*e4+0)+0),((1*dm+0)+0),((1*fh+0)+0),((1*z59+0)+0),((1*fH+0)+0),((1*fQ+0)+0),((1*fR+0)+0),((1*ew+0)+0)] [fI,gD,gE,gg]->aI λgh=>aI λgn=>aI λz70=>aI λgM=>S 222 [((1*z0+0)+0),((1*ar+0)+0),((1*z2+0)+0),((1*z3+0)+0),((1*z4+0)+0),((1*z5+0)+0),((1*aZ+0)+0),((1*aK+0)+0),((1*aF+0)+0),((1*z9+0)+0),((1*aY+0)+0),((1*aN+0)+0),((1*z12+0)+0),((1*a1+0)+0),((1*aG+0)+0),((1*aS+0)+0),((1*ba+0)+0),((1*aW+0)+0),((1*bm+0)+0),((1*bp+0)+0),((1*z20+0)+0),((1*z21+0)+0),((1*z22+0)+0),((1*bW+0)+0),((1*z24+0)+0),((1*cr+0)+0),((1*z26+0)+0),((1*b5+0)+0),((1*z28+0)+0),((1*cl+0)+0),((1*cA+0)+0),((1*z31+0)+0),((1*bj+0)+0),((1*bM+0)+0),((1*cw+0)+0),((1*b7+0)+0),((1*cp+0)+0),((1*z37+0)+0),((1*cU+0)+0),((1*cO+0)+0),((1*z40+0)+0),((1*c2+0)+0),((1*db+0)+0),((1*dc+0)+0),((1*eh+0)+0),((1*dC+0)+0),((1*z46+0)+0),((1*dz+0)+0),((1*dL+0)+0),((1*z49+0)+0),((1*e3+0)+0),((1*z51+0)+0),((1*dA+0)+0),((1*z53+0)+0),((1*eX+0)+0),((1*ff+0)+0),((1*e4+0)+0),((1*dm+0)+0),((1*fh+0)+0),((1*z59+0)+0),((1*fH+0)+0),((1*fQ+0)+0),((1*fR+0)+0),((1*ew+0)+0)] [gh,gn,z70,gM]->aI λz72=>aI λfZ=>aI λm1=>aI λz75=>S 23 [((1*fI+0)+0),((1*gD+0)+0),((1*gE+0)+0),((1*gg+0)+0),((1*gh+0)+0),((1*gn+0)+0),((1*z70+0)+0),((1*gM+0)+0)] [z72,fZ,m1,z75]->ax λz76=>ax λlN=>ax λlg=>ax λlh=>ax λmm=>ax λnG=>ax λl0=>ax λkK=>ax λmn=>ax λz85=>ax λmo=>ax λz87=>ax λoj=>ax λl3=>ax λoO=>ax λz91=>ax λmq=>ax λz93=>ax λly=>ax λoP=>ax λuT=>ax λEE=>ax λkj=>ax λj3=>ax λmf=>ax λAM=>ax λwE=>ax λtB=>ax λtC=>ax λz105=>ax λxP=>ax λz107=>S 26 [((1*z72+0)+0),((1*fZ+0)+0),((1*m1+0)+0),((1*z75+0)+0)] [z76,lN,lg,lh,mm,nG,l0,kK,mn,z85,mo,z87,oj,l3,oO,z91,mq,z93,ly,oP,uT,EE,kj,j3,mf,AM,wE,tB,tC,z105,xP,z107]->K [z0,ar,z2,z3,z4,z5,aZ,aK,aF,z9,aY,aN,z12,a1,aG,aS,ba,aW,bm,bp,z20,z21,z22,bW,z24,cr,z26,b5,z28,cl,cA,z31,bj,bM,cw,b7,cp,z37,cU,cO,z40,c2,db,dc,eh,dC,z46,dz,dL,z49,e3,z51,dA,z53,eX,ff,e4,dm,fh,z59,fH,fQ,fR,ew] [((1*z76+0)+0),((1*lN+0)+0),((1*lg+0)+0),((1*lh+0)+0),((1*mm+0)+0),((1*nG+0)+0),((1*l0+0)+0),((1*kK+0)+0),((1*mn+0)+0),((1*z85+0)+0),((1*mo+0)+0),((1*z87+0)+0),((1*oj+0)+0),((1*l3+0)+0),((1*oO+0)+0),((1*z91+0)+0),((1*mq+0)+0),((1*z93+0)+0),((1*ly+0)+0),((1*oP+0)+0),((1*uT+0)+0),((1*EE+0)+0),((1*kj+0)+0),((1*j3+0)+0),((1*mf+0)+0),((1*AM+0)+0),((1*wE+0)+0),((1*tB+0)+0),((1*tC+0)+0),((1*z105+0)+0),((1*xP+0)+0),((1*z107+0)+0)]
theorem agK:aat cQ λzs rs=>ay (aX oD.res) rs/\cQ 11 zs rs:=by
 simp(maxSteps:=4000000) only[aat,ax,aI];simp(maxSteps:=4000000) only[wJ,wI,CE];intro z0 a0 dM ar bR b4 z2 a2 cg z3 a3 dh z4 a4 ox z5 a5 nM aZ rp rq aK sk so aF pB pE z9 a9 hH aY oT nL aN hS hV z12 a12 ow a1 jd jg aG pA pD aS iM iP ba qC qE aW iN iQ bm jB jE bp jC jF z20 a20 iB z21 a21 iu z22 a22 hW bW iz eR z24 a24 gA cr je jh z26 a26 ji b5 jf jj z28 a28 j8 cl jD jG cA jT jH z31 a31 km bj cN jI bM hT hX cw iA iC b7 iq iv cp hE hG z37 a37 jk cU hU hZ cO ir iw z40 a40 j9 c2 sj sm db qD mA dc u2 u9 eh u3 va dC zd zo z46 a46 zp dz u4 vb dL u5 vc z49 a49 vd e3 ze zq z51 a51 wT dA u6 ve z53 a53 wU eX wN wV ff A6 Bg e4 u7 vf dm tL sn fh A7 Bh z59 a59 wW fH zf zr fQ zg zt fR x3 x5 ew Hd Hn fI j7 zu gD zh zv gE zi zw gg zj zx aL gh He E2 gn A8 Bi z70 a70 Bj gM A9 Bk s1 z72 a72 Bl fZ ET Bm m1 Hf Ho z75 a75 E3 s2 z76 a76 Bn lN CY C4 lg CZ C5 lh C0 C6 mm Hg Hp nG C1 C7 l0 Ba Bo kK Bb Bp mn Bc Bq z85 a85 E4 mo J6 Kd z87 a87 E5 oj EU E6 l3 EV E7 oO EW E8 z91 a91 Hq mq Hh Hr z93 a93 Hs ly Hi Ht oP J7 Ke uT Nr Ny EE aaF aa7 kj aaG aa8 j3 aaH aa9 mf aax aaW AM aay aaX wE aaz aaY tB aaA aaZ tC aaB aa0 z105 a105 aa1 xP aaC aa2 z107 a107 aa3 bx;simp(maxSteps:=2000000) only[cQ,uH,yN,yO,q8,q9,uG,yR,vO,yM,AH,uJ,yQ,uI,yP,xz,AG,xA,xB,yS,xC,l5,qy,tI,jA,gp,hq]at aL s1 s2 bx;refine⟨?_,?_⟩
 ·simp only[oD,aX,gK,D.bds,aT,j4,eQ,gO,ay,and_true];exact⟨a76,Bn,CY,C4,CZ,C5,C0,C6,Hg,Hp,C1,C7,Ba,Bo,Bb,Bp,Bc,Bq,a85,E4,J6,Kd,a87,E5,EU,E6,EV,E7,EW,E8,a91,Hq,Hh,Hr,a93,Hs,Hi,Ht,J7,Ke,Nr,Ny,aaF,aa7,aaG,aa8,aaH,aa9,aax,aaW,aay,aaX,aaz,aaY,aaA,aaZ,aaB,aa0,a105,aa1,aaC,aa2,a107,aa3⟩
 ·simp only[cQ,uH,yN,yO,q8,q9,uG,yR,vO,yM,AH,uJ,yQ,uI,yP,xz,AG,xA,xB,yS,xC];rw[bx,s2];have av:ad [fI,gD,gE,gg,gh,gn,z70,gM]=ad [fI,gD,gE,gg]+0x10000000000000000000000000000000000000000000000000000000000000000*ad [gh,gn,z70,gM]:=by simp only[num];omega
  have aH:nb [z0,ar,z2,z3,z4,z5,aZ,aK,aF,z9,aY,aN,z12,a1,aG,aS,ba,aW,bm,bp,z20,z21,z22,bW,z24,cr,z26,b5,z28,cl,cA,z31,bj,bM,cw,b7,cp,z37,cU,cO,z40,c2,db,dc,eh,dC,z46,dz,dL,z49,e3,z51,dA,z53,eX,ff,e4,dm,fh,z59,fH,fQ,fR,ew]=nb [z0,ar,z2,z3,z4,z5,aZ,aK,aF,z9,aY,aN,z12,a1,aG,aS,ba,aW,bm,bp,z20,z21,z22,bW,z24,cr,z26,b5,z28,cl,cA,z31]+0x10000000000000000000000000000000000000000000000000000000000000000*nb [bj,bM,cw,b7,cp,z37,cU,cO,z40,c2,db,dc,eh,dC,z46,dz,dL,z49,e3,z51,dA,z53,eX,ff,e4,dm,fh,z59,fH,fQ,fR,ew]:=by simp only[num];omega
  rw[av,aH,aL,s1]
def aaq (S:Nat->List Int->List Int->Prop) (K:List Int->List Int->Prop):Prop:=ax λz0=>ax λar=>ax λz2=>ax λz3=>ax λz4=>ax λz5=>ax λaZ=>ax λaK=>ax λaF=>ax λz9=>ax λaY=>ax λaN=>ax λz12=>ax λa1=>ax λaG=>ax λaS=>ax λba=>ax λaW=>ax λbm=>ax λbp=>ax λz20=>ax λz21=>ax λz22=>ax λbW=>ax λz24=>ax λcr=>ax λz26=>ax λb5=>ax λz28=>ax λcl=>ax λcA=>ax λz31=>ax λbj=>ax λbM=>ax λcw=>ax λb7=>ax λcp=>ax λz37=>ax λcU=>ax λcO=>ax λz40=>ax λc2=>ax λdb=>ax λdc=>ax λeh=>ax λdC=>ax λz46=>ax λdz=>ax λdL=>ax λz49=>ax λe3=>ax λz51=>ax λdA=>ax λz53=>ax λeX=>ax λff=>ax λe4=>ax λdm=>ax λfh=>ax λz59=>ax λfH=>ax λfQ=>ax λfR=>ax λew=>ax λfI=>ax λgD=>ax λgE=>ax λgg=>ax λgh=>ax λgn=>ax λz70=>ax λgM=>ax λz72=>ax λfZ=>ax λm1=>ax λz75=>ax λz76=>ax λlN=>ax λlg=>ax λlh=>ax λmm=>ax λnG=>ax λl0=>ax λkK=>ax λmn=>ax λz85=>ax λmo=>ax λz87=>ax λoj=>ax λl3=>ax λoO=>ax λz91=>ax λmq=>ax λz93=>ax λly=>ax λoP=>aI λuT=>aI λEE=>aI λkj=>aI λj3=>S 22 [((1*z0+0)+0),((1*ar+0)+0),((1*z2+0)+0),((1*z3+0)+0),((1*z4+0)+0),((1*z5+0)+0),((1*aZ+0)+0),((1*aK+0)+0),((1*aF+0)+0),((1*z9+0)+0),((1*aY+0)+0),((1*aN+0)+0),((1*z12+0)+0),((1*a1+0)+0),((1*aG+0)+0),((1*aS+0)+0),((1*ba+0)+0),((1*aW+0)+0),((1*bm+0)+0),((1*bp+0)+0),((1*z20+0)+0),((1*z21+0)+0),((1*z22+0)+0),((1*bW+0)+0),((1*z24+0)+0),((1*cr+0)+0),((1*z26+0)+0),((1*b5+0)+0),((1*z28+0)+0),((1*cl+0)+0),((1*cA+0)+0),((1*z31+0)+0)] [uT,EE,kj,j3]->aI λmf=>aI λAM=>aI λwE=>aI λtB=>S 22 [((1*bj+0)+0),((1*bM+0)+0),((1*cw+0)+0),((1*b7+0)+0),((1*cp+0)+0),((1*z37+0)+0),((1*cU+0)+0),((1*cO+0)+0),((1*z40+0)+0),((1*c2+0)+0),((1*db+0)+0),((1*dc+0)+0),((1*eh+0)+0),((1*dC+0)+0),((1*z46+0)+0),((1*dz+0)+0),((1*dL+0)+0),((1*z49+0)+0),((1*e3+0)+0),((1*z51+0)+0),((1*dA+0)+0),((1*z53+0)+0),((1*eX+0)+0),((1*ff+0)+0),((1*e4+0)+0),((1*dm+0)+0),((1*fh+0)+0),((1*z59+0)+0),((1*fH+0)+0),((1*fQ+0)+0),((1*fR+0)+0),((1*ew+0)+0)] [mf,AM,wE,tB]->aI λtC=>aI λz105=>aI λxP=>aI λz107=>aI λJF=>aI λz109=>aI λJG=>aI λmg=>S 21 [((1*uT+0)+0),((1*EE+0)+0),((1*kj+0)+0),((1*j3+0)+0),((1*mf+0)+0),((1*AM+0)+0),((1*wE+0)+0),((1*tB+0)+0)] [tC,z105,xP,z107,JF,z109,JG,mg]->aI λlX=>aI λmh=>aI λmY=>aI λsS=>S 23 [((1*tC+0)+0),((1*z105+0)+0),((1*xP+0)+0),((1*z107+0)+0),((1*JF+0)+0),((1*z109+0)+0),((1*JG+0)+0),((1*mg+0)+0)] [lX,mh,mY,sS]->aI λz116=>aI λz117=>aI λnF=>aI λz119=>S 22 [((1*fI+0)+0),((1*gD+0)+0),((1*gE+0)+0),((1*gg+0)+0),((1*gh+0)+0),((1*gn+0)+0),((1*z70+0)+0),((1*gM+0)+0),((1*z72+0)+0),((1*fZ+0)+0),((1*m1+0)+0),((1*z75+0)+0),((1*z76+0)+0),((1*lN+0)+0),((1*lg+0)+0),((1*lh+0)+0),((1*mm+0)+0),((1*nG+0)+0),((1*l0+0)+0),((1*kK+0)+0),((1*mn+0)+0),((1*z85+0)+0),((1*mo+0)+0),((1*z87+0)+0),((1*oj+0)+0),((1*l3+0)+0),((1*oO+0)+0),((1*z91+0)+0),((1*mq+0)+0),((1*z93+0)+0),((1*ly+0)+0),((1*oP+0)+0)] [z116,z117,nF,z119]->aI λtD=>aI λuP=>aI λuQ=>aI λEx=>S 25 [((1*z116+0)+0),((1*z117+0)+0),((1*nF+0)+0),((1*z119+0)+0)] [tD,uP,uQ,Ex]->aI λz124=>aI λEy=>aI λEz=>aI λz127=>dI λEA=>S 24 [((1*lX+0)+0),((1*mh+0)+0),((1*mY+0)+0),((1*sS+0)+0),((1*tD+0)+0),((1*uP+0)+0),((1*uQ+0)+0),((1*Ex+0)+0)] [z124,Ey,Ez,z127,EA]->aI λCv=>aI λz130=>aI λz131=>aI λaiC=>S 25 [((1*z124+0)+0),((1*Ey+0)+0),((1*Ez+0)+0),((1*z127+0)+0)] [Cv,z130,z131,aiC]->ax λAN=>ax λaiD=>ax λaiE=>ax λaiF=>ax λaiG=>ax λz138=>ax λz139=>ax λaiH=>ax λz141=>ax λaiI=>ax λz143=>ax λaiJ=>ax λz145=>ax λz146=>ax λaiK=>ax λz148=>ax λaiL=>ax λaiM=>ax λaiN=>ax λz152=>ax λaiO=>ax λz154=>ax λaiP=>ax λz156=>ax λz157=>ax λAO=>ax λz159=>ax λz160=>ax λaiQ=>ax λz162=>ax λmi=>ax λz164=>S 26 [((1*Cv+0)+0),((1*z130+0)+0),((1*z131+0)+0),((1*aiC+0)+0)] [AN,aiD,aiE,aiF,aiG,z138,z139,aiH,z141,aiI,z143,aiJ,z145,z146,aiK,z148,aiL,aiM,aiN,z152,aiO,z154,aiP,z156,z157,AO,z159,z160,aiQ,z162,mi,z164]->K [z0,ar,z2,z3,z4,z5,aZ,aK,aF,z9,aY,aN,z12,a1,aG,aS,ba,aW,bm,bp,z20,z21,z22,bW,z24,cr,z26,b5,z28,cl,cA,z31,bj,bM,cw,b7,cp,z37,cU,cO,z40,c2,db,dc,eh,dC,z46,dz,dL,z49,e3,z51,dA,z53,eX,ff,e4,dm,fh,z59,fH,fQ,fR,ew,fI,gD,gE,gg,gh,gn,z70,gM,z72,fZ,m1,z75,z76,lN,lg,lh,mm,nG,l0,kK,mn,z85,mo,z87,oj,l3,oO,z91,mq,z93,ly,oP] [((1*AN+0)+0),((1*aiD+0)+0),((1*aiE+0)+0),((1*aiF+0)+0),((1*aiG+0)+0),((1*z138+0)+0),((1*z139+0)+0),((1*aiH+0)+0),((1*z141+0)+0),((1*aiI+0)+0),((1*z143+0)+0),((1*aiJ+0)+0),((1*z145+0)+0),((1*z146+0)+0),((1*aiK+0)+0),((1*z148+0)+0),((1*aiL+0)+0),((1*aiM+0)+0),((1*aiN+0)+0),((1*z152+0)+0),((1*aiO+0)+0),((1*z154+0)+0),((1*aiP+0)+0),((1*z156+0)+0),((1*z157+0)+0),((1*AO+0)+0),((1*z159+0)+0),((1*z160+0)+0),((1*aiQ+0)+0),((1*z162+0)+0),((1*mi+0)+0),((1*z164+0)+0)]
theorem aMH:aaq cQ λzs rs=>ay (aX FT.res) rs/\cQ 8 zs rs:=by
 simp(maxSteps:=4000000) only[aaq,ax,aI,dI];simp(maxSteps:=4000000) only[wJ,wI,CE];intro z0 a0 dM ar bR b4 z2 a2 cg z3 a3 dh z4 a4 ox z5 a5 nM aZ rp rq aK sk so aF pB pE z9 a9 hH aY oT nL aN hS hV z12 a12 ow a1 jd jg aG pA pD aS iM iP ba qC qE aW iN iQ bm jB jE bp jC jF z20 a20 iB z21 a21 iu z22 a22 hW bW iz eR z24 a24 gA cr je jh z26 a26 ji b5 jf jj z28 a28 j8 cl jD jG cA jT jH z31 a31 km bj cN jI bM hT hX cw iA iC b7 iq iv cp hE hG z37 a37 jk cU hU hZ cO ir iw z40 a40 j9 c2 sj sm db qD mA dc u2 u9 eh u3 va dC zd zo z46 a46 zp dz u4 vb dL u5 vc z49 a49 vd e3 ze zq z51 a51 wT dA u6 ve z53 a53 wU eX wN wV ff A6 Bg e4 u7 vf dm tL sn fh A7 Bh z59 a59 wW fH zf zr fQ zg zt fR x3 x5 ew Hd Hn fI j7 zu gD zh zv gE zi zw gg zj zx gh He E2 gn A8 Bi z70 a70 Bj gM A9 Bk z72 a72 Bl fZ ET Bm m1 Hf Ho z75 a75 E3 z76 a76 Bn lN CY C4 lg CZ C5 lh C0 C6 mm Hg Hp nG C1 C7 l0 Ba Bo kK Bb Bp mn Bc Bq z85 a85 E4 mo J6 Kd z87 a87 E5 oj EU E6 l3 EV E7 oO EW E8 z91 a91 Hq mq Hh Hr z93 a93 Hs ly Hi Ht oP J7 Ke uT Nr Ny EE aaF aa7 kj aaG aa8 j3 aaH aa9 aL mf aax aaW AM aay aaX wE aaz aaY tB aaA aaZ s1 tC aaB aa0 z105 a105 aa1 xP aaC aa2 z107 a107 aa3 JF axY ayV z109 a109 ayW JG axZ ayX mg ax0 ayY s2 lX akO alA mh akP alB mY aaD aa4 sS aaE aa5 bx z116 a116 aa6 z117 a117 alC nF akQ alD z119 a119 ayZ cG tD akR alE uP akS alF uQ akT alG Ex akU alH er z124 a124 alI Ey akV alJ Ez akW alK z127 a127 alL EA aXD aXE eW Cv ax1 ay0 z130 a130 ay1 z131 a131 ay2 aiC ax2 ay3 gm AN akX alM aiD akY alN aiE akZ alO aiF ak0 alP aiG ak1 alQ z138 a138 alR z139 a139 alS aiH ak2 alT z141 a141 alU aiI ak3 alV z143 a143 alW aiJ ak4 alX z145 a145 alY z146 a146 alZ aiK ak5 al0 z148 a148 al1 aiL ak6 al2 aiM ak7 al3 aiN ak8 al4 z152 a152 al5 aiO ak9 al6 z154 a154 al7 aiP ala al8 z156 a156 al9 z157 a157 ama AO alb amb z159 a159 amc z160 a160 amd aiQ alc ame z162 a162 amf mi ald amg z164 a164 amh hO;simp(maxSteps:=2000000) only[cQ,uH,yN,yO,q8,q9,uG,yR,vO,yM,AH,uJ,yQ,uI,yP,xz,AG,xA,xB,yS,xC,l5,qy,tI,jA,gp,hq]at aL s1 s2 bx cG er eW gm hO;have n112:=mG akO alA akP alB aaD aa4 aaE aa5;have n120:=mG akR alE akS alF akT alG akU alH;have n124:=mG a124 alI akV alJ akW alK a127 alL;refine⟨?_,?_⟩
 ·simp only[FT,aX,gK,D.bds,aT,j4,eQ,gO,ay,and_true];exact⟨akX,alM,akY,alN,akZ,alO,ak0,alP,ak1,alQ,a138,alR,a139,alS,ak2,alT,a141,alU,ak3,alV,a143,alW,ak4,alX,a145,alY,a146,alZ,ak5,al0,a148,al1,ak6,al2,ak7,al3,ak8,al4,a152,al5,ak9,al6,a154,al7,ala,al8,a156,al9,a157,ama,alb,amb,a159,amc,a160,amd,alc,ame,a162,amf,ald,amg,a164,amh⟩
 ·simp only[cQ,uH,yN,yO,q8,q9,uG,yR,vO,yM,AH,uJ,yQ,uI,yP,xz,AG,xA,xB,yS,xC,l5,qy,tI,jA,gp,hq];rw[hO,gm];rw[s2,aL,s1]at bx;rw[cG]at er;clear aL s1 s2 cG gm hO a0 dM bR b4 a2 cg a3 dh a4 ox a5 nM rp rq sk so pB pE a9 hH oT nL hS hV a12 ow jd jg pA pD iM iP qC qE iN iQ jB jE jC jF a20 iB a21 iu a22 hW iz eR a24 gA je jh a26 ji jf jj a28 j8 jD jG jT jH a31 km cN jI hT hX iA iC iq iv hE hG a37 jk hU hZ ir iw a40 j9 sj sm qD mA u2 u9 u3 va zd zo a46 zp u4 vb u5 vc a49 vd ze zq a51 wT u6 ve a53 wU wN wV A6 Bg u7 vf tL sn A7 Bh a59 wW zf zr zg zt x3 x5 Hd Hn j7 zu zh zv zi zw zj zx He E2 A8 Bi a70 Bj A9 Bk a72 Bl ET Bm Hf Ho a75 E3 a76 Bn CY C4 CZ C5 C0 C6 Hg Hp C1 C7 Ba Bo Bb Bp Bc Bq a85 E4 J6 Kd a87 E5 EU E6 EV E7 EW E8 a91 Hq Hh Hr a93 Hs Hi Ht J7 Ke Nr Ny aaF aa7 aaG aa8 aaH aa9 aax aaW aay aaX aaz aaY aaA aaZ aaB aa0 a105 aa1 aaC aa2 a107 aa3 axY ayV a109 ayW axZ ayX ax0 ayY akO alA akP alB aaD aa4 aaE aa5 a116 aa6 a117 alC akQ alD a119 ayZ akR alE akS alF akT alG akU alH a124 alI akV alJ akW alK a127 alL ax1 ay0 a130 ay1 a131 ay2 ax2 ay3 akX alM akY alN akZ alO ak0 alP ak1 alQ a138 alR a139 alS ak2 alT a141 alU ak3 alV a143 alW ak4 alX a145 alY a146 alZ ak5 al0 a148 al1 ak6 al2 ak7 al3 ak8 al4 a152 al5 ak9 al6 a154 al7 ala al8 a156 al9 a157 ama alb amb a159 amc a160 amd alc ame a162 amf ald amg a164 amh;generalize ad [lX,mh,mY,sS]=aXl at*;generalize ad [tD,uP,uQ,Ex]=aXn at*;generalize ad [z124,Ey,Ez,z127]=aXo at*;generalize nb [z0,ar,z2,z3,z4,z5,aZ,aK,aF,z9,aY,aN,z12,a1,aG,aS,ba,aW,bm,bp,z20,z21,z22,bW,z24,cr,z26,b5,z28,cl,cA,z31]*nb [bj,bM,cw,b7,cp,z37,cU,cO,z40,c2,db,dc,eh,dC,z46,dz,dL,z49,e3,z51,dA,z53,eX,ff,e4,dm,fh,z59,fH,fQ,fR,ew]=M at*;generalize nb [fI,gD,gE,gg,gh,gn,z70,gM,z72,fZ,m1,z75,z76,lN,lg,lh,mm,nG,l0,kK,mn,z85,mo,z87,oj,l3,oO,z91,mq,z93,ly,oP]=C at*;omega
end Go.ou
namespace Go.Fd
open Go.bX
def YK (S:zzS) (K:zzK):Prop:=∀r0:List Int,ay (aT 0 xj 5) r0->aq 0 4095 (U r0 0 0) fD λz5=>aq 0 4095 (U r0 0 0) fD λaZ=>aq 0 4096 ((U r0 1 0)+z5) fD λaK=>aq 0 4096 ((U r0 1 0)+z5) fD λaF=>aq 0 4096 ((U r0 2 0)+aK) fD λz9=>aq 0 4096 ((U r0 2 0)+aK) fD λaY=>aq 0 4096 ((U r0 3 0)+z9) fD λaN=>aq 0 4096 ((U r0 3 0)+z9) fD λz12=>aq 0 4096 ((U r0 4 0)+aN) fD λa1=>aq 0 4096 ((U r0 4 0)+aN) fD λaG=>bg ((U r0 0 0)+((eM*aZ)+(19*a1))) fD λaS=>bg ((U r0 0 0)+((eM*aZ)+(19*a1))) fD λba=>bg ((U r0 1 0)+(z5+((eM*aF)+aS))) fD λaW=>bg ((U r0 1 0)+(z5+((eM*aF)+aS))) fD λbm=>bg ((U r0 2 0)+(aK+((eM*aY)+aW))) fD λbp=>bg ((U r0 2 0)+(aK+((eM*aY)+aW))) fD λz20=>bg ((U r0 3 0)+(z9+((eM*z12)+bp))) fD λz21=>bg ((U r0 3 0)+(z9+((eM*z12)+bp))) fD λz22=>bg ((U r0 4 0)+(aN+((eM*aG)+z21))) fD λbW=>bg ((U r0 4 0)+(aN+((eM*aG)+z21))) fD λz24=>K [r0] [[((U r0 0 0)+((eM*aZ)+((19*a1)+((eM*ba)+(19*bW))))),((U r0 1 0)+(z5+((eM*aF)+(aS+(eM*bm))))),((U r0 2 0)+(aK+((eM*aY)+(aW+(eM*z20))))),((U r0 3 0)+(z9+((eM*z12)+(bp+(eM*z22))))),((U r0 4 0)+(aN+((eM*aG)+(z21+(eM*z24)))))]]
theorem aLY (G):YK (fu G) (e6 la.res 46):=by
 simp(maxSteps:=4000000) only[YK,aq,bg,eM,xj,fD];intro r0 i0 z5 a5 nM fM d5 aZ rp rq hI d6 aK sk so oU d7 aF pB pE nO d8 z9 a9 hH qG d9 aY oT nL vm d10 aN hS hV Bs d11 z12 a12 ow Kl d12 a1 jd jg Km d13 aG pA pD Ti d14 aS iM iP NH d15 ba qC qE Tj d16 aW iN iQ NI d17 bm jB jE Kn d18 bp jC jF NJ d19 z20 a20 iB Ko d20 z21 a21 iu gv d21 z22 a22 hW Fb d22 bW iz eR Kp d23 z24 a24 gA Kq d24;refine⟨?_,?_⟩
 ·obtain⟨dp,ak,ai,aw,dk,rfl,mN,mO,mQ,mR,mS,mT,mU,mV,xN,xO⟩:=BR i0;simp only[aa,gp,hq]at*;have lK:z5=aZ:=dup fM d5 hI d6;subst lK;have lU:aK=aF:=dup oU d7 nO d8;subst lU;have agS:z9=aY:=dup qG d9 vm d10;subst agS;have agT:aN=z12:=dup Bs d11 Kl d12;subst agT;have agU:a1=aG:=dup Km d13 Ti d14;subst agU;have agV:aS=ba:=dup NH d15 Tj d16;subst agV;have agW:aW=bm:=dup NI d17 Kn d18;subst agW;have agX:bp=z20:=dup NJ d19 Ko d20;subst agX;have agY:z21=z22:=dup gv d21 Fb d22;subst agY;have agZ:bW=z24:=dup Kp d23 Kq d24;subst agZ;simp only[aa,la,aX,D.bds,gX,aT,j4,eQ,gO,nH,sT,ay,and_true];omega
 ·show v5 _% aa=v5 r0% aa/\v5 _<aa+38;obtain⟨dp,ak,ai,aw,dk,rfl,mN,mO,mQ,mR,mS,mT,mU,mV,xN,xO⟩:=BR i0;simp only[aa,gp,hq]at*;have lK:z5=aZ:=dup fM d5 hI d6;subst lK;have lU:aK=aF:=dup oU d7 nO d8;subst lU;have agS:z9=aY:=dup qG d9 vm d10;subst agS;have agT:aN=z12:=dup Bs d11 Kl d12;subst agT;have agU:a1=aG:=dup Km d13 Ti d14;subst agU;have agV:aS=ba:=dup NH d15 Tj d16;subst agV;have agW:aW=bm:=dup NI d17 Kn d18;subst agW;have agX:bp=z20:=dup NJ d19 Ko d20;subst agX;have agY:z21=z22:=dup gv d21 Fb d22;subst agY;have agZ:bW=z24:=dup Kp d23 Kq d24;subst agZ;have e:v5 [(dp+(((-dH)*z5)+((19*a1)+(((-dH)*aS)+(19*bW))))),(ak+(z5+(((-dH)*aK)+(aS+((-dH)*aW))))),(ai+(aK+(((-dH)*z9)+(aW+((-dH)*bp))))),(aw+(z9+(((-dH)*aN)+(bp+((-dH)*z21))))),(dk+(aN+(((-dH)*a1)+(z21+((-dH)*bW)))))]=v5 [dp,ak,ai,aw,dk]+aa*(-(a1+bW)):=by
   clear a5 nM fM d5 rp rq hI d6 sk so oU d7 pB pE nO d8 a9 hH qG d9 oT nL vm d10 hS hV Bs d11 a12 ow Kl d12 jd jg Km d13 pA pD Ti d14 iM iP NH d15 qC qE Tj d16 iN iQ NI d17 jB jE Kn d18 jC jF NJ d19 a20 iB Ko d20 a21 iu gv d21 a22 hW Fb d22 iz eR Kp d23 a24 gA Kq d24;simp only[aa,Ep]
   (unfold dH at*;omega)
  refine⟨?_,?_⟩
  ·show v5 _% aa=v5 [dp,ak,ai,aw,dk]% aa;rw[e,xQ]
  ·show v5 _<aa+38;clear e;simp only[aa,Ep];omega
def YW (S:zzS) (K:zzK):Prop:=oc 32 λr0=>aq 0 8191 ((U r0 0 0)+((256*(U r0 1 0))+((65536*(U r0 2 0))+((iU*(U r0 3 0))+((iV*(U r0 4 0))+((iW*(U r0 5 0))+((iX*(U r0 6 0))+(jM*(U r0 7 0))))))))) fD λbj=>aq 0 8191 ((U r0 0 0)+((256*(U r0 1 0))+((65536*(U r0 2 0))+((iU*(U r0 3 0))+((iV*(U r0 4 0))+((iW*(U r0 5 0))+((iX*(U r0 6 0))+(jM*(U r0 7 0))))))))) fD λbM=>aq 0 8191 ((8192*(U r0 8 0))+((Lq*(U r0 9 0))+((Lr*(U r0 10 0))+((Ls*(U r0 11 0))+((Lt*(U r0 12 0))+((U1*(U r0 13 0))+((U2*(U r0 14 0))+(U3*(U r0 15 0))))))))) bk λcw=>aq 0 8191 ((8192*(U r0 8 0))+((Lq*(U r0 9 0))+((Lr*(U r0 10 0))+((Ls*(U r0 11 0))+((Lt*(U r0 12 0))+((U1*(U r0 13 0))+((U2*(U r0 14 0))+((U3*(U r0 15 0))+(bM+(ab*cw)))))))))) fD λb7=>aq 0 aeK ((U r0 8 0)+((256*(U r0 9 0))+((65536*(U r0 10 0))+((iU*(U r0 11 0))+((iV*(U r0 12 0))+((iW*(U r0 13 0))+((iX*(U r0 14 0))+(jM*(U r0 15 0))))))))) aqS λcp=>aq 0 aeK ((Lu*(U r0 16 0))+((Lv*(U r0 17 0))+((Lw*(U r0 18 0))+((Lx*(U r0 19 0))+((U4*(U r0 20 0))+((U5*(U r0 21 0))+((U6*(U r0 22 0))+(U7*(U r0 23 0))))))))) bk λz37=>aq 0 8191 ((Lu*(U r0 16 0))+((Lv*(U r0 17 0))+((Lw*(U r0 18 0))+((Lx*(U r0 19 0))+((U4*(U r0 20 0))+((U5*(U r0 21 0))+((U6*(U r0 22 0))+((U7*(U r0 23 0))+(cp+(ab*z37)))))))))) fD λcU=>aq 0 Ly ((U r0 16 0)+((256*(U r0 17 0))+((65536*(U r0 18 0))+((iU*(U r0 19 0))+((iV*(U r0 20 0))+((iW*(U r0 21 0))+((iX*(U r0 22 0))+(jM*(U r0 23 0))))))))) aqT λcO=>aq 0 Ly ((Lz*(U r0 24 0))+((LA*(U r0 25 0))+((U8*(U r0 26 0))+((U9*(U r0 27 0))+((Va*(U r0 28 0))+((Vb*(U r0 29 0))+((Vc*(U r0 30 0))+(Vd*(U r0 31 0))))))))) bk λz40=>aq 0 8191 ((Lz*(U r0 24 0))+((LA*(U r0 25 0))+((U8*(U r0 26 0))+((U9*(U r0 27 0))+((Va*(U r0 28 0))+((Vb*(U r0 29 0))+((Vc*(U r0 30 0))+((Vd*(U r0 31 0))+(cO+(ab*z40)))))))))) fD λc2=>aq 0 aqU ((U r0 24 0)+((256*(U r0 25 0))+((65536*(U r0 26 0))+((iU*(U r0 27 0))+((iV*(U r0 28 0))+((iW*(U r0 29 0))+((iX*(U r0 30 0))+(jM*(U r0 31 0))))))))) 4096 λdb=>dx 5 S 46 [[((U r0 0 0)+((256*(U r0 1 0))+((65536*(U r0 2 0))+((iU*(U r0 3 0))+((iV*(U r0 4 0))+((iW*(U r0 5 0))+((iX*(U r0 6 0))+((jM*(U r0 7 0))+(eM*bj))))))))),((8192*(U r0 8 0))+((Lq*(U r0 9 0))+((Lr*(U r0 10 0))+((Ls*(U r0 11 0))+((Lt*(U r0 12 0))+((U1*(U r0 13 0))+((U2*(U r0 14 0))+((U3*(U r0 15 0))+(bM+((ab*cw)+(eM*b7))))))))))),((Lu*(U r0 16 0))+((Lv*(U r0 17 0))+((Lw*(U r0 18 0))+((Lx*(U r0 19 0))+((U4*(U r0 20 0))+((U5*(U r0 21 0))+((U6*(U r0 22 0))+((U7*(U r0 23 0))+(cp+((ab*z37)+(eM*cU))))))))))),((Lz*(U r0 24 0))+((LA*(U r0 25 0))+((U8*(U r0 26 0))+((U9*(U r0 27 0))+((Va*(U r0 28 0))+((Vb*(U r0 29 0))+((Vc*(U r0 30 0))+((Vd*(U r0 31 0))+(cO+((ab*z40)+(eM*c2))))))))))),db]] λRw=>K [r0] [Rw]
theorem aMr (G):YW (fu G) (e6 rP.res 29):=by
 simp(maxSteps:=4000000) only[YW,aq,dx,oc,iU,iV,iW,iX,jM,ab,bk,eM,fD,Lq,Lr,Ls,Lt,U1,U2,U3,aeK,aqS,Lu,Lv,Lw,Lx,U4,U5,U6,U7,Ly,aqT,Lz,LA,U8,U9,Va,Vb,Vc,Vd,aqU];intro r0 i0 bj cN jI Kr d32 bM hT hX wX d33 cw iA iC NL d34 b7 iq iv abq d35 cp hE hG NM d36 z37 a37 jk Ks d37 cU hU hZ abr d38 cO ir iw NO d39 z40 a40 j9 NP d40 c2 sj sm abt d41 db qD mA NQ d42 Rw i43 aL;have aL:v5 Rw% aa=v5 _% aa/\v5 Rw<aa+38:=aL.1;refine⟨?_,?_⟩
 ·exact k0 i43
 ·show v5 Rw% aa=nb r0% aa;obtain⟨dp,ak,ai,aw,dk,jz,jR,lW,mW,mX,nE,ik,ki,mP,vV,vW,vX,vY,vZ,v7,v8,wa,wc,we,wg,wh,wi,wj,wk,wm,wo,wq,rfl,mN,mO,mQ,mR,mS,mT,mU,mV,xN,xO,avL,avM,avN,avO,avP,avQ,avR,avS,avT,avU,au3,au4,au5,au6,au7,au8,au9,ava,avb,avc,avd,ave,avf,avg,avh,avi,avj,avk,avl,avm,avn,avo,avp,avq,avr,avs,avt,avu,avv,avw,avx,avy,avz,avA,avB,avC,avD,avE,avF,avG,avH,avI,avJ,avK⟩:=Iy i0;simp only[gp,hq]at*;have aO0:bj=bM:=dup Kr d32 wX d33;subst aO0;have ag0:cp=8192*cw+b7:=by
   clear Kr d32 hT hX wX d33 iA iC iq iv hE hG a37 jk Ks d37 hU hZ abr d38 ir iw NO d39 a40 j9 NP d40 sj sm abt d41 qD mA NQ d42 aL;omega
  have asZ:cO=8192*z37+cU:=by
   clear cN jI Kr d32 hT hX wX d33 iA iC NL d34 iq iv abq d35 NM d36 a37 jk hU hZ ir iw a40 j9 NP d40 sj sm abt d41 qD mA NQ d42 aL;clear ag0;omega
  have aO1:db=8192*z40+c2:=by
   clear cN jI Kr d32 hT hX wX d33 iA iC NL d34 iq iv abq d35 hE hG NM d36 a37 jk Ks d37 hU hZ abr d38 NO d39 a40 j9 sj sm qD mA aL;clear ag0 asZ;omega
  rw[aL.1]
  congr 1
  clear cN jI Kr d32 hT hX wX d33 iA iC NL d34 iq iv abq d35 hE hG NM d36 a37 jk Ks d37 hU hZ abr d38 ir iw NO d39 a40 j9 NP d40 sj sm abt d41 qD mA NQ d42 aL;subst aO1;subst asZ;subst ag0;simp only[num];omega
def YJ (S:zzS) (K:zzK):Prop:=bS 5 λr0=>dx 5 S 46 [r0] λaD=>aq 0 2 ((U aD 0 0)+19) fD λaY=>aq 0 2 ((U aD 1 0)+aY) fD λaN=>aq 0 2 ((U aD 2 0)+aN) fD λz12=>aq 0 2 ((U aD 3 0)+z12) fD λa1=>aq 0 2 ((U aD 4 0)+a1) fD λaG=>aq 0 2 ((U aD 0 0)+(19*aG)) fD λaS=>aq 0 2 ((U aD 0 0)+(19*aG)) fD λba=>aq 0 2 ((U aD 1 0)+aS) fD λaW=>aq 0 2 ((U aD 1 0)+aS) fD λbm=>aq 0 2 ((U aD 2 0)+aW) fD λbp=>aq 0 2 ((U aD 2 0)+aW) fD λz20=>aq 0 2 ((U aD 3 0)+bp) fD λz21=>aq 0 2 ((U aD 3 0)+bp) fD λz22=>aq 0 2 ((U aD 4 0)+z21) fD λbW=>aq 0 2 ((U aD 4 0)+z21) fD λz24=>aq 0 aeP ((U aD 0 0)+((19*aG)+(eM*ba))) 256 λcr=>aq 0 aeP ((U aD 0 0)+((19*aG)+(eM*ba))) 256 λz26=>aq 0 aeQ z26 256 λb5=>aq 0 aeQ ((U aD 0 0)+((19*aG)+(eM*ba))) 65536 λz28=>aq 0 aeR z28 256 λcl=>aq 0 aeR ((U aD 0 0)+((19*aG)+(eM*ba))) iU λcA=>aq 0 524287 cA 256 λz31=>aq 0 524287 ((U aD 0 0)+((19*aG)+(eM*ba))) iV λbj=>aq 0 2047 bj 256 λbM=>aq 0 2047 ((U aD 0 0)+((19*aG)+(eM*ba))) iW λcw=>aq 0 7 cw 256 λb7=>aq 0 7 ((U aD 0 0)+((19*aG)+(eM*ba))) iX λcp=>aq 0 aeS ((8*(U aD 1 0))+((8*aS)+(aeL*bm))) 256 λz37=>aq 0 aeS ((U aD 1 0)+(aS+(eM*bm))) 32 λcU=>aq 0 aeT cU 256 λcO=>aq 0 aeT ((U aD 1 0)+(aS+(eM*bm))) 8192 λz40=>aq 0 aeU z40 256 λc2=>aq 0 aeU ((U aD 1 0)+(aS+(eM*bm))) Lq λdb=>aq 0 aeV db 256 λdc=>aq 0 aeV ((U aD 1 0)+(aS+(eM*bm))) Lr λeh=>aq 0 16383 eh 256 λdC=>aq 0 16383 ((U aD 1 0)+(aS+(eM*bm))) Ls λz46=>aq 0 63 z46 256 λdz=>aq 0 63 ((U aD 1 0)+(aS+(eM*bm))) Lt λdL=>aq 0 aeW ((64*(U aD 2 0))+((64*aW)+(aeM*z20))) 256 λz49=>aq 0 aeW ((U aD 2 0)+(aW+(eM*z20))) 4 λe3=>aq 0 aeX e3 256 λz51=>aq 0 aeX ((U aD 2 0)+(aW+(eM*z20))) 1024 λdA=>aq 0 aeY dA 256 λz53=>aq 0 aeY ((U aD 2 0)+(aW+(eM*z20))) 262144 λeX=>aq 0 aeZ eX 256 λff=>aq 0 aeZ ((U aD 2 0)+(aW+(eM*z20))) Lu λe4=>aq 0 131071 e4 256 λdm=>aq 0 131071 ((U aD 2 0)+(aW+(eM*z20))) Lv λfh=>aq 0 511 fh 256 λz59=>aq 0 511 ((U aD 2 0)+(aW+(eM*z20))) Lw λfH=>bg fH 256 λfQ=>bg ((U aD 2 0)+(aW+(eM*z20))) Lx λfR=>aq 0 ae0 ((2*(U aD 3 0))+((2*bp)+(aeN*z22))) 256 λew=>aq 0 ae0 ((U aD 3 0)+(bp+(eM*z22))) 128 λfI=>aq 0 ae1 fI 256 λgD=>aq 0 ae1 ((U aD 3 0)+(bp+(eM*z22))) 32768 λgE=>aq 0 ae2 gE 256 λgg=>aq 0 ae2 ((U aD 3 0)+(bp+(eM*z22))) aqV λgh=>aq 0 ae3 gh 256 λgn=>aq 0 ae3 ((U aD 3 0)+(bp+(eM*z22))) aqW λz70=>aq 0 4095 z70 256 λgM=>aq 0 4095 ((U aD 3 0)+(bp+(eM*z22))) Lz λz72=>aq 0 15 z72 256 λfZ=>aq 0 15 ((U aD 3 0)+(bp+(eM*z22))) LA λm1=>aq 0 ae4 ((16*(U aD 4 0))+((16*z21)+(aeO*z24))) 256 λz75=>aq 0 ae4 ((U aD 4 0)+(z21+(eM*z24))) 16 λz76=>aq 0 Ly z76 256 λlN=>aq 0 Ly ((U aD 4 0)+(z21+(eM*z24))) 4096 λlg=>aq 0 ae5 lg 256 λlh=>aq 0 ae5 ((U aD 4 0)+(z21+(eM*z24))) aqX λmm=>aq 0 ae6 mm 256 λnG=>aq 0 ae6 ((U aD 4 0)+(z21+(eM*z24))) aqY λl0=>aq 0 32767 l0 256 λkK=>aq 0 32767 ((U aD 4 0)+(z21+(eM*z24))) aqZ λmn=>aq 0 127 mn 256 λz85=>aq 0 127 ((U aD 4 0)+(z21+(eM*z24))) aq0 λmo=>K [r0] [[((U aD 0 0)+((19*aG)+((eM*ba)+((-256)*cr)))),(z26+((-256)*b5)),(z28+((-256)*cl)),(cA+((-256)*z31)),(bj+((-256)*bM)),(cw+((-256)*b7)),((8*(U aD 1 0))+((8*aS)+((aeL*bm)+(cp+((-256)*z37))))),(cU+((-256)*cO)),(z40+((-256)*c2)),(db+((-256)*dc)),(eh+((-256)*dC)),(z46+((-256)*dz)),((64*(U aD 2 0))+((64*aW)+((aeM*z20)+(dL+((-256)*z49))))),(e3+((-256)*z51)),(dA+((-256)*z53)),(eX+((-256)*ff)),(e4+((-256)*dm)),(fh+((-256)*z59)),(fH+((-256)*fQ)),((2*(U aD 3 0))+((2*bp)+((aeN*z22)+(fR+((-256)*ew))))),(fI+((-256)*gD)),(gE+((-256)*gg)),(gh+((-256)*gn)),(z70+((-256)*gM)),(z72+((-256)*fZ)),((16*(U aD 4 0))+((16*z21)+((aeO*z24)+(m1+((-256)*z75))))),(z76+((-256)*lN)),(lg+((-256)*lh)),(mm+((-256)*nG)),(l0+((-256)*kK)),(mn+((-256)*z85)),mo]]
structure nK (p:Prop):Prop where
 h:p
theorem agG (G):YJ (fu G) (e6 iY.res 31):=by
 simp(maxSteps:=4000000) only[YJ,dx,bS,iU,iV,iW,iX,eM,fD,Lq,Lr,Ls,Lt,Lu,Lv,Lw,Lx,Ly,Lz,LA,aeL,aeM,aeN,aeO,aeP,aeQ,aeR,aeS,aeT,aeU,aeV,aeW,aeX,aeY,aeZ,ae0,ae1,ae2,aqV,ae3,aqW,ae4,ae5,aqX,ae6,aqY,aqZ,aq0]
 refineλr0 i0 aD i5 aL=>bV λaY Ff=>bV λaN aAW=>bV λz12 Fg=>bV λa1 TH=>bV λaG By=>bV λaS N5=>bV λba tR=>bV λaW zD=>bV λbm zE=>bV λbp ya=>bV λz20 HC=>bV λz21 KD=>bV λz22 HD=>bV λbW N7=>bV λz24 HE=>bV λcr ab4=>bV λz26 De=>bV λb5 ab5=>bV λz28 TI=>bV λcl KE=>bV λcA TJ=>bV λz31 TK=>bV λbj N9=>bV λbM TL=>bV λcw TM=>bV λb7 Oa=>bV λcp KF=>bV λz37 ab6=>bV λcU HF=>bV λcO ab7=>bV λz40 TN=>bV λc2 KG=>bV λdb TO=>bV λdc anu=>bV λeh Df=>bV λdC anv=>bV λz46 anw=>bV λdz HG=>bV λdL TP=>bV λz49 Ob=>bV λe3 HH=>bV λz51 aca=>bV λdA TQ=>bV λz53 KH=>bV λeX KI=>bV λff anx=>bV λe4 HI=>bV λdm anz=>bV λfh TR=>bV λz59 Oc=>bV λfH anA=>kf λfQ anB=>kf λfR HJ=>bV λew KJ=>bV λfI anC=>bV λgD KK=>bV λgE anD=>bV λgg TS=>bV λgh Od=>bV λgn anE=>bV λz70 anF=>bV λgM Oe=>bV λz72 TT=>bV λfZ anG=>bV λm1 Of=>bV λz75 ace=>bV λz76 anH=>bV λlN KL=>bV λlg anI=>bV λlh acf=>bV λmm anJ=>bV λnG anK=>bV λl0 anL=>bV λkK Og=>bV λmn anM=>bV λz85 Oh=>bV λmo anN=>?_
 have aL:v5 aD% aa=v5 r0% aa/\v5 aD<aa+38:=aL.1;have aL:=nK.mk aL;refine⟨?_,?_⟩
 ·obtain⟨dp,ak,ai,aw,dk,rfl,mN,mO,mQ,mR,mS,mT,mU,mV,xN,xO⟩:=BR i5;have f0:=nK.mk (y2 mN mO);have f1:=nK.mk (y2 mQ mR);have f2:=nK.mk (y2 mS mT);have f3:=nK.mk (y2 mU mV);have f4:=nK.mk (y2 xN xO)
  clear mN mO mQ mR mS mT mU mV xN xO;simp only[gp,hq]at*;simp only[iY,aX,D.bds,gK,aT,j4,eQ,gO,nH,sT,ay,and_true];exact a2 (by have:=By.h;have:=tR.h;have:=ab4.h;omega) <|
   a2 (by have:=De.h;have:=ab5.h;omega) <|
   a2 (by have:=TI.h;have:=KE.h;omega) <|
   a2 (by have:=TJ.h;have:=TK.h;omega) <|
   a2 (by have:=N9.h;have:=TL.h;omega) <|
   a2 (by have:=TM.h;have:=Oa.h;omega) <|
   a2 (by have:=N5.h;have:=zE.h;have:=KF.h;have:=ab6.h;omega) <|
   a2 (by have:=HF.h;have:=ab7.h;omega) <|
   a2 (by have:=TN.h;have:=KG.h;omega) <|
   a2 (by have:=TO.h;have:=anu.h;omega) <|
   a2 (by have:=Df.h;have:=anv.h;omega) <|
   a2 (by have:=anw.h;have:=HG.h;omega) <|
   a2 (by have:=zD.h;have:=HC.h;have:=TP.h;have:=Ob.h;omega) <|
   a2 (by have:=HH.h;have:=aca.h;omega) <|
   a2 (by have:=TQ.h;have:=KH.h;omega) <|
   a2 (by have:=KI.h;have:=anx.h;omega) <|
   a2 (by have:=HI.h;have:=anz.h;omega) <|
   a2 (by have:=TR.h;have:=Oc.h;omega) <|
   a2 (by have:=anA.h;have:=anB.h;omega) <|
   a2 (by have:=ya.h;have:=HD.h;have:=HJ.h;have:=KJ.h;omega) <|
   a2 (by have:=anC.h;have:=KK.h;omega) <|
   a2 (by have:=anD.h;have:=TS.h;omega) <|
   a2 (by have:=Od.h;have:=anE.h;omega) <|
   a2 (by have:=anF.h;have:=Oe.h;omega) <|
   a2 (by have:=TT.h;have:=anG.h;omega) <|
   a2 (by have:=KD.h;have:=HE.h;have:=Of.h;have:=ace.h;omega) <|
   a2 (by have:=anH.h;have:=KL.h;omega) <|
   a2 (by have:=anI.h;have:=acf.h;omega) <|
   a2 (by have:=anJ.h;have:=anK.h;omega) <|
   a2 (by have:=anL.h;have:=Og.h;omega) <|
   a2 (by have:=anM.h;have:=Oh.h;omega) <|
   by have:=anN.h;omega
 ·show nb _=v5 r0% aa;have aV:=aVu i5;obtain⟨dp,ak,ai,aw,dk,rfl,mN,mO,mQ,mR,mS,mT,mU,mV,xN,xO⟩:=BR i5;have f0:=nK.mk (y2 mN mO);have f1:=nK.mk (y2 mQ mR);have f2:=nK.mk (y2 mS mT);have f3:=nK.mk (y2 mU mV);have f4:=nK.mk (y2 xN xO)
  clear mN mO mQ mR mS mT mU mV xN xO;simp only[gp,hq]at*;obtain⟨rfl,rfl,rfl,rfl,rfl,rfl,rfl,rfl⟩:aS=ba/\aW=bm/\bp=z20/\z21=z22/\bW=z24/\cr=z26/\b5=z28/\cl=cA:=by
   have:=N5.h;have:=tR.h;have:=f0.h;have:=f1.h;have:=f2.h;have:=f3.h;have:=f4.h;have:=zD.h;have:=zE.h;have:=ya.h;have:=HC.h;have:=KD.h;have:=HD.h;have:=N7.h;have:=HE.h;have:=ab4.h;have:=De.h;have:=ab5.h;have:=TI.h;have:=KE.h;have:=TJ.h
   omega
  obtain⟨rfl,rfl,rfl,rfl,rfl,rfl⟩:z31=bj/\bM=cw/\b7=cp/\z37=cU/\cO=z40/\c2=db:=by
   have:=ab4.h;have:=ab5.h;have:=KE.h;have:=TK.h;have:=N9.h;have:=f0.h;have:=f1.h;have:=f2.h;have:=f3.h;have:=f4.h;have:=TL.h;have:=TM.h;have:=Oa.h;have:=KF.h;have:=ab6.h;have:=HF.h;have:=ab7.h;have:=TN.h;have:=KG.h;have:=TO.h
   omega
  obtain⟨rfl,rfl,rfl,rfl,rfl,rfl⟩:dc=eh/\dC=z46/\dz=dL/\z49=e3/\z51=dA/\z53=eX:=by
   have:=ab6.h;have:=ab7.h;have:=KG.h;have:=anu.h;have:=Df.h;have:=f0.h;have:=f1.h;have:=f2.h;have:=f3.h;have:=f4.h;have:=anv.h;have:=anw.h;have:=HG.h;have:=TP.h;have:=Ob.h;have:=HH.h;have:=aca.h;have:=TQ.h;have:=KH.h;have:=KI.h
   omega
  obtain⟨rfl,rfl,rfl,rfl,rfl,rfl⟩:ff=e4/\dm=fh/\z59=fH/\fQ=fR/\ew=fI/\gD=gE:=by
   have:=Ob.h;have:=aca.h;have:=KH.h;have:=anx.h;have:=HI.h;have:=f0.h;have:=f1.h;have:=f2.h;have:=f3.h;have:=f4.h;have:=anz.h;have:=TR.h;have:=Oc.h;have:=anA.h;have:=anB.h;have:=HJ.h;have:=KJ.h;have:=anC.h;have:=KK.h;have:=anD.h
   omega
  obtain⟨rfl,rfl,rfl,rfl,rfl,rfl,rfl⟩:gg=gh/\gn=z70/\gM=z72/\fZ=m1/\z75=z76/\lN=lg/\lh=mm:=by
   have:=KJ.h;have:=KK.h;have:=TS.h;have:=Od.h;have:=f0.h;have:=f1.h;have:=f2.h;have:=f3.h;have:=f4.h;have:=anE.h;have:=anF.h;have:=Oe.h;have:=TT.h;have:=anG.h;have:=Of.h;have:=ace.h;have:=anH.h;have:=KL.h;have:=anI.h;have:=acf.h;have:=anJ.h
   omega
  obtain⟨rfl,rfl,rfl⟩:nG=l0/\kK=mn/\z85=mo:=by
   have:=ace.h;have:=KL.h;have:=acf.h;have:=anK.h;have:=anL.h;have:=f0.h;have:=f1.h;have:=f2.h;have:=f3.h;have:=f4.h;have:=Og.h;have:=anM.h;have:=Oh.h;have:=anN.h
   omega
  have anO:nb [(dp+((19*aG)+(((-dH)*aS)+((-256)*cr)))),(cr+((-256)*b5)),(b5+((-256)*cl)),(cl+((-256)*z31)),(z31+((-256)*bM)),(bM+((-256)*b7)),((8*ak)+((8*aS)+(((-0x40000000000000)*aW)+(b7+((-256)*z37))))),(z37+((-256)*cO)),(cO+((-256)*c2)),(c2+((-256)*dc)),(dc+((-256)*dC)),(dC+((-256)*dz)),((64*ai)+((64*aW)+(((-0x200000000000000)*bp)+(dz+((-256)*z49))))),(z49+((-256)*z51)),(z51+((-256)*z53)),(z53+((-256)*ff)),(ff+((-256)*dm)),(dm+((-256)*z59)),(z59+((-256)*fQ)),((2*aw)+((2*bp)+(((-4503599627370496)*z21)+(fQ+((-256)*ew))))),(ew+((-256)*gD)),(gD+((-256)*gg)),(gg+((-256)*gn)),(gn+((-256)*gM)),(gM+((-256)*fZ)),((16*dk)+((16*z21)+(((-0x80000000000000)*bW)+(fZ+((-256)*z75))))),(z75+((-256)*lN)),(lN+((-256)*lh)),(lh+((-256)*nG)),(nG+((-256)*kK)),(kK+((-256)*z85)),z85]=v5 [dp,ak,ai,aw,dk]+19*aG-0x8000000000000000000000000000000000000000000000000000000000000000*bW:=by
   have:=f0.h;have:=f1.h;have:=f2.h;have:=f3.h;have:=f4.h
   simp only[num]
   (unfold dH at*;omega)
  rw[anO];clear anO;obtain⟨atC,xy⟩:=aL.h;rw[<-atC];clear atC;have aGY:0<=dp+19-dH*aY/\dp+19-dH*aY<dH:=by
   have:=Ff.h;have:=f0.h;have:=f1.h;have:=f2.h;have:=f3.h;have:=f4.h;clear aV xy
   (unfold dH at*;omega)
  have aGZ:0<=ak+aY-dH*aN/\ak+aY-dH*aN<dH:=by
   have:=aAW.h;have:=f0.h;have:=f1.h;have:=f2.h;have:=f3.h;have:=f4.h;clear aV xy
   (unfold dH at*;omega)
  have aG0:0<=ai+aN-dH*z12/\ai+aN-dH*z12<dH:=by
   have:=Fg.h;have:=f0.h;have:=f1.h;have:=f2.h;have:=f3.h;have:=f4.h;clear aV xy
   (unfold dH at*;omega)
  have aG1:0<=aw+z12-dH*a1/\aw+z12-dH*a1<dH:=by
   have:=TH.h;have:=f0.h;have:=f1.h;have:=f2.h;have:=f3.h;have:=f4.h;clear aV xy
   (unfold dH at*;omega)
  have aG2:0<=dk+a1-dH*aG/\dk+a1-dH*aG<dH:=by
   have:=By.h;have:=f0.h;have:=f1.h;have:=f2.h;have:=f3.h;have:=f4.h;clear aV xy
   (unfold dH at*;omega)
  have k1:=an6 aGY aGZ aG0 aG1 aG2;have aG4:0<=dp+19*aG-dH*aS/\dp+19*aG-dH*aS<dH:=by
   have:=N5.h;have:=f0.h;have:=f1.h;have:=f2.h;have:=f3.h;have:=f4.h;clear aV xy
   (unfold dH at*;omega)
  have aG5:0<=ak+aS-dH*aW/\ak+aS-dH*aW<dH:=by
   have:=zD.h;have:=f0.h;have:=f1.h;have:=f2.h;have:=f3.h;have:=f4.h;clear aV xy
   (unfold dH at*;omega)
  have aG6:0<=ai+aW-dH*bp/\ai+aW-dH*bp<dH:=by
   have:=ya.h;have:=f0.h;have:=f1.h;have:=f2.h;have:=f3.h;have:=f4.h;clear aV xy
   (unfold dH at*;omega)
  have aG7:0<=aw+bp-dH*z21/\aw+bp-dH*z21<dH:=by
   have:=KD.h;have:=f0.h;have:=f1.h;have:=f2.h;have:=f3.h;have:=f4.h;clear aV xy
   (unfold dH at*;omega)
  have aG8:0<=dk+z21-dH*bW/\dk+z21-dH*bW<dH:=by
   have:=N7.h;have:=f0.h;have:=f1.h;have:=f2.h;have:=f3.h;have:=f4.h;clear aV xy
   (unfold dH at*;omega)
  have k2:=an6 aG4 aG5 aG6 aG7 aG8;have:=f0.h;have:=f1.h;have:=f2.h;have:=f3.h;have:=f4.h
  have aqR:dp+19-dH*aY+dH*(ak+aY-dH*aN)+0x40000000000000000000000000*(ai+aN-dH*z12)+0x200000000000000000000000000000000000000*(aw+z12-dH*a1)+0x1000000000000000000000000000000000000000000000000000*(dk+a1-dH*aG)=v5 [dp,ak,ai,aw,dk]+19-0x8000000000000000000000000000000000000000000000000000000000000000*aG:=by
   clear aV xy k1 k2;simp only[Ep]
   (unfold dH at*;omega)
  have aG9:dp+19*aG-dH*aS+dH*(ak+aS-dH*aW)+0x40000000000000000000000000*(ai+aW-dH*bp)+0x200000000000000000000000000000000000000*(aw+bp-dH*z21)+0x1000000000000000000000000000000000000000000000000000*(dk+z21-dH*bW)=v5 [dp,ak,ai,aw,dk]+19*aG-0x8000000000000000000000000000000000000000000000000000000000000000*bW:=by
   clear aV xy k1 k2 aqR;simp only[Ep]
   (unfold dH at*;omega)
  rw[aqR]at k1;rw[aG9]at k2;exact canon aV xy k1.1 k1.2 k2.1 k2.2
def Zb (S:zzS) (K:zzK):Prop:=bS 5 λr0=>bS 5 λaD=>dx 5 S 46 [[((U r0 0 0)+(U aD 0 0)),((U r0 1 0)+(U aD 1 0)),((U r0 2 0)+(U aD 2 0)),((U r0 3 0)+(U aD 3 0)),((U r0 4 0)+(U aD 4 0))]] λcH=>K [r0,aD] [cH]
theorem agJ (G):Zb (fu G) (e6 js.res 34):=by
 simp(maxSteps:=4000000) only[Zb,dx,bS];intro r0 i0 aD i5 cH i10 aL;have aL:v5 cH% aa=v5 _% aa/\v5 cH<aa+38:=aL.1;refine⟨?_,?_⟩
 ·exact k0 i10
 ·show v5 cH% aa=(v5 r0+v5 aD)% aa;rw[aL.1];clear aL;obtain⟨dp,ak,ai,aw,dk,rfl,mN,mO,mQ,mR,mS,mT,mU,mV,xN,xO⟩:=BR i0;obtain⟨gV,au,ao,az,oh,rfl,wv,wx,wy,wz,wA,wB,wC,wD,avX,avY⟩:=BR i5;simp only[gp,hq,Ep]
  congr 1
  omega
def Y8 (S:zzS) (K:zzK):Prop:=bS 5 λr0=>bS 5 λaD=>dx 5 S 46 [[(((U r0 0 0)+((-1)*(U aD 0 0)))+aq1),(((U r0 1 0)+((-1)*(U aD 1 0)))+PI),(((U r0 2 0)+((-1)*(U aD 2 0)))+PI),(((U r0 3 0)+((-1)*(U aD 3 0)))+PI),(((U r0 4 0)+((-1)*(U aD 4 0)))+PI)]] λcH=>K [r0,aD] [cH]
theorem agI (G):Y8 (fu G) (e6 jr.res 32):=by
 simp(maxSteps:=4000000) only[Y8,dx,bS,aq1,PI];intro r0 i0 aD i5 cH i10 aL;have aL:v5 cH% aa=v5 _% aa/\v5 cH<aa+38:=aL.1;refine⟨?_,?_⟩
 ·exact k0 i10
 ·show v5 cH% aa=(v5 r0-v5 aD)% aa;rw[aL.1];clear aL;obtain⟨dp,ak,ai,aw,dk,rfl,mN,mO,mQ,mR,mS,mT,mU,mV,xN,xO⟩:=BR i0;obtain⟨gV,au,ao,az,oh,rfl,wv,wx,wy,wz,wA,wB,wC,wD,avX,avY⟩:=BR i5;simp only[aa,gp,hq];have e:v5 [((dp+((-1)*gV))+9007199254740916),((ak+((-1)*au))+9007199254740988),((ai+((-1)*ao))+9007199254740988),((aw+((-1)*az))+9007199254740988),((dk+((-1)*oh))+9007199254740988)]=v5 [dp,ak,ai,aw,dk]-v5 [gV,au,ao,az,oh]+aa*4:=by simp only[aa,Ep];omega
  rw[e,xQ]
def ZK (S:zzS) (K:zzK):Prop:=bS 5 λr0=>bS 5 λaD=>eo tf ((U r0 0 0)*(U aD 0 0)) λaY=>aq 0 ku aY bk λaN=>eo tf ((U r0 0 0)*(U aD 1 0)) λz12=>aq 0 ku z12 bk λa1=>eo tf ((U r0 0 0)*(U aD 2 0)) λaG=>aq 0 ku aG bk λaS=>eo tf ((U r0 0 0)*(U aD 3 0)) λba=>aq 0 ku ba bk λaW=>eo tf ((U r0 0 0)*(U aD 4 0)) λbm=>aq 0 ku bm bk λbp=>eo tf ((U r0 1 0)*(U aD 0 0)) λz20=>aq 0 ku z20 bk λz21=>bg (z12+((ab*a1)+(z20+(ab*z21)))) bk λz22=>eo tf ((U r0 1 0)*(U aD 1 0)) λbW=>aq 0 ku bW bk λz24=>bg (aG+((ab*aS)+(bW+(ab*z24)))) bk λcr=>eo tf ((U r0 1 0)*(U aD 2 0)) λz26=>aq 0 ku z26 bk λb5=>bg (ba+((ab*aW)+(z26+(ab*b5)))) bk λz28=>eo tf ((U r0 1 0)*(U aD 3 0)) λcl=>aq 0 ku cl bk λcA=>bg (bm+((ab*bp)+(cl+(ab*cA)))) bk λz31=>eo z6 ((U r0 1 0)*(19*(U aD 4 0))) λbj=>aq 0 z7 bj bk λbM=>bg (aY+((ab*aN)+(bj+(ab*bM)))) bk λcw=>eo tf ((U r0 2 0)*(U aD 0 0)) λb7=>aq 0 ku b7 bk λcp=>bg (aG+((ab*aS)+(bW+((ab*z24)+((ab*cr)+(b7+(ab*cp))))))) bk λz37=>eo tf ((U r0 2 0)*(U aD 1 0)) λcU=>aq 0 ku cU bk λcO=>bg (ba+((ab*aW)+(z26+((ab*b5)+((ab*z28)+(cU+(ab*cO))))))) bk λz40=>eo tf ((U r0 2 0)*(U aD 2 0)) λc2=>aq 0 ku c2 bk λdb=>bg (bm+((ab*bp)+(cl+((ab*cA)+((ab*z31)+(c2+(ab*db))))))) bk λdc=>eo z6 ((U r0 2 0)*(19*(U aD 3 0))) λeh=>aq 0 z7 eh bk λdC=>bg (aY+((ab*aN)+(bj+((ab*bM)+((ab*cw)+(eh+(ab*dC))))))) bk λz46=>eo z6 ((U r0 2 0)*(19*(U aD 4 0))) λdz=>aq 0 z7 dz bk λdL=>bg (z12+((ab*a1)+(z20+((ab*z21)+((ab*z22)+(dz+(ab*dL))))))) bk λz49=>eo tf ((U r0 3 0)*(U aD 0 0)) λe3=>aq 0 ku e3 bk λz51=>bg (ba+((ab*aW)+(z26+((ab*b5)+((ab*z28)+(cU+((ab*cO)+((ab*z40)+(e3+(ab*z51)))))))))) bk λdA=>eo tf ((U r0 3 0)*(U aD 1 0)) λz53=>aq 0 ku z53 bk λeX=>bg (bm+((ab*bp)+(cl+((ab*cA)+((ab*z31)+(c2+((ab*db)+((ab*dc)+(z53+(ab*eX)))))))))) bk λff=>eo z6 ((U r0 3 0)*(19*(U aD 2 0))) λe4=>aq 0 z7 e4 bk λdm=>bg (aY+((ab*aN)+(bj+((ab*bM)+((ab*cw)+(eh+((ab*dC)+((ab*z46)+(e4+(ab*dm)))))))))) bk λfh=>eo z6 ((U r0 3 0)*(19*(U aD 3 0))) λz59=>aq 0 z7 z59 bk λfH=>bg (z12+((ab*a1)+(z20+((ab*z21)+((ab*z22)+(dz+((ab*dL)+((ab*z49)+(z59+(ab*fH)))))))))) bk λfQ=>eo z6 ((U r0 3 0)*(19*(U aD 4 0))) λfR=>aq 0 z7 fR bk λew=>bg (aG+((ab*aS)+(bW+((ab*z24)+((ab*cr)+(b7+((ab*cp)+((ab*z37)+(fR+(ab*ew)))))))))) bk λfI=>eo tf ((U r0 4 0)*(U aD 0 0)) λgD=>aq 0 ku gD bk λgE=>bg (bm+((ab*bp)+(cl+((ab*cA)+((ab*z31)+(c2+((ab*db)+((ab*dc)+(z53+((ab*eX)+((ab*ff)+(gD+(ab*gE))))))))))))) bk λgg=>eo z6 ((U r0 4 0)*(19*(U aD 1 0))) λgh=>aq 0 z7 gh bk λgn=>bg (aY+((ab*aN)+(bj+((ab*bM)+((ab*cw)+(eh+((ab*dC)+((ab*z46)+(e4+((ab*dm)+((ab*fh)+(gh+(ab*gn))))))))))))) bk λz70=>eo z6 ((U r0 4 0)*(19*(U aD 2 0))) λgM=>aq 0 z7 gM bk λz72=>bg (z12+((ab*a1)+(z20+((ab*z21)+((ab*z22)+(dz+((ab*dL)+((ab*z49)+(z59+((ab*fH)+((ab*fQ)+(gM+(ab*z72))))))))))))) bk λfZ=>eo z6 ((U r0 4 0)*(19*(U aD 3 0))) λm1=>aq 0 z7 m1 bk λz75=>bg (aG+((ab*aS)+(bW+((ab*z24)+((ab*cr)+(b7+((ab*cp)+((ab*z37)+(fR+((ab*ew)+((ab*fI)+(m1+(ab*z75))))))))))))) bk λz76=>eo z6 ((U r0 4 0)*(19*(U aD 4 0))) λlN=>aq 0 z7 lN bk λlg=>bg (ba+((ab*aW)+(z26+((ab*b5)+((ab*z28)+(cU+((ab*cO)+((ab*z40)+(e3+((ab*z51)+((ab*dA)+(lN+(ab*lg))))))))))))) bk λlh=>bg (aY+((ab*aN)+(bj+((ab*bM)+((ab*cw)+(eh+((ab*dC)+((ab*z46)+(e4+((ab*dm)+((ab*fh)+(gh+((ab*gn)+(ab*z70)))))))))))))) bk λmm=>aq 0 8191 (aY+((ab*aN)+(bj+((ab*bM)+((ab*cw)+(eh+((ab*dC)+((ab*z46)+(e4+((ab*dm)+((ab*fh)+(gh+((ab*gn)+((ab*z70)+(ab*mm))))))))))))))) fD λnG=>aq 0 8191 (aY+((ab*aN)+(bj+((ab*bM)+((ab*cw)+(eh+((ab*dC)+((ab*z46)+(e4+((ab*dm)+((ab*fh)+(gh+((ab*gn)+((ab*z70)+(ab*mm))))))))))))))) fD λl0=>bg ((8192*aN)+(z12+((ab*a1)+(z20+((ab*z21)+((ab*z22)+((8192*bM)+((8192*cw)+((8192*dC)+((8192*z46)+(dz+((ab*dL)+((ab*z49)+((8192*dm)+((8192*fh)+(z59+((ab*fH)+((ab*fQ)+((8192*gn)+((8192*z70)+(gM+((ab*z72)+((ab*fZ)+((8192*mm)+l0)))))))))))))))))))))))) bk λkK=>aq 0 8191 ((8192*aN)+(z12+((ab*a1)+(z20+((ab*z21)+((ab*z22)+((8192*bM)+((8192*cw)+((8192*dC)+((8192*z46)+(dz+((ab*dL)+((ab*z49)+((8192*dm)+((8192*fh)+(z59+((ab*fH)+((ab*fQ)+((8192*gn)+((8192*z70)+(gM+((ab*z72)+((ab*fZ)+((8192*mm)+(l0+(ab*kK)))))))))))))))))))))))))) fD λmn=>aq 0 8191 ((8192*aN)+(z12+((ab*a1)+(z20+((ab*z21)+((ab*z22)+((8192*bM)+((8192*cw)+((8192*dC)+((8192*z46)+(dz+((ab*dL)+((ab*z49)+((8192*dm)+((8192*fh)+(z59+((ab*fH)+((ab*fQ)+((8192*gn)+((8192*z70)+(gM+((ab*z72)+((ab*fZ)+((8192*mm)+(l0+(ab*kK)))))))))))))))))))))))))) fD λz85=>bg ((8192*a1)+(aG+((ab*aS)+((8192*z21)+((8192*z22)+(bW+((ab*z24)+((ab*cr)+(b7+((ab*cp)+((ab*z37)+((8192*dL)+((8192*z49)+((8192*fH)+((8192*fQ)+(fR+((ab*ew)+((ab*fI)+((8192*z72)+((8192*fZ)+(m1+((ab*z75)+((ab*z76)+((8192*kK)+z85)))))))))))))))))))))))) bk λmo=>aq 0 8191 ((8192*a1)+(aG+((ab*aS)+((8192*z21)+((8192*z22)+(bW+((ab*z24)+((ab*cr)+(b7+((ab*cp)+((ab*z37)+((8192*dL)+((8192*z49)+((8192*fH)+((8192*fQ)+(fR+((ab*ew)+((ab*fI)+((8192*z72)+((8192*fZ)+(m1+((ab*z75)+((ab*z76)+((8192*kK)+(z85+(ab*mo)))))))))))))))))))))))))) fD λz87=>aq 0 8191 ((8192*a1)+(aG+((ab*aS)+((8192*z21)+((8192*z22)+(bW+((ab*z24)+((ab*cr)+(b7+((ab*cp)+((ab*z37)+((8192*dL)+((8192*z49)+((8192*fH)+((8192*fQ)+(fR+((ab*ew)+((ab*fI)+((8192*z72)+((8192*fZ)+(m1+((ab*z75)+((ab*z76)+((8192*kK)+(z85+(ab*mo)))))))))))))))))))))))))) fD λoj=>bg ((8192*aS)+(ba+((ab*aW)+((8192*z24)+((8192*cr)+(z26+((ab*b5)+((ab*z28)+((8192*cp)+((8192*z37)+(cU+((ab*cO)+((ab*z40)+(e3+((ab*z51)+((ab*dA)+((8192*ew)+((8192*fI)+((8192*z75)+((8192*z76)+(lN+((ab*lg)+((ab*lh)+((8192*mo)+oj)))))))))))))))))))))))) bk λl3=>aq 0 8191 ((8192*aS)+(ba+((ab*aW)+((8192*z24)+((8192*cr)+(z26+((ab*b5)+((ab*z28)+((8192*cp)+((8192*z37)+(cU+((ab*cO)+((ab*z40)+(e3+((ab*z51)+((ab*dA)+((8192*ew)+((8192*fI)+((8192*z75)+((8192*z76)+(lN+((ab*lg)+((ab*lh)+((8192*mo)+(oj+(ab*l3)))))))))))))))))))))))))) fD λoO=>aq 0 8191 ((8192*aS)+(ba+((ab*aW)+((8192*z24)+((8192*cr)+(z26+((ab*b5)+((ab*z28)+((8192*cp)+((8192*z37)+(cU+((ab*cO)+((ab*z40)+(e3+((ab*z51)+((ab*dA)+((8192*ew)+((8192*fI)+((8192*z75)+((8192*z76)+(lN+((ab*lg)+((ab*lh)+((8192*mo)+(oj+(ab*l3)))))))))))))))))))))))))) fD λz91=>bg ((8192*aW)+(bm+((ab*bp)+((8192*b5)+((8192*z28)+(cl+((ab*cA)+((ab*z31)+((8192*cO)+((8192*z40)+(c2+((ab*db)+((ab*dc)+((8192*z51)+((8192*dA)+(z53+((ab*eX)+((ab*ff)+(gD+((ab*gE)+((ab*gg)+((8192*lg)+((8192*lh)+((8192*l3)+z91)))))))))))))))))))))))) bk λmq=>aq 0 8191 ((8192*aW)+(bm+((ab*bp)+((8192*b5)+((8192*z28)+(cl+((ab*cA)+((ab*z31)+((8192*cO)+((8192*z40)+(c2+((ab*db)+((ab*dc)+((8192*z51)+((8192*dA)+(z53+((ab*eX)+((ab*ff)+(gD+((ab*gE)+((ab*gg)+((8192*lg)+((8192*lh)+((8192*l3)+(z91+(ab*mq)))))))))))))))))))))))))) fD λz93=>aq 0 8191 ((8192*aW)+(bm+((ab*bp)+((8192*b5)+((8192*z28)+(cl+((ab*cA)+((ab*z31)+((8192*cO)+((8192*z40)+(c2+((ab*db)+((ab*dc)+((8192*z51)+((8192*dA)+(z53+((ab*eX)+((ab*ff)+(gD+((ab*gE)+((ab*gg)+((8192*lg)+((8192*lh)+((8192*l3)+(z91+(ab*mq)))))))))))))))))))))))))) fD λly=>aq 0 8191 ((155648*bp)+((155648*cA)+((155648*z31)+((155648*db)+((155648*dc)+((155648*eX)+((155648*ff)+((155648*gE)+((155648*gg)+((155648*mq)+(19*ly))))))))))) fD λoP=>aq 0 8191 ((155648*bp)+((155648*cA)+((155648*z31)+((155648*db)+((155648*dc)+((155648*eX)+((155648*ff)+((155648*gE)+((155648*gg)+((155648*mq)+(19*ly))))))))))) fD λuT=>dx 5 S 46 [[(aY+((ab*aN)+((155648*bp)+((155648*cA)+((155648*z31)+(bj+((ab*bM)+((ab*cw)+((155648*db)+((155648*dc)+(eh+((ab*dC)+((ab*z46)+((155648*eX)+((155648*ff)+(e4+((ab*dm)+((ab*fh)+((155648*gE)+((155648*gg)+(gh+((ab*gn)+((ab*z70)+((ab*mm)+((eM*nG)+((155648*mq)+((19*ly)+(eM*oP)))))))))))))))))))))))))))),((8192*aN)+(z12+((ab*a1)+(z20+((ab*z21)+((ab*z22)+((8192*bM)+((8192*cw)+((8192*dC)+((8192*z46)+(dz+((ab*dL)+((ab*z49)+((8192*dm)+((8192*fh)+(z59+((ab*fH)+((ab*fQ)+((8192*gn)+((8192*z70)+(gM+((ab*z72)+((ab*fZ)+((8192*mm)+(l0+((ab*kK)+((eM*mn)+uT))))))))))))))))))))))))))),((8192*a1)+(aG+((ab*aS)+((8192*z21)+((8192*z22)+(bW+((ab*z24)+((ab*cr)+(b7+((ab*cp)+((ab*z37)+((8192*dL)+((8192*z49)+((8192*fH)+((8192*fQ)+(fR+((ab*ew)+((ab*fI)+((8192*z72)+((8192*fZ)+(m1+((ab*z75)+((ab*z76)+((8192*kK)+(z85+((ab*mo)+(eM*z87))))))))))))))))))))))))))),((8192*aS)+(ba+((ab*aW)+((8192*z24)+((8192*cr)+(z26+((ab*b5)+((ab*z28)+((8192*cp)+((8192*z37)+(cU+((ab*cO)+((ab*z40)+(e3+((ab*z51)+((ab*dA)+((8192*ew)+((8192*fI)+((8192*z75)+((8192*z76)+(lN+((ab*lg)+((ab*lh)+((8192*mo)+(oj+((ab*l3)+(eM*oO))))))))))))))))))))))))))),((8192*aW)+(bm+((ab*bp)+((8192*b5)+((8192*z28)+(cl+((ab*cA)+((ab*z31)+((8192*cO)+((8192*z40)+(c2+((ab*db)+((ab*dc)+((8192*z51)+((8192*dA)+(z53+((ab*eX)+((ab*ff)+(gD+((ab*gE)+((ab*gg)+((8192*lg)+((8192*lh)+((8192*l3)+(z91+((ab*mq)+(eM*z93)))))))))))))))))))))))))))]] λCc=>K [r0,aD] [Cc]
theorem aN1 (G):ZK (fu G) (e6 ib.res 33):=by
 simp(maxSteps:=4000000) only[ZK,eo,aq,bg,dx,bS,ab,bk,ku,eM,fD,tf,z6,z7];intro r0 i0 aD i5 aY oT nL Ff aN hS hV Bs d11 z12 a12 ow Fg a1 jd jg Km d13 aG pA pD By aS iM iP NH d15 ba qC qE tR aW iN iQ NI d17 bm jB jE zE bp jC jF NJ d19 z20 a20 iB HC z21 a21 iu gv d21 z22 a22 hW Fb d22 bW iz eR N7 z24 a24 gA Kq d24 cr je jh Tk d25 z26 a26 ji De b5 jf jj azs d27 z28 a28 j8 azt d28 cl jD jG KE cA jT jH azu d30 z31 a31 km azv d31 bj cN jI N9 bM hT hX wX d33 cw iA iC NL d34 b7 iq iv Oa cp hE hG NM d36 z37 a37 jk Ks d37 cU hU hZ HF cO ir iw NO d39 z40 a40 j9 NP d40 c2 sj sm KG db qD mA NQ d42 dc u2 u9 azx d43 eh u3 va Df dC zd zo azy d45 z46 a46 zp azz d46 dz u4 vb HG dL u5 vc azA d48 z49 a49 vd azB d49 e3 ze zq HH z51 a51 wT azD d51 dA u6 ve azE d52 z53 a53 wU KH eX wN wV azF d54 ff A6 Bg azG d55 e4 u7 vf HI dm tL sn amF d57 fh A7 Bh azH d58 z59 a59 wW Oc fH zf zr azJ d60 fQ zg zt azK d61 fR x3 x5 HJ ew Hd Hn azL d63 fI j7 zu azM d64 gD zh zv KK gE zi zw azN d66 gg zj zx azO d67 gh He E2 Od gn A8 Bi azP d69 z70 a70 Bj azQ d70 gM A9 Bk Oe z72 a72 Bl azR d72 fZ ET Bm azS d73 m1 Hf Ho Of z75 a75 E3 Tl d75 z76 a76 Bn azT d76 lN CY C4 KL lg CZ C5 azU d78 lh C0 C6 azV d79 mm Hg Hp azW d80 nG C1 C7 amG d81 l0 Ba Bo NS d82 kK Bb Bp azX d83 mn Bc Bq NT d84 z85 a85 E4 amH d85 mo J6 Kd Tm d86 z87 a87 E5 amI d87 oj EU E6 amJ d88 l3 EV E7 azY d89 oO EW E8 amK d90 z91 a91 Hq NU d91 mq Hh Hr azZ d92 z93 a93 Hs amL d93 ly Hi Ht amM d94 oP J7 Ke amN d95 uT Nr Ny amO d96 Cc i97 aL;have aL:v5 Cc% aa=v5 _% aa/\v5 Cc<aa+38:=aL.1;refine⟨?_,?_⟩
 ·exact k0 i97
 ·show v5 Cc% aa=v5 r0*v5 aD% aa;obtain⟨dp,ak,ai,aw,dk,rfl,mN,mO,mQ,mR,mS,mT,mU,mV,xN,xO⟩:=BR i0;obtain⟨gV,au,ao,az,oh,rfl,wv,wx,wy,wz,wA,wB,wC,wD,avX,avY⟩:=BR i5;simp only[aa,gp,hq]at*;have aO2:nG=l0:=dup amG d81 NS d82;subst aO2;have aO3:mn=z85:=dup NT d84 amH d85;subst aO3;have aO4:z87=oj:=dup amI d87 amJ d88;subst aO4;have aO5:oO=z91:=dup amK d90 NU d91;subst aO5;have aO6:z93=ly:=dup amL d93 amM d94;subst aO6;have aO7:oP=uT:=dup amN d95 amO d96;subst aO7;have anQ:v5 [(aY+(((-bt)*aN)+((155648*bp)+((155648*cA)+((155648*z31)+(bj+(((-bt)*bM)+(((-bt)*cw)+((155648*db)+((155648*dc)+(eh+(((-bt)*dC)+(((-bt)*z46)+((155648*eX)+((155648*ff)+(e4+(((-bt)*dm)+(((-bt)*fh)+((155648*gE)+((155648*gg)+(gh+(((-bt)*gn)+(((-bt)*z70)+(((-bt)*mm)+(((-dH)*nG)+((155648*mq)+((19*z93)+((-dH)*oP)))))))))))))))))))))))))))),((8192*aN)+(z12+(((-bt)*a1)+(z20+(((-bt)*z21)+(((-bt)*z22)+((8192*bM)+((8192*cw)+((8192*dC)+((8192*z46)+(dz+(((-bt)*dL)+(((-bt)*z49)+((8192*dm)+((8192*fh)+(z59+(((-bt)*fH)+(((-bt)*fQ)+((8192*gn)+((8192*z70)+(gM+(((-bt)*z72)+(((-bt)*fZ)+((8192*mm)+(nG+(((-bt)*kK)+(((-dH)*mn)+oP))))))))))))))))))))))))))),((8192*a1)+(aG+(((-bt)*aS)+((8192*z21)+((8192*z22)+(bW+(((-bt)*z24)+(((-bt)*cr)+(b7+(((-bt)*cp)+(((-bt)*z37)+((8192*dL)+((8192*z49)+((8192*fH)+((8192*fQ)+(fR+(((-bt)*ew)+(((-bt)*fI)+((8192*z72)+((8192*fZ)+(m1+(((-bt)*z75)+(((-bt)*z76)+((8192*kK)+(mn+(((-bt)*mo)+((-dH)*z87))))))))))))))))))))))))))),((8192*aS)+(ba+(((-bt)*aW)+((8192*z24)+((8192*cr)+(z26+(((-bt)*b5)+(((-bt)*z28)+((8192*cp)+((8192*z37)+(cU+(((-bt)*cO)+(((-bt)*z40)+(e3+(((-bt)*z51)+(((-bt)*dA)+((8192*ew)+((8192*fI)+((8192*z75)+((8192*z76)+(lN+(((-bt)*lg)+(((-bt)*lh)+((8192*mo)+(z87+(((-bt)*l3)+((-dH)*oO))))))))))))))))))))))))))),((8192*aW)+(bm+(((-bt)*bp)+((8192*b5)+((8192*z28)+(cl+(((-bt)*cA)+(((-bt)*z31)+((8192*cO)+((8192*z40)+(c2+(((-bt)*db)+(((-bt)*dc)+((8192*z51)+((8192*dA)+(z53+(((-bt)*eX)+(((-bt)*ff)+(gD+(((-bt)*gE)+(((-bt)*gg)+((8192*lg)+((8192*lh)+((8192*l3)+(oO+(((-bt)*mq)+((-dH)*z93)))))))))))))))))))))))))))]=(1*aY+dH*z12+0x40000000000000000000000000*aG+0x200000000000000000000000000000000000000*ba+0x1000000000000000000000000000000000000000000000000000*bm+dH*z20+0x40000000000000000000000000*bW+0x200000000000000000000000000000000000000*z26+0x1000000000000000000000000000000000000000000000000000*cl+1*bj+0x40000000000000000000000000*b7+0x200000000000000000000000000000000000000*cU+0x1000000000000000000000000000000000000000000000000000*c2+1*eh+dH*dz+0x200000000000000000000000000000000000000*e3+0x1000000000000000000000000000000000000000000000000000*z53+1*e4+dH*z59+0x40000000000000000000000000*fR+0x1000000000000000000000000000000000000000000000000000*gD+1*gh+dH*gM+0x40000000000000000000000000*m1+0x200000000000000000000000000000000000000*lN)+aa*(-(8192*bp+8192*cA+8192*z31+8192*db+8192*dc+8192*eX+8192*ff+8192*gE+8192*gg+8192*mq+1*z93)):=by
   clear oT nL Ff hS hV Bs d11 a12 ow Fg jd jg Km d13 pA pD By iM iP NH d15 qC qE tR iN iQ NI d17 jB jE zE jC jF NJ d19 a20 iB HC a21 iu gv d21 a22 hW Fb d22 iz eR N7 a24 gA Kq d24 je jh Tk d25 a26 ji De jf jj azs d27 a28 j8 azt d28 jD jG KE jT jH azu d30 a31 km azv d31 cN jI N9 hT hX wX d33 iA iC NL d34 iq iv Oa hE hG NM d36 a37 jk Ks d37 hU hZ HF ir iw NO d39 a40 j9 NP d40 sj sm KG qD mA NQ d42 u2 u9 azx d43 u3 va Df zd zo azy d45 a46 zp azz d46 u4 vb HG u5 vc azA d48 a49 vd azB d49 ze zq HH a51 wT azD d51 u6 ve azE d52 a53 wU KH wN wV azF d54 A6 Bg azG d55 u7 vf HI tL sn amF d57 A7 Bh azH d58 a59 wW Oc zf zr azJ d60 zg zt azK d61 x3 x5 HJ Hd Hn azL d63 j7 zu azM d64 zh zv KK zi zw azN d66 zj zx azO d67 He E2 Od A8 Bi azP d69 a70 Bj azQ d70 A9 Bk Oe a72 Bl azR d72 ET Bm azS d73 Hf Ho Of a75 E3 Tl d75 a76 Bn azT d76 CY C4 KL CZ C5 azU d78 C0 C6 azV d79 Hg Hp azW d80 C1 C7 amG d81 Ba Bo NS d82 Bb Bp azX d83 Bc Bq NT d84 a85 E4 amH d85 J6 Kd Tm d86 a87 E5 amI d87 EU E6 amJ d88 EV E7 azY d89 EW E8 amK d90 a91 Hq NU d91 Hh Hr azZ d92 a93 Hs amL d93 Hi Ht amM d94 J7 Ke amN d95 Nr Ny amO d96 aL;simp only[aa,Ep]
   (unfold bt at*;(unfold dH at*;omega))
  rw[aL.1,anQ,xQ];clear anQ aL;rw[Ff,Fg,By,tR,zE,HC,N7,De,KE,N9,Oa,HF,KG,Df,HG,HH,KH,HI,Oc,HJ,KK,Od,Oe,Of,KL];rw[Ep,Ep,aRY,xQ]
end Go.Fd
namespace Go.Fd
open Go.bX
def ZH (S:zzS) (K:zzK):Prop:=bS 5 λr0=>dx 5 S 33 [r0,r0] λaD=>K [r0] [aD]
theorem aNW (G):ZH (fu G) (e6 mF.res 47):=by
 simp(maxSteps:=4000000) only[ZH,dx,bS];intro r0 i0 aD i5 aL;have aL:v5 aD% aa=v5 r0*v5 r0% aa:=aL.1;refine⟨?_,?_⟩
 ·exact k0 i5
 ·show v5 aD% aa=v5 r0*v5 r0% aa;exact aL
def Y9 (S:zzS) (K:zzK):Prop:=bS 5 λr0=>dx 5 S 32 [[0,0,0,0,0],r0] λaD=>K [r0] [aD]
theorem aMI (G):Y9 (fu G) (e6 pJ.res 50):=by
 simp(maxSteps:=4000000) only[Y9,dx,bS];intro r0 i0 aD i5 aL;have aL:v5 aD% aa=(v5 [0,0,0,0,0]-v5 r0)% aa:=aL.1;refine⟨?_,?_⟩
 ·exact k0 i5
 ·show v5 aD% aa=(0-v5 r0)% aa;rw[show v5 [0,0,0,0,0]=0 by decide]at aL;exact aL
def Zc (S:zzS) (K:zzK):Prop:=bS 5 λr0=>dn 4 λaD=>∃(x2:List (List Int)->Prop) (CQ:List (List Int)->Nat),x2 [[255],[1,0,0,0,0]]/\(dy (-1) 255 λaY=>bS 5 λrZ=>x2 [[aY],rZ]->(((decide (0<=aY))=true->dx 5 S 47 [rZ] λev=>aq 0 3 aY 64 λz21=>eo sE (U aD (z21).toNat 0) λz22=>aq 0 3 aY 64 λbW=>eo sE (z22/2^((aY+((-64)*bW))).toNat) λz24=>aq 0 xj z24 2 λcr=>(((decide ((z24+((-2)*cr))=1))=true->dx 5 S 33 [ev,r0] λJh=>(x2 [[(aY+(-1))],Jh]/\CQ [[(aY+(-1))],Jh]<CQ [[aY],rZ]))/\((decide ((z24+((-2)*cr))=1))=false->(x2 [[(aY+(-1))],ev]/\CQ [[(aY+(-1))],ev]<CQ [[aY],rZ]))))/\((decide (0<=aY))=false->K [r0,aD] [rZ])))
theorem aMP (G):Zc (fu G) (Z5 G):=by
 simp(maxSteps:=4000000) only[Zc,eo,dy,aq,dx,bS,dn,xj,sE];intro r0 i0 aD i5;refine⟨λl=>match l with|[[i],r]=>v5 r% aa=cJ (v5 r0) ((ad aD).toNat/2^(i+1).toNat)/\r=yJ G r0 (ad aD).toNat (255-i).toNat|_=>False,λl=>match l with|[[i],_]=>(i+1).toNat|_=>0,?_,?_⟩
 ·show v5 [1,0,0,0,0]% aa=cJ (v5 r0) ((ad aD).toNat/2^(255+1:Int).toNat)/\[1,0,0,0,0]=yJ G r0 (ad aD).toNat (255-255:Int).toNat;refine⟨?_,rfl⟩;rw[aup i5,B6];decide
 ·intro aY oT nL rZ i11 ea;have ea:v5 rZ% aa=cJ (v5 r0) ((ad aD).toNat/2^(aY+1).toNat)/\rZ=yJ G r0 (ad aD).toNat (255-aY).toNat:=ea;refine⟨λh0=>?_,λh0=>?_⟩
  ·skip
   simp only[c6,dZ,dD,ei,decide_eq_true_eq,decide_eq_false_iff_not]at h0;intro ev i16 aL z21 a21 iu gv d21 z22 a22 hW HD bW iz eR Kp d23 z24 a24 gA HE cr je jh Tk d25;have Mq:=aL.2;have aL:v5 ev% aa=v5 rZ*v5 rZ% aa:=aL.1;refine⟨λh1=>?_,λh1=>?_⟩
   ·skip
    simp only[c6,dZ,dD,ei,decide_eq_true_eq,decide_eq_false_iff_not]at h1;intro Jh i26 s1;have Jx:=s1.2;have s1:v5 Jh% aa=v5 ev*v5 r0% aa:=s1.1;obtain⟨i,rfl⟩:=mr h0;have hb:=Ta i5 nL gv d21 HD Kp d23 HE Tk d25;have l9:((i:Int)+1).toNat=i+1:=by omega
    have tT:((i:Int)+(-1)+1).toNat=i:=by omega
    obtain⟨ea,hF⟩:=ea;rw[l9]at ea;have sx:(255-(i:Int)).toNat=255-i:=by omega
    have zG:(255-((i:Int)+(-1))).toNat=(255-i)+1:=by omega
    have zH:255-(255-i)=i:=by omega
    rw[sx]at hF;have g0:ev=G 47 rZ:=by have:=Mq;simpa using this
    have g1:Jh=G 33 (ev++r0):=by have:=Jx;simpa using this
    have cF:(ad aD).toNat/2^i% 2=1:=by omega
    refine⟨⟨?_,?_⟩,?_⟩
    ·show v5 Jh% aa=cJ (v5 r0) ((ad aD).toNat/2^((i:Int)+(-1)+1).toNat);rw[tT,asV cF,s1,<-sI (v5 ev),aL,sU (v5 rZ) (v5 rZ),ea]
    ·show Jh=yJ G r0 (ad aD).toNat (255-((i:Int)+(-1))).toNat;rw[zG,yJ,zH,<-hF,<-g0];have:((ad aD).toNat/2^i% 2==1)=true:=by simpa using cF
     rw[this,cond_true,<-g1]
    ·show((i:Int)+(-1)+1).toNat<((i:Int)+1).toNat;omega
   ·skip
    simp only[c6,dZ,dD,ei,decide_eq_true_eq,decide_eq_false_iff_not]at h1;obtain⟨i,rfl⟩:=mr h0;have hb:=Ta i5 nL gv d21 HD Kp d23 HE Tk d25;have l9:((i:Int)+1).toNat=i+1:=by omega
    have tT:((i:Int)+(-1)+1).toNat=i:=by omega
    obtain⟨ea,hF⟩:=ea;rw[l9]at ea;have sx:(255-(i:Int)).toNat=255-i:=by omega
    have zG:(255-((i:Int)+(-1))).toNat=(255-i)+1:=by omega
    have zH:255-(255-i)=i:=by omega
    rw[sx]at hF;have g0:ev=G 47 rZ:=by have:=Mq;simpa using this
    have cF:(ad aD).toNat/2^i% 2≠1:=by omega
    refine⟨⟨?_,?_⟩,?_⟩
    ·show v5 ev% aa=cJ (v5 r0) ((ad aD).toNat/2^((i:Int)+(-1)+1).toNat);rw[tT,asU cF,aL,sU (v5 rZ) (v5 rZ),ea]
    ·show ev=yJ G r0 (ad aD).toNat (255-((i:Int)+(-1))).toNat;rw[zG,yJ,zH,<-hF,<-g0];have:((ad aD).toNat/2^i% 2==1)=false:=by simpa using cF
     rw[this,cond_false]
    ·show((i:Int)+(-1)+1).toNat<((i:Int)+1).toNat;omega
  ·skip
   simp only[c6,dZ,dD,ei,decide_eq_true_eq,decide_eq_false_iff_not]at h0;obtain⟨ea,hF⟩:=ea;have l9:(aY+1).toNat=0:=by omega
   have sx:(255-aY).toNat=256:=by omega
   rw[l9]at ea;rw[sx]at hF;refine⟨⟨k0 i11,?_⟩,?_⟩
   ·show v5 rZ% aa=cJ (v5 r0) (ad aD).toNat;simpa using ea
   ·show [rZ].flatten=yJ G r0 (ad aD).toNat 256;simpa using hF
def Y5 (S:zzS) (K:zzK):Prop:=bS 5 λr0=>dx 5 S 43 [r0,[aq2,sE,sE,xj]] λaD=>K [r0] [aD]
theorem aMC (G):Y5 (fu G) (e6 rQ.res 35):=by
 simp(maxSteps:=4000000) only[Y5,dx,bS,xj,sE,aq2];intro r0 i0 aD i5 aL;have aL:v5 aD% aa=cJ (v5 r0) (ad _).toNat:=aL.1;refine⟨?_,?_⟩
 ·exact k0 i5
 ·show v5 aD% aa=cJ (v5 r0) vp;rw[aA2]at aL;exact aL
def ZD (S:zzS) (K:zzK):Prop:=bS 5 λr0=>bS 5 λaD=>oI 32 S 31 [r0] λcH=>oI 32 S 31 [aD] λr5=>K [r0,aD] [[(cond (decide (cH=r5)) 1 0)]]
theorem aNQ (G):ZD (fu G) (e6 q0.res 48):=by
 simp(maxSteps:=4000000) only[ZD,oI,bS];intro r0 i0 aD i5 cH i10 aL r5 i42 s1;have aL:nb cH=v5 r0% aa:=aL.1;have s1:nb r5=v5 aD% aa:=s1.1;refine⟨?_,?_⟩
 ·simp only[q0,aX,D.bds,j4,eQ,nH,sT,ay,and_true];rw[vn];exact abg
 ·show(cond (decide (cH=r5)) 1 0)=bit (v5 r0% aa=v5 aD% aa);rw[vn,<-aL,<-s1];exact amq ⟨λh=>by rw[h],λh=>ti i10 i42 h⟩
def Za (S:zzS) (K:zzK):Prop:=bS 5 λr0=>oI 32 S 31 [r0] λaD=>aq 0 127 (U aD 0 0) 2 λz37=>K [r0] [[(cond (decide (((U aD 0 0)+((-2)*z37))=1)) 1 0)]]
theorem aML (G):Za (fu G) (e6 qX.res 49):=by
 simp(maxSteps:=4000000) only[Za,aq,oI,bS];intro r0 i0 aD i5 aL z37 a37 jk Ks d37;have aL:nb aD=v5 r0% aa:=aL.1;refine⟨?_,?_⟩
 ·simp only[qX,aX,D.bds,j4,eQ,nH,sT,ay,and_true];rw[vn];exact abg
 ·show(cond (decide (((U aD 0 0)+((-2)*z37))=1)) 1 0)=v5 r0% aa% 2;rw[vn,<-aL];have hp:=aIX aD;unfold bit;split<;>omega
def Zu (S:zzS) (K:zzK):Prop:=bS 5 λr0=>dx 5 S 43 [r0,[jo,sE,sE,Vf]] λaD=>dx 5 S 47 [aD] λcH=>dI λaS=>S 48 [cH,r0] [[aS]]->(((decide (aS=1))=true->dI λba=>S 49 [aD] [[ba]]->(((decide (ba=1))=true->dx 5 S 50 [aD] λEc=>K [r0] [Ec,[(cond (true) 1 0)]])/\((decide (ba=1))=false->K [r0] [aD,[(cond (true) 1 0)]])))/\((decide (aS=1))=false->dx 5 S 33 [aD,[ae7,ae8,ae9,afa,afb]] λev=>dx 5 S 47 [ev] λuA=>dI λz26=>S 48 [uA,r0] [[z26]]->(((decide (z26=1))=true->dI λb5=>S 49 [ev] [[b5]]->(((decide (b5=1))=true->dx 5 S 50 [ev] λmH=>K [r0] [mH,[(cond (true) 1 0)]])/\((decide (b5=1))=false->K [r0] [ev,[(cond (true) 1 0)]])))/\((decide (z26=1))=false->dx 5 S 33 [ev,[ae7,ae8,ae9,afa,afb]] λvK=>K [r0] [[0,0,0,0,0],[(cond (false) 1 0)]]))))
theorem aNh (G):Zu (fu G) (e6 uq.res 30):=by
 simp(maxSteps:=4000000) only[Zu,dI,dx,bS,jo,sE,Vf,ae7,ae8,ae9,afa,afb];intro r0 i0 aD i5 aL cH i10 s1 aS iM iP s2;have aL:v5 aD% aa=cJ (v5 r0) (ad _).toNat:=aL.1;have s1:v5 cH% aa=v5 aD*v5 aD% aa:=s1.1;have s2:aS=bit (v5 cH% aa=v5 r0% aa):=s2.1;refine⟨λh0=>?_,λh0=>?_⟩
 ·skip
  simp only[c6,dZ,dD,ei,decide_eq_true_eq,decide_eq_false_iff_not]at h0;intro ba qC qE bx;have bx:ba=v5 aD% aa% 2:=bx.1;refine⟨λh1=>?_,λh1=>?_⟩
  ·skip
   simp only[c6,dZ,dD,ei,decide_eq_true_eq,decide_eq_false_iff_not]at h1;intro Ec i17 cG;have cG:v5 Ec% aa=(0-v5 aD)% aa:=cG.1;refine⟨?_,?_⟩
   ·exact BP i17 ⟨by decide,by decide,trivial⟩
   ·show(v5 Ec% aa,(cond (true) 1 0))=nC (v5 r0% aa);rw[zF,<-B5]at aL;have m0:v5 cH% aa=(v5 aD% aa)*(v5 aD% aa)% aa:=by rw[s1,sU]
    rw[aL]at m0;rw[s2]at h0;have eu:=C9 h0;rw[m0]at eu;unfold nC;simp only;rw[if_pos eu];rw[aL]at bx;rw[if_pos (by omega)];have av:(0-v5 aD)% aa=(0-v5 aD% aa)% aa:=by(unfold aa at*;omega)
    rw[cG,av,aL];rfl
  ·skip
   simp only[c6,dZ,dD,ei,decide_eq_true_eq,decide_eq_false_iff_not]at h1;refine⟨?_,?_⟩
   ·exact BP i5 ⟨by decide,by decide,trivial⟩
   ·show(v5 aD% aa,(cond (true) 1 0))=nC (v5 r0% aa);rw[zF,<-B5]at aL;have m0:v5 cH% aa=(v5 aD% aa)*(v5 aD% aa)% aa:=by rw[s1,sU]
    rw[aL]at m0;rw[s2]at h0;have eu:=C9 h0;rw[m0]at eu;unfold nC;simp only;rw[if_pos eu];rw[aL]at bx;rw[if_neg (by omega),aL];rfl
 ·skip
  simp only[c6,dZ,dD,ei,decide_eq_true_eq,decide_eq_false_iff_not]at h0;intro ev i16 bx uA i21 cG z26 a26 ji er;have bx:v5 ev% aa=v5 aD*v5 _% aa:=bx.1;have cG:v5 uA% aa=v5 ev*v5 ev% aa:=cG.1;have er:z26=bit (v5 uA% aa=v5 r0% aa):=er.1;refine⟨λh2=>?_,λh2=>?_⟩
  ·skip
   simp only[c6,dZ,dD,ei,decide_eq_true_eq,decide_eq_false_iff_not]at h2;intro b5 jf jj eW;have eW:b5=v5 ev% aa% 2:=eW.1;refine⟨λh3=>?_,λh3=>?_⟩
   ·skip
    simp only[c6,dZ,dD,ei,decide_eq_true_eq,decide_eq_false_iff_not]at h3;intro mH i28 gm;have gm:v5 mH% aa=(0-v5 ev)% aa:=gm.1;refine⟨?_,?_⟩
    ·exact BP i28 ⟨by decide,by decide,trivial⟩
    ·show(v5 mH% aa,(cond (true) 1 0))=nC (v5 r0% aa);rw[zF,<-B5]at aL;have m0:v5 cH% aa=(v5 aD% aa)*(v5 aD% aa)% aa:=by rw[s1,sU]
     rw[aL]at m0;rw[s2]at h0;have eu:=Ki h0;rw[m0]at eu;unfold nC;simp only;rw[if_neg eu];rw[ah9,<-sI,aL]at bx;have gk:v5 uA% aa=(v5 ev% aa)*(v5 ev% aa)% aa:=by rw[cG,sU]
     rw[bx]at gk;rw[er]at h2;have aQ:=C9 h2;rw[gk]at aQ;rw[if_pos aQ];rw[bx]at eW;rw[if_pos (by omega)];have av:(0-v5 ev)% aa=(0-v5 ev% aa)% aa:=by(unfold aa at*;omega)
     rw[gm,av,bx];rfl
   ·skip
    simp only[c6,dZ,dD,ei,decide_eq_true_eq,decide_eq_false_iff_not]at h3;refine⟨?_,?_⟩
    ·exact BP i16 ⟨by decide,by decide,trivial⟩
    ·show(v5 ev% aa,(cond (true) 1 0))=nC (v5 r0% aa);rw[zF,<-B5]at aL;have m0:v5 cH% aa=(v5 aD% aa)*(v5 aD% aa)% aa:=by rw[s1,sU]
     rw[aL]at m0;rw[s2]at h0;have eu:=Ki h0;rw[m0]at eu;unfold nC;simp only;rw[if_neg eu];rw[ah9,<-sI,aL]at bx;have gk:v5 uA% aa=(v5 ev% aa)*(v5 ev% aa)% aa:=by rw[cG,sU]
     rw[bx]at gk;rw[er]at h2;have aQ:=C9 h2;rw[gk]at aQ;rw[if_pos aQ];rw[bx]at eW;rw[if_neg (by omega),bx];rfl
  ·skip
   simp only[c6,dZ,dD,ei,decide_eq_true_eq,decide_eq_false_iff_not]at h2;intro vK i27 eW;have eW:v5 vK% aa=v5 ev*v5 _% aa:=eW.1;refine⟨?_,?_⟩
   ·simp[uq,aX,D.bds,gX,aT,ay]
   ·show(v5 [0,0,0,0,0]% aa,(cond (false) 1 0))=nC (v5 r0% aa);rw[zF,<-B5]at aL;have m0:v5 cH% aa=(v5 aD% aa)*(v5 aD% aa)% aa:=by rw[s1,sU]
    rw[aL]at m0;rw[s2]at h0;have eu:=Ki h0;rw[m0]at eu;unfold nC;simp only;rw[if_neg eu];rw[ah9,<-sI,aL]at bx;have gk:v5 uA% aa=(v5 ev% aa)*(v5 ev% aa)% aa:=by rw[cG,sU]
    rw[bx]at gk;rw[er]at h2;have aQ:=Ki h2;rw[gk]at aQ;rw[if_neg aQ];decide
def Zl (S:zzS) (K:zzK):Prop:=oc 32 λr0=>dx 5 S 29 [r0] λb6=>oI 32 S 31 [b6] λod=>K [r0] [od]
theorem agK (G):Zl (fu G) (e6 oD.res 14):=by
 simp(maxSteps:=4000000) only[Zl,oI,dx,oc];intro r0 i0 b6 i32 aL od i37 s1;have aL:v5 b6% aa=nb r0% aa:=aL.1;have s1:nb od=v5 b6% aa:=s1.1;refine⟨?_,?_⟩
 ·exact k0 i37
 ·show nb od=nb r0% aa;rw[s1,aL]
def Zo (S:zzS) (K:zzK):Prop:=oc 32 λr0=>oI 32 S 14 [r0] λb6=>K [r0] [[(cond (decide (b6=r0)) 1 0)]]
theorem agL (G):Zo (fu G) (e6 n1.res 22):=by
 simp(maxSteps:=4000000) only[Zo,oI,oc];intro r0 i0 b6 i32 aL;have aL:nb b6=nb r0% aa:=aL.1;refine⟨?_,?_⟩
 ·simp only[n1,aX,D.bds,j4,eQ,nH,sT,ay,and_true];rw[vn];exact abg
 ·show(cond (decide (b6=r0)) 1 0)=bit (nb r0<aa);rw[vn];have e9:=aga i0;have e:b6=r0↔nb r0<aa:=by
   refine⟨λh=>?_,λh=>ti i32 i0 (by rw[aL];(unfold aa at*;omega))⟩;rw[h]at aL
   (unfold aa at*;omega)
  exact amq e
end Go.Fd
namespace Go.Fd
open Go.bX
def Y6 (S:zzS) (K:zzK):Prop:=oc 32 λr0=>K [r0] [[((U r0 0 0)+((256*(U r0 1 0))+((65536*(U r0 2 0))+((iU*(U r0 3 0))+((iV*(U r0 4 0))+((iW*(U r0 5 0))+((iX*(U r0 6 0))+(jM*(U r0 7 0))))))))),((U r0 8 0)+((256*(U r0 9 0))+((65536*(U r0 10 0))+((iU*(U r0 11 0))+((iV*(U r0 12 0))+((iW*(U r0 13 0))+((iX*(U r0 14 0))+(jM*(U r0 15 0))))))))),((U r0 16 0)+((256*(U r0 17 0))+((65536*(U r0 18 0))+((iU*(U r0 19 0))+((iV*(U r0 20 0))+((iW*(U r0 21 0))+((iX*(U r0 22 0))+(jM*(U r0 23 0))))))))),((U r0 24 0)+((256*(U r0 25 0))+((65536*(U r0 26 0))+((iU*(U r0 27 0))+((iV*(U r0 28 0))+((iW*(U r0 29 0))+((iX*(U r0 30 0))+(jM*(U r0 31 0)))))))))]]
theorem agH (G):Y6 (fu G) (e6 nt.res 37):=by
 simp(maxSteps:=4000000) only[Y6,oc,iU,iV,iW,iX,jM];intro r0 i0;refine⟨?_,?_⟩
 ·obtain⟨dp,ak,ai,aw,dk,jz,jR,lW,mW,mX,nE,ik,ki,mP,vV,vW,vX,vY,vZ,v7,v8,wa,wc,we,wg,wh,wi,wj,wk,wm,wo,wq,rfl,mN,mO,mQ,mR,mS,mT,mU,mV,xN,xO,avL,avM,avN,avO,avP,avQ,avR,avS,avT,avU,au3,au4,au5,au6,au7,au8,au9,ava,avb,avc,avd,ave,avf,avg,avh,avi,avj,avk,avl,avm,avn,avo,avp,avq,avr,avs,avt,avu,avv,avw,avx,avy,avz,avA,avB,avC,avD,avE,avF,avG,avH,avI,avJ,avK⟩:=Iy i0;simp only[nt,aX,D.bds,dO,aT,j4,eQ,gO,nH,sT,ay,and_true,gp,hq];omega
 ·show ad _=nb r0;obtain⟨dp,ak,ai,aw,dk,jz,jR,lW,mW,mX,nE,ik,ki,mP,vV,vW,vX,vY,vZ,v7,v8,wa,wc,we,wg,wh,wi,wj,wk,wm,wo,wq,rfl,mN,mO,mQ,mR,mS,mT,mU,mV,xN,xO,avL,avM,avN,avO,avP,avQ,avR,avS,avT,avU,au3,au4,au5,au6,au7,au8,au9,ava,avb,avc,avd,ave,avf,avg,avh,avi,avj,avk,avl,avm,avn,avo,avp,avq,avr,avs,avt,avu,avv,avw,avx,avy,avz,avA,avB,avC,avD,avE,avF,avG,avH,avI,avJ,avK⟩:=Iy i0;simp only[num,gp,hq];omega
def Ze (S:zzS) (K:zzK):Prop:=dn 4 λr0=>aq 0 rM (U r0 0 0) 256 λz4=>aq 0 rM (U r0 0 0) 256 λz5=>aq 0 rN z5 256 λaZ=>aq 0 rN (U r0 0 0) 65536 λaK=>aq 0 ku aK 256 λaF=>aq 0 ku (U r0 0 0) iU λz9=>aq 0 rK z9 256 λaY=>aq 0 rK (U r0 0 0) iV λaN=>aq 0 rL aN 256 λz12=>aq 0 rL (U r0 0 0) iW λa1=>aq 0 65535 a1 256 λaG=>aq 0 65535 (U r0 0 0) iX λaS=>aq 0 255 aS 256 λba=>aq 0 255 (U r0 0 0) jM λaW=>aq 0 rM (U r0 1 0) 256 λbm=>aq 0 rM (U r0 1 0) 256 λbp=>aq 0 rN bp 256 λz20=>aq 0 rN (U r0 1 0) 65536 λz21=>aq 0 ku z21 256 λz22=>aq 0 ku (U r0 1 0) iU λbW=>aq 0 rK bW 256 λz24=>aq 0 rK (U r0 1 0) iV λcr=>aq 0 rL cr 256 λz26=>aq 0 rL (U r0 1 0) iW λb5=>aq 0 65535 b5 256 λz28=>aq 0 65535 (U r0 1 0) iX λcl=>aq 0 255 cl 256 λcA=>aq 0 255 (U r0 1 0) jM λz31=>aq 0 rM (U r0 2 0) 256 λbj=>aq 0 rM (U r0 2 0) 256 λbM=>aq 0 rN bM 256 λcw=>aq 0 rN (U r0 2 0) 65536 λb7=>aq 0 ku b7 256 λcp=>aq 0 ku (U r0 2 0) iU λz37=>aq 0 rK z37 256 λcU=>aq 0 rK (U r0 2 0) iV λcO=>aq 0 rL cO 256 λz40=>aq 0 rL (U r0 2 0) iW λc2=>aq 0 65535 c2 256 λdb=>aq 0 65535 (U r0 2 0) iX λdc=>aq 0 255 dc 256 λeh=>aq 0 255 (U r0 2 0) jM λdC=>aq 0 rM (U r0 3 0) 256 λz46=>aq 0 rM (U r0 3 0) 256 λdz=>aq 0 rN dz 256 λdL=>aq 0 rN (U r0 3 0) 65536 λz49=>aq 0 ku z49 256 λe3=>aq 0 ku (U r0 3 0) iU λz51=>aq 0 rK z51 256 λdA=>aq 0 rK (U r0 3 0) iV λz53=>aq 0 rL z53 256 λeX=>aq 0 rL (U r0 3 0) iW λff=>aq 0 65535 ff 256 λe4=>aq 0 65535 (U r0 3 0) iX λdm=>aq 0 255 dm 256 λfh=>aq 0 255 (U r0 3 0) jM λz59=>K [r0] [[((U r0 0 0)+((-256)*z4)),(z5+((-256)*aZ)),(aK+((-256)*aF)),(z9+((-256)*aY)),(aN+((-256)*z12)),(a1+((-256)*aG)),(aS+((-256)*ba)),aW,((U r0 1 0)+((-256)*bm)),(bp+((-256)*z20)),(z21+((-256)*z22)),(bW+((-256)*z24)),(cr+((-256)*z26)),(b5+((-256)*z28)),(cl+((-256)*cA)),z31,((U r0 2 0)+((-256)*bj)),(bM+((-256)*cw)),(b7+((-256)*cp)),(z37+((-256)*cU)),(cO+((-256)*z40)),(c2+((-256)*db)),(dc+((-256)*eh)),dC,((U r0 3 0)+((-256)*z46)),(dz+((-256)*dL)),(z49+((-256)*e3)),(z51+((-256)*dA)),(z53+((-256)*eX)),(ff+((-256)*e4)),(dm+((-256)*fh)),z59]]
theorem aMR (G):Ze (fu G) (e6 tg.res 27):=by
 simp(maxSteps:=4000000) only[Ze,dn,iU,iV,iW,iX,jM,rM,rN,ku,rK,rL]
 refineλr0 i0=>bV λz4 oh=>bV λz5 RX=>bV λaZ RY=>bV λaK R5=>bV λaF Eu=>bV λz9 Ev=>bV λaY Er=>bV λaN GA=>bV λz12 JE=>bV λa1 Es=>bV λaG MD=>bV λaS GB=>bV λba GC=>bV λaW GD=>bV λbm AK=>bV λbp GF=>bV λz20 GG=>bV λz21 Cp=>bV λz22 Cq=>bV λbW ME=>bV λz24 MF=>bV λcr GH=>bV λz26 Cr=>bV λb5 Cs=>bV λz28 MG=>bV λcl MH=>bV λcA Ct=>bV λz31 Cu=>bV λbj Et=>bV λbM XR=>bV λcw XS=>bV λb7 GI=>bV λcp GJ=>bV λz37 MI=>bV λcU MJ=>bV λcO GK=>bV λz40 GL=>bV λc2 XT=>bV λdb XU=>bV λdc MK=>bV λeh GM=>bV λdC GN=>bV λz46 RW=>bV λdz XV=>bV λdL GO=>bV λz49 GP=>bV λe3 GQ=>bV λz51 XW=>bV λdA XX=>bV λz53 GR=>bV λeX GS=>bV λff ML=>bV λe4 MM=>bV λdm GU=>bV λfh GV=>bV λz59 XY=>?_
 refine⟨?_,?_⟩
 ·obtain⟨dp,ak,ai,aw,rfl,mN,mO,mQ,mR,mS,mT,mU,mV⟩:=nX i0;simp only[gp,hq]at*;simp only[tg,aX,D.bds,gK,aT,j4,eQ,gO,nH,sT,ay,and_true];clear mN mO mQ mR mS mT mU mV;exact a2 (by have:=oh.h;omega) <|
   a2 (by have:=RX.h;have:=RY.h;omega) <|
   a2 (by have:=R5.h;have:=Eu.h;omega) <|
   a2 (by have:=Ev.h;have:=Er.h;omega) <|
   a2 (by have:=GA.h;have:=JE.h;omega) <|
   a2 (by have:=Es.h;have:=MD.h;omega) <|
   a2 (by have:=GB.h;have:=GC.h;omega) <|
   a2 (by have:=GD.h;omega) <|
   a2 (by have:=AK.h;omega) <|
   a2 (by have:=GF.h;have:=GG.h;omega) <|
   a2 (by have:=Cp.h;have:=Cq.h;omega) <|
   a2 (by have:=ME.h;have:=MF.h;omega) <|
   a2 (by have:=GH.h;have:=Cr.h;omega) <|
   a2 (by have:=Cs.h;have:=MG.h;omega) <|
   a2 (by have:=MH.h;have:=Ct.h;omega) <|
   a2 (by have:=Cu.h;omega) <|
   a2 (by have:=Et.h;omega) <|
   a2 (by have:=XR.h;have:=XS.h;omega) <|
   a2 (by have:=GI.h;have:=GJ.h;omega) <|
   a2 (by have:=MI.h;have:=MJ.h;omega) <|
   a2 (by have:=GK.h;have:=GL.h;omega) <|
   a2 (by have:=XT.h;have:=XU.h;omega) <|
   a2 (by have:=MK.h;have:=GM.h;omega) <|
   a2 (by have:=GN.h;omega) <|
   a2 (by have:=RW.h;omega) <|
   a2 (by have:=XV.h;have:=GO.h;omega) <|
   a2 (by have:=GP.h;have:=GQ.h;omega) <|
   a2 (by have:=XW.h;have:=XX.h;omega) <|
   a2 (by have:=GR.h;have:=GS.h;omega) <|
   a2 (by have:=ML.h;have:=MM.h;omega) <|
   a2 (by have:=GU.h;have:=GV.h;omega) <|
   by have:=XY.h;omega
 ·show nb _=ad r0;obtain⟨dp,ak,ai,aw,rfl,mN,mO,mQ,mR,mS,mT,mU,mV⟩:=nX i0;simp only[gp,hq]at*;obtain⟨rfl,rfl,rfl,rfl,rfl,rfl,rfl,rfl⟩:z4=z5/\aZ=aK/\aF=z9/\aY=aN/\z12=a1/\aG=aS/\ba=aW/\bm=bp:=by
   have:=oh.h;have:=RX.h;have:=RY.h;have:=R5.h;have:=Eu.h;have:=Ev.h;have:=Er.h;have:=GA.h;have:=JE.h;have:=Es.h;have:=MD.h;have:=GB.h;have:=GC.h;have:=GD.h;have:=AK.h;have:=GF.h
   omega
  obtain⟨rfl,rfl,rfl,rfl,rfl,rfl,rfl⟩:z20=z21/\z22=bW/\z24=cr/\z26=b5/\z28=cl/\cA=z31/\bj=bM:=by
   have:=AK.h;have:=GG.h;have:=Cp.h;have:=Cq.h;have:=ME.h;have:=MF.h;have:=GH.h;have:=Cr.h;have:=Cs.h;have:=MG.h;have:=MH.h;have:=Ct.h;have:=Cu.h;have:=Et.h;have:=XR.h
   omega
  obtain⟨rfl,rfl,rfl,rfl,rfl,rfl,rfl⟩:cw=b7/\cp=z37/\cU=cO/\z40=c2/\db=dc/\eh=dC/\z46=dz:=by
   have:=Et.h;have:=XS.h;have:=GI.h;have:=GJ.h;have:=MI.h;have:=MJ.h;have:=GK.h;have:=GL.h;have:=XT.h;have:=XU.h;have:=MK.h;have:=GM.h;have:=GN.h;have:=RW.h;have:=XV.h
   omega
  obtain⟨rfl,rfl,rfl,rfl,rfl,rfl⟩:dL=z49/\e3=z51/\dA=z53/\eX=ff/\e4=dm/\fh=z59:=by
   have:=RW.h;have:=GO.h;have:=GP.h;have:=GQ.h;have:=XW.h;have:=XX.h;have:=GR.h;have:=GS.h;have:=ML.h;have:=MM.h;have:=GU.h;have:=GV.h;have:=XY.h
   omega
  skip
  simp only[num];omega
def Zv (S:zzS) (K:zzK):Prop:=K [] [[0xffffffffffffffed,0xffffffffffffffff,0xffffffffffffffff,0x7fffffffffffffff]]
theorem aNi (G):Zv (fu G) (e6 oE.res 28):=by
 unfold Zv;refine⟨?_,?_⟩
 ·simp[oE,aX,D.bds,ay,dO,gX,c1,gK,aT]
 ·show ad _=aa;decide
def Zr (S:zzS) (K:zzK):Prop:=dn 4 λr0=>dn 4 λbb=>((((!(decide ((U r0 3 0)=(U bb 3 0)))))=true->K [r0,bb] [[(cond (decide ((U r0 3 0)<(U bb 3 0))) 1 0)]])/\(((!(decide ((U r0 3 0)=(U bb 3 0)))))=false->((((!(decide ((U r0 2 0)=(U bb 2 0)))))=true->K [r0,bb] [[(cond (decide ((U r0 2 0)<(U bb 2 0))) 1 0)]])/\(((!(decide ((U r0 2 0)=(U bb 2 0)))))=false->((((!(decide ((U r0 1 0)=(U bb 1 0)))))=true->K [r0,bb] [[(cond (decide ((U r0 1 0)<(U bb 1 0))) 1 0)]])/\(((!(decide ((U r0 1 0)=(U bb 1 0)))))=false->((((!(decide ((U r0 0 0)=(U bb 0 0)))))=true->K [r0,bb] [[(cond (decide ((U r0 0 0)<(U bb 0 0))) 1 0)]])/\(((!(decide ((U r0 0 0)=(U bb 0 0)))))=false->K [r0,bb] [[(cond (false) 1 0)]]))))))))
theorem aM5 (G):Zr (fu G) (e6 n2.res 42):=by
 simp(maxSteps:=4000000) only[Zr,dn];intro r0 i0 bb i4;refine⟨λh0=>?_,λh0=>?_⟩
 ·skip
  simp only[c6,dZ,dD,ei,decide_eq_true_eq,decide_eq_false_iff_not]at h0;refine⟨?_,?_⟩
  ·simp only[n2,aX,D.bds,j4,eQ,nH,sT,ay,and_true];rw[vn];unfold bit;split<;>decide
  ·show(cond (decide ((U r0 3 0)<(U bb 3 0))) 1 0)=bit (ad r0<ad bb);obtain⟨dp,ak,ai,aw,rfl,mN,mO,mQ,mR,mS,mT,mU,mV⟩:=nX i0;obtain⟨gV,au,ao,az,rfl,wv,wx,wy,wz,wA,wB,wC,wD⟩:=nX i4;simp only[num,gp,hq]at*;rw[vn];unfold bit
   (repeat' split)<;>omega
 ·skip
  simp only[c6,dZ,dD,ei,decide_eq_true_eq,decide_eq_false_iff_not]at h0;refine⟨λh1=>?_,λh1=>?_⟩
  ·skip
   simp only[c6,dZ,dD,ei,decide_eq_true_eq,decide_eq_false_iff_not]at h1;refine⟨?_,?_⟩
   ·simp only[n2,aX,D.bds,j4,eQ,nH,sT,ay,and_true];rw[vn];unfold bit;split<;>decide
   ·show(cond (decide ((U r0 2 0)<(U bb 2 0))) 1 0)=bit (ad r0<ad bb);obtain⟨dp,ak,ai,aw,rfl,mN,mO,mQ,mR,mS,mT,mU,mV⟩:=nX i0;obtain⟨gV,au,ao,az,rfl,wv,wx,wy,wz,wA,wB,wC,wD⟩:=nX i4;simp only[num,gp,hq]at*;rw[vn];unfold bit
    (repeat' split)<;>omega
  ·skip
   simp only[c6,dZ,dD,ei,decide_eq_true_eq,decide_eq_false_iff_not]at h1;refine⟨λh2=>?_,λh2=>?_⟩
   ·skip
    simp only[c6,dZ,dD,ei,decide_eq_true_eq,decide_eq_false_iff_not]at h2;refine⟨?_,?_⟩
    ·simp only[n2,aX,D.bds,j4,eQ,nH,sT,ay,and_true];rw[vn];unfold bit;split<;>decide
    ·show(cond (decide ((U r0 1 0)<(U bb 1 0))) 1 0)=bit (ad r0<ad bb);obtain⟨dp,ak,ai,aw,rfl,mN,mO,mQ,mR,mS,mT,mU,mV⟩:=nX i0;obtain⟨gV,au,ao,az,rfl,wv,wx,wy,wz,wA,wB,wC,wD⟩:=nX i4;simp only[num,gp,hq]at*;rw[vn];unfold bit
     (repeat' split)<;>omega
   ·skip
    simp only[c6,dZ,dD,ei,decide_eq_true_eq,decide_eq_false_iff_not]at h2;refine⟨λh3=>?_,λh3=>?_⟩
    ·skip
     simp only[c6,dZ,dD,ei,decide_eq_true_eq,decide_eq_false_iff_not]at h3;refine⟨?_,?_⟩
     ·simp only[n2,aX,D.bds,j4,eQ,nH,sT,ay,and_true];rw[vn];unfold bit;split<;>decide
     ·show(cond (decide ((U r0 0 0)<(U bb 0 0))) 1 0)=bit (ad r0<ad bb);obtain⟨dp,ak,ai,aw,rfl,mN,mO,mQ,mR,mS,mT,mU,mV⟩:=nX i0;obtain⟨gV,au,ao,az,rfl,wv,wx,wy,wz,wA,wB,wC,wD⟩:=nX i4;simp only[num,gp,hq]at*;rw[vn];unfold bit
      (repeat' split)<;>omega
    ·skip
     simp only[c6,dZ,dD,ei,decide_eq_true_eq,decide_eq_false_iff_not]at h3;refine⟨?_,?_⟩
     ·simp only[n2,aX,D.bds,j4,eQ,nH,sT,ay,and_true];decide
     ·show(cond (false) 1 0)=bit (ad r0<ad bb);obtain⟨dp,ak,ai,aw,rfl,mN,mO,mQ,mR,mS,mT,mU,mV⟩:=nX i0;obtain⟨gV,au,ao,az,rfl,wv,wx,wy,wz,wA,wB,wC,wD⟩:=nX i4;simp only[num,gp,hq]at*;unfold bit;simp only[cond_false];split<;>omega
def Zt (S:zzS) (K:zzK):Prop:=dn 4 λr0=>dn 4 λbb=>aq (-1) 0 ((U r0 0 0)+((-1)*(U bb 0 0))) bk λaF=>aq (-1) 0 ((U r0 1 0)+(((-1)*(U bb 1 0))+aF)) bk λz9=>aq (-1) 0 ((U r0 2 0)+(((-1)*(U bb 2 0))+z9)) bk λaY=>aq (-1) 0 ((U r0 3 0)+(((-1)*(U bb 3 0))+aY)) bk λaN=>K [r0,bb] [[((U r0 0 0)+(((-1)*(U bb 0 0))+(ab*aF))),((U r0 1 0)+(((-1)*(U bb 1 0))+(aF+(ab*z9)))),((U r0 2 0)+(((-1)*(U bb 2 0))+(z9+(ab*aY)))),((U r0 3 0)+(((-1)*(U bb 3 0))+(aY+(ab*aN))))],[((-1)*aN)]]
theorem aM7 (G):Zt (fu G) (e6 n3.res 55):=by
 simp(maxSteps:=4000000) only[Zt,aq,dn,ab,bk];intro r0 i0 bb i4 aF pB pE nO d8 z9 a9 hH qG d9 aY oT nL vm d10 aN hS hV Bs d11;refine⟨?_,?_⟩
 ·obtain⟨dp,ak,ai,aw,rfl,mN,mO,mQ,mR,mS,mT,mU,mV⟩:=nX i0;obtain⟨gV,au,ao,az,rfl,wv,wx,wy,wz,wA,wB,wC,wD⟩:=nX i4;simp only[n3,aX,D.bds,dO,c1,aT,j4,eQ,gO,nH,sT,ay,and_true,gp,hq]at*;omega
 ·show ad _=ad r0-ad bb+dT*((-1)*aN);obtain⟨dp,ak,ai,aw,rfl,mN,mO,mQ,mR,mS,mT,mU,mV⟩:=nX i0;obtain⟨gV,au,ao,az,rfl,wv,wx,wy,wz,wA,wB,wC,wD⟩:=nX i4;simp only[num,gp,hq]at*
  (unfold dT at*;omega)
def Zx (S:zzS) (K:zzK):Prop:=dn 4 λr0=>dn 4 λbb=>bg ((U r0 0 0)+(U bb 0 0)) bk λaF=>bg ((U r0 1 0)+((U bb 1 0)+aF)) bk λz9=>bg ((U r0 2 0)+((U bb 2 0)+z9)) bk λaY=>bg ((U r0 3 0)+((U bb 3 0)+aY)) bk λaN=>K [r0,bb] [[((U r0 0 0)+((U bb 0 0)+(ab*aF))),((U r0 1 0)+((U bb 1 0)+(aF+(ab*z9)))),((U r0 2 0)+((U bb 2 0)+(z9+(ab*aY)))),((U r0 3 0)+((U bb 3 0)+(aY+(ab*aN))))],[aN]]
theorem aNk (G):Zx (fu G) (e6 n4.res 56):=by
 simp(maxSteps:=4000000) only[Zx,bg,dn,ab,bk];intro r0 i0 bb i4 aF pB pE nO d8 z9 a9 hH qG d9 aY oT nL vm d10 aN hS hV Bs d11;refine⟨?_,?_⟩
 ·obtain⟨dp,ak,ai,aw,rfl,mN,mO,mQ,mR,mS,mT,mU,mV⟩:=nX i0;obtain⟨gV,au,ao,az,rfl,wv,wx,wy,wz,wA,wB,wC,wD⟩:=nX i4;simp only[n4,aX,D.bds,dO,c1,aT,j4,eQ,gO,nH,sT,ay,and_true,gp,hq]at*;omega
 ·show ad _=ad r0+ad bb-dT*aN;obtain⟨dp,ak,ai,aw,rfl,mN,mO,mQ,mR,mS,mT,mU,mV⟩:=nX i0;obtain⟨gV,au,ao,az,rfl,wv,wx,wy,wz,wA,wB,wC,wD⟩:=nX i4;simp only[num,gp,hq]at*
  (unfold dT at*;omega)
def Zh (S:zzS) (K:zzK):Prop:=dn 4 λr0=>fb 4 S 28 [] λbb=>dI λaF=>S 42 [r0,bb] [[aF]]->((((!(decide (aF=1))))=true->fb 4 S 28 [] λdW=>dn 4 λic=>dI λaW=>S 55 [r0,dW] [ic,[aW]]->fb 4 S 28 [] λkv=>dI λz22=>S 42 [ic,kv] [[z22]]->((((!(decide (z22=1))))=true->fb 4 S 28 [] λkI=>dn 4 λvK=>dI λz31=>S 55 [ic,kI] [vK,[z31]]->fb 4 S 28 [] λb6=>dI λcp=>S 42 [vK,b6] [[cp]]->((((!(decide (cp=1))))=true->fb 4 S 28 [] λod=>dn 4 λMg=>dI λdC=>S 55 [vK,od] [Mg,[dC]]->K [r0] [Mg])/\(((!(decide (cp=1))))=false->K [r0] [vK])))/\(((!(decide (z22=1))))=false->fb 4 S 28 [] λkI=>dI λb5=>S 42 [ic,kI] [[b5]]->((((!(decide (b5=1))))=true->fb 4 S 28 [] λmH=>dn 4 λb6=>dI λcp=>S 55 [ic,mH] [b6,[cp]]->K [r0] [b6])/\(((!(decide (b5=1))))=false->K [r0] [ic])))))/\(((!(decide (aF=1))))=false->fb 4 S 28 [] λdW=>dI λa1=>S 42 [r0,dW] [[a1]]->((((!(decide (a1=1))))=true->fb 4 S 28 [] λpN=>dn 4 λkv=>dI λz22=>S 55 [r0,pN] [kv,[z22]]->fb 4 S 28 [] λkI=>dI λb5=>S 42 [kv,kI] [[b5]]->((((!(decide (b5=1))))=true->fb 4 S 28 [] λmH=>dn 4 λb6=>dI λcp=>S 55 [kv,mH] [b6,[cp]]->K [r0] [b6])/\(((!(decide (b5=1))))=false->K [r0] [kv])))/\(((!(decide (a1=1))))=false->fb 4 S 28 [] λpN=>dI λbm=>S 42 [r0,pN] [[bm]]->((((!(decide (bm=1))))=true->fb 4 S 28 [] λRu=>dn 4 λkI=>dI λb5=>S 55 [r0,Ru] [kI,[b5]]->K [r0] [kI])/\(((!(decide (bm=1))))=false->K [r0] [r0]))))))
theorem aMU (G):Zh (fu G) (e6 rR.res 39):=by
 simp(maxSteps:=4000000) only[Zh,dI,fb,dn];intro r0 i0 bb i4 aL aF pB pE s1;have aL:ad bb=aa:=aL.1;have s1:aF=bit (ad r0<ad bb):=s1.1;refine⟨λh0=>?_,λh0=>?_⟩
 ·skip
  simp only[c6,dZ,dD,ei,decide_eq_true_eq,decide_eq_false_iff_not]at h0;intro dW i9 s2 ic i13 aW iN iQ bx kv i18 cG z22 a22 hW er;have s2:ad dW=aa:=s2.1;have bx:ad ic=ad r0-ad dW+dT*aW:=bx.1;have cG:ad kv=aa:=cG.1;have er:z22=bit (ad ic<ad kv):=er.1;refine⟨λh1=>?_,λh1=>?_⟩
  ·skip
   simp only[c6,dZ,dD,ei,decide_eq_true_eq,decide_eq_false_iff_not]at h1;intro kI i23 eW vK i27 z31 a31 km gm b6 i32 hO cp hE hG jx;have eW:ad kI=aa:=eW.1;have gm:ad vK=ad ic-ad kI+dT*z31:=gm.1;have hO:ad b6=aa:=hO.1;have jx:cp=bit (ad vK<ad b6):=jx.1;refine⟨λh2=>?_,λh2=>?_⟩
   ·skip
    simp only[c6,dZ,dD,ei,decide_eq_true_eq,decide_eq_false_iff_not]at h2;intro od i37 ph Mg i41 dC zd zo r8;have ph:ad od=aa:=ph.1;have r8:ad Mg=ad vK-ad od+dT*dC:=r8.1;refine⟨?_,?_⟩
    ·exact k0 i41
    ·show ad Mg=ad r0% aa;have e9:=dF i0;have dO:=dF i4;have D0:=dF i9;have QD:=dF i13;have LU:=dF i18;have LV:=dF i23;have aIS:=dF i27;have QE:=dF i32;have af8:=dF i37;have aYF:=dF i41;generalize ad r0=u0 at*;generalize ad bb=A2 at*;generalize ad dW=CU at*;generalize ad ic=Nk at*;generalize ad kv=J1 at*;generalize ad kI=J2 at*;generalize ad vK=axJ at*;generalize ad b6=aag at*;generalize ad od=axL at*;generalize ad Mg=aXt at*;unfold bit at*
     (repeat' split at*)<;>simp_all<;>((try simp only[aa,dT]at*);omega)
   ·skip
    simp only[c6,dZ,dD,ei,decide_eq_true_eq,decide_eq_false_iff_not]at h2;refine⟨?_,?_⟩
    ·exact k0 i27
    ·show ad vK=ad r0% aa;have e9:=dF i0;have dO:=dF i4;have D0:=dF i9;have QD:=dF i13;have LU:=dF i18;have LV:=dF i23;have aIS:=dF i27;have QE:=dF i32;generalize ad r0=u0 at*;generalize ad bb=A2 at*;generalize ad dW=CU at*;generalize ad ic=Nk at*;generalize ad kv=J1 at*;generalize ad kI=J2 at*;generalize ad vK=axJ at*;generalize ad b6=aag at*;unfold bit at*
     (repeat' split at*)<;>simp_all<;>((try simp only[aa,dT]at*);omega)
  ·skip
   simp only[c6,dZ,dD,ei,decide_eq_true_eq,decide_eq_false_iff_not]at h1;intro kI i23 eW b5 jf jj gm;have eW:ad kI=aa:=eW.1;have gm:b5=bit (ad ic<ad kI):=gm.1;refine⟨λh3=>?_,λh3=>?_⟩
   ·skip
    simp only[c6,dZ,dD,ei,decide_eq_true_eq,decide_eq_false_iff_not]at h3;intro mH i28 hO b6 i32 cp hE hG jx;have hO:ad mH=aa:=hO.1;have jx:ad b6=ad ic-ad mH+dT*cp:=jx.1;refine⟨?_,?_⟩
    ·exact k0 i32
    ·show ad b6=ad r0% aa;have e9:=dF i0;have dO:=dF i4;have D0:=dF i9;have QD:=dF i13;have LU:=dF i18;have LV:=dF i23;have aIT:=dF i28;have QE:=dF i32;generalize ad r0=u0 at*;generalize ad bb=A2 at*;generalize ad dW=CU at*;generalize ad ic=Nk at*;generalize ad kv=J1 at*;generalize ad kI=J2 at*;generalize ad mH=axK at*;generalize ad b6=aag at*;unfold bit at*
     (repeat' split at*)<;>simp_all<;>omega
   ·skip
    simp only[c6,dZ,dD,ei,decide_eq_true_eq,decide_eq_false_iff_not]at h3;refine⟨?_,?_⟩
    ·exact k0 i13
    ·show ad ic=ad r0% aa;have e9:=dF i0;have dO:=dF i4;have D0:=dF i9;have QD:=dF i13;have LU:=dF i18;have LV:=dF i23;generalize ad r0=u0 at*;generalize ad bb=A2 at*;generalize ad dW=CU at*;generalize ad ic=Nk at*;generalize ad kv=J1 at*;generalize ad kI=J2 at*;unfold bit at*
     (repeat' split at*)<;>simp_all<;>((try simp only[aa,dT]at*);omega)
 ·skip
  simp only[c6,dZ,dD,ei,decide_eq_true_eq,decide_eq_false_iff_not]at h0;intro dW i9 s2 a1 jd jg bx;have s2:ad dW=aa:=s2.1;have bx:a1=bit (ad r0<ad dW):=bx.1;refine⟨λh4=>?_,λh4=>?_⟩
  ·skip
   simp only[c6,dZ,dD,ei,decide_eq_true_eq,decide_eq_false_iff_not]at h4;intro pN i14 cG kv i18 z22 a22 hW er kI i23 eW b5 jf jj gm;have cG:ad pN=aa:=cG.1;have er:ad kv=ad r0-ad pN+dT*z22:=er.1;have eW:ad kI=aa:=eW.1;have gm:b5=bit (ad kv<ad kI):=gm.1;refine⟨λh5=>?_,λh5=>?_⟩
   ·skip
    simp only[c6,dZ,dD,ei,decide_eq_true_eq,decide_eq_false_iff_not]at h5;intro mH i28 hO b6 i32 cp hE hG jx;have hO:ad mH=aa:=hO.1;have jx:ad b6=ad kv-ad mH+dT*cp:=jx.1;refine⟨?_,?_⟩
    ·exact k0 i32
    ·show ad b6=ad r0% aa;have e9:=dF i0;have dO:=dF i4;have D0:=dF i9;have n14:=dF i14;have LU:=dF i18;have LV:=dF i23;have aIT:=dF i28;have QE:=dF i32;generalize ad r0=u0 at*;generalize ad bb=A2 at*;generalize ad dW=CU at*;generalize ad pN=aaf at*;generalize ad kv=J1 at*;generalize ad kI=J2 at*;generalize ad mH=axK at*;generalize ad b6=aag at*;unfold bit at*
     (repeat' split at*)<;>simp_all<;>omega
   ·skip
    simp only[c6,dZ,dD,ei,decide_eq_true_eq,decide_eq_false_iff_not]at h5;refine⟨?_,?_⟩
    ·exact k0 i18
    ·show ad kv=ad r0% aa;have e9:=dF i0;have dO:=dF i4;have D0:=dF i9;have n14:=dF i14;have LU:=dF i18;have LV:=dF i23;generalize ad r0=u0 at*;generalize ad bb=A2 at*;generalize ad dW=CU at*;generalize ad pN=aaf at*;generalize ad kv=J1 at*;generalize ad kI=J2 at*;unfold bit at*
     (repeat' split at*)<;>simp_all<;>omega
  ·skip
   simp only[c6,dZ,dD,ei,decide_eq_true_eq,decide_eq_false_iff_not]at h4;intro pN i14 cG bm jB jE er;have cG:ad pN=aa:=cG.1;have er:bm=bit (ad r0<ad pN):=er.1;refine⟨λh6=>?_,λh6=>?_⟩
   ·skip
    simp only[c6,dZ,dD,ei,decide_eq_true_eq,decide_eq_false_iff_not]at h6;intro Ru i19 eW kI i23 b5 jf jj gm;have eW:ad Ru=aa:=eW.1;have gm:ad kI=ad r0-ad Ru+dT*b5:=gm.1;refine⟨?_,?_⟩
    ·exact k0 i23
    ·show ad kI=ad r0% aa;have e9:=dF i0;have dO:=dF i4;have D0:=dF i9;have n14:=dF i14;have aYC:=dF i19;have LV:=dF i23;generalize ad r0=u0 at*;generalize ad bb=A2 at*;generalize ad dW=CU at*;generalize ad pN=aaf at*;generalize ad Ru=aXp at*;generalize ad kI=J2 at*;unfold bit at*
     (repeat' split at*)<;>simp_all<;>omega
   ·skip
    simp only[c6,dZ,dD,ei,decide_eq_true_eq,decide_eq_false_iff_not]at h6;refine⟨?_,?_⟩
    ·exact k0 i0
    ·show ad r0=ad r0% aa;have e9:=dF i0;have dO:=dF i4;have D0:=dF i9;have n14:=dF i14;generalize ad r0=u0 at*;generalize ad bb=A2 at*;generalize ad dW=CU at*;generalize ad pN=aaf at*;unfold bit at*
     (repeat' split at*)<;>simp_all<;>(unfold aa at*;omega)
def ZA (S:zzS) (K:zzK):Prop:=dn 4 λr0=>dn 4 λbb=>dn 4 λeO=>dI λz12=>S 56 [r0,bb] [eO,[z12]]->fb 4 S 39 [eO] λic=>K [r0,bb] [ic]
theorem aNn (G):ZA (fu G) (e6 vC.res 40):=by
 simp(maxSteps:=4000000) only[ZA,dI,fb,dn];intro r0 i0 bb i4 eO i8 z12 a12 ow aL ic i13 s1;have aL:ad eO=ad r0+ad bb-dT*z12:=aL.1;have s1:ad ic=ad eO% aa:=s1.1;refine⟨?_,?_⟩
 ·exact k0 i13
 ·show ad ic=(ad r0+ad bb)% dT% aa;have e9:=dF i0;have dO:=dF i4;have V3:=dF i8;have QD:=dF i13;generalize ad r0=u0 at*;generalize ad bb=A2 at*;generalize ad eO=axM at*;generalize ad ic=Nk at*
  ((try simp only[aa,dT]at*);omega)
def Zj (S:zzS) (K:zzK):Prop:=dn 4 λr0=>dn 4 λbb=>dI λaF=>S 42 [r0,bb] [[aF]]->(((decide (aF=1))=true->fb 4 S 28 [] λdW=>dn 4 λic=>dI λaW=>S 56 [r0,dW] [ic,[aW]]->dn 4 λkv=>dI λz22=>S 55 [ic,bb] [kv,[z22]]->K [r0,bb] [kv])/\((decide (aF=1))=false->dn 4 λdW=>dI λa1=>S 55 [r0,bb] [dW,[a1]]->K [r0,bb] [dW]))
theorem aMY (G):Zj (fu G) (e6 rS.res 41):=by
 simp(maxSteps:=4000000) only[Zj,dI,fb,dn];intro r0 i0 bb i4 aF pB pE aL;have aL:aF=bit (ad r0<ad bb):=aL.1;refine⟨λh0=>?_,λh0=>?_⟩
 ·skip
  simp only[c6,dZ,dD,ei,decide_eq_true_eq,decide_eq_false_iff_not]at h0;intro dW i9 s1 ic i13 aW iN iQ s2 kv i18 z22 a22 hW bx;have s1:ad dW=aa:=s1.1;have s2:ad ic=ad r0+ad dW-dT*aW:=s2.1;have bx:ad kv=ad ic-ad bb+dT*z22:=bx.1;refine⟨?_,?_⟩
  ·exact k0 i18
  ·show ad kv=(ad r0-ad bb+(if ad r0<ad bb then aa else 0))% dT;have e9:=dF i0;have dO:=dF i4;have D0:=dF i9;have QD:=dF i13;have LU:=dF i18;generalize ad r0=u0 at*;generalize ad bb=A2 at*;generalize ad dW=CU at*;generalize ad ic=Nk at*;generalize ad kv=J1 at*;unfold bit at*
   (repeat' split at*)<;>simp_all<;>((try simp only[aa,dT]at*);omega)
 ·skip
  simp only[c6,dZ,dD,ei,decide_eq_true_eq,decide_eq_false_iff_not]at h0;intro dW i9 a1 jd jg s1;have s1:ad dW=ad r0-ad bb+dT*a1:=s1.1;refine⟨?_,?_⟩
  ·exact k0 i9
  ·show ad dW=(ad r0-ad bb+(if ad r0<ad bb then aa else 0))% dT;have e9:=dF i0;have dO:=dF i4;have D0:=dF i9;generalize ad r0=u0 at*;generalize ad bb=A2 at*;generalize ad dW=CU at*;unfold bit at*
   (repeat' split at*)<;>simp_all<;>((try simp only[aa,dT]at*);omega)
def Zn (S:zzS) (K:zzK):Prop:=dn 4 λr0=>dn 4 λbb=>aq 0 37 (38*(U bb 0 0)) bk λaF=>aq 0 37 (38*(U bb 1 0)) bk λz9=>bg ((38*(U bb 1 0))+(aF+(ab*z9))) bk λaY=>aq 0 37 (38*(U bb 2 0)) bk λaN=>bg ((38*(U bb 2 0))+(z9+(aY+(ab*aN)))) bk λz12=>aq 0 37 (38*(U bb 3 0)) bk λa1=>bg ((38*(U bb 3 0))+(aN+(z12+(ab*a1)))) bk λaG=>dn 4 λeV=>dI λbp=>S 56 [r0,[((38*(U bb 0 0))+(ab*aF)),((38*(U bb 1 0))+(aF+((ab*z9)+(ab*aY)))),((38*(U bb 2 0))+(z9+(aY+((ab*aN)+(ab*z12))))),((38*(U bb 3 0))+(aN+(z12+((ab*a1)+(ab*aG)))))]] [eV,[bp]]->dn 4 λec=>dI λz24=>S 56 [eV,[((38*a1)+((38*aG)+(38*bp))),0,0,0]] [ec,[z24]]->(((decide (0<z24))=true->dn 4 λef=>dI λcl=>S 56 [ec,[38,0,0,0]] [ef,[cl]]->fb 4 S 39 [ef] λr4=>K [r0,bb] [r4])/\((decide (0<z24))=false->fb 4 S 39 [ec] λef=>K [r0,bb] [ef]))
theorem aM2 (G):Zn (fu G) (e6 vA.res 54):=by
 simp(maxSteps:=4000000) only[Zn,dI,aq,bg,fb,dn,ab,bk];intro r0 i0 bb i4 aF pB pE nO d8 z9 a9 hH qG d9 aY oT nL vm d10 aN hS hV Bs d11 z12 a12 ow Kl d12 a1 jd jg Km d13 aG pA pD Ti d14 eV i15 bp jC jF aL ec i20 z24 a24 gA s1;have aL:ad eV=ad r0+ad _-dT*bp:=aL.1;have s1:ad ec=ad eV+ad _-dT*z24:=s1.1;refine⟨λh0=>?_,λh0=>?_⟩
 ·skip
  simp only[c6,dZ,dD,ei,decide_eq_true_eq,decide_eq_false_iff_not]at h0;intro ef i25 cl jD jG s2 r4 i30 bx;have s2:ad ef=ad ec+ad [38,0,0,0]-dT*cl:=s2.1;have bx:ad r4=ad ef% aa:=bx.1;refine⟨?_,?_⟩
  ·exact k0 i30
  ·show ad r4=(ad r0+dT*ad bb)% aa;obtain⟨gV,au,ao,az,rfl,wv,wx,wy,wz,wA,wB,wC,wD⟩:=nX i4;simp only[gp,hq]at*;rw[asx]at s1;have e9:=dF i0;have n15:=dF i15;have V2:=dF i20;have bG:ad [((38*(gV))+((-bt)*aF)),((38*(au))+(aF+(((-bt)*z9)+((-bt)*aY)))),((38*(ao))+(z9+(aY+(((-bt)*aN)+((-bt)*z12))))),((38*(az))+(aN+(z12+(((-bt)*a1)+((-bt)*aG)))))]+dT*(a1+aG)=38*ad [gV,au,ao,az]:=by
    clear aL s1;simp only[mG]
    (unfold dT at*;(unfold bt at*;omega))
   generalize ad [((38*(gV))+((-bt)*aF)),((38*(au))+(aF+(((-bt)*z9)+((-bt)*aY)))),((38*(ao))+(z9+(aY+(((-bt)*aN)+((-bt)*z12))))),((38*(az))+(aN+(z12+(((-bt)*a1)+((-bt)*aG)))))]=t at*;rw[show ad [38,0,0,0]=38 by decide]at s2;have ase:=dF i25;have av:z24=1:=by omega
   have aH:cl=0:=by clear bG aL;((try simp only[aa,dT]at*);omega)
   rw[bx];have bn:ad ec=ad eV+38*(a1+aG+bp)-dT*z24:=by clear bG aL;omega
   have cj:ad ef=ad ec+38*z24:=by clear bG aL bn s1;(unfold dT at*;omega)
   exact aol bG aL bn cj
 ·skip
  simp only[c6,dZ,dD,ei,decide_eq_true_eq,decide_eq_false_iff_not]at h0;intro ef i25 s2;have s2:ad ef=ad ec% aa:=s2.1;refine⟨?_,?_⟩
  ·exact k0 i25
  ·show ad ef=(ad r0+dT*ad bb)% aa;obtain⟨gV,au,ao,az,rfl,wv,wx,wy,wz,wA,wB,wC,wD⟩:=nX i4;simp only[gp,hq]at*;rw[asx]at s1;have e9:=dF i0;have n15:=dF i15;have V2:=dF i20;have bG:ad [((38*(gV))+((-bt)*aF)),((38*(au))+(aF+(((-bt)*z9)+((-bt)*aY)))),((38*(ao))+(z9+(aY+(((-bt)*aN)+((-bt)*z12))))),((38*(az))+(aN+(z12+(((-bt)*a1)+((-bt)*aG)))))]+dT*(a1+aG)=38*ad [gV,au,ao,az]:=by
    clear aL s1;simp only[mG]
    (unfold dT at*;(unfold bt at*;omega))
   generalize ad [((38*(gV))+((-bt)*aF)),((38*(au))+(aF+(((-bt)*z9)+((-bt)*aY)))),((38*(ao))+(z9+(aY+(((-bt)*aN)+((-bt)*z12))))),((38*(az))+(aN+(z12+(((-bt)*a1)+((-bt)*aG)))))]=t at*;have av:z24=0:=by omega
   rw[s2];have bn:ad ec=ad eV+38*(a1+aG+bp)-dT*z24:=by clear bG aL;omega
   have cj:ad ec=ad ec+38*z24:=by clear bG aL bn s1;omega
   exact aol bG aL bn cj
def Zy (S:zzS) (K:zzK):Prop:=dn 4 λr0=>dn 4 λbb=>eo kt ((U r0 0 0)*(U bb 0 0)) λaF=>aq 0 jo aF bk λz9=>eo kt ((U r0 0 0)*(U bb 1 0)) λaY=>aq 0 jo aY bk λaN=>bg (z9+(aY+(ab*aN))) bk λz12=>eo kt ((U r0 0 0)*(U bb 2 0)) λa1=>aq 0 jo a1 bk λaG=>bg (aN+(z12+(a1+(ab*aG)))) bk λaS=>eo kt ((U r0 0 0)*(U bb 3 0)) λba=>aq 0 jo ba bk λaW=>bg (aG+(aS+(ba+(ab*aW)))) bk λbm=>eo kt ((U r0 1 0)*(U bb 0 0)) λbp=>aq 0 jo bp bk λz20=>bg (z9+(aY+((ab*aN)+((ab*z12)+(bp+(ab*z20)))))) bk λz21=>eo kt ((U r0 1 0)*(U bb 1 0)) λz22=>aq 0 jo z22 bk λbW=>bg (aN+(z12+(a1+((ab*aG)+((ab*aS)+(z22+(ab*bW))))))) bk λz24=>bg (aN+(z12+(a1+((ab*aG)+((ab*aS)+(z20+(z21+(z22+((ab*bW)+(ab*z24)))))))))) bk λcr=>bg (bW+(z24+cr)) bk λz26=>eo kt ((U r0 1 0)*(U bb 2 0)) λb5=>aq 0 jo b5 bk λz28=>bg (aG+(aS+(ba+((ab*aW)+((ab*bm)+(b5+(ab*z28))))))) bk λcl=>bg (aG+(aS+(ba+((ab*aW)+((ab*bm)+(bW+(z24+(cr+((ab*z26)+(b5+((ab*z28)+(ab*cl)))))))))))) bk λcA=>bg (z28+(cl+cA)) bk λz31=>eo kt ((U r0 1 0)*(U bb 3 0)) λbj=>aq 0 jo bj bk λbM=>bg (aW+(bm+(bj+(ab*bM)))) bk λcw=>bg (aW+(bm+(z28+(cl+(cA+((ab*z31)+(bj+((ab*bM)+(ab*cw))))))))) bk λb7=>bg (bM+(cw+b7)) bk λcp=>eo kt ((U r0 2 0)*(U bb 0 0)) λz37=>aq 0 jo z37 bk λcU=>bg (aN+(z12+(a1+((ab*aG)+((ab*aS)+(z20+(z21+(z22+((ab*bW)+((ab*z24)+((ab*cr)+(z37+(ab*cU))))))))))))) bk λcO=>eo kt ((U r0 2 0)*(U bb 1 0)) λz40=>aq 0 jo z40 bk λc2=>bg (aG+(aS+(ba+((ab*aW)+((ab*bm)+(bW+(z24+(cr+((ab*z26)+(b5+((ab*z28)+((ab*cl)+((ab*cA)+(z40+(ab*c2))))))))))))))) bk λdb=>bg (aG+(aS+(ba+((ab*aW)+((ab*bm)+(bW+(z24+(cr+((ab*z26)+(b5+((ab*z28)+((ab*cl)+((ab*cA)+(cU+(cO+(z40+((ab*c2)+(ab*db)))))))))))))))))) bk λdc=>bg (c2+(db+dc)) bk λeh=>eo kt ((U r0 2 0)*(U bb 2 0)) λdC=>aq 0 jo dC bk λz46=>bg (aW+(bm+(z28+(cl+(cA+((ab*z31)+(bj+((ab*bM)+((ab*cw)+((ab*b7)+(dC+(ab*z46)))))))))))) bk λdz=>bg (aW+(bm+(z28+(cl+(cA+((ab*z31)+(bj+((ab*bM)+((ab*cw)+((ab*b7)+(c2+(db+(dc+((ab*eh)+(dC+((ab*z46)+(ab*dz))))))))))))))))) bk λdL=>bg (z46+(dz+dL)) bk λz49=>eo kt ((U r0 2 0)*(U bb 3 0)) λe3=>aq 0 jo e3 bk λz51=>bg (bM+(cw+(b7+((ab*cp)+(e3+(ab*z51)))))) bk λdA=>bg (bM+(cw+(b7+((ab*cp)+(z46+(dz+(dL+((ab*z49)+(e3+((ab*z51)+(ab*dA))))))))))) bk λz53=>bg (z51+(dA+z53)) bk λeX=>eo kt ((U r0 3 0)*(U bb 0 0)) λff=>aq 0 jo ff bk λe4=>bg (aG+(aS+(ba+((ab*aW)+((ab*bm)+(bW+(z24+(cr+((ab*z26)+(b5+((ab*z28)+((ab*cl)+((ab*cA)+(cU+(cO+(z40+((ab*c2)+((ab*db)+((ab*dc)+(ff+(ab*e4))))))))))))))))))))) bk λdm=>eo kt ((U r0 3 0)*(U bb 1 0)) λfh=>aq 0 jo fh bk λz59=>bg (aW+(bm+(z28+(cl+(cA+((ab*z31)+(bj+((ab*bM)+((ab*cw)+((ab*b7)+(c2+(db+(dc+((ab*eh)+(dC+((ab*z46)+((ab*dz)+((ab*dL)+(fh+(ab*z59)))))))))))))))))))) bk λfH=>bg (aW+(bm+(z28+(cl+(cA+((ab*z31)+(bj+((ab*bM)+((ab*cw)+((ab*b7)+(c2+(db+(dc+((ab*eh)+(dC+((ab*z46)+((ab*dz)+((ab*dL)+(e4+(dm+(fh+((ab*z59)+(ab*fH))))))))))))))))))))))) bk λfQ=>bg (z59+(fH+fQ)) bk λfR=>eo kt ((U r0 3 0)*(U bb 2 0)) λew=>aq 0 jo ew bk λfI=>bg (bM+(cw+(b7+((ab*cp)+(z46+(dz+(dL+((ab*z49)+(e3+((ab*z51)+((ab*dA)+((ab*z53)+(ew+(ab*fI)))))))))))))) bk λgD=>bg (bM+(cw+(b7+((ab*cp)+(z46+(dz+(dL+((ab*z49)+(e3+((ab*z51)+((ab*dA)+((ab*z53)+(z59+(fH+(fQ+((ab*fR)+(ew+((ab*fI)+(ab*gD))))))))))))))))))) bk λgE=>bg (fI+(gD+gE)) bk λgg=>eo kt ((U r0 3 0)*(U bb 3 0)) λgh=>aq 0 jo gh bk λgn=>bg (z51+(dA+(z53+((ab*eX)+(gh+(ab*gn)))))) bk λz70=>bg (z51+(dA+(z53+((ab*eX)+(fI+(gD+(gE+((ab*gg)+(gh+((ab*gn)+(ab*z70))))))))))) bk λgM=>bg (gn+(z70+gM)) bk λz72=>fb 4 S 54 [[(aF+(ab*z9)),(z9+(aY+((ab*aN)+((ab*z12)+(bp+((ab*z20)+(ab*z21))))))),(aN+(z12+(a1+((ab*aG)+((ab*aS)+(z20+(z21+(z22+((ab*bW)+((ab*z24)+((ab*cr)+(z37+((ab*cU)+(ab*cO)))))))))))))),(aG+(aS+(ba+((ab*aW)+((ab*bm)+(bW+(z24+(cr+((ab*z26)+(b5+((ab*z28)+((ab*cl)+((ab*cA)+(cU+(cO+(z40+((ab*c2)+((ab*db)+((ab*dc)+(ff+((ab*e4)+(ab*dm))))))))))))))))))))))],[(aW+(bm+(z28+(cl+(cA+((ab*z31)+(bj+((ab*bM)+((ab*cw)+((ab*b7)+(c2+(db+(dc+((ab*eh)+(dC+((ab*z46)+((ab*dz)+((ab*dL)+(e4+(dm+(fh+((ab*z59)+((ab*fH)+(ab*fQ)))))))))))))))))))))))),(bM+(cw+(b7+((ab*cp)+(z46+(dz+(dL+((ab*z49)+(e3+((ab*z51)+((ab*dA)+((ab*z53)+(z59+(fH+(fQ+((ab*fR)+(ew+((ab*fI)+((ab*gD)+(ab*gE)))))))))))))))))))),(z51+(dA+(z53+((ab*eX)+(fI+(gD+(gE+((ab*gg)+(gh+((ab*gn)+((ab*z70)+(ab*gM)))))))))))),(gn+(z70+(gM+(ab*z72))))]] λWG=>K [r0,bb] [WG]
theorem aNl (G):Zy (fu G) (e6 nu.res 36):=by
 simp(maxSteps:=4000000) only[Zy,fb,dn,ab,bk,kt,jo]
 refineλr0 i0 bb i4=>pe λaF Eu=>bV λz9 Ev=>pe λaY Er=>bV λaN GA=>kf λz12 JE=>pe λa1 Es=>bV λaG MD=>kf λaS GB=>pe λba GC=>bV λaW GD=>kf λbm AK=>pe λbp GF=>bV λz20 GG=>kf λz21 Cp=>pe λz22 Cq=>bV λbW ME=>kf λz24 MF=>kf λcr GH=>kf λz26 Cr=>pe λb5 Cs=>bV λz28 MG=>kf λcl MH=>kf λcA Ct=>kf λz31 Cu=>pe λbj Et=>bV λbM XR=>kf λcw XS=>kf λb7 GI=>kf λcp GJ=>pe λz37 MI=>bV λcU MJ=>kf λcO GK=>pe λz40 GL=>bV λc2 XT=>kf λdb XU=>kf λdc MK=>kf λeh GM=>pe λdC GN=>bV λz46 RW=>kf λdz XV=>kf λdL GO=>kf λz49 GP=>pe λe3 GQ=>bV λz51 XW=>kf λdA XX=>kf λz53 GR=>kf λeX GS=>pe λff ML=>bV λe4 MM=>kf λdm GU=>pe λfh GV=>bV λz59 XY=>kf λfH aVR=>kf λfQ RZ=>kf λfR R0=>pe λew R1=>bV λfI aVS=>kf λgD aVT=>kf λgE R2=>kf λgg R3=>pe λgh R4=>bV λgn aVU=>kf λz70 aVV=>kf λgM R6=>kf λz72 R7=>λWG i73 aL=>?_
 have aL:ad WG=(ad _+dT*ad _)% aa:=aL.1;refine⟨?_,?_⟩
 ·exact k0 i73
 ·show ad WG=ad r0*ad bb% aa;have aVy:z26=0:=by
   have:=GB.h.2.2.2;have:=GG.h.2.1;have:=Cp.h.2.1;have:=Cq.h.2.1;have:=GH.h.2.2.1;have:=Cr.h;clear i0 i4 i73 aL
   omega
  have aVz:z31=0:=by
   have:=AK.h.2.2.2;have:=Cr.h.2.2.2;have:=Cs.h.2.1;have:=Ct.h.2.2.1;have:=Cu.h;clear i0 i4 i73 aL
   omega
  have aVA:cp=0:=by
   have:=GD.h.2.1;have:=AK.h.2.1;have:=Cu.h.2.2.2;have:=Et.h.2.1;have:=GI.h.2.2.1;have:=GJ.h;clear i0 i4 i73 aL
   omega
  have aVB:eh=0:=by
   have:=Ct.h.2.2.2;have:=MJ.h.2.1;have:=GK.h.2.1;have:=GL.h.2.1;have:=MK.h.2.2.1;have:=GM.h;clear i0 i4 i73 aL
   omega
  have aVC:z49=0:=by
   have:=GI.h.2.2.2;have:=GM.h.2.2.2;have:=GN.h.2.1;have:=GO.h.2.2.1;have:=GP.h;clear i0 i4 i73 aL
   omega
  have aVD:eX=0:=by
   have:=GJ.h.2.2.2;have:=GP.h.2.2.2;have:=GQ.h.2.1;have:=GR.h.2.2.1;have:=GS.h;clear i0 i4 i73 aL
   omega
  have aVE:fR=0:=by
   have:=GO.h.2.2.2;have:=MM.h.2.1;have:=GU.h.2.1;have:=GV.h.2.1;have:=RZ.h.2.2.1;have:=R0.h;clear i0 i4 i73 aL
   omega
  have aVF:gg=0:=by
   have:=GR.h.2.2.2;have:=R0.h.2.2.2;have:=R1.h.2.1;have:=R2.h.2.2.1;have:=R3.h;clear i0 i4 i73 aL
   omega
  have aVG:z72=0:=by
   have:=GS.h.2.2.2;have:=R3.h.2.2.2;have:=R4.h.2.1;have:=R6.h.2.2.1;have:=R7.h;clear i0 i4 i73 aL
   omega
  have BI:ad [(aF+((-bt)*z9)),(z9+(aY+(((-bt)*aN)+(((-bt)*z12)+(bp+(((-bt)*z20)+((-bt)*z21))))))),(aN+(z12+(a1+(((-bt)*aG)+(((-bt)*aS)+(z20+(z21+(z22+(((-bt)*bW)+(((-bt)*z24)+(((-bt)*cr)+(z37+(((-bt)*cU)+((-bt)*cO)))))))))))))),(aG+(aS+(ba+(((-bt)*aW)+(((-bt)*bm)+(bW+(z24+(cr+(((-bt)*z26)+(b5+(((-bt)*z28)+(((-bt)*cl)+(((-bt)*cA)+(cU+(cO+(z40+(((-bt)*c2)+(((-bt)*db)+(((-bt)*dc)+(ff+(((-bt)*e4)+((-bt)*dm))))))))))))))))))))))]+dT*ad [(aW+(bm+(z28+(cl+(cA+(((-bt)*z31)+(bj+(((-bt)*bM)+(((-bt)*cw)+(((-bt)*b7)+(c2+(db+(dc+(((-bt)*eh)+(dC+(((-bt)*z46)+(((-bt)*dz)+(((-bt)*dL)+(e4+(dm+(fh+(((-bt)*z59)+(((-bt)*fH)+((-bt)*fQ)))))))))))))))))))))))),(bM+(cw+(b7+(((-bt)*cp)+(z46+(dz+(dL+(((-bt)*z49)+(e3+(((-bt)*z51)+(((-bt)*dA)+(((-bt)*z53)+(z59+(fH+(fQ+(((-bt)*fR)+(ew+(((-bt)*fI)+(((-bt)*gD)+((-bt)*gE)))))))))))))))))))),(z51+(dA+(z53+(((-bt)*eX)+(fI+(gD+(gE+(((-bt)*gg)+(gh+(((-bt)*gn)+(((-bt)*z70)+((-bt)*gM)))))))))))),(gn+(z70+(gM+((-bt)*z72))))]=aF+bt*aY+0x100000000000000000000000000000000*a1+0x1000000000000000000000000000000000000000000000000*ba+bt*bp+0x100000000000000000000000000000000*z22+0x1000000000000000000000000000000000000000000000000*b5+dT*bj+0x100000000000000000000000000000000*z37+0x1000000000000000000000000000000000000000000000000*z40+dT*dC+0x100000000000000000000000000000000000000000000000000000000000000000000000000000000*e3+0x1000000000000000000000000000000000000000000000000*ff+dT*fh+0x100000000000000000000000000000000000000000000000000000000000000000000000000000000*ew+0x1000000000000000000000000000000000000000000000000000000000000000000000000000000000000000000000000*gh:=by
   clear i0 i4 i73 aL;simp only[mG]
   (unfold dT at*;(unfold bt at*;omega))
  rw[aL,BI];clear BI aL aVy aVz aVA aVB aVC aVD aVE aVF aVG;obtain⟨dp,ak,ai,aw,rfl,mN,mO,mQ,mR,mS,mT,mU,mV⟩:=nX i0;obtain⟨gV,au,ao,az,rfl,wv,wx,wy,wz,wA,wB,wC,wD⟩:=nX i4;simp only[gp,hq]at*;rw[Eu.h.2.2,Er.h.2.2,Es.h.2.2,GC.h.2.2,GF.h.2.2,Cq.h.2.2,Cs.h.2.2,Et.h.2.2,MI.h.2.2,GL.h.2.2,GN.h.2.2,GQ.h.2.2,ML.h.2.2,GV.h.2.2,R1.h.2.2,R4.h.2.2];rw[mG,mG,agP]
end Go.Fd
namespace Go.Fd
open Go.bX
def ZB (S:zzS) (K:zzK):Prop:=dn 4 λr0=>dn 4 λbb=>∃(SN:List (List Int)->Prop) (YC:List (List Int)->Nat),SN [[255],[1,0,0,0]]/\(dy (-1) 255 λz9=>dn 4 λcH=>SN [[z9],cH]->(((decide (0<=z9))=true->fb 4 S 36 [cH,cH] λpN=>aq 0 3 z9 64 λbm=>eo sE (U bb (bm).toNat 0) λbp=>aq 0 3 z9 64 λz20=>eo sE (bp/2^((z9+((-64)*z20))).toNat) λz21=>aq 0 xj z21 2 λz22=>(((decide ((z21+((-2)*z22))=1))=true->fb 4 S 36 [pN,r0] λkI=>(SN [[(z9+(-1))],kI]/\YC [[(z9+(-1))],kI]<YC [[z9],cH]))/\((decide ((z21+((-2)*z22))=1))=false->(SN [[(z9+(-1))],pN]/\YC [[(z9+(-1))],pN]<YC [[z9],cH]))))/\((decide (0<=z9))=false->K [r0,bb] [cH])))
theorem aNC (G):ZB (fu G) (e6 rT.res 44):=by
 simp(maxSteps:=4000000) only[ZB,eo,dy,aq,fb,dn,xj,sE];intro r0 i0 bb i4;refine⟨λl=>match l with|[[i],r]=>ad r=cJ (ad r0) ((ad bb).toNat/2^(i+1).toNat)|_=>False,λl=>match l with|[[i],_]=>(i+1).toNat|_=>0,?_,?_⟩
 ·show ad [1,0,0,0]=cJ (ad r0) ((ad bb).toNat/2^(255+1:Int).toNat);rw[aup i4,B6];decide
 ·intro z9 a9 hH cH i10 ea;have ea:ad cH=cJ (ad r0) ((ad bb).toNat/2^(z9+1).toNat):=ea;refine⟨λh0=>?_,λh0=>?_⟩
  ·skip
   simp only[c6,dZ,dD,ei,decide_eq_true_eq,decide_eq_false_iff_not]at h0;intro pN i14 aL bm jB jE Kn d18 bp jC jF ya z20 a20 iB Ko d20 z21 a21 iu KD z22 a22 hW Fb d22;have aL:ad pN=ad cH*ad cH% aa:=aL.1;refine⟨λh1=>?_,λh1=>?_⟩
   ·skip
    simp only[c6,dZ,dD,ei,decide_eq_true_eq,decide_eq_false_iff_not]at h1;intro kI i23 s1;have s1:ad kI=ad pN*ad r0% aa:=s1.1;obtain⟨i,rfl⟩:=mr h0;have hb:=Ta i4 hH Kn d18 ya Ko d20 KD Fb d22;have l9:((i:Int)+1).toNat=i+1:=by omega
    have tT:((i:Int)+(-1)+1).toNat=i:=by omega
    rw[l9]at ea;refine⟨?_,?_⟩
    ·show ad kI=cJ (ad r0) ((ad bb).toNat/2^((i:Int)+(-1)+1).toNat);rw[tT,asV (by omega),s1,aL,ea]
    ·show((i:Int)+(-1)+1).toNat<((i:Int)+1).toNat;omega
   ·skip
    simp only[c6,dZ,dD,ei,decide_eq_true_eq,decide_eq_false_iff_not]at h1;obtain⟨i,rfl⟩:=mr h0;have hb:=Ta i4 hH Kn d18 ya Ko d20 KD Fb d22;have l9:((i:Int)+1).toNat=i+1:=by omega
    have tT:((i:Int)+(-1)+1).toNat=i:=by omega
    rw[l9]at ea;refine⟨?_,?_⟩
    ·show ad pN=cJ (ad r0) ((ad bb).toNat/2^((i:Int)+(-1)+1).toNat);rw[tT,asU (by omega),aL,ea]
    ·show((i:Int)+(-1)+1).toNat<((i:Int)+1).toNat;omega
  ·skip
   simp only[c6,dZ,dD,ei,decide_eq_true_eq,decide_eq_false_iff_not]at h0;refine⟨?_,?_⟩
   ·exact k0 i10
   ·show ad cH=cJ (ad r0) (ad bb).toNat;have l9:(z9+1).toNat=0:=by omega
    rw[l9]at ea;simpa using ea
def Zp (S:zzS) (K:zzK):Prop:=dn 4 λr0=>fb 4 S 28 [] λbb=>dn 4 λeO=>dI λz12=>S 55 [bb,[2,0,0,0]] [eO,[z12]]->fb 4 S 44 [r0,eO] λic=>K [r0] [ic]
theorem aM3 (G):Zp (fu G) (e6 vB.res 45):=by
 simp(maxSteps:=4000000) only[Zp,dI,fb,dn];intro r0 i0 bb i4 aL eO i8 z12 a12 ow s1 ic i13 s2;have aL:ad bb=aa:=aL.1;have s1:ad eO=ad bb-ad [2,0,0,0]+dT*z12:=s1.1;have s2:ad ic=cJ (ad r0) (ad eO).toNat:=s2.1;refine⟨?_,?_⟩
 ·exact k0 i13
 ·show ad ic=cJ (ad r0) vp;have dO:=dF i4;have V3:=dF i8;rw[show ad [2,0,0,0]=2 by decide]at s1;have e:ad eO=0x7fffffffffffffffffffffffffffffffffffffffffffffffffffffffffffffeb:=by(unfold aa dT at*;omega)
  rw[s2,e];rfl
def Zz (S:zzS) (K:zzK):Prop:=dn 4 λr0=>fb 4 S 44 [r0,[jo,sE,sE,Vf]] λbb=>fb 4 S 36 [bb,bb] λeO=>((((!(decide (eO=r0))))=true->fb 4 S 44 [[2,0,0,0],[aqK,sE,sE,aqL]] λjN=>fb 4 S 36 [bb,jN] λev=>fb 4 S 36 [ev,ev] λec=>((((!(decide (ec=r0))))=true->K [r0] [[0,0,0,0],[(cond (false) 1 0)]])/\(((!(decide (ec=r0))))=false->aq 0 xj (U ev 0 0) 2 λz24=>(((decide (((U ev 0 0)+((-2)*z24))=1))=true->fb 4 S 41 [[0,0,0,0],ev] λef=>K [r0] [ef,[(cond (true) 1 0)]])/\((decide (((U ev 0 0)+((-2)*z24))=1))=false->K [r0] [ev,[(cond (true) 1 0)]])))))/\(((!(decide (eO=r0))))=false->fb 4 S 36 [bb,bb] λjN=>((((!(decide (jN=r0))))=true->K [r0] [[0,0,0,0],[(cond (false) 1 0)]])/\(((!(decide (jN=r0))))=false->aq 0 xj (U bb 0 0) 2 λba=>(((decide (((U bb 0 0)+((-2)*ba))=1))=true->fb 4 S 41 [[0,0,0,0],bb] λEc=>K [r0] [Ec,[(cond (true) 1 0)]])/\((decide (((U bb 0 0)+((-2)*ba))=1))=false->K [r0] [bb,[(cond (true) 1 0)]]))))))
theorem aNm (G):Zz (fu G) (e6 ys.res 38):=by
 simp(maxSteps:=4000000) only[Zz,aq,fb,dn,jo,xj,sE,Vf,aqK,aqL];intro r0 i0 bb i4 aL eO i8 s1;have aL:ad bb=cJ (ad r0) (ad _).toNat:=aL.1;have s1:ad eO=ad bb*ad bb% aa:=s1.1;refine⟨λh0=>?_,λh0=>?_⟩
 ·skip
  simp only[c6,dZ,dD,ei,decide_eq_true_eq,decide_eq_false_iff_not]at h0;intro jN i12 s2 ev i16 bx ec i20 cG;have s2:ad jN=cJ (ad [2,0,0,0]) (ad _).toNat:=s2.1;have bx:ad ev=ad bb*ad jN% aa:=bx.1;have cG:ad ec=ad ev*ad ev% aa:=cG.1;refine⟨λh1=>?_,λh1=>?_⟩
  ·skip
   simp only[c6,dZ,dD,ei,decide_eq_true_eq,decide_eq_false_iff_not]at h1;refine⟨?_,?_⟩
   ·simp[ys,aX,D.bds,dO,aT,ay]
   ·show(ad [0,0,0,0],(cond (false) 1 0))=vQ (ad r0);rw[zF]at aL;have sN:¬ad eO=ad r0:=λe=>h0 (xq i8 i0 e);have Gg:¬ad ec=ad r0:=λe=>h1 (xq i20 i0 e);rw[s1]at sN;unfold vQ;rw[<-aL];simp only;rw[ahN]at s2;rw[s2]at bx;rw[cG]at Gg;rw[if_neg sN,<-bx];rw[if_neg Gg];decide
  ·skip
   simp only[c6,dZ,dD,ei,decide_eq_true_eq,decide_eq_false_iff_not]at h1;intro z24 a24 gA Kq d24;refine⟨λh2=>?_,λh2=>?_⟩
   ·skip
    simp only[c6,dZ,dD,ei,decide_eq_true_eq,decide_eq_false_iff_not]at h2;intro ef i25 er;have er:ad ef=(ad [0,0,0,0]-ad ev+(if ad [0,0,0,0]<ad ev then aa else 0))% dT:=er.1;refine⟨?_,?_⟩
    ·exact BP i25 ⟨by decide,by decide,trivial⟩
    ·show(ad ef,(cond (true) 1 0))=vQ (ad r0);rw[zF]at aL;have sN:¬ad eO=ad r0:=λe=>h0 (xq i8 i0 e);have Gg:ad ec=ad r0:=by rw[h1]
     rw[s1]at sN;unfold vQ;rw[<-aL];simp only;rw[ahN]at s2;rw[s2]at bx;rw[cG]at Gg;rw[if_neg sN,<-bx];rw[if_pos Gg];have hp:=QH ev;have hr:0<=ad ev/\ad ev<aa:=by rw[bx];exact⟨sV _ (by decide),ri _ (by decide)⟩
     rw[if_pos (by omega)];rw[show ad [0,0,0,0]=0 by decide]at er;rw[er,if_pos (by omega:0<ad ev)];simp only[fi];refine⟨?_,rfl⟩;rw[V7 (by omega) (by omega)]
     (unfold aa dT at*;omega)
   ·skip
    simp only[c6,dZ,dD,ei,decide_eq_true_eq,decide_eq_false_iff_not]at h2;refine⟨?_,?_⟩
    ·exact BP i16 ⟨by decide,by decide,trivial⟩
    ·show(ad ev,(cond (true) 1 0))=vQ (ad r0);rw[zF]at aL;have sN:¬ad eO=ad r0:=λe=>h0 (xq i8 i0 e);have Gg:ad ec=ad r0:=by rw[h1]
     rw[s1]at sN;unfold vQ;rw[<-aL];simp only;rw[ahN]at s2;rw[s2]at bx;rw[cG]at Gg;rw[if_neg sN,<-bx];rw[if_pos Gg];have hp:=QH ev;have hr:0<=ad ev/\ad ev<aa:=by rw[bx];exact⟨sV _ (by decide),ri _ (by decide)⟩
     rw[if_neg (by omega)];rfl
 ·skip
  simp only[c6,dZ,dD,ei,decide_eq_true_eq,decide_eq_false_iff_not]at h0;intro jN i12 s2;have s2:ad jN=ad bb*ad bb% aa:=s2.1;refine⟨λh3=>?_,λh3=>?_⟩
  ·skip
   simp only[c6,dZ,dD,ei,decide_eq_true_eq,decide_eq_false_iff_not]at h3;refine⟨?_,?_⟩
   ·simp[ys,aX,D.bds,dO,aT,ay]
   ·show(ad [0,0,0,0],(cond (false) 1 0))=vQ (ad r0);rw[zF]at aL;have sN:ad eO=ad r0:=by rw[h0]
    have Gh:¬ad jN=ad r0:=λe=>h3 (xq i12 i0 e);rw[s1]at sN;unfold vQ;rw[<-aL];simp only;rw[if_pos sN];rw[s2]at Gh;rw[if_neg Gh];decide
  ·skip
   simp only[c6,dZ,dD,ei,decide_eq_true_eq,decide_eq_false_iff_not]at h3;intro ba qC qE Tj d16;refine⟨λh4=>?_,λh4=>?_⟩
   ·skip
    simp only[c6,dZ,dD,ei,decide_eq_true_eq,decide_eq_false_iff_not]at h4;intro Ec i17 bx;have bx:ad Ec=(ad [0,0,0,0]-ad bb+(if ad [0,0,0,0]<ad bb then aa else 0))% dT:=bx.1;refine⟨?_,?_⟩
    ·exact BP i17 ⟨by decide,by decide,trivial⟩
    ·show(ad Ec,(cond (true) 1 0))=vQ (ad r0);rw[zF]at aL;have sN:ad eO=ad r0:=by rw[h0]
     have Gh:ad jN=ad r0:=by rw[h3]
     rw[s1]at sN;unfold vQ;rw[<-aL];simp only;rw[if_pos sN];rw[s2]at Gh;rw[if_pos Gh];have hp:=QH bb;have hr:0<=ad bb/\ad bb<aa:=by rw[aL];exact L6 _ _
     rw[if_pos (by omega)];rw[show ad [0,0,0,0]=0 by decide]at bx;rw[bx,if_pos (by omega:0<ad bb)];simp only[fi];refine⟨?_,rfl⟩;rw[V7 (by omega) (by omega)]
     (unfold aa dT at*;omega)
   ·skip
    simp only[c6,dZ,dD,ei,decide_eq_true_eq,decide_eq_false_iff_not]at h4;refine⟨?_,?_⟩
    ·exact BP i4 ⟨by decide,by decide,trivial⟩
    ·show(ad bb,(cond (true) 1 0))=vQ (ad r0);rw[zF]at aL;have sN:ad eO=ad r0:=by rw[h0]
     have Gh:ad jN=ad r0:=by rw[h3]
     rw[s1]at sN;unfold vQ;rw[<-aL];simp only;rw[if_pos sN];rw[s2]at Gh;rw[if_pos Gh];have hp:=QH bb;have hr:0<=ad bb/\ad bb<aa:=by rw[aL];exact L6 _ _
     rw[if_neg (by omega)];rfl
end Go.Fd
set_option maxRecDepth 100000
namespace Go.dg
open Go Go.bX
def aj3 (S:zzS) (K:zzK):Prop:=dV λz0=>(aj 71 [z0]->bY λar=>cz λz2=>ee 20 [z0] λz3=>aj 22 [z0,0,z3]/\aj 23 [0,z3]/\ck 22 [z0,0,z3] λz4=>ck 24 [0,z4] λ z5=>(eb (decide (z3<=0)) (aj 23 [0,1]/\ck 23 [0,128] λaZ=>cz λaK=>ahn S K z0 z3 aZ 1 aK) (cz λaZ=>aj 31 [z5,z3]/\aj 23 [z5,1]/\ck 23 [z5,128] λaK=>cz λaF=>ahn S K z0 z3 aK (z3+1) aF)))
theorem eR {c z x:Int} (h:z=cu 23 [c,x]):aJ z=aJ c++[x]:=by
 rw[h];show(af (rc (af c++[[x]]))).map _=_;rw[jO,hQ];rfl
theorem mA {c i z v:Int} (h:z=cu 42 [c,i,0,v]):aJ z=(aJ c).set i.toNat v:=by
 rw[h];show(af (rc ((af c).set i.toNat _))).map (λr=>r.getD 0 0)=((af c).map λr=>r.getD 0 0).set i.toNat v;rw[jO,List.map_set];rfl
theorem Kv {r:List Int} {k:Int->Prop}:∀(n o:Nat) (c:Int),o+n<=r.length->(∀z,aJ z=aJ c++(r.drop o).take n->k z)->jJ r o n c k
 |0,o,c,_,h=>h c (by simp)
 |n+1,o,c,hl,h=>λz _ _ hz=>Kv n (o+1) z (by omega) λy hy=>h y (by
  have aA:o<r.length:=by omega
  rw[hy,eR hz,fS,EN aA,l5];simp[U,aA])
theorem qF:aJ 0=[]:=by unfold aJ;rw[j2];rfl
theorem ns {c l:Int} (h:l=((aJ c).length:Int)):aj 31 [c,l]:=by show l=((af c).length:Int);rw[h,fT]
theorem o8 {c:Int} (h:(aJ c).length<=1000001000):aj 23 [c,1]:=by show((af c).length:Int)+1<=1073741824;rw[<-fT];omega
theorem pI {c i:Int} (h0:0<=i) (h1:i<((aJ c).length:Int)):aj 21 [c,i]:=⟨h0,by rw[<-fT];exact h1⟩
theorem aPQ {K:List (List Int)->List (List Int)->Prop} {z0 g:Int} {h:List Int} (hg:aJ g=h) (hl:h.length=8) (hb:∀x∈h,0<=x/\x<=L0) (qc:∀r,0<=r->r<=cP->aJ r=oH bP h->K [[z0]] [[r]]):atw K z0 g:=by
 have ol:∀n,n<=8->(oH bP (h.take n)).length=8*n:=λn hn=>by rw[Wo,m4,CI (by omega)];show n*8=8*n;omega
 refine⟨λs=>∃(i:Nat) (c l k:Int),s=[[(i:Int)],[c],[l],[k]]/\i<=8/\aJ c=oH bP (h.take i)/\l=((8*i:Nat):Int),λs=>(8-(s.getD 0 []).getD 0 0).toNat,⟨0,0,0,-1,rfl,by decide,by rw[qF];rfl,rfl⟩,?_⟩;intro i i0 i1 c dK c1 l lb l1 k o7 k1 ⟨n,ek,l',bJ,e,hn,hc,FG⟩;simp only[hD,and_true]at e;obtain⟨rfl,rfl,rfl,rfl⟩:=e;have lF:(aJ c).length=8*n:=by rw[hc,ol n hn]
 refine⟨λhi=>?_,λhi=>?_⟩
 ·have hi:=of_decide_eq_true hi;have hx:=hb (h.getD n 0) (by rw[ky,lA (by omega)];exact CL (by omega));refine⟨λs=>∃(q:Nat) (d e f:Int),s=[[56-8*(q:Int)],[d],[e],[f]]/\q<=8/\aJ d=oH bP (h.take n)++(dP q).map (nN bP (h.getD n 0))/\e=((8*n+q:Nat):Int),λs=>((s.getD 0 []).getD 0 0+8).toNat,⟨0,c,l,k,rfl,by decide,by rw[hc];simp,FG⟩,?_⟩;intro s aL s1 d d0 d1 e cv av f f0 f1 ⟨q,tQ,c8,nQ,Oj,an,hd,he⟩;simp only[hD,and_true]at Oj;obtain⟨rfl,rfl,rfl,rfl⟩:=Oj;have adC:(aJ d).length=8*n+q:=by rw[hd,fq,ol n hn];simp
  refine⟨λhs=>?_,λhs=>?_⟩
  ·have hs:=of_decide_eq_true hs;refine⟨⟨by omega,by omega⟩,pI (by omega) (by rw[hg];omega),λx _ _ h3 y gV au hy u sa kY rb yX=>⟨ns (by rw[he,adC]),o8 (by omega),λd2 _ _ ub f2 _ _=>⟨⟨q+1,d2,e+1,f2,?_,by omega,?_,by omega⟩,?_⟩⟩⟩
   ·rw[show 56-8*(q:Int)+-8=56-8*((q+1:Nat):Int) by omega]
   ·rw[eR ub,hd,fS,SC,hQ]
    congr 2
    have h3:x=h.getD n 0:=by rw[fU h3,hg,hC]
    show [y+-256*u]=[h.getD n 0/2^(64-8-8*q)% 256];rw[h3,show(56-8*(q:Int)).toNat=64-8-8*q by omega]at hy;rw[<-hy]
    congr 1;omega
   ·show(56-8*(q:Int)+-8+8).toNat<(56-8*(q:Int)+8).toNat;omega
  ·have hs:=of_decide_eq_false hs;have:q=8:=by omega
   subst this;refine⟨⟨n+1,d,e,f,by simp,by omega,?_,by rw[he];omega⟩,?_⟩
   ·rw[hd,Gw h n (by omega)];unfold oH;rw[aXf]
    congr 1
   ·show(8-((n:Int)+1)).toNat<(8-(n:Int)).toNat;omega
 ·have hi:=of_decide_eq_false hi;have:n=8:=by omega
  subst this;refine⟨⟨cn _,by omega,by rw[<-fT,lF];omega⟩,λr r0 r1 hr=>qc r r0 r1 ?_⟩;rw[jU (fP hr (by rw[<-fT,lF,FG])),hc,mu (by omega)]
theorem atX {f g:Nat->Int} {n x:Nat} {v:Int} (hx:x<n) (hv:g x=v) (h:∀j,j<n->j≠x->g j=f j):((dP n).map f).set x v=(dP n).map g:=by
 apply JO (by simp);intro j h1 h2;have aR:j<n:=by simpa using h2
 rw[List.getElem_set];simp only[List.getElem_map,List.getElem_range];split
 ·rename_i e;rw[<-e,hv]
 ·rename_i e;exact(h j aR (λk=>e k.symm)).symm
def ss (b:List Int) (j k:Nat):Int:=(dP k).foldl (λy q=>y*256+b.getD (j*8+q) 0) 0
theorem amz (b:List Int) (j k:Nat):ss b j (k+1)=ss b j k*256+b.getD (j*8+k) 0:=by
 unfold ss;rw[SC,aXg];rfl
theorem abm {b:List Int} (j:Nat):∀k,(∀q,q<k->0<=b.getD (j*8+q) 0/\b.getD (j*8+q) 0<=255)->0<=ss b j k/\ss b j k<256^k
 |0,_=>⟨cn _,(by decide:(0:Int)<1)⟩
 |k+1,hb=>by
  have ih:=abm j k λq an=>hb q (by omega);have h:=hb k (by omega);rw[amz,Se];omega
theorem aPP {c n a m0:Int} {P:Int->Prop} {B:List Int} {k:Nat} (hm:aJ m0=dw 80 0) (da:aJ c=B) (hn:n=(B.length:Int)) (ha:a=((128*k:Nat):Int)) (ag:128*k+128<=B.length) (hl:B.length<=1000001000) (lE:∀m,aJ m=re bP ((B.drop (128*k)).take 128)++dw 64 0->P m):atu c n a m0 P:=by
 obtain⟨b,Fw⟩:∃b,b=(B.drop (128*k)).take 128:=⟨_,rfl⟩;obtain⟨W,qL⟩:∃W:Nat->List Int,W=λi=>(dP 80).map λj=>ss b j (min 8 (i-8*j)):=⟨_,rfl⟩;have wl:∀i,(W i).length=80:=λi=>by rw[qL];simp
 refine⟨λs=>∃(i:Nat) (m:Int),s=[[(i:Int)],[m]]/\i<=128/\aJ m=W i/\∀q,q<i->0<=b.getD q 0/\b.getD q 0<=255,λs=>(128-(s.getD 0 []).getD 0 0).toNat,⟨0,m0,rfl,by decide,by rw[hm,qL];rfl,λq an=>absurd an (aXh q)⟩,?_⟩;intro i i0 i1 m m0 gk ⟨p,m',e,hp,hw,fW⟩;simp only[hD,and_true]at e;obtain⟨rfl,rfl⟩:=e;have DY:(aJ m).length=80:=by rw[hw,wl]
 refine⟨λh x dp ak ai aw y gV au ao az=>?_,λh=>?_⟩
 ·have h:=of_decide_eq_true h;have ex:x=((p/8:Nat):Int):=by omega
  have Ol:y=((p/8:Nat):Int):=by omega
  refine⟨⟨by omega,by omega⟩,pI (by omega) (by omega),λw w0 eU Iu u sa kY rb yX t t0 t1 t2 t3=>?_⟩;have BA:t=0:=by omega
  subst BA;have l9:a+((p:Int)+-bt*0)=((128*k+p:Nat):Int):=by omega
  dsimp only
  rw[l9];refine⟨⟨by omega,by omega⟩,pI (by omega) (by rw[da];omega),λz z0 ar hz=>?_⟩;have PC:z=b.getD p 0:=by rw[fU hz,da,hC,Fw,anq _ _ _ _ (by omega)]
  refine⟨⟨by omega,by omega⟩,pI (by omega) (by omega),λ_ eJ _ _ s5=>⟨⟨p+1,eJ,rfl,by omega,?_,λq an=>?_⟩,?_⟩⟩
  ·have aeq:w=ss b (p/8) (p% 8):=by
    rw[fU Iu,hw,qL,Ol,hC,ky,qw,Ym (by omega)];show ss b (p/8) (min 8 (p-8*(p/8)))=_;rw[show min 8 (p-8*(p/8))=p% 8 by omega]
   have hlt:ss b (p/8) (p% 8)<72057594037927936:=by
    have h1:=(abm (b:=b) (p/8) (p% 8) λq an=>fW _ (by omega)).2;have h2:=(by decide:∀k,k<8->(256:Int)^k<=72057594037927936) (p% 8) (by omega);omega
   have ng:=(abm (b:=b) (p/8) (p% 8) λq an=>fW _ (by omega)).1;have acs:u=0:=by omega
   rw[mA s5,hw,ex,hC,qL];refine atX (by omega) ?_ λj aR dE=>?_
   ·show ss b (p/8) (min 8 (p+1-8*(p/8)))=_;rw[show min 8 (p+1-8*(p/8))=p% 8+1 by omega,amz,show p/8*8+p% 8=p by omega,acs,aeq,PC];omega
   ·show ss b j (min 8 (p+1-8*j))=ss b j (min 8 (p-8*j));rw[show min 8 (p+1-8*j)=min 8 (p-8*j) by omega]
  ·rcases CK q p with h1|h1
   ·exact fW q h1
   ·rw[show q=p by omega,<-PC];exact⟨z0,ar⟩
  ·show(128-((p:Int)+1)).toNat<(128-(p:Int)).toNat;omega
 ·have h:=of_decide_eq_false h;have:p=128:=by omega
  subst this;refine lE m ?_;have av:(dP 80).map (λj=>ss b j (min 8 (128-8*j)))=(dP 16).map (tx bP b)++dw 64 0:=by
   rw[show(80:Nat)=16+64 from rfl,awB,hQ,lz];have kY:(dP 16).map (λj=>ss b j (min 8 (128-8*j)))=(dP 16).map (tx bP b):=j5 λj aR=>by
    have aR:=List.mem_range.1 aR;show ss b j (min 8 (128-8*j))=ss b j 8;rw[show min 8 (128-8*j)=8 by omega]
   rw[kY];refine congrArg _ (List.eq_replicate_iff.2 ⟨by simp,λx hx=>?_⟩);obtain⟨j,_,rfl⟩:=List.mem_map.1 hx;show ss b (16+j) (min 8 (128-8*(16+j)))=0;rw[show min 8 (128-8*(16+j))=0 by omega];rfl
  rw[hw,qL,<-Fw];exact av
theorem aPS {m0:Int} {P:Int->Prop} {ws:List Int} (hm:aJ m0=ws++dw 64 0) (hl:ws.length=16) (lE:∀m,aJ m=sched bP ws->P m):atz SB m0 P:=by
 have el:∀j,(nd bP j ws).length=16+j:=λj=>by rw[HK,hl]
 refine⟨λs=>∃(j:Nat) (m:Int),s=[[((16+j:Nat):Int)],[m]]/\j<=64/\aJ m=nd bP j ws++dw (64-j) 0,λs=>(80-(s.getD 0 []).getD 0 0).toNat,⟨0,m0,rfl,by decide,hm⟩,?_⟩;intro i i0 i1 m m0 gk ⟨j,m',e,aR,hw⟩;simp only[hD,and_true]at e;obtain⟨rfl,rfl⟩:=e;have DY:(aJ m).length=80:=by rw[hw,fq,el,JT];omega
 refine⟨λh=>?_,λh=>?_⟩
 ·have h:=of_decide_eq_true h;have rd:∀(d:Nat) (x y:Int),1<=d->d<=16->y=((16+j:Nat):Int)+-(d:Int)->x=cu 21 [m,y,0]->x=(nd bP j ws).getD ((nd bP j ws).length-d) 0:=λd x y h1 h2 hy hx=>by
   rw[fU hx,hw,hy,show(((16+j:Nat):Int)+-(d:Int)).toNat=16+j-d by omega,el];rw[ky,ky,wG (by rw[el];omega)]
  have gR:∀d:Int,0<=d->d<=16->aj 30 [((16+j:Nat):Int)+-d,80]/\aj 21 [m,((16+j:Nat):Int)+-d]:=λd h1 h2=>⟨⟨by omega,by omega⟩,pI (by omega) (by omega)⟩;refine⟨(gR 16 (by decide) (by decide)).1,(gR 16 (by decide) (by decide)).2,λa a0 bR ha=>⟨(gR 15 (by decide) (by decide)).1,(gR 15 (by decide) (by decide)).2,λb dM b4 hb=>⟨trivial,λs aL s1 hs o rW o1 kG pc=>⟨(gR 7 (by decide) (by decide)).1,(gR 7 (by decide) (by decide)).2,λc dK c1 hc p p0 bw bz cY=>⟨(gR 2 (by decide) (by decide)).1,(gR 2 (by decide) (by decide)).2,λd d0 d1 hd=>⟨trivial,λt t0 t1 aB q eu aQ bn cj x dp ak hx=>⟨⟨by omega,by omega⟩,pI (by omega) (by omega),λ_ eJ _ _ s5=>⟨⟨j+1,eJ,by rw[show((16+(j+1):Nat):Int)=((16+j:Nat):Int)+1 by omega],by omega,?_⟩,?_⟩⟩⟩⟩⟩⟩⟩⟩
  ·have ha:=rd 16 a _ (by decide) (by decide) rfl ha;have hb:=rd 15 b _ (by decide) (by decide) rfl hb;have hc:=rd 7 c _ (by decide) (by decide) rfl hc;have hd:=rd 2 d _ (by decide) (by decide) rfl hd;have hs:[[s]]=[[Cj bP b]]:=hs;have aB:[[t]]=[[Ck bP d]]:=aB;have hs:s=Cj bP b:=by simpa using hs
   have aB:t=Ck bP d:=by simpa using aB
   have hx:[[x]]=_:=hx;have hx:x=a+(s+(-bt*o+(c+(-bt*p+(t+-bt*q))))):=by simpa using hx
   have acn:x=tj bP (nd bP j ws):=by
    unfold tj;rw[Ag,<-ha,<-hb,<-hc,<-hd,<-hs,<-aB,hx]
    (unfold bt at*;omega)
   rw[mA s5,hw,Ok,<-acn,show 64-j=(64-(j+1))+1 by omega,y8,show((16+j:Nat):Int).toNat=16+j by omega,RQ _ _ _ _ _ (el j),fS];rfl
  ·show(80-(((16+j:Nat):Int)+1)).toNat<(80-((16+j:Nat):Int)).toNat;omega
 ·have h:=of_decide_eq_false h;have:j=64:=by omega
  subst this;refine lE m ?_;rw[hw];simp;rfl
theorem aPR {m:Int} {h:List Int} {P:List Int->Prop} {ms:List Int} (hm:aJ m=ms) (hl:ms.length=80) (ah:h.length=8) (lE:ay (aT 0 L0 8) (q7 bP 0 ms h)->P (q7 bP 0 ms h)):aty SB m h P:=by
 refine⟨λs=>∃i:Nat,s=[[(i:Int)],q7 bP 0 (ms.take i) h]/\i<=80,λs=>(80-(s.getD 0 []).getD 0 0).toNat,⟨0,rfl,by decide⟩,?_⟩;intro i i0 i1 v hv ⟨n,e,hn⟩;simp only[hD,and_true]at e;obtain⟨rfl,rfl⟩:=e;obtain⟨MB,aiv⟩:=DC 8 _ hv;refine⟨λhi=>?_,λhi=>?_⟩
 ·have hi:=of_decide_eq_true hi;obtain⟨v,FJ⟩:∃v,v=q7 bP 0 (ms.take n) h:=⟨_,rfl⟩;rw[<-FJ]at MB aiv⊢;refine⟨trivial,λa a0 bR ha o rW o1 kG pc b dM b4 hb c dK c1 hc d d0 d1 hd p p0 bw bz cY=>⟨⟨by omega,by omega⟩,λe cv av he q eu aQ bn cj=>⟨⟨by omega,by omega⟩,pI (by omega) (by rw[hm];omega),λx dp ak hx r r0 r1 r2 gS t t0 t1 aB=>⟨trivial,λf f0 f1 hf g1 _ _ h1 g2 _ _ h2 g3 _ _ h3 g4 _ _ h4 g5 _ _ h5 agi aLO sL sM aLU u sa kY hu agj aOZ D8 D9 Am y gV au hy agl aPh aPi aPj aPk w w0 eU hw=>⟨⟨n+1,?_,by omega⟩,?_⟩⟩⟩⟩⟩
  ·have ha:[[a]]=[[vl bP (v.getD 4 0)]]:=ha;have ha:a=vl bP (v.getD 4 0):=by simpa using ha
   have hf:[[f]]=[[vk bP (v.getD 0 0)]]:=hf;have hf:f=vk bP (v.getD 0 0):=by simpa using hf
   have hx:x=ms.getD n 0:=by rw[fU hx,hm,hC]
   have he:e=AE bP n:=by
    rw[he,hC];show _=uF.getD n 0/2^(64-64);simp
   have aB:[[t]]=_:=aB;have aB:t=v.getD 7 0+(a+(-bt*o+(d+(-bt*p+(e+(-bt*q+(x+-bt*r))))))):=by simpa using aB
   have hu:[[u]]=_:=hu;have hu:u=f+(g5+-bt*agi):=by simpa using hu
   have hy:[[y]]=_:=hy;have hy:y=t+(u+-bt*agj):=by simpa using hy
   have hw:[[w]]=_:=hw;have hw:w=v.getD 3 0+(t+-bt*agl):=by simpa using hw
   have abG:d=wZ bP (v.getD 4 0) (v.getD 5 0) (v.getD 6 0):=by
    unfold wZ;rw[hd,hb,hc];show _=br .xor .u64 (br .and .u64 (v.getD 4 0) (v.getD 5 0)) (br .and .u64 ((2:Int)^64-1-v.getD 4 0) (v.getD 6 0));rw[show(2:Int)^64-1-v.getD 4 0=-1*v.getD 4 0+L0 by rw[show(2:Int)^64=bt by decide];(unfold bt at*;(unfold L0 at*;omega))]
   have afZ:g5=Ah bP (v.getD 0 0) (v.getD 1 0) (v.getD 2 0):=by
    unfold Ah;rw[h5,h3,h1,h2,h4];rfl
   have t1:t=md bP (v.getD 7 0+vl bP (v.getD 4 0)+wZ bP (v.getD 4 0) (v.getD 5 0) (v.getD 6 0)+AE bP n+ms.getD n 0):=by
    rw[Ag,<-ha,<-abG,<-he,<-hx];(unfold bt at*;omega)
   have kY:u=md bP (vk bP (v.getD 0 0)+Ah bP (v.getD 0 0) (v.getD 1 0) (v.getD 2 0)):=by
    rw[Ag,<-hf,<-afZ];(unfold bt at*;omega)
   rw[Gw ms n (by omega),Mp,<-FJ,show 0+(ms.take n).length=n by rw[m4];omega,aub n _ MB,<-t1,<-kY];simp only[Ag];rw[show(t+u)% bt=y by(unfold bt at*;omega),show(v.getD 3 0+t)% bt=w by(unfold bt at*;omega)];rfl
  ·show(80-((n:Int)+1)).toNat<(80-(n:Int)).toNat;omega
 ·have hi:=of_decide_eq_false hi;have:n=80:=by omega
  subst this;rw[mu (by omega)]at hv⊢;exact lE hv
theorem atv {h v:List Int} {P:List Int->Prop}:∀(n i:Nat) (acc:List Int),P (acc++(dP n).map λj=>md bP (h.getD (i+j) 0+v.getD (i+j) 0))->ahm SB h v n i acc P
 |0,i,acc,lE=>by
  show P acc;simpa using lE
 |n+1,i,acc,lE=>λo rW o1 kG pc y gV au hy=>atv n (i+1) (acc++[y]) (by
  have hy:[[y]]=_:=hy;have hy:y=h.getD i 0+(v.getD i 0+-0x10000000000000000*o):=by simpa using hy
  have e:y=md bP (h.getD (i+0) 0+v.getD (i+0) 0):=by rw[Ag,m3];omega
  rw[Yx,df,<-e,lz]at lE;rw[fS];refine Eq.mp (congrArg (λl=>P (acc++([y]++l))) (j5 λj _=>?_)) lE;show md bP (h.getD (i+(j+1)) 0+v.getD (i+(j+1)) 0)=_;rw[show i+(j+1)=i+1+j by omega])
theorem aPO {K:List (List Int)->List (List Int)->Prop} {z0 c n:Int} {B:List Int} {q:Nat} (da:aJ c=B) (hn:n=(B.length:Int)) (an:B.length=128*q) (hl:B.length<=1000001000) (qc:∀r,0<=r->r<=cP->aJ r=pC bP B->K [[z0]] [[r]]):ahl SB K z0 c n:=by
 refine⟨λs=>∃k:Nat,s=[[((128*k:Nat):Int)],ru bP B k (mB bP)]/\k<=q,λs=>(n-(s.getD 0 []).getD 0 0).toNat,⟨0,by rw[show ru bP B 0 (mB bP)=mB bP from rfl,aml];rfl,AS _⟩,?_⟩;intro a a0 bR h ah ⟨k,e,ag⟩;simp only[hD,and_true]at e;obtain⟨rfl,e⟩:=e;obtain⟨ch,fW⟩:=DC 8 _ ah;refine⟨λhi=>?_,λhi=>?_⟩
 ·have hi:=of_decide_eq_true hi;refine Kv 80 0 0 (by decide) λm hm=>aPP (k:=k) (by rw[hm,qF];rfl) da hn rfl (by omega) hl λeJ s5=>aPS s5 (by unfold re;simp) λur Ic=>aPR Ic ?_ ch λ_=>atv 8 0 [] ?_
  ·unfold sched;rw[HK];unfold re;simp;rfl
  ·intro o rW o1 kG pc;have:o=0:=by omega
   subst this;rw[show((128*k:Nat):Int)+-bt*0+128=((128*(k+1):Nat):Int) by omega];refine⟨⟨by omega,by omega⟩,⟨k+1,?_,by omega⟩,?_⟩
   ·show _=[[((128*(k+1):Nat):Int)],uM bP (ru bP B k (mB bP)) (re bP ((B.drop (128*k)).take 128))];rw[<-e];unfold uM;rw[av7 _ ch (by rw[WV _ _ _ _ ch])];rfl
   ·show(n-((128*(k+1):Nat):Int)).toNat<(n-((128*k:Nat):Int)).toNat;omega
 ·have hi:=of_decide_eq_false hi;have:k=q:=by omega
  subst this;refine Kv 8 0 0 (by omega) λg hg=>aPQ (h:=h) (by rw[hg,qF,eQ,jA,mu (by omega)]) ch fW λr r0 r1 hr=>qc r r0 r1 ?_;rw[hr,e];unfold pC;rw[an];show _=oH bP (ru bP B (128*k/128) (mB bP));rw[Sg _ (by decide)]
theorem aPN {K:List (List Int)->List (List Int)->Prop} {z0 z3 c l:Int} {B:List Int} {N:Nat} (h3:z3=(N:Int)) (cF:N<=1000000000) (da:aJ c=B) (hl:l=(B.length:Int)) (hb:B.length<=1000000900) (lE:∀z,aJ z=B++Br (8*N)->ahl SB K z0 z (l+8)):att SB K z0 z3 c l:=by
 intro aS a0 bR a2 a3 ba dM b4 cg dh;refine⟨ns (by rw[da,hl]),o8 (by rw[da];omega),λaW _ _ lp bm _ _ bp d0 d1 d2 d3 z20 cv av aH ca=>?_⟩;have lp:aJ aW=B++[ba]:=by rw[eR lp,da]
 refine⟨ns (by rw[lp];simp;omega),o8 (by rw[lp];simp;omega),λz21 _ _ kS z22 _ _ bW f0 f1 f2 f3 z24 g0 g1 g2 g3=>?_⟩;have kS:=eR kS;rw[lp,fS]at kS;refine⟨ns (by rw[kS];simp;omega),o8 (by rw[kS];simp;omega),λcr _ _ sy z26 _ _ b5 i0 i1 i2 i3 z28 fC dN nY o6=>?_⟩;have sy:=eR sy;rw[kS,fS]at sy;refine⟨ns (by rw[sy];simp;omega),o8 (by rw[sy];simp;omega),λcl _ _ sz cA _ _ z31 o7 k1 k2 k3 bj lb l1 l2 n7=>?_⟩;have sz:=eR sz;rw[sy,fS]at sz;refine⟨ns (by rw[sz];simp;omega),o8 (by rw[sz];simp;omega),λbM _ _ sA cw _ _ b7 m0 gk eJ ur cp e9 bh fF sJ=>?_⟩;have sA:=eR sA;rw[sz,fS]at sA;refine⟨ns (by rw[sA];simp;omega),o8 (by rw[sA];simp;omega),λz37 _ _ sB cU _ _ cO p0 bw bz cY z40 eu aQ bn cj=>?_⟩;have sB:=eR sB;rw[sA,fS]at sB;refine⟨ns (by rw[sB];simp;omega),o8 (by rw[sB];simp;omega),λc2 _ _ rC db _ _ dc r0 r1 r2 gS=>?_⟩;have rC:=eR rC;rw[sB,fS]at rC;refine⟨ns (by rw[rC];simp;omega),o8 (by rw[rC];simp;omega),λeh _ _ s3 dC _ _=>lE eh ?_⟩;have s3:=eR s3;rw[rC,fS]at s3;rw[s3]
 congr 1
 have t0:ba=((8*N/72057594037927936% 256:Nat):Int):=by omega
 have t1:bp+-256*z20=((8*N/281474976710656% 256:Nat):Int):=by omega
 have t2:bW+-256*z24=((8*N/1099511627776% 256:Nat):Int):=by omega
 have t3:b5+-256*z28=((8*N/4294967296% 256:Nat):Int):=by omega
 have t4:z31+-256*bj=((8*N/16777216% 256:Nat):Int):=by omega
 have t5:b7+-256*cp=((8*N/65536% 256:Nat):Int):=by omega
 have t6:cO+-256*z40=((8*N/256% 256:Nat):Int):=by omega
 have t7:8*z3+(-0x10000000000000000*aS+-256*dc)=((8*N/1% 256:Nat):Int):=by omega
 rw[t0,t1,t2,t3,t4,t5,t6,t7];rfl
theorem atx {K:List (List Int)->List (List Int)->Prop} {z0 z3 c l k:Int} {b:List Int} {N:Nat} (h3:z3=(N:Int)) (cF:N<=1000000000) (hb:b.length=N) (hc:aJ c=b++[128]) (hl:l=(N:Int)+1) (qc:∀r,0<=r->r<=cP->aJ r=jy bP b->K [[z0]] [[r]]):ahn SB K z0 z3 c l k:=by
 obtain⟨aQ,⟨q,bn⟩,cj⟩:=Wp b;rw[hb]at aQ bn cj;have ng:N+17<=lf 64 N:=by
  show N+17<=(N+1+64/4+(2*64-1))/(2*64)*(2*64);omega
 have Pg:pM z3 64=((lf 64 N:Nat):Int):=by
  unfold pM;rw[if_neg (by omega),h3,hC];rfl
 obtain⟨M,ma⟩:∃M,M=lf 64 N:=⟨_,rfl⟩;rw[<-ma]at aQ bn cj ng Pg;refine⟨λs=>∃(j:Nat) (c l k:Int),s=[[c],[l],[k]]/\l=((N+1+j:Nat):Int)/\aJ c=b++[128]++dw j 0/\N+1+j<=M-8,λs=>((M:Int)-(s.getD 1 []).getD 0 0).toNat,⟨0,c,l,k,rfl,by omega,by rw[hc];simp,by omega⟩,?_⟩;intro aY _ _ aN _ _ z12 _ _ ⟨j,ek,l',bJ,e,jK,dB,aR⟩ a1 _ _ hp aG rW o1 kG pc;simp only[hD,and_true]at e;obtain⟨rfl,rfl,rfl⟩:=e;have hp:[[a1]]=[[pM z3 64]]:=hp;have hp:a1=(M:Int):=by rw[<-Pg];simpa using hp
 have lc:(aJ aY).length=N+1+j:=by rw[dB];simp;omega
 refine⟨λh=>?_,λh=>?_⟩
 ·have h:=of_decide_eq_true h;refine⟨ns (by rw[lc,jK]),o8 (by omega),λaS _ _ vr ba _ _=>⟨⟨j+1,aS,aN+1,ba,rfl,by omega,?_,by omega⟩,?_⟩⟩
  ·rw[eR vr,dB,fS,ajp]
  ·show((M:Int)-(aN+1)).toNat<((M:Int)-aN).toNat;omega
 ·have h:=of_decide_eq_false h;have acm:j=M-N-9:=by omega
  refine aPN h3 cF dB (by rw[jK,<-lc,dB]) (by rw[<-dB,lc];omega) λz hz=>?_;have hz:aJ z=q4 bP b:=by
   rw[hz,acm,ma];unfold q4;rw[hb];rfl
  have tS:aN+8=((q4 bP b).length:Int):=by rw[aQ];omega
  exact aPO (q:=q) hz tS (by rw[aQ,bn]) (by rw[aQ];omega) qc
theorem gA {c z s:Int} (h:z=cu 24 [c,s]):aJ z=aJ c++aJ s:=by
 rw[h];show(af (rc (af c++af s))).map _=_;rw[jO,hQ];rfl
theorem aNp:aj3 SB (ej SB [uv] 477):=by
 intro z0 a0 bR hp ar dM z2 dK c1 z3 d0 d1 h3;have hp:(af z0).length<=1000000000:=hp;have h3:z3=((af z0).length:Int):=h3;refine⟨⟨cn _,by omega,by rw[h3];exact cn _⟩,by show((af 0).length:Int)+z3<=1073741824;rw[j2];simp;omega,λz4 _ _ h4 z5 _ _ h5=>?_⟩;have h5:aJ z5=aJ z0:=by rw[gA h5,qF,eQ,jU (fP h4 h3)]
 have gR:∀r,0<=r->r<=cP->aJ r=jy bP (aJ z0)->ej SB [uv] 477 [[z0]] [[r]]:=λr h0 h1 hr=>⟨⟨h0,h1,trivial⟩,hr⟩;exact⟨λh=>by
  have h:=of_decide_eq_true h;have hn:aJ z0=[]:=uV (by rw[fT];omega);refine⟨by show((af 0).length:Int)+1<=1073741824;rw[j2];decide,λaZ _ _ h6 aK _ _=>?_⟩;exact atx h3 hp (fT z0) (by rw[eR h6,qF,hn]) (by omega) gR,λ_ aZ _ _=>⟨ns (by rw[h5,fT];exact h3),o8 (by rw[h5,fT];omega),λaK _ _ h7 aF _ _=>atx h3 hp (fT z0) (by rw[eR h7,h5]) (by omega) gR⟩⟩
end Go.dg
namespace Go.dg
open Go Go.bX
def ajS (S:zzS) (K:zzK):Prop:=aI λz0=>K [[z0]] [[z0]]
def aj4 (S:zzS) (K:zzK):Prop:=aI λz0=>dy 1 1 λar=>(aj 82 [z0,ar]->aq 0 0x7fffffffffffffff z0 2 λz2=>aq 0 0x7fffffffffffffff (0x8000000000000000*z0) 0x10000000000000000 λz3=>aI λz4=>S 476 [[((0x8000000000000000*z0)+(z2+((-0x10000000000000000)*z3)))]] [[z4]]->K [[z0],[ar]] [[z4]])
def akc (S:zzS) (K:zzK):Prop:=aI λz0=>dy 6 6 λar=>(aj 82 [z0,ar]->aq 0 0x3ffffffffffffff z0 64 λz2=>aq 0 0x3ffffffffffffff (0x400000000000000*z0) 0x10000000000000000 λz3=>aI λz4=>S 476 [[((0x400000000000000*z0)+(z2+((-0x10000000000000000)*z3)))]] [[z4]]->K [[z0],[ar]] [[z4]])
def ake (S:zzS) (K:zzK):Prop:=aI λz0=>dy 7 7 λar=>(aj 82 [z0,ar]->aq 0 0x1ffffffffffffff z0 128 λz2=>aq 0 0x1ffffffffffffff (0x200000000000000*z0) 0x10000000000000000 λz3=>aI λz4=>S 476 [[((0x200000000000000*z0)+(z2+((-0x10000000000000000)*z3)))]] [[z4]]->K [[z0],[ar]] [[z4]])
def akf (S:zzS) (K:zzK):Prop:=aI λz0=>dy 8 8 λar=>(aj 82 [z0,ar]->aq 0 0xffffffffffffff z0 256 λz2=>aq 0 0xffffffffffffff (72057594037927936*z0) 0x10000000000000000 λz3=>aI λz4=>S 476 [[((72057594037927936*z0)+(z2+((-0x10000000000000000)*z3)))]] [[z4]]->K [[z0],[ar]] [[z4]])
def aj5 (S:zzS) (K:zzK):Prop:=aI λz0=>dy 14 14 λar=>(aj 82 [z0,ar]->aq 0 0x3ffffffffffff z0 16384 λz2=>aq 0 0x3ffffffffffff (0x4000000000000*z0) 0x10000000000000000 λz3=>aI λz4=>S 476 [[((0x4000000000000*z0)+(z2+((-0x10000000000000000)*z3)))]] [[z4]]->K [[z0],[ar]] [[z4]])
def aj6 (S:zzS) (K:zzK):Prop:=aI λz0=>dy 18 18 λar=>(aj 82 [z0,ar]->aq 0 70368744177663 z0 262144 λz2=>aq 0 70368744177663 (70368744177664*z0) 0x10000000000000000 λz3=>aI λz4=>S 476 [[((70368744177664*z0)+(z2+((-0x10000000000000000)*z3)))]] [[z4]]->K [[z0],[ar]] [[z4]])
def aj7 (S:zzS) (K:zzK):Prop:=aI λz0=>dy 19 19 λar=>(aj 82 [z0,ar]->aq 0 35184372088831 z0 524288 λz2=>aq 0 35184372088831 (35184372088832*z0) 0x10000000000000000 λz3=>aI λz4=>S 476 [[((35184372088832*z0)+(z2+((-0x10000000000000000)*z3)))]] [[z4]]->K [[z0],[ar]] [[z4]])
def aj8 (S:zzS) (K:zzK):Prop:=aI λz0=>dy 28 28 λar=>(aj 82 [z0,ar]->aq 0 68719476735 z0 268435456 λz2=>aq 0 68719476735 (68719476736*z0) 0x10000000000000000 λz3=>aI λz4=>S 476 [[((68719476736*z0)+(z2+((-0x10000000000000000)*z3)))]] [[z4]]->K [[z0],[ar]] [[z4]])
def aj9 (S:zzS) (K:zzK):Prop:=aI λz0=>dy 34 34 λar=>(aj 82 [z0,ar]->aq 0 1073741823 z0 17179869184 λz2=>aq 0 1073741823 (1073741824*z0) 0x10000000000000000 λz3=>aI λz4=>S 476 [[((1073741824*z0)+(z2+((-0x10000000000000000)*z3)))]] [[z4]]->K [[z0],[ar]] [[z4]])
def aka (S:zzS) (K:zzK):Prop:=aI λz0=>dy 39 39 λar=>(aj 82 [z0,ar]->aq 0 33554431 z0 549755813888 λz2=>aq 0 33554431 (33554432*z0) 0x10000000000000000 λz3=>aI λ z4=>S 476 [[((33554432*z0)+(z2+((-0x10000000000000000)*z3)))]] [[z4]]->K [[z0],[ar]] [[z4]])
def akb (S:zzS) (K:zzK):Prop:=aI λz0=>dy 41 41 λar=>(aj 82 [z0,ar]->aq 0 8388607 z0 2199023255552 λz2=>aq 0 8388607 (8388608*z0) 0x10000000000000000 λz3=>aI λz4=>S 476 [[((8388608*z0)+(z2+((-0x10000000000000000)*z3)))]] [[z4]]->K [[z0],[ar]] [[z4]])
def akd (S:zzS) (K:zzK):Prop:=aI λz0=>dy 61 61 λar=>(aj 82 [z0,ar]->aq 0 7 z0 0x2000000000000000 λz2=>aq 0 7 (8*z0) 0x10000000000000000 λz3=>aI λz4=>S 476 [[((8*z0)+(z2+((-0x10000000000000000)*z3)))]] [[z4]]->K [[z0],[ar]] [[z4]])
def ajT (S:zzS) (K:zzK):Prop:=aI λz0=>∀r1:List Int,ay [(28,28),(34,34),(39,39)] r1->dI λz4=>(aj 82 [z0,(U r1 0 0),(U r1 1 0),(U r1 2 0),z4]->aj 82 [z0,(U r1 2 0)]/\aI λz5=>S 739 [[z0],[(U r1 2 0)]] [[z5]]->(eb (decide (z4=1)) (aq 0 33554431 z0 549755813888 λaZ=>aj 82 [z0,(U r1 0 0)]/\aI λaK=>S 728 [[z0],[(U r1 0 0)]] [[aK]]->aj 82 [z0,(U r1 1 0)]/\aI λaF=>S 734 [[z0],[(U r1 1 0)]] [[aF]]->bY λz9=>z9<=cL .u64->z9=br .xor .u64 aK aF->bY λaY=>aY<=cL .u64->aY=br .xor .u64 z9 aZ->K [[z0],r1,[z4]] [[aY]]) (aj 82 [z0,(U r1 0 0)]/\aI λaZ=>S 728 [[z0],[(U r1 0 0)]] [[aZ]]->aj 82 [z0,(U r1 1 0)]/\aI λaK=>S 734 [[z0],[(U r1 1 0)]] [[aK]]->bY λaF=>aF<=cL .u64->aF=br .xor .u64 aZ aK->bY λz9=>z9<=cL .u64->z9=br .xor .u64 aF z5->K [[z0],r1,[z4]] [[z9]])))
def ajU (S:zzS) (K:zzK):Prop:=aI λz0=>∀r1:List Int,ay [(14,14),(18,18),(41,41)] r1->dI λz4=>(aj 82 [z0,(U r1 0 0),(U r1 1 0),(U r1 2 0),z4]->aj 82 [z0,(U r1 2 0)]/\aI λz5=>S 741 [[z0],[(U r1 2 0)]] [[z5]]->(eb (decide (z4=1)) (aq 0 8388607 z0 2199023255552 λaZ=>aj 82 [z0,(U r1 0 0)]/\aI λaK=>S 714 [[z0],[(U r1 0 0)]] [[aK]]->aj 82 [z0,(U r1 1 0)]/\aI λaF=>S 718 [[z0],[(U r1 1 0)]] [[aF]]->bY λz9=>z9<=cL .u64->z9=br .xor .u64 aK aF->bY λaY=>aY<=cL .u64->aY=br .xor .u64 z9 aZ->K [[z0],r1,[z4]] [[aY]]) (aj 82 [z0,(U r1 0 0)]/\aI λaZ=>S 714 [[z0],[(U r1 0 0)]] [[aZ]]->aj 82 [z0,(U r1 1 0)]/\aI λaK=>S 718 [[z0],[(U r1 1 0)]] [[aK]]->bY λaF=>aF<=cL .u64->aF=br .xor .u64 aZ aK->bY λz9=>z9<=cL .u64->z9=br .xor .u64 aF z5->K [[z0],r1,[z4]] [[z9]])))
def ajV (S:zzS) (K:zzK):Prop:=aI λz0=>∀r1:List Int,ay [(1,1),(8,8),(7,7)] r1->dI λz4=>(aj 82 [z0,(U r1 0 0),(U r1 1 0),(U r1 2 0),z4]->aj 82 [z0,(U r1 2 0)]/\aI λz5=>S 707 [[z0],[(U r1 2 0)]] [[z5]]->(eb (decide (z4=1)) (aq 0 0x1ffffffffffffff z0 128 λaZ=>aj 82 [z0,(U r1 0 0)]/\aI λaK=>S 701 [[z0],[(U r1 0 0)]] [[aK]]->aj 82 [z0,(U r1 1 0)]/\aI λaF=>S 708 [[z0],[(U r1 1 0)]] [[aF]]->bY λz9=>z9<=cL .u64->z9=br .xor .u64 aK aF->bY λaY=>aY<=cL .u64->aY=br .xor .u64 z9 aZ->K [[z0],r1,[z4]] [[aY]]) (aj 82 [z0,(U r1 0 0)]/\aI λaZ=>S 701 [[z0],[(U r1 0 0)]] [[aZ]]->aj 82 [z0,(U r1 1 0)]/\aI λaK=>S 708 [[z0],[(U r1 1 0)]] [[aK]]->bY λaF=>aF<=cL .u64->aF=br .xor .u64 aZ aK->bY λz9=>z9<=cL .u64->z9=br .xor .u64 aF z5->K [[z0],r1,[z4]] [[z9]])))
def ajW (S:zzS) (K:zzK):Prop:=aI λz0=>∀r1:List Int,ay [(19,19),(61,61),(6,6)] r1->dI λz4=>(aj 82 [z0,(U r1 0 0),(U r1 1 0),(U r1 2 0),z4]->aj 82 [z0,(U r1 2 0)]/\aI λz5=>S 706 [[z0],[(U r1 2 0)]] [[z5]]->(eb (decide (z4=1)) (aq 0 0x3ffffffffffffff z0 64 λaZ=>aj 82 [z0,(U r1 0 0)]/\aI λaK=>S 719 [[z0],[(U r1 0 0)]] [[aK]]->aj 82 [z0,(U r1 1 0)]/\aI λaF=>S 761 [[z0],[(U r1 1 0)]] [[aF]]->bY λz9=>z9<=cL .u64->z9=br .xor .u64 aK aF->bY λaY=>aY<=cL .u64->aY=br .xor .u64 z9 aZ->K [[z0],r1,[z4]] [[aY]]) (aj 82 [z0,(U r1 0 0)]/\aI λaZ=>S 719 [[z0],[(U r1 0 0)]] [[aZ]]->aj 82 [z0,(U r1 1 0)]/\aI λaK=>S 761 [[z0],[(U r1 1 0)]] [[aK]]->bY λaF=>aF<=cL .u64->aF=br .xor .u64 aZ aK->bY λz9=>z9<=cL .u64->z9=br .xor .u64 aF z5->K [[z0],r1,[z4]] [[z9]])))
def ajQ (S:zzS) (K:zzK):Prop:=dV λz0=>(aj 71 [z0]->bY λar=>cz λz2=>ee 20 [z0] λz3=>aj 22 [z0,0,z3]/\ck 22 [z0,0,z3] λz4=>aj 71 [z4]/\dV λz5=>S 477 [[z4]] [[z5]]->cz λaZ=>ee 20 [z5] λaK=>Tu z5 aK 64 0 [] λtA=>K [[z0]] [tA])
def ajE (S:zzS) (K:zzK):Prop:=∀r0:List Int,ay (aT 0 0xffffffffffffffff 4) r0->∀bb:List Int,ay (aT 0 0xffffffffffffffff 4) bb->∀eO:List Int,ay (aT 0 0xffffffffffffffff 4) eO->dI λz12=>S 722 [r0,bb] [eO,[z12]]->∀ic:List Int,ay (aT 0 0xffffffffffffffff 4) ic->S 691 [] [ic]->dI λaW=>S 694 [eO,ic] [[aW]]->(eb ((!(decide (aW=1)))) (∀kv:List Int,ay (aT 0 0xffffffffffffffff 4) kv->S 691 [] [kv]->∀Md:List Int,ay (aT 0 0xffffffffffffffff 4) Md->dI λz26=>S 723 [eO,kv] [Md,[z26]]->K [r0,bb] [Md]) (K [r0,bb] [eO]))
def ajz (S:zzS) (K:zzK):Prop:=dV λz0=>(aj 71 [z0]->bY λar=>cz λz2=>ee 20 [z0] λz3=>aq 0 4 ((8*z3)+0x8000000000000000) 0x10000000000000000 λz4=>aq (-1) 0 (((8*z3)+((-0x10000000000000000)*z4))+0x7fffffffffffffff) 0x10000000000000000 λz5=>aj 39 [(((8*z3)+(((-0x10000000000000000)*z4)+((-0x10000000000000000)*z5)))+(-1)),(-1),0x7fffffffffffffff]/\∃(SL:List (List Int)->Prop) (YA:List (List Int)->Nat),SL [[(((8*z3)+(((-0x10000000000000000)*z4)+((-0x10000000000000000)*z5)))+(-1))],[0,0,0,0]]/\(cz λaK=>∀eO:List Int,ay (aT 0 0xffffffffffffffff 4) eO->SL [[aK],eO]->(eb (decide (0<=aK)) (∀jN:List Int,ay (aT 0 0xffffffffffffffff 4) jN->S 724 [eO,eO] [jN]->aq 0 0xfffffffffffffff aK 8 λba=>aj 30 [ba,z3]/\aj 21 [z0,ba]/\iE 21 [z0,ba,0] λaW=>aq 0 0xfffffffffffffff aK 8 λbm=>ax λbp=>bp=aW/2^((aK+((-8)*bm))).toNat->aq 0 127 bp 2 λz20=>(eb (decide ((bp+((-2)*z20))=1)) (∀uA:List Int,ay (aT 0 0xffffffffffffffff 4) uA->S 724 [jN,[1,0,0,0]] [uA]->(SL [[(aK+(-1))],uA]/\YA [[(aK+(-1))],uA]<YA [[aK],eO])) ((SL [[(aK+(-1))],jN]/\YA [[(aK+(-1))],jN]<YA [[aK],eO])))) (K [[z0]] [eO]))))
def ajC (S:zzS) (K:zzK):Prop:=∀r0:List Int,ay (aT 0 255 64) r0->jJ r0 0 64 0 λz127=>aj 71 [z127]/\∀iF:List Int,ay (aT 0 0xffffffffffffffff 4) iF->S 725 [[z127]] [iF]->∀kV:List Int,ay (aT 0 255 32) kV->S 690 [iF] [kV]->K [r0] [kV]
def aj1 (S:zzS) (K:zzK):Prop:=dV λz0=>dV λar=>dV λz2=>(aj 75 [z0,ar,z2]->bY λz3=>cz λz4=>ee 20 [z0] λz5=>bY λaZ=>cz λaK=>ee 20 [ar] λaF=>bY λz9=>cz λaY=>ee 20 [z2] λaN=>aj 22 [z0,0,z5]/\aj 23 [0,z5]/\ck 22 [z0,0,z5] λz12=>ck 24 [0,z12] λa1=>(eb (decide (z5<=0)) (aj 22 [ar,0,aF]/\aj 23 [0,aF]/\ck 22 [ar,0,aF] λaG=>ck 24 [0,aG] λaS=>(eb (decide (aF<=0)) (aj 22 [z2,0,aN]/\aj 23 [0,aN]/\ck 22 [z2,0,aN] λba=>ck 24 [0,ba] λaW=>(eb (decide (aN<=0)) (RT S K [[z0],[ar],[z2]] 0) (cz λbm=>aj 22 [aW,0,aN]/\ck 22 [aW,0,aN] λbp=>RT S K [[z0],[ar],[z2]] bp))) (cz λba=>aj 31 [aS,aF]/\aj 22 [z2,0,aN]/\aj 23 [aS,aN]/\ck 22 [z2,0,aN] λaW=>ck 24 [aS,aW] λbm=>cz λbp=>aj 22 [bm,0,(aF+aN)]/\ck 22 [bm,0,(aF+aN)] λz20=>RT S K [[z0],[ar],[z2]] z20))) (cz λaG=>aj 31 [a1,z5]/\aj 22 [ar,0,aF]/\aj 23 [a1,aF]/\ck 22 [ar,0,aF] λaS=>ck 24 [a1,aS] λba=>cz λaW=>aj 31 [ba,(z5+aF)]/\aj 22 [z2,0,aN]/\aj 23 [ba,aN]/\ck 22 [z2,0,aN] λbm=>ck 24 [ba,bm] λbp=>cz λz20=>aj 22 [bp,0,(z5+(aF+aN))]/\ck 22 [bp,0,(z5+(aF+aN))] λz21=>RT S K [[z0],[ar],[z2]] z21)))
theorem avV {y:Int} (h0:0<=y) (h1:y<=0xffffffffffffffff):br .xor .u64 0 y=y:=by
 obtain⟨Y,rfl⟩:=mr h0;show IntKind.u64.wrap (((rk 64 0^^^rk 64 (Y:Int)).toNat:Nat):Int)=_;have e:rk 64 0^^^rk 64 (Y:Int)=rk 64 (Y:Int):=by simp
 rw[e,BitVec.toNat_ofInt];have h2:(Y:Int)% ((2^64:Nat):Int)=Y:=Int.emod_eq_of_lt (by omega) (by omega);rw[h2,hC];exact RU (by omega) (by show(Y:Int)<0x10000000000000000;omega)
theorem aci {K z q:Int} (hp:0<K) (bw:0<=z-K*q) (bz:z-K*q<K):q=z/K:=
 ((Int.ediv_emod_unique hp).2 ⟨show z-K*q+K*q=z by omega,bw,bz⟩).1.symm
theorem aMW:ajS SB (fA SB [cx] 476):=λ_ a0 bR=>⟨⟨a0,bR,trivial⟩,rfl⟩
theorem yK (n:Nat) (hn:n<=64) {A D z0 z2 z3 z4:Int} (aV:A=2^(64-n)) (nR:D=2^n) (bw:0<=z0-D*z2) (bz:z0-D*z2<D) (aQ:0<=A*z0-bt*z3) (bn:A*z0-bt*z3<bt) (h4:[[z4]]=[[A*z0+(z2+-bt*z3)]]):[[z4]]=[[fc 64 n z0]]:=by
 have r:=pS 64 n hn A bt D aV (by decide) nR aQ bn bw bz;rw[h4,<-r]
 congr 2;omega
theorem F0 (a b c:Nat) {z0 s x y u v r:Int} (cv:0<=x) (av:x<=L0) (h7:[[x]]=[[fc 64 a z0]]) (ch:[[y]]=[[fc 64 b z0]]) (hu:u=if s=1 then z0/2^c else fc 64 c z0) (cC:v=br .xor .u64 x y) (dB:r=br .xor .u64 v u):[[r]]=[[Qy a b c s z0]]:=by
 have h7:x=fc 64 a z0:=by simpa using h7
 have ch:y=fc 64 b z0:=by simpa using ch
 show [[r]]=[[br .xor .u64 (br .xor .u64 (br .xor .u64 0 (fc 64 a z0)) (fc 64 b z0)) (if s=1 then z0/2^c else fc 64 c z0)]];rw[<-hu,<-h7,<-ch,avV cv av,<-cC,<-dB]
theorem W7 (c:Nat) {s z0 aZ K:Int} (h:decide (s=1)=true) (qc:(2:Int)^c=K) (h0:0<K) (bw:0<=z0-K*aZ) (bz:z0-K*aZ<K):aZ=if s=1 then z0/2^c else fc 64 c z0:=by
 rw[if_pos (of_decide_eq_true h),qc];exact aci h0 bw bz
theorem WT {c:Nat} {s z0 aZ:Int} (h:decide (s=1)=false) (h6:[[aZ]]=[[fc 64 c z0]]):aZ=if s=1 then z0/2^c else fc 64 c z0:=by
 rw[if_neg (of_decide_eq_false h)];simpa using h6
theorem aNq:aj4 SB (fA SB [cx] 701):=
 λ_ _ _ _ _ _ _ _ _ _ bw bz _ _ _ aQ bn _ cv av h4=>⟨⟨cv,av,trivial⟩,yK 1 (by decide) (by decide) (by decide) bw bz aQ bn h4⟩
theorem aNy:akc SB (fA SB [cx] 706):=
 λ_ _ _ _ _ _ _ _ _ _ bw bz _ _ _ aQ bn _ cv av h4=>⟨⟨cv,av,trivial⟩,yK 6 (by decide) (by decide) (by decide) bw bz aQ bn h4⟩
theorem aNA:ake SB (fA SB [cx] 707):=
 λ_ _ _ _ _ _ _ _ _ _ bw bz _ _ _ aQ bn _ cv av h4=>⟨⟨cv,av,trivial⟩,yK 7 (by decide) (by decide) (by decide) bw bz aQ bn h4⟩
theorem aNB:akf SB (fA SB [cx] 708):=
 λ_ _ _ _ _ _ _ _ _ _ bw bz _ _ _ aQ bn _ cv av h4=>⟨⟨cv,av,trivial⟩,yK 8 (by decide) (by decide) (by decide) bw bz aQ bn h4⟩
theorem aNr:aj5 SB (fA SB [cx] 714):=
 λ_ _ _ _ _ _ _ _ _ _ bw bz _ _ _ aQ bn _ cv av h4=>⟨⟨cv,av,trivial⟩,yK 14 (by decide) (by decide) (by decide) bw bz aQ bn h4⟩
theorem aNs:aj6 SB (fA SB [cx] 718):=
 λ_ _ _ _ _ _ _ _ _ _ bw bz _ _ _ aQ bn _ cv av h4=>⟨⟨cv,av,trivial⟩,yK 18 (by decide) (by decide) (by decide) bw bz aQ bn h4⟩
theorem aNt:aj7 SB (fA SB [cx] 719):=
 λ_ _ _ _ _ _ _ _ _ _ bw bz _ _ _ aQ bn _ cv av h4=>⟨⟨cv,av,trivial⟩,yK 19 (by decide) (by decide) (by decide) bw bz aQ bn h4⟩
theorem aNu:aj8 SB (fA SB [cx] 728):=
 λ_ _ _ _ _ _ _ _ _ _ bw bz _ _ _ aQ bn _ cv av h4=>⟨⟨cv,av,trivial⟩,yK 28 (by decide) (by decide) (by decide) bw bz aQ bn h4⟩
theorem aNv:aj9 SB (fA SB [cx] 734):=
 λ_ _ _ _ _ _ _ _ _ _ bw bz _ _ _ aQ bn _ cv av h4=>⟨⟨cv,av,trivial⟩,yK 34 (by decide) (by decide) (by decide) bw bz aQ bn h4⟩
theorem aNw:aka SB (fA SB [cx] 739):=
 λ_ _ _ _ _ _ _ _ _ _ bw bz _ _ _ aQ bn _ cv av h4=>⟨⟨cv,av,trivial⟩,yK 39 (by decide) (by decide) (by decide) bw bz aQ bn h4⟩
theorem aNx:akb SB (fA SB [cx] 741):=
 λ_ _ _ _ _ _ _ _ _ _ bw bz _ _ _ aQ bn _ cv av h4=>⟨⟨cv,av,trivial⟩,yK 41 (by decide) (by decide) (by decide) bw bz aQ bn h4⟩
theorem aNz:akd SB (fA SB [cx] 761):=
 λ_ _ _ _ _ _ _ _ _ _ bw bz _ _ _ aQ bn _ cv av h4=>⟨⟨cv,av,trivial⟩,yK 61 (by decide) (by decide) (by decide) bw bz aQ bn h4⟩
theorem aM8:ajT SB (fA SB [cx] 479):=
 λ_ _ _ _ _ _ _ _ _=>⟨trivial,λ_ _ _ h5=>⟨λh _ _ _ d2 d3=>⟨trivial,λ_ cv av h7=>⟨trivial,λ_ _ _ ch _ _ _ cC _ fC dN dB=>⟨⟨fC,dN,trivial⟩,F0 28 34 39 cv av h7 ch (W7 39 h (by decide) (by decide) d2 d3) cC dB⟩⟩⟩,λh=>⟨trivial,λ_ cv av h7=>⟨trivial,λ_ _ _ ch _ _ _ cC _ fC dN dB=>⟨⟨fC,dN,trivial⟩,F0 28 34 39 cv av h7 ch (WT h h5) cC dB⟩⟩⟩⟩⟩
theorem aM9:ajU SB (fA SB [cx] 480):=
 λ_ _ _ _ _ _ _ _ _=>⟨trivial,λ_ _ _ h5=>⟨λh _ _ _ d2 d3=>⟨trivial,λ_ cv av h7=>⟨trivial,λ_ _ _ ch _ _ _ cC _ fC dN dB=>⟨⟨fC,dN,trivial⟩,F0 14 18 41 cv av h7 ch (W7 41 h (by decide) (by decide) d2 d3) cC dB⟩⟩⟩,λh=>⟨trivial,λ_ cv av h7=>⟨trivial,λ_ _ _ ch _ _ _ cC _ fC dN dB=>⟨⟨fC,dN,trivial⟩,F0 14 18 41 cv av h7 ch (WT h h5) cC dB⟩⟩⟩⟩⟩
theorem aNa:ajV SB (fA SB [cx] 481):=
 λ_ _ _ _ _ _ _ _ _=>⟨trivial,λ_ _ _ h5=>⟨λh _ _ _ d2 d3=>⟨trivial,λ_ cv av h7=>⟨trivial,λ_ _ _ ch _ _ _ cC _ fC dN dB=>⟨⟨fC,dN,trivial⟩,F0 1 8 7 cv av h7 ch (W7 7 h (by decide) (by decide) d2 d3) cC dB⟩⟩⟩,λh=>⟨trivial,λ_ cv av h7=>⟨trivial,λ_ _ _ ch _ _ _ cC _ fC dN dB=>⟨⟨fC,dN,trivial⟩,F0 1 8 7 cv av h7 ch (WT h h5) cC dB⟩⟩⟩⟩⟩
theorem aNb:ajW SB (fA SB [cx] 482):=
 λ_ _ _ _ _ _ _ _ _=>⟨trivial,λ_ _ _ h5=>⟨λh _ _ _ d2 d3=>⟨trivial,λ_ cv av h7=>⟨trivial,λ_ _ _ ch _ _ _ cC _ fC dN dB=>⟨⟨fC,dN,trivial⟩,F0 19 61 6 cv av h7 ch (W7 6 h (by decide) (by decide) d2 d3) cC dB⟩⟩⟩,λh=>⟨trivial,λ_ cv av h7=>⟨trivial,λ_ _ _ ch _ _ _ cC _ fC dN dB=>⟨⟨fC,dN,trivial⟩,F0 19 61 6 cv av h7 ch (WT h h5) cC dB⟩⟩⟩⟩⟩
theorem abH {c l:Int} {k:List Int->Prop} (hl:l=((aJ c).length:Int)):∀(n i:Nat) (acc:List Int),i+n<=(aJ c).length->(∀q:List Int,q.length=n->(∀x∈q,0<=x/\x<=255)->q=((aJ c).drop i).take n->k (acc++q))->Tu c l n i acc k
 |0,i,acc,_,h=>by
  have:=h [] rfl (by simp) (by simp);show k acc;simpa using this
 |n+1,i,acc,hn,h=>⟨⟨by omega,by omega⟩,pI (by omega) (by omega),λy gV au hy=>abH hl n (i+1) (acc++[y]) (by omega) λq h1 h2 h3=>by
  have hb:i<(aJ c).length:=by omega
  have e:y=(aJ c)[i]:=by rw[fU hy,hC,ky,lA hb];rfl
  have:=h (y::q) (by simp[h1]) (λx hx=>by
   rcases List.mem_cons.1 hx with rfl|hx
   ·exact⟨gV,au⟩
   ·exact h2 x hx) (by rw[EN hb,l5,<-e,<-h3])
  simpa using this⟩
theorem aMO:ajQ SB (ej SB [.d j7] 478):=by
 intro z0 a0 bR hp ar dM z2 dK c1 z3 d0 d1 h3;have hp:(af z0).length<=1000000000:=hp;have h3:z3=((af z0).length:Int):=h3;refine⟨⟨cn _,by omega,by rw[h3];exact cn _⟩,λz4 _ _ h4=>?_⟩;have h4:=fP h4 h3;refine⟨by show(af z4).length<=1000000000;rw[h4];exact hp,λz5 _ _ h5 aZ _ _ aK _ _ h7=>?_⟩;have h5:aJ z5=jy bP (aJ z4):=h5;rw[jU h4]at h5;have h7:aK=((af z5).length:Int):=h7;have q1:(aJ z5).length=64:=by rw[h5];unfold jy;rw[E0];rfl
 refine abH (by rw[h7,fT]) 64 0 [] (by omega) λq h1 h2 h3=>?_;rw[jA,mu (by omega)]at h3;rw[eQ];refine⟨afd (vv 64 q h1 h2),?_⟩;show [q]=[jy bP (aJ z0)];rw[h3,h5]
theorem afc {r:List Int} (h:ay (aT 0 0xffffffffffffffff 4) r):ay (aT 0 0xffffffffffffffff 4++[]) [r].flatten:=by simpa using h
theorem Wa {l:List Int} {n:Nat} (h:ay (aT 0 0xffffffffffffffff n) l):0<=Go.Fd.ad l:=num_nonneg (by decide) (cn _) h
theorem aI9 {l:List Int} (h:ay (aT 0 0xffffffffffffffff 4) l):Go.Fd.ad l<0x10000000000000000000000000000000000000000000000000000000000000000:=by
 match l,h with
 |[a,b,c,d],h=>
  obtain⟨h1,h2,h3,h4,h5,h6,h7,ch,_⟩:=h;rw[Go.Fd.mG];omega
theorem agz:(Go.Fd.dG:Int)=0x1000000000000000000000000000000014def9dea2f79cd65812631a5cf5d3ed:=by decide
theorem aMi:ajE SB (ej SB [.d dO] 724):=by
 intro r0 i0 bb i4 eO i8 z12 dM b4 h1 ic i13 h2 aW dK c1 h3;have h1:Go.Fd.ad eO=Go.Fd.ad r0+Go.Fd.ad bb-dT*z12:=h1;have h2:Go.Fd.ad ic=(Go.Fd.dG:Int):=h2;have h3:aW=if Go.Fd.ad eO<Go.Fd.ad ic then 1 else 0:=h3
 have e9:=Wa i0;have dO:=Wa i4;have V3:=Wa i8
 rw[h2,agz]at h3;refine⟨λh kv i18 h4 Md i22 z26 cv av h5=>⟨afc i22,?_⟩,λh=>⟨afc i8,?_⟩⟩
 ·have h4:Go.Fd.ad kv=(Go.Fd.dG:Int):=h4;have h5:Go.Fd.ad Md=Go.Fd.ad eO-Go.Fd.ad kv+dT*z26:=h5;show Go.Fd.ad r0<(Go.Fd.dG:Int)->Go.Fd.ad bb<(Go.Fd.dG:Int)->Go.Fd.ad Md=(Go.Fd.ad r0+Go.Fd.ad bb)% (Go.Fd.dG:Int);rw[h4]at h5;rw[agz]at h5⊢;have aYD:=Wa i22;have h:¬aW=1:=by simpa using h
  have h3:¬Go.Fd.ad eO<0x1000000000000000000000000000000014def9dea2f79cd65812631a5cf5d3ed:=λhc=>h (by rw[h3,if_pos hc]);intro g1 g2;have:z12=0:=by(unfold dT at*;omega)
  subst this;have:z26=0∨z26=1:=by omega
  have hW:=aI9 i22;rcases this with rfl|rfl<;>(unfold dT at*;omega)
 ·show Go.Fd.ad r0<(Go.Fd.dG:Int)->Go.Fd.ad bb<(Go.Fd.dG:Int)->Go.Fd.ad eO=(Go.Fd.ad r0+Go.Fd.ad bb)% (Go.Fd.dG:Int);rw[agz];have h:aW=1:=by simpa using h
  have h3:Go.Fd.ad eO<0x1000000000000000000000000000000014def9dea2f79cd65812631a5cf5d3ed:=by
   rcases Int.lt_or_le (Go.Fd.ad eO) 0x1000000000000000000000000000000014def9dea2f79cd65812631a5cf5d3ed with hc|hc
   ·exact hc
   ·rw[if_neg (by omega)]at h3;omega
  intro g1 g2;have:z12=0:=by(unfold dT at*;omega)
  subst this;omega
theorem agb (b:List Int) (k:Nat):b9 (b.drop k)=b.getD k 0+256*b9 (b.drop (k+1)):=by
 rcases CK k b.length with h|h
 ·rw[EN h,ky,lA h];rfl
 ·rw[GW h,GW (by omega),ky,M8 h];rfl
def sX (b:List Int) (j:Nat):Int:=b9 (b.drop (j/8+1))*2^(8-j% 8)+b.getD (j/8) 0/2^(j% 8)
theorem azh:∀t:Nat,t<7->∀H x:Int,H*2^(8-t)+x/2^t=2*(H*2^(8-(t+1))+x/2^(t+1))+x/2^t% 2
 |0,_,H,x=>by show H*256+x/1=2*(H*128+x/2)+x/1% 2;omega
 |1,_,H,x=>by show H*128+x/2=2*(H*64+x/4)+x/2% 2;omega
 |2,_,H,x=>by show H*64+x/4=2*(H*32+x/8)+x/4% 2;omega
 |3,_,H,x=>by show H*32+x/8=2*(H*16+x/16)+x/8% 2;omega
 |4,_,H,x=>by show H*16+x/16=2*(H*8+x/32)+x/16% 2;omega
 |5,_,H,x=>by show H*8+x/32=2*(H*4+x/64)+x/32% 2;omega
 |6,_,H,x=>by show H*4+x/64=2*(H*2+x/128)+x/64% 2;omega
theorem amp (b:List Int) (i:Nat) (h0:0<=b.getD (i/8) 0) (h1:b.getD (i/8) 0<=255):sX b i=2*sX b (i+1)+b.getD (i/8) 0/2^(i% 8)% 2:=by
 unfold sX;rcases CK (i% 8) 7 with h|h
 ·rw[show(i+1)/8=i/8 by omega,show(i+1)% 8=i% 8+1 by omega];exact azh _ h _ _
 ·have h7:i% 8=7:=by omega
  rw[show(i+1)/8=i/8+1 by omega,show(i+1)% 8=0 by omega,h7];have e:=agb b (i/8+1);show b9 (b.drop (i/8+1))*2+b.getD (i/8) 0/128=2*(b9 (b.drop (i/8+1+1))*256+b.getD (i/8+1) 0/1)+b.getD (i/8) 0/128% 2;omega
theorem TC {i:Nat} {z:Int} (h:0<=((i+1:Nat):Int)-1-8*z) (aP:((i+1:Nat):Int)-1-8*z<8):z=((i/8:Nat):Int):=by omega
theorem ann (i:Nat):(((i+1:Nat):Int)-1+-8*((i/8:Nat):Int)).toNat=i% 8:=by omega
theorem anm (i:Nat):((i+1:Nat):Int)-1+-1=(i:Int)-1:=by omega
theorem ano (i:Nat):(((i+1:Nat):Int)-1+-1+1).toNat<(((i+1:Nat):Int)-1+1).toNat:=by omega
theorem ank {x q:Int} (h:0<=x-2*q) (aP:x-2*q<2) (e:x+-2*q=1):x% 2=1:=by omega
theorem anl {x q:Int} (h:0<=x-2*q) (aP:x-2*q<2) (e:¬x+-2*q=1):x% 2=0:=by omega
theorem aMc:ajz SB (ej SB [.d dO] 725):=by
 intro z0 a0 bR hp ar dM z2 dK c1 z3 d0 d1 h3 z4 cv av aH ca z5 f0 f1 f2 f3;have hp:(af z0).length<=1000000000:=hp;have h3:z3=((af z0).length:Int):=h3;have h4:z4=0:=by omega
 subst h4;have h5:z5=0:=by omega
 subst h5;obtain⟨N,cF⟩:∃N,N=(af z0).length:=⟨_,rfl⟩;rw[<-cF]at h3 hp;obtain⟨b,hb⟩:∃b,b=aJ z0:=⟨_,rfl⟩;have gy:b.length=N:=by rw[hb,fT,cF]
 have hz:(8*z3+(-bt*0+-bt*0))+-1=((8*N:Nat):Int)-1:=by omega
 rw[hz];refine⟨⟨by omega,by omega⟩,λs=>∃(j:Nat) (r:List Int),s=[[(j:Int)-1],r]/\j<=8*N/\Go.Fd.ad r=sX b j% (Go.Fd.dG:Int),λs=>((s.getD 0 []).getD 0 0+1).toNat,⟨8*N,[0,0,0,0],rfl,b1 _,?_⟩,?_⟩
 ·have:sX b (8*N)=0:=by
   unfold sX;rw[show 8*N/8=N by omega,show 8*N% 8=0 by omega,GW (by omega),ky,M8 (by omega)];rfl
  rw[this];rfl
 ·intro aK g0 g1 eO i8 ⟨j,r,e,aR,hr⟩;simp only[hD,and_true]at e;obtain⟨rfl,rfl⟩:=e;have hlt:Go.Fd.ad eO<(Go.Fd.dG:Int):=by rw[hr];exact ri _ (by decide)
  replace hlt:=nK.mk hlt;replace hr:=nK.mk hr;refine⟨λh jN i12 gj ba o7 k1 k2 k3=>?_,λh=>?_⟩
  ·have h:=of_decide_eq_true h;obtain⟨i,rfl⟩:∃i,j=i+1:=⟨j-1,by omega⟩;have tR:ba=((i/8:Nat):Int):=TC k2 k3;refine⟨⟨by omega,by omega⟩,pI (by omega) (by rw[<-hb];omega),λaW lb l1 lp bm m0 gk eJ ur bp e9 bh w6 z20 rW o1 kG pc=>?_⟩;have zD:aW=b.getD (i/8) 0:=by rw[fU lp,<-hb,tR,hC]
   have zE:bm=((i/8:Nat):Int):=TC eJ ur;have ya:bp=b.getD (i/8) 0/2^(i% 8):=by
    rw[w6,zD,zE,ann i]
   have st:=amp b i (by rw[<-zD];exact lb) (by rw[<-zD];exact l1);rw[<-ya]at st;have gj:Go.Fd.ad eO<(Go.Fd.dG:Int)->Go.Fd.ad eO<(Go.Fd.dG:Int)->Go.Fd.ad jN=(Go.Fd.ad eO+Go.Fd.ad eO)% (Go.Fd.dG:Int):=gj;have gj:=gj hlt.h hlt.h;rw[hr.h,<-MR]at gj;have hm:∀r,Go.Fd.ad r=sX b i% (Go.Fd.dG:Int)->(∃(j:Nat) (r':List Int),[[((i+1:Nat):Int)-1+-1],r]=[[(j:Int)-1],r']/\j<=8*N/\Go.Fd.ad r'=sX b j% (Go.Fd.dG:Int))/\((([[((i+1:Nat):Int)-1+-1],r]:List (List Int)).getD 0 []).getD 0 0+1).toNat<((([[((i+1:Nat):Int)-1],eO]:List (List Int)).getD 0 []).getD 0 0+1).toNat:=λr hr=>⟨⟨i,r,by rw[anm i],by clear st gj hr;omega,hr⟩,ano i⟩;refine⟨λhc uA i21 kS=>hm uA ?_,λhc=>hm jN ?_⟩
   ·have kS:Go.Fd.ad jN<(Go.Fd.dG:Int)->Go.Fd.ad [1,0,0,0]<(Go.Fd.dG:Int)->Go.Fd.ad uA=(Go.Fd.ad jN+Go.Fd.ad [1,0,0,0])% (Go.Fd.dG:Int):=kS;have kS:=kS (by rw[gj];exact ri _ (by decide)) (by decide);rw[show Go.Fd.ad [1,0,0,0]=1 by decide,gj,Int.emod_add_emod]at kS;rw[kS,st,ank kG pc (of_decide_eq_true hc),Int.two_mul]
   ·rw[gj,st,anl kG pc (of_decide_eq_false hc),Int.two_mul,wI]
  ·have h:=of_decide_eq_false h;have:j=0:=by omega
   subst this;refine⟨afc i8,?_⟩;show Go.Fd.ad eO=b9 (aJ z0)% (Go.Fd.dG:Int);rw[hr.h,<-hb]
   congr 1
   have e:=agb b 0;rw[jA]at e;unfold sX;show b9 (b.drop 1)*256+b.getD 0 0/1=_;rw[e,Int.ediv_one,kL,Int.add_comm]
theorem aMg:ajC SB (ej SB [.d cN] 726):=by
 intro r0 i0;have lb:r0.length=64:=dj i0;refine Kv 64 0 0 (by omega) λz hz=>?_;rw[qF,eQ,jA,mu (by omega)]at hz;refine⟨by show(af z).length<=1000000000;rw[<-fT,hz];omega,λiF i128 h1 kV i132 h2=>⟨Ad i132,?_⟩⟩;have h1:Go.Fd.ad iF=b9 (aJ z)% (Go.Fd.dG:Int):=h1;have h2:b9 kV=Go.Fd.ad iF:=h2;show b9 kV=b9 r0% (Go.Fd.dG:Int);rw[h2,h1,hz]
theorem aNg:aj1 SB (ej SB [.d cN] 697):=by
 intro z0 _ _ ar _ _ z2 _ _ hp z3 _ z4 _ _ z5 q1 _ h5 aZ _ aK _ _ aF yu _ ch z9 _ aY _ _ aN xm _ jK;have hp:∀z∈([z0,ar,z2]:List Int),(af z).length<=100000000:=hp;have p0:=hp z0 (by simp);have bw:=hp ar (by simp);have bz:=hp z2 (by simp)
 have h5:z5=((af z0).length:Int):=h5;have ch:aF=((af ar).length:Int):=ch;have jK:aN=((af z2).length:Int):=jK;have dM:=fT z0;have b4:=fT ar;have cg:=fT z2
 have fin:∀c,aJ c=aJ z0++(aJ ar++aJ z2)->RT SB (ej SB [.d cN] 697) [[z0],[ar],[z2]] c:=λc hc=>by
  have lc:(aJ c).length<=1000000000:=by rw[hc];simp only[fq];omega
  refine⟨by show(af c).length<=1000000000;rw[<-fT];exact lc,λr i s q j t=>⟨Ad j,?_⟩⟩;have s:[r]=[jy bP (aJ c)]:=s;have s:r=jy bP (aJ c):=by simpa using s
  have t:b9 q=b9 r% (Go.Fd.dG:Int):=t;show b9 q=qk (aJ z0++(aJ ar++aJ z2));rw[t,s,hc];rfl
 have em:∀{z l:Int},l=((af z).length:Int)->l<=0->aJ z=[]:=λ{z l} h aP=>uV (by rw[fT];omega);have Lo:∀{z l:Int},l=((af z).length:Int)->0<=l->aj 22 [z,0,l]:=λh aP=>⟨cn _,aP,by rw[h];exact cn _⟩;have Lp:∀{c l:Int} {n:Nat},(aJ c).length<=n->n<=300000000->l<=100000000->aj 23 [c,l]:=λ{c l n} h h1 aP=>by show((af c).length:Int)+l<=1073741824;rw[<-fT];omega
 have aeJ:∀{z l:Int},l=((aJ z).length:Int)->aj 22 [z,0,l]:=λ{z l} h=>⟨cn _,by rw[h];exact Int.natCast_nonneg _,by rw[h,fT];exact cn _⟩;have all:∀{z c l:Int},z=cu 22 [c,0,l]->l=((aJ c).length:Int)->aJ z=aJ c:=λh hl=>jU (fP h (by rw[hl,fT]));refine⟨Lo h5 q1,Lp (n:=0) (by rw[qF];decide) (by decide) (by omega),λz12 _ _ gj a1 _ _ ix=>?_⟩;have ix:aJ a1=aJ z0:=by rw[gA ix,qF,eQ,jU (fP gj h5)]
 refine⟨λcv=>?_,λ_ aG _ _=>?_⟩
 ·have cv:=em h5 (of_decide_eq_true cv);refine⟨Lo ch yu,Lp (n:=0) (by rw[qF];decide) (by decide) (by omega),λaG _ _ jm aS _ _ vr=>?_⟩;have vr:aJ aS=aJ ar:=by rw[gA vr,qF,eQ,jU (fP jm ch)]
  refine⟨λav=>?_,λ_ ba _ _=>?_⟩
  ·have av:=em ch (of_decide_eq_true av);refine⟨Lo jK xm,Lp (n:=0) (by rw[qF];decide) (by decide) (by omega),λba _ _ ln aW _ _ lp=>?_⟩;have lp:aJ aW=aJ z2:=by rw[gA lp,qF,eQ,jU (fP ln jK)]
   refine⟨λaH=>fin 0 (by rw[qF,cv,av,em jK (of_decide_eq_true aH)];rfl),λ_ bm _ _=>⟨aeJ (by rw[lp,fT];exact jK),λbp _ _ w6=>fin _ ?_⟩⟩;rw[all w6 (by rw[lp,fT];exact jK),lp,cv,av];rfl
  ·refine⟨ns (by rw[vr,fT];exact ch),Lo jK xm,Lp (n:=100000000) (by rw[vr];omega) (by decide) (by omega),λaW _ _ lp bm _ _ yb bp _ _=>?_⟩;have yb:aJ bm=aJ ar++aJ z2:=by rw[gA yb,vr,jU (fP lp jK)]
   have hl:aF+aN=((aJ bm).length:Int):=by rw[yb,fq];omega
   exact⟨aeJ hl,λz20 _ _ HS=>fin _ (by rw[all HS hl,yb,cv];rfl)⟩
 ·refine⟨ns (by rw[ix,fT];exact h5),Lo ch yu,Lp (n:=100000000) (by rw[ix];omega) (by decide) (by omega),λaS _ _ vr ba _ _ ln aW _ _=>?_⟩;have ln:aJ ba=aJ z0++aJ ar:=by rw[gA ln,ix,jU (fP vr ch)]
  have hl:z5+aF=((aJ ba).length:Int):=by rw[ln,fq];omega
  refine⟨ns hl,Lo jK xm,Lp (n:=200000000) (by rw[ln,fq];omega) (by decide) (by omega),λbm _ _ yb bp _ _ w6 z20 _ _=>?_⟩;have w6:aJ bp=aJ z0++(aJ ar++aJ z2):=by rw[gA w6,ln,jU (fP yb jK),fS]
  have hl:z5+(aF+aN)=((aJ bp).length:Int):=by rw[w6,fq,fq];omega
  exact⟨aeJ hl,λz21 _ _ kS=>fin _ (by rw[all kS hl,w6])⟩
end Go.dg
namespace Go.dg
open Go Go.bX
def ajR (S:zzS) (K:zzK):Prop:=aI λz0=>aq 0 4294967295 z0 4294967296 λar=>K [[z0]] [[(z0+((-4294967296)*ar))]]
def akm (S:zzS) (K:zzK):Prop:=aI λz0=>dy 2 2 λar=>(aj 82 [z0,ar]->aq 0 0x3fffffffffffffff z0 4 λz2=>aq 0 1073741823 (1073741824*z0) 0x10000000000000000 λz3=>bY λ z4=>z4<=cL .u64->z4=br .or .u64 z2 ((1073741824*z0)+((-0x10000000000000000)*z3))->aI λz5=>S 483 [[z4]] [[z5]]->K [[z0],[ar]] [[z5]])
def akp (S:zzS) (K:zzK):Prop:=aI λz0=>dy 3 3 λar=>(aj 82 [z0,ar]->aq 0 0x1fffffffffffffff z0 8 λz2=>aq 0 536870911 (536870912*z0) 0x10000000000000000 λz3=>bY λ z4=>z4<=cL .u64->z4=br .or .u64 z2 ((536870912*z0)+((-0x10000000000000000)*z3))->aI λz5=>S 483 [[z4]] [[z5]]->K [[z0],[ar]] [[z5]])
def akq (S:zzS) (K:zzK):Prop:=aI λz0=>dy 6 6 λar=>(aj 82 [z0,ar]->aq 0 0x3ffffffffffffff z0 64 λz2=>aq 0 67108863 (67108864*z0) 0x10000000000000000 λz3=>bY λz4=>z4<=cL .u64->z4=br .or .u64 z2 ((67108864*z0)+((-0x10000000000000000)*z3))->aI λz5=>S 483 [[z4]] [[z5]]->K [[z0],[ar]] [[z5]])
def akr (S:zzS) (K:zzK):Prop:=aI λz0=>dy 7 7 λar=>(aj 82 [z0,ar]->aq 0 0x1ffffffffffffff z0 128 λz2=>aq 0 33554431 (33554432*z0) 0x10000000000000000 λz3=>bY λz4=>z4<=cL .u64->z4=br .or .u64 z2 ((33554432*z0)+((-0x10000000000000000)*z3))->aI λz5=>S 483 [[z4]] [[z5]]->K [[z0],[ar]] [[z5]])
def akg (S:zzS) (K:zzK):Prop:=aI λz0=>dy 10 10 λar=>(aj 82 [z0,ar]->aq 0 0x3fffffffffffff z0 1024 λz2=>aq 0 4194303 (4194304*z0) 0x10000000000000000 λz3=>bY λz4=>z4<=cL .u64->z4=br .or .u64 z2 ((4194304*z0)+((-0x10000000000000000)*z3))->aI λz5=>S 483 [[z4]] [[z5]]->K [[z0],[ar]] [[z5]])
def akh (S:zzS) (K:zzK):Prop:=aI λz0=>dy 11 11 λar=>(aj 82 [z0,ar]->aq 0 9007199254740991 z0 2048 λz2=>aq 0 2097151 (2097152*z0) 0x10000000000000000 λz3=>bY λz4=>z4<=cL .u64->z4=br .or .u64 z2 ((2097152*z0)+((-0x10000000000000000)*z3))->aI λz5=>S 483 [[z4]] [[z5]]->K [[z0],[ar]] [[z5]])
def aki (S:zzS) (K:zzK):Prop:=aI λz0=>dy 13 13 λar=>(aj 82 [z0,ar]->aq 0 0x7ffffffffffff z0 8192 λz2=>aq 0 524287 (524288*z0) 0x10000000000000000 λz3=>bY λz4=>z4<=cL .u64->z4=br .or .u64 z2 ((524288*z0)+((-0x10000000000000000)*z3))->aI λz5=>S 483 [[z4]] [[z5]]->K [[z0],[ar]] [[z5]])
def akj (S:zzS) (K:zzK):Prop:=aI λz0=>dy 17 17 λar=>(aj 82 [z0,ar]->aq 0 0x7fffffffffff z0 131072 λz2=>aq 0 32767 (32768*z0) 0x10000000000000000 λz3=>bY λz4=>z4<=cL .u64->z4=br .or .u64 z2 ((32768*z0)+((-0x10000000000000000)*z3))->aI λz5=>S 483 [[z4]] [[z5]]->K [[z0],[ar]] [[z5]])
def akk (S:zzS) (K:zzK):Prop:=aI λz0=>dy 18 18 λar=>(aj 82 [z0,ar]->aq 0 70368744177663 z0 262144 λz2=>aq 0 16383 (16384*z0) 0x10000000000000000 λz3=>bY λz4=>z4<=cL .u64->z4=br .or .u64 z2 ((16384*z0)+((-0x10000000000000000)*z3))->aI λz5=>S 483 [[z4]] [[z5]]->K [[z0],[ar]] [[z5]])
def akl (S:zzS) (K:zzK):Prop:=aI λz0=>dy 19 19 λar=>(aj 82 [z0,ar]->aq 0 35184372088831 z0 524288 λz2=>aq 0 8191 (8192*z0) 0x10000000000000000 λz3=>bY λz4=>z4<=cL .u64->z4=br .or .u64 z2 ((8192*z0)+((-0x10000000000000000)*z3))->aI λz5=>S 483 [[z4]] [[z5]]->K [[z0],[ar]] [[z5]])
def akn (S:zzS) (K:zzK):Prop:=aI λz0=>dy 22 22 λar=>(aj 82 [z0,ar]->aq 0 4398046511103 z0 4194304 λz2=>aq 0 1023 (1024*z0) 0x10000000000000000 λz3=>bY λz4=>z4<=cL .u64->z4=br .or .u64 z2 ((1024*z0)+((-0x10000000000000000)*z3))->aI λz5=>S 483 [[z4]] [[z5]]->K [[z0],[ar]] [[z5]])
def ako (S:zzS) (K:zzK):Prop:=aI λz0=>dy 25 25 λar=>(aj 82 [z0,ar]->aq 0 549755813887 z0 33554432 λz2=>aq 0 127 (128*z0) 0x10000000000000000 λz3=>bY λz4=>z4<=cL .u64->z4=br .or .u64 z2 ((128*z0)+((-0x10000000000000000)*z3))->aI λz5=>S 483 [[z4]] [[z5]]->K [[z0],[ar]] [[z5]])
def ajX (S:zzS) (K:zzK):Prop:=aI λz0=>∀r1:List Int,ay [(2,2),(13,13),(22,22)] r1->dI λz4=>(aj 82 [z0,(U r1 0 0),(U r1 1 0),(U r1 2 0),z4]->aj 82 [z0,(U r1 2 0)]/\aI λz5=>S 822 [[z0],[(U r1 2 0)]] [[z5]]->(eb (decide (z4=1)) (aq 0 4398046511103 z0 4194304 λaZ=>aj 82 [z0,(U r1 0 0)]/\aI λaK=>S 802 [[z0],[(U r1 0 0)]] [[aK]]->aj 82 [z0,(U r1 1 0)]/\aI λaF=>S 813 [[z0],[(U r1 1 0)]] [[aF]]->bY λz9=>z9<=cL .u64->z9=br .xor .u64 aK aF->bY λaY=>aY<=cL .u64->aY=br .xor .u64 z9 aZ->K [[z0],r1,[z4]] [[aY]]) (aj 82 [z0,(U r1 0 0)]/\aI λaZ=>S 802 [[z0],[(U r1 0 0)]] [[aZ]]->aj 82 [z0,(U r1 1 0)]/\aI λaK=>S 813 [[z0],[(U r1 1 0)]] [[aK]]->bY λaF=>aF<=cL .u64->aF=br .xor .u64 aZ aK->bY λz9=>z9<=cL .u64->z9=br .xor .u64 aF z5->K [[z0],r1,[z4]] [[z9]])))
def ajY (S:zzS) (K:zzK):Prop:=aI λz0=>∀r1:List Int,ay [(6,6),(11,11),(25,25)] r1->dI λz4=>(aj 82 [z0,(U r1 0 0),(U r1 1 0),(U r1 2 0),z4]->aj 82 [z0,(U r1 2 0)]/\aI λz5=>S 825 [[z0],[(U r1 2 0)]] [[z5]]->(eb (decide (z4=1)) (aq 0 549755813887 z0 33554432 λaZ=>aj 82 [z0,(U r1 0 0)]/\aI λaK=>S 806 [[z0],[(U r1 0 0)]] [[aK]]->aj 82 [z0,(U r1 1 0)]/\aI λaF=>S 811 [[z0],[(U r1 1 0)]] [[aF]]->bY λz9=>z9<=cL .u64->z9=br .xor .u64 aK aF->bY λaY=>aY<=cL .u64->aY=br .xor .u64 z9 aZ->K [[z0],r1,[z4]] [[aY]]) (aj 82 [z0,(U r1 0 0)]/\aI λaZ=>S 806 [[z0],[(U r1 0 0)]] [[aZ]]->aj 82 [z0,(U r1 1 0)]/\aI λaK=>S 811 [[z0],[(U r1 1 0)]] [[aK]]->bY λaF=>aF<=cL .u64->aF=br .xor .u64 aZ aK->bY λz9=>z9<=cL .u64->z9=br .xor .u64 aF z5->K [[z0],r1,[z4]] [[z9]])))
def ajZ (S:zzS) (K:zzK):Prop:=aI λz0=>∀r1:List Int,ay [(7,7),(18,18),(3,3)] r1->dI λz4=>(aj 82 [z0,(U r1 0 0),(U r1 1 0),(U r1 2 0),z4]->aj 82 [z0,(U r1 2 0)]/\aI λz5=>S 803 [[z0],[(U r1 2 0)]] [[z5]]->(eb (decide (z4=1)) (aq 0 0x1fffffffffffffff z0 8 λaZ=>aj 82 [z0,(U r1 0 0)]/\aI λaK=>S 807 [[z0],[(U r1 0 0)]] [[aK]]->aj 82 [z0,(U r1 1 0)]/\aI λaF=>S 818 [[z0],[(U r1 1 0)]] [[aF]]->bY λz9=>z9<=cL .u64->z9=br .xor .u64 aK aF->bY λaY=>aY<=cL .u64->aY=br .xor .u64 z9 aZ->K [[z0],r1,[z4]] [[aY]]) (aj 82 [z0,(U r1 0 0)]/\aI λaZ=>S 807 [[z0],[(U r1 0 0)]] [[aZ]]->aj 82 [z0,(U r1 1 0)]/\aI λaK=>S 818 [[z0],[(U r1 1 0)]] [[aK]]->bY λaF=>aF<=cL .u64->aF=br .xor .u64 aZ aK->bY λz9=>z9<=cL .u64->z9=br .xor .u64 aF z5->K [[z0],r1,[z4]] [[z9]])))
def aj0 (S:zzS) (K:zzK):Prop:=aI λz0=>∀r1:List Int,ay [(17,17),(19,19),(10,10)] r1->dI λz4=>(aj 82 [z0,(U r1 0 0),(U r1 1 0),(U r1 2 0),z4]->aj 82 [z0,(U r1 2 0)]/\aI λz5=>S 810 [[z0],[(U r1 2 0)]] [[z5]]->(eb (decide (z4=1)) (aq 0 0x3fffffffffffff z0 1024 λaZ=>aj 82 [z0,(U r1 0 0)]/\aI λaK=>S 817 [[z0],[(U r1 0 0)]] [[aK]]->aj 82 [z0,(U r1 1 0)]/\aI λaF=>S 819 [[z0],[(U r1 1 0)]] [[aF]]->bY λz9=>z9<=cL .u64->z9=br .xor .u64 aK aF->bY λaY=>aY<=cL .u64->aY=br .xor .u64 z9 aZ->K [[z0],r1,[z4]] [[aY]]) (aj 82 [z0,(U r1 0 0)]/\aI λaZ=>S 817 [[z0],[(U r1 0 0)]] [[aZ]]->aj 82 [z0,(U r1 1 0)]/\aI λaK=>S 819 [[z0],[(U r1 1 0)]] [[aK]]->bY λaF=>aF<=cL .u64->aF=br .xor .u64 aZ aK->bY λz9=>z9<=cL .u64->z9=br .xor .u64 aF z5->K [[z0],r1,[z4]] [[z9]])))
def ajP (S:zzS) (K:zzK):Prop:=dV λz0=>(aj 71 [z0]->bY λar=>cz λz2=>ee 20 [z0] λz3=>aj 22 [z0,0,z3]/\ck 22 [z0,0,z3] λz4=>aj 71 [z4]/\dV λz5=>S 488 [[z4]] [[z5]]->cz λaZ=>ee 20 [z5] λaK=>Tu z5 aK 32 0 [] λtA=>K [[z0]] [tA])
theorem aMV:ajR SB (fA SB [cx] 483):=by
 intro z0 a0 bR ar dM b4 cg dh;refine⟨⟨by omega,by omega,trivial⟩,?_⟩;show [[z0+-4294967296*ar]]=[[z0% 4294967296]];rw[show z0+-4294967296*ar=z0% 4294967296 by omega]
theorem aLH (n:Nat) (h0:0<n) (hn:n<32) {x a b:Int} (hx:0<=x) (lI:x<=4294967295) (ha:a=x/2^n) (hb:b=x*2^(32-n)):(br .or .u64 a b)% 4294967296=fc 32 n x:=by
 obtain⟨X,rfl⟩:=mr hx;have cb:X<2^32:=by omega
 have Fh:a=((X/2^n:Nat):Int):=by rw[ha];simp
 have w2:b=((X*2^(32-n):Nat):Int):=by rw[hb];simp
 have bw:X/2^n<2^(32-n):=by
  rw[awb (CG n),<-xS,show 32-n+n=32 by omega];exact cb
 have bz:(2:Nat)^(32-n)<=2^31:=Nat.pow_le_pow_right (by decide) (by omega);have cY:X*2^(32-n)<2^63:=by
  calc X*2^(32-n)<=X*2^31:=Nat.mul_le_mul_left _ bz
   _<2^63:=by omega
 obtain⟨A,aV⟩:∃A,A=X/2^n:=⟨_,rfl⟩;obtain⟨B,da⟩:∃B,B=X*2^(32-n):=⟨_,rfl⟩;rw[<-aV]at Fh bw;rw[<-da]at w2 cY;rw[Fh,w2,abf (by omega) (by omega) (by rw[LL];omega) (by rw[LL];omega)];simp only[hC];have av:(X/2^n|||X*2^(32-n))% 2^32=X/2^n+X% 2^n*2^(32-n):=by
  rw[Nat.or_mod_two_pow];have aQ:X/2^n% 2^32=X/2^n:=Nat.mod_eq_of_lt (by omega);have bn:X*2^(32-n)% 2^32=X% 2^n*2^(32-n):=by
   rw[show(2:Nat)^32=2^n*2^(32-n) by rw[<-xS];congr 1;omega,Nat.mul_mod_mul_right]
  rw[<-aV]at aQ⊢;rw[aQ,bn,Nat.or_comm,Nat.mul_comm (X% 2^n),Nat.add_comm,Nat.two_pow_add_eq_or_of_lt bw]
 rw[<-aV,<-da]at av;have aH:(((A|||B:Nat):Int)% 4294967296)=(((A|||B)% 2^32:Nat):Int):=by omega
 rw[aH,av,aV];unfold fc;simp
theorem ahe (n:Nat) (hn:n<=32) {x:Int} (hx:0<=x) (lI:x<=4294967295):0<=fc 32 n x/\fc 32 n x<=4294967295:=by
 obtain⟨X,rfl⟩:=mr hx;have cb:X<2^32:=by omega
 have bw:X/2^n<2^(32-n):=by
  rw[awb (CG n),<-xS,show 32-n+n=32 by omega];exact cb
 have bz:X% 2^n<2^n:=Nat.mod_lt _ (CG n);have e:fc 32 n (X:Int)=((X/2^n+X% 2^n*2^(32-n):Nat):Int):=by unfold fc;simp
 have cY:(X% 2^n+1)*2^(32-n)<=2^n*2^(32-n):=Nat.mul_le_mul_right _ bz;rw[<-xS,show n+(32-n)=32 by omega,Nat.add_mul]at cY;have fa:X/2^n+X% 2^n*2^(32-n)<2^32:=by omega
 obtain⟨Y,hY⟩:∃Y,Y=X/2^n+X% 2^n*2^(32-n):=⟨_,rfl⟩;rw[<-hY]at e fa;rw[e];omega
theorem aVO {y:Int} (h0:0<=y) (h1:y<=4294967295):br .xor .u32 0 y=y:=by
 rw[<-(MC (x:=0) (y:=y) (by decide) (by decide) h0 (by omega)).1];exact avV h0 (by omega)
theorem yL (n:Nat) (h0:0<n) (hn:n<32) {K N z0 z2 z3 z4 z5:Int} (qc:(2:Int)^n=K) (cF:(2:Int)^(32-n)=N) (aC2:0<K) (aC5:N<=2147483648) (bw:0<=z0-K*z2) (bz:z0-K*z2<K) (aQ:0<=N*z0-bt*z3) (bn:N*z0-bt*z3<bt) (h4:z4=br .or .u64 z2 (N*z0+-bt*z3)) (h5:[[z5]]=[[z4% 4294967296]]):(0<=z0->z0<=4294967295->z5=fc 32 n z0)/\z5=nD n z0:=by
 have aH:=aci aC2 bw bz;have ca:N*z0+-bt*z3=z0*N% bt:=by
  rw[kL z0 N];generalize N*z0=t at aQ bn⊢
  (unfold bt at*;omega)
 have h5:z5=z4% 4294967296:=by simpa using h5
 rw[ca,aH]at h4;refine⟨λhx lI=>?_,?_⟩
 ·rw[h5,h4];refine aLH n h0 hn hx lI (by rw[qc]) ?_;rw[cF];have h1:z0*N<=4294967295*2147483648:=y3 (Int.mul_le_mul_of_nonneg_left aC5 hx) (Int.mul_le_mul_of_nonneg_right lI (by decide));have h2:0<=z0*N:=Int.mul_nonneg hx (by rw[<-cF];exact qv (Int.pow_pos (by decide)));generalize z0*N=t at h1 h2⊢
  (unfold bt at*;omega)
 ·show z5=br .or .u64 (z0/2^n) (z0*2^(32-n)% bt)% 4294967296;rw[h5,h4,qc,cF]
theorem F1 (a b c:Nat) (ha:a<=32) (hb:b<=32) (hc:c<=32) {z0 s x y u v r:Int} (h7:(0<=z0->z0<=4294967295->x=fc 32 a z0)/\x=nD a z0) (ch:(0<=z0->z0<=4294967295->y=fc 32 b z0)/\y=nD b z0) (hu:(0<=z0->z0<=4294967295->u=if s=1 then z0/2^c else fc 32 c z0)/\u=if s=1 then z0/2^c else nD c z0) (cC:v=br .xor .u64 x y) (dB:r=br .xor .u64 v u):(0<=z0->z0<=4294967295->r=Qz a b c s z0)/\r=DX a b c s z0:=by
 refine⟨λhx lI=>?_,?_⟩
 ·have ami:=ahe a ha hx lI;have E9:=ahe b hb hx lI;have bc:=ahe c hc hx lI;have h7:=h7.1 hx lI;have ch:=ch.1 hx lI;have hu:=hu.1 hx lI;have aFT:0<=u/\u<=4294967295:=by
   rw[hu];split
   ·exact⟨Int.ediv_nonneg hx (qv (Int.pow_pos (by decide))),y3 (Int.ediv_le_self _ hx) lI⟩
   ·exact bc
  have ak:=MC (x:=x) (y:=y) (by rw[h7];omega) (by rw[h7];omega) (by rw[ch];omega) (by rw[ch];omega);have ai:=MC (x:=br .xor .u32 x y) (y:=u) ak.2.1 ak.2.2 aFT.1 (by omega);show r=br .xor .u32 (br .xor .u32 (br .xor .u32 0 (fc 32 a z0)) (fc 32 b z0)) (if s=1 then z0/2^c else fc 32 c z0);rw[dB,cC,ak.1,ai.1,<-ch,<-hu,aVO ami.1 ami.2,<-h7]
 ·show r=br .xor .u64 (br .xor .u64 (nD a z0) (nD b z0)) (if s=1 then z0/2^c else nD c z0);rw[dB,cC,<-hu.2,<-h7.2,<-ch.2]
theorem W9 (c:Nat) {s z0 aZ K:Int} (h:decide (s=1)=true) (qc:(2:Int)^c=K) (h0:0<K) (bw:0<=z0-K*aZ) (bz:z0-K*aZ<K):(0<=z0->z0<=4294967295->aZ=if s=1 then z0/2^c else fc 32 c z0)/\aZ=if s=1 then z0/2^c else nD c z0:=by
 have e:=aci h0 bw bz;rw[if_pos (of_decide_eq_true h),if_pos (of_decide_eq_true h),qc];exact⟨λ_ _=>e,e⟩
theorem WU {c:Nat} {s z0 aZ:Int} (h:decide (s=1)=false) (h6:(0<=z0->z0<=4294967295->aZ=fc 32 c z0)/\aZ=nD c z0):(0<=z0->z0<=4294967295->aZ=if s=1 then z0/2^c else fc 32 c z0)/\aZ=if s=1 then z0/2^c else nD c z0:=by
 rw[if_neg (of_decide_eq_false h),if_neg (of_decide_eq_false h)];exact h6
theorem aNJ:akm SB (fA SB [cx] 802):=
 λ_ _ _ _ _ _ _ _ _ _ bw bz _ _ _ aQ bn _ _ _ h4 _ f0 f1 h5=>⟨⟨f0,f1,trivial⟩,yL 2 (by decide) (by decide) (by decide) (by decide) (by decide) (by decide) bw bz aQ bn h4 h5⟩
theorem aNM:akp SB (fA SB [cx] 803):=
 λ_ _ _ _ _ _ _ _ _ _ bw bz _ _ _ aQ bn _ _ _ h4 _ f0 f1 h5=>⟨⟨f0,f1,trivial⟩,yL 3 (by decide) (by decide) (by decide) (by decide) (by decide) (by decide) bw bz aQ bn h4 h5⟩
theorem aNN:akq SB (fA SB [cx] 806):=
 λ_ _ _ _ _ _ _ _ _ _ bw bz _ _ _ aQ bn _ _ _ h4 _ f0 f1 h5=>⟨⟨f0,f1,trivial⟩,yL 6 (by decide) (by decide) (by decide) (by decide) (by decide) (by decide) bw bz aQ bn h4 h5⟩
theorem aNO:akr SB (fA SB [cx] 807):=
 λ_ _ _ _ _ _ _ _ _ _ bw bz _ _ _ aQ bn _ _ _ h4 _ f0 f1 h5=>⟨⟨f0,f1,trivial⟩,yL 7 (by decide) (by decide) (by decide) (by decide) (by decide) (by decide) bw bz aQ bn h4 h5⟩
theorem aND:akg SB (fA SB [cx] 810):=
 λ_ _ _ _ _ _ _ _ _ _ bw bz _ _ _ aQ bn _ _ _ h4 _ f0 f1 h5=>⟨⟨f0,f1,trivial⟩,yL 10 (by decide) (by decide) (by decide) (by decide) (by decide) (by decide) bw bz aQ bn h4 h5⟩
theorem aNE:akh SB (fA SB [cx] 811):=
 λ_ _ _ _ _ _ _ _ _ _ bw bz _ _ _ aQ bn _ _ _ h4 _ f0 f1 h5=>⟨⟨f0,f1,trivial⟩,yL 11 (by decide) (by decide) (by decide) (by decide) (by decide) (by decide) bw bz aQ bn h4 h5⟩
theorem aNF:aki SB (fA SB [cx] 813):=
 λ_ _ _ _ _ _ _ _ _ _ bw bz _ _ _ aQ bn _ _ _ h4 _ f0 f1 h5=>⟨⟨f0,f1,trivial⟩,yL 13 (by decide) (by decide) (by decide) (by decide) (by decide) (by decide) bw bz aQ bn h4 h5⟩
theorem aNG:akj SB (fA SB [cx] 817):=
 λ_ _ _ _ _ _ _ _ _ _ bw bz _ _ _ aQ bn _ _ _ h4 _ f0 f1 h5=>⟨⟨f0,f1,trivial⟩,yL 17 (by decide) (by decide) (by decide) (by decide) (by decide) (by decide) bw bz aQ bn h4 h5⟩
theorem aNH:akk SB (fA SB [cx] 818):=
 λ_ _ _ _ _ _ _ _ _ _ bw bz _ _ _ aQ bn _ _ _ h4 _ f0 f1 h5=>⟨⟨f0,f1,trivial⟩,yL 18 (by decide) (by decide) (by decide) (by decide) (by decide) (by decide) bw bz aQ bn h4 h5⟩
theorem aNI:akl SB (fA SB [cx] 819):=
 λ_ _ _ _ _ _ _ _ _ _ bw bz _ _ _ aQ bn _ _ _ h4 _ f0 f1 h5=>⟨⟨f0,f1,trivial⟩,yL 19 (by decide) (by decide) (by decide) (by decide) (by decide) (by decide) bw bz aQ bn h4 h5⟩
theorem aNK:akn SB (fA SB [cx] 822):=
 λ_ _ _ _ _ _ _ _ _ _ bw bz _ _ _ aQ bn _ _ _ h4 _ f0 f1 h5=>⟨⟨f0,f1,trivial⟩,yL 22 (by decide) (by decide) (by decide) (by decide) (by decide) (by decide) bw bz aQ bn h4 h5⟩
theorem aNL:ako SB (fA SB [cx] 825):=
 λ_ _ _ _ _ _ _ _ _ _ bw bz _ _ _ aQ bn _ _ _ h4 _ f0 f1 h5=>⟨⟨f0,f1,trivial⟩,yL 25 (by decide) (by decide) (by decide) (by decide) (by decide) (by decide) bw bz aQ bn h4 h5⟩
theorem aNc:ajX SB (fA SB [cx] 484):=
 λ_ _ _ _ _ _ _ _ _=>⟨trivial,λ_ _ _ h5=>⟨λh _ _ _ d2 d3=>⟨trivial,λ_ _ _ h7=>⟨trivial,λ_ _ _ ch _ _ _ cC _ fC dN dB=>⟨⟨fC,dN,trivial⟩,F1 2 13 22 (by decide) (by decide) (by decide) h7 ch (W9 22 h (by decide) (by decide) d2 d3) cC dB⟩⟩⟩,λh=>⟨trivial,λ_ _ _ h7=>⟨trivial,λ_ _ _ ch _ _ _ cC _ fC dN dB=>⟨⟨fC,dN,trivial⟩,F1 2 13 22 (by decide) (by decide) (by decide) h7 ch (WU h h5) cC dB⟩⟩⟩⟩⟩
theorem aNd:ajY SB (fA SB [cx] 485):=
 λ_ _ _ _ _ _ _ _ _=>⟨trivial,λ_ _ _ h5=>⟨λh _ _ _ d2 d3=>⟨trivial,λ_ _ _ h7=>⟨trivial,λ_ _ _ ch _ _ _ cC _ fC dN dB=>⟨⟨fC,dN,trivial⟩,F1 6 11 25 (by decide) (by decide) (by decide) h7 ch (W9 25 h (by decide) (by decide) d2 d3) cC dB⟩⟩⟩,λh=>⟨trivial,λ_ _ _ h7=>⟨trivial,λ_ _ _ ch _ _ _ cC _ fC dN dB=>⟨⟨fC,dN,trivial⟩,F1 6 11 25 (by decide) (by decide) (by decide) h7 ch (WU h h5) cC dB⟩⟩⟩⟩⟩
theorem aNe:ajZ SB (fA SB [cx] 486):=
 λ_ _ _ _ _ _ _ _ _=>⟨trivial,λ_ _ _ h5=>⟨λh _ _ _ d2 d3=>⟨trivial,λ_ _ _ h7=>⟨trivial,λ_ _ _ ch _ _ _ cC _ fC dN dB=>⟨⟨fC,dN,trivial⟩,F1 7 18 3 (by decide) (by decide) (by decide) h7 ch (W9 3 h (by decide) (by decide) d2 d3) cC dB⟩⟩⟩,λh=>⟨trivial,λ_ _ _ h7=>⟨trivial,λ_ _ _ ch _ _ _ cC _ fC dN dB=>⟨⟨fC,dN,trivial⟩,F1 7 18 3 (by decide) (by decide) (by decide) h7 ch (WU h h5) cC dB⟩⟩⟩⟩⟩
theorem aNf:aj0 SB (fA SB [cx] 487):=
 λ_ _ _ _ _ _ _ _ _=>⟨trivial,λ_ _ _ h5=>⟨λh _ _ _ d2 d3=>⟨trivial,λ_ _ _ h7=>⟨trivial,λ_ _ _ ch _ _ _ cC _ fC dN dB=>⟨⟨fC,dN,trivial⟩,F1 17 19 10 (by decide) (by decide) (by decide) h7 ch (W9 10 h (by decide) (by decide) d2 d3) cC dB⟩⟩⟩,λh=>⟨trivial,λ_ _ _ h7=>⟨trivial,λ_ _ _ ch _ _ _ cC _ fC dN dB=>⟨⟨fC,dN,trivial⟩,F1 17 19 10 (by decide) (by decide) (by decide) h7 ch (WU h h5) cC dB⟩⟩⟩⟩⟩
theorem aMN:ajP SB (ej SB [.d cN] 489):=by
 intro z0 a0 bR hp ar dM z2 dK c1 z3 d0 d1 h3;have hp:(af z0).length<=1000000000:=hp;have h3:z3=((af z0).length:Int):=h3;refine⟨⟨cn _,by omega,by rw[h3];exact cn _⟩,λz4 _ _ h4=>?_⟩;have h4:=fP h4 h3;refine⟨by show(af z4).length<=1000000000;rw[h4];exact hp,λz5 _ _ h5 aZ _ _ aK _ _ h7=>?_⟩;have h5:aJ z5=jy bN (aJ z4):=h5;rw[jU h4]at h5;have h7:aK=((af z5).length:Int):=h7;have q1:(aJ z5).length=32:=by rw[h5];unfold jy;rw[E0];rfl
 refine abH (by rw[h7,fT]) 32 0 [] (by omega) λq h1 h2 h3=>?_;rw[jA,mu (by omega)]at h3;rw[eQ];refine⟨Ad (vv 32 q h1 h2),?_⟩;show [q]=[jy bN (aJ z0)];rw[h3,h5]
end Go.dg
namespace Go.dg
open Go Go.bX
def aj2 (S:zzS) (K:zzK):Prop:=dV λz0=>(aj 71 [z0]->bY λar=>cz λz2=>ee 20 [z0] λz3=>aj 22 [z0,0,z3]/\aj 23 [0,z3]/\ck 22 [z0,0,z3] λz4=>ck 24 [0,z4] λ z5=>(eb (decide (z3<=0)) (aj 23 [0,1]/\ck 23 [0,128] λaZ=>cz λaK=>ah8 S K z0 z3 aZ 1 aK) (cz λaZ=>aj 31 [z5,z3]/\aj 23 [z5,1]/\ck 23 [z5,128] λaK=>cz λaF=>ah8 S K z0 z3 aK (z3+1) aF)))
theorem aR6 {K:List (List Int)->List (List Int)->Prop} {z0 g:Int} {h:List Int} (hg:aJ g=h) (hl:h.length=8) (hb:∀x∈h,0<=x/\x<=4294967295) (qc:∀r,0<=r->r<=cP->aJ r=oH bN h->K [[z0]] [[r]]):auv K z0 g:=by
 have ol:∀n,n<=8->(oH bN (h.take n)).length=4*n:=λn hn=>by rw[Wo,m4,CI (by omega)];show n*4=4*n;omega
 refine⟨λs=>∃(i:Nat) (c l k:Int),s=[[(i:Int)],[c],[l],[k]]/\i<=8/\aJ c=oH bN (h.take i)/\l=((4*i:Nat):Int),λs=>(8-(s.getD 0 []).getD 0 0).toNat,⟨0,0,0,-1,rfl,by decide,by rw[qF];rfl,rfl⟩,?_⟩;intro i i0 i1 c dK c1 l lb l1 k o7 k1 ⟨n,ek,l',bJ,e,hn,hc,FG⟩;simp only[hD,and_true]at e;obtain⟨rfl,rfl,rfl,rfl⟩:=e;have lF:(aJ c).length=4*n:=by rw[hc,ol n hn]
 refine⟨λhi=>?_,λhi=>?_⟩
 ·have hi:=of_decide_eq_true hi;have hx:=hb (h.getD n 0) (by rw[ky,lA (by omega)];exact CL (by omega));refine⟨λs=>∃(q:Nat) (d e f:Int),s=[[24-8*(q:Int)],[d],[e],[f]]/\q<=4/\aJ d=oH bN (h.take n)++(dP q).map (nN bN (h.getD n 0))/\e=((4*n+q:Nat):Int),λs=>((s.getD 0 []).getD 0 0+8).toNat,⟨0,c,l,k,rfl,by decide,by rw[hc];simp,FG⟩,?_⟩;intro s aL s1 d d0 d1 e cv av f f0 f1 ⟨q,tQ,c8,nQ,Oj,an,hd,he⟩;simp only[hD,and_true]at Oj;obtain⟨rfl,rfl,rfl,rfl⟩:=Oj;have adC:(aJ d).length=4*n+q:=by rw[hd,fq,ol n hn];simp
  refine⟨λhs=>?_,λhs=>?_⟩
  ·have hs:=of_decide_eq_true hs;refine⟨⟨by omega,by omega⟩,pI (by omega) (by rw[hg];omega),λx _ _ h3 y gV au hy u sa kY rb yX=>⟨ns (by rw[he,adC]),o8 (by omega),λd2 _ _ ub f2 _ _=>⟨⟨q+1,d2,e+1,f2,?_,by omega,?_,by omega⟩,?_⟩⟩⟩
   ·rw[show 24-8*(q:Int)+-8=24-8*((q+1:Nat):Int) by omega]
   ·rw[eR ub,hd,fS,SC,hQ]
    congr 2
    have h3:x=h.getD n 0:=by rw[fU h3,hg,hC]
    show [y+-256*u]=[h.getD n 0/2^(32-8-8*q)% 256];rw[h3,show(24-8*(q:Int)).toNat=32-8-8*q by omega]at hy;rw[<-hy]
    congr 1;omega
   ·show(24-8*(q:Int)+-8+8).toNat<(24-8*(q:Int)+8).toNat;omega
  ·have hs:=of_decide_eq_false hs;have:q=4:=by omega
   subst this;refine⟨⟨n+1,d,e,f,by simp,by omega,?_,by rw[he];omega⟩,?_⟩
   ·rw[hd,Gw h n (by omega)];unfold oH;rw[aXf]
    congr 1
   ·show(8-((n:Int)+1)).toNat<(8-(n:Int)).toNat;omega
 ·have hi:=of_decide_eq_false hi;have:n=8:=by omega
  subst this;refine⟨⟨cn _,by omega,by rw[<-fT,lF];omega⟩,λr r0 r1 hr=>qc r r0 r1 ?_⟩;rw[jU (fP hr (by rw[<-fT,lF,FG])),hc,mu (by omega)]
def ry (b:List Int) (j k:Nat):Int:=(dP k).foldl (λy q=>y*256+b.getD (j*4+q) 0) 0
theorem amA (b:List Int) (j k:Nat):ry b j (k+1)=ry b j k*256+b.getD (j*4+k) 0:=by
 unfold ry;rw[SC,aXg];rfl
theorem Tf {b:List Int} (j:Nat):∀k,(∀q,q<k->0<=b.getD (j*4+q) 0/\b.getD (j*4+q) 0<=255)->0<=ry b j k/\ry b j k<256^k
 |0,_=>⟨cn _,(by decide:(0:Int)<1)⟩
 |k+1,hb=>by
  have ih:=Tf j k λq an=>hb q (by omega);have h:=hb k (by omega);rw[amA,Se];omega
theorem aR5 {c n a m0:Int} {P:Int->Prop} {B:List Int} {k:Nat} (hm:aJ m0=dw 80 0) (da:aJ c=B) (hn:n=(B.length:Int)) (ha:a=((64*k:Nat):Int)) (ag:64*k+64<=B.length) (hl:B.length<=1000001000) (lE:∀m,aJ m=re bN ((B.drop (64*k)).take 64)++dw 64 0->(∀x∈re bN ((B.drop (64*k)).take 64),0<=x/\x<=4294967295)->P m):aut c n a m0 P:=by
 obtain⟨b,Fw⟩:∃b,b=(B.drop (64*k)).take 64:=⟨_,rfl⟩;obtain⟨W,qL⟩:∃W:Nat->List Int,W=λi=>(dP 80).map λj=>ry b j (min 4 (i-4*j)):=⟨_,rfl⟩;have wl:∀i,(W i).length=80:=λi=>by rw[qL];simp
 refine⟨λs=>∃(i:Nat) (m:Int),s=[[(i:Int)],[m]]/\i<=64/\aJ m=W i/\∀q,q<i->0<=b.getD q 0/\b.getD q 0<=255,λs=>(64-(s.getD 0 []).getD 0 0).toNat,⟨0,m0,rfl,by decide,by rw[hm,qL];rfl,λq an=>absurd an (aXh q)⟩,?_⟩;intro i i0 i1 m m0 gk ⟨p,m',e,hp,hw,fW⟩;simp only[hD,and_true]at e;obtain⟨rfl,rfl⟩:=e;have DY:(aJ m).length=80:=by rw[hw,wl]
 refine⟨λh x dp ak ai aw y gV au ao az=>?_,λh=>?_⟩
 ·have h:=of_decide_eq_true h;have ex:x=((p/4:Nat):Int):=by omega
  have Ol:y=((p/4:Nat):Int):=by omega
  refine⟨⟨by omega,by omega⟩,pI (by omega) (by omega),λw w0 eU Iu u sa kY rb yX t t0 t1 t2 t3=>?_⟩;have BA:t=0:=by omega
  subst BA;have l9:a+((p:Int)+-bt*0)=((64*k+p:Nat):Int):=by omega
  dsimp only
  rw[l9];refine⟨⟨by omega,by omega⟩,pI (by omega) (by rw[da];omega),λz z0 ar hz=>?_⟩;have PC:z=b.getD p 0:=by rw[fU hz,da,hC,Fw,anq _ _ _ _ (by omega)]
  refine⟨⟨by omega,by omega⟩,pI (by omega) (by omega),λ_ eJ _ _ s5=>⟨⟨p+1,eJ,rfl,by omega,?_,λq an=>?_⟩,?_⟩⟩
  ·have aeq:w=ry b (p/4) (p% 4):=by
    rw[fU Iu,hw,qL,Ol,hC,ky,qw,Ym (by omega)];show ry b (p/4) (min 4 (p-4*(p/4)))=_;rw[show min 4 (p-4*(p/4))=p% 4 by omega]
   have hlt:ry b (p/4) (p% 4)<16777216:=by
    have h1:=(Tf (b:=b) (p/4) (p% 4) λq an=>fW _ (by omega)).2;have h2:=(by decide:∀k,k<4->(256:Int)^k<=16777216) (p% 4) (by omega);omega
   have ng:=(Tf (b:=b) (p/4) (p% 4) λq an=>fW _ (by omega)).1;have acs:u=0:=by omega
   rw[mA s5,hw,ex,hC,qL];refine atX (by omega) ?_ λj aR dE=>?_
   ·show ry b (p/4) (min 4 (p+1-4*(p/4)))=_;rw[show min 4 (p+1-4*(p/4))=p% 4+1 by omega,amA,show p/4*4+p% 4=p by omega,acs,aeq,PC];omega
   ·show ry b j (min 4 (p+1-4*j))=ry b j (min 4 (p-4*j));rw[show min 4 (p+1-4*j)=min 4 (p-4*j) by omega]
  ·rcases CK q p with h1|h1
   ·exact fW q h1
   ·rw[show q=p by omega,<-PC];exact⟨z0,ar⟩
  ·show(64-((p:Int)+1)).toNat<(64-(p:Int)).toNat;omega
 ·have h:=of_decide_eq_false h;have:p=64:=by omega
  subst this;refine lE m ?_ ?_
  rotate_left
  ·intro x hx;rw[<-Fw]at hx;obtain⟨j,aR,rfl⟩:=List.mem_map.1 hx;have aR:=List.mem_range.1 aR;have h4:=Tf (b:=b) j 4 λq an=>fW _ (by omega);have ht:(256:Int)^4=4294967296:=by decide
   rw[ht]at h4;have hw:tx bN b j=ry b j 4:=rfl;rw[hw];omega
  have av:(dP 80).map (λj=>ry b j (min 4 (64-4*j)))=(dP 16).map (tx bN b)++dw 64 0:=by
   rw[show(80:Nat)=16+64 from rfl,awB,hQ,lz];have kY:(dP 16).map (λj=>ry b j (min 4 (64-4*j)))=(dP 16).map (tx bN b):=j5 λj aR=>by
    have aR:=List.mem_range.1 aR;show ry b j (min 4 (64-4*j))=ry b j 4;rw[show min 4 (64-4*j)=4 by omega]
   rw[kY];refine congrArg _ (List.eq_replicate_iff.2 ⟨by simp,λx hx=>?_⟩);obtain⟨j,_,rfl⟩:=List.mem_map.1 hx;show ry b (16+j) (min 4 (64-4*(16+j)))=0;rw[show min 4 (64-4*(16+j))=0 by omega];rfl
  rw[hw,qL,<-Fw];exact av
theorem aJa (m:List Int):0<=tj bN m/\tj bN m<=4294967295:=by unfold tj;rw[vG];omega
theorem acu:∀(j:Nat) (m:List Int),(∀x∈m,0<=x/\x<=4294967295)->∀x∈nd bN j m,0<=x/\x<=4294967295
 |0,m,h=>h
 |j+1,m,h=>acu j (m++[tj bN m]) λx hx=>by
  rcases List.mem_append.1 hx with hx|hx
  ·exact h x hx
  ·rw[List.mem_singleton.1 hx];exact aJa m
theorem acM {l:List Int} (h:∀x∈l,0<=x/\x<=4294967295) (i:Nat):0<=l.getD i 0/\l.getD i 0<=4294967295:=by
 rw[ky];cases hi:l[i]? with
 |none=>exact⟨cn _,by decide⟩
 |some x=>exact h x (List.mem_of_getElem? hi)
theorem aR8 {m0:Int} {P:Int->Prop} {ws:List Int} (hm:aJ m0=ws++dw 64 0) (hl:ws.length=16) (BO:∀x∈ws,0<=x/\x<=4294967295) (lE:∀m,aJ m=sched bN ws++dw 16 0->P m):auz SB m0 P:=by
 have el:∀j,(nd bN j ws).length=16+j:=λj=>by rw[HK,hl]
 refine⟨λs=>∃(j:Nat) (m:Int),s=[[((16+j:Nat):Int)],[m]]/\j<=48/\aJ m=nd bN j ws++dw (64-j) 0,λs=>(64-(s.getD 0 []).getD 0 0).toNat,⟨0,m0,rfl,by decide,hm⟩,?_⟩;intro i i0 i1 m m0 gk ⟨j,m',e,aR,hw⟩;simp only[hD,and_true]at e;obtain⟨rfl,rfl⟩:=e;have DY:(aJ m).length=80:=by rw[hw,fq,el,JT];omega
 refine⟨λh=>?_,λh=>?_⟩
 ·have h:=of_decide_eq_true h;have rd:∀(d:Nat) (x y:Int),1<=d->d<=16->y=((16+j:Nat):Int)+-(d:Int)->x=cu 21 [m,y,0]->x=(nd bN j ws).getD ((nd bN j ws).length-d) 0:=λd x y h1 h2 hy hx=>by
   rw[fU hx,hw,hy,show(((16+j:Nat):Int)+-(d:Int)).toNat=16+j-d by omega,el];rw[ky,ky,wG (by rw[el];omega)]
  have gR:∀d:Int,0<=d->d<=16->aj 30 [((16+j:Nat):Int)+-d,80]/\aj 21 [m,((16+j:Nat):Int)+-d]:=λd h1 h2=>⟨⟨by omega,by omega⟩,pI (by omega) (by omega)⟩;refine⟨(gR 16 (by decide) (by decide)).1,(gR 16 (by decide) (by decide)).2,λa a0 bR ha=>⟨(gR 15 (by decide) (by decide)).1,(gR 15 (by decide) (by decide)).2,λb dM b4 hb=>⟨trivial,λs aL s1 hs o rW o1 kG pc=>⟨(gR 7 (by decide) (by decide)).1,(gR 7 (by decide) (by decide)).2,λc dK c1 hc p p0 bw bz cY=>⟨(gR 2 (by decide) (by decide)).1,(gR 2 (by decide) (by decide)).2,λd d0 d1 hd=>⟨trivial,λt t0 t1 aB q eu aQ bn cj x dp ak hx=>⟨⟨by omega,by omega⟩,pI (by omega) (by omega),λ_ eJ _ _ s5=>⟨⟨j+1,eJ,by rw[show((16+(j+1):Nat):Int)=((16+j:Nat):Int)+1 by omega],by omega,?_⟩,?_⟩⟩⟩⟩⟩⟩⟩⟩
  ·have ha:=rd 16 a _ (by decide) (by decide) rfl ha;have hb:=rd 15 b _ (by decide) (by decide) rfl hb;have hc:=rd 7 c _ (by decide) (by decide) rfl hc;have hd:=rd 2 d _ (by decide) (by decide) rfl hd;have E9:=acM (acu j ws BO) ((nd bN j ws).length-15);have gu:=acM (acu j ws BO) ((nd bN j ws).length-2);rw[<-hb]at E9;rw[<-hd]at gu;have hs:0<=b->b<=4294967295->s=Cj bN b:=And.left (show _/\s=DX 7 18 3 1 b from hs);have aB:0<=d->d<=4294967295->t=Ck bN d:=And.left (show _/\t=DX 17 19 10 1 d from aB);have hs:=hs E9.1 E9.2;have aB:=aB gu.1 gu.2;have hx:[[x]]=_:=hx;have hx:x=(a+(s+(-bt*o+(c+(-bt*p+(t+-bt*q))))))% 4294967296:=by simpa using hx
   have acn:x=tj bN (nd bN j ws):=by
    unfold tj;rw[vG,<-ha,<-hb,<-hc,<-hd,<-hs,<-aB,hx]
    (unfold bt at*;omega)
   rw[mA s5,hw,Ok,<-acn,show 64-j=(64-(j+1))+1 by omega,y8,show((16+j:Nat):Int).toNat=16+j by omega,RQ _ _ _ _ _ (el j),fS];rfl
  ·show(64-(((16+j:Nat):Int)+1)).toNat<(64-((16+j:Nat):Int)).toNat;omega
 ·have h:=of_decide_eq_false h;have:j=48:=by omega
  subst this;refine lE m ?_;rw[hw];rfl
theorem aR7 {m:Int} {h:List Int} {P:List Int->Prop} {ms:List Int} (hm:aJ m=ms++dw 16 0) (hl:ms.length=64) (ah:h.length=8) (aEg:∀x∈h,0<=x/\x<=4294967295) (lE:ay (aT 0 L0 8) (q7 bN 0 ms h)->(∀x∈q7 bN 0 ms h,0<=x/\x<=4294967295)->P (q7 bN 0 ms h)):auy SB m h P:=by
 refine⟨λs=>∃i:Nat,s=[[(i:Int)],q7 bN 0 (ms.take i) h]/\i<=64/\∀x∈q7 bN 0 (ms.take i) h,0<=x/\x<=4294967295,λs=>(64-(s.getD 0 []).getD 0 0).toNat,⟨0,rfl,by decide,aEg⟩,?_⟩;intro i i0 i1 v hv ⟨n,e,hn,UP⟩;simp only[hD,and_true]at e;obtain⟨rfl,rfl⟩:=e;obtain⟨MB,aiv⟩:=DC 8 _ hv;refine⟨λhi=>?_,λhi=>?_⟩
 ·have hi:=of_decide_eq_true hi;obtain⟨v,FJ⟩:∃v,v=q7 bN 0 (ms.take n) h:=⟨_,rfl⟩;rw[<-FJ]at MB aiv UP⊢;have kr:=λi=>acM UP i;refine⟨trivial,λa a0 bR ha o rW o1 kG pc b dM b4 hb c dK c1 hc d d0 d1 hd p p0 bw bz cY=>⟨⟨by omega,by omega⟩,λcv aXS aXT apq e aXU aXV aXW aXX q eu aQ bn cj=>⟨⟨by omega,by omega⟩,pI (by omega) (by rw[hm,fq];omega),λx dp ak hx r r0 r1 r2 gS t t0 t1 aB=>⟨trivial,λf f0 f1 hf g1 _ _ h1 g2 _ _ h2 g3 _ _ h3 g4 _ _ h4 g5 _ _ h5 agi aLO sL sM aLU u sa kY hu agj aOZ D8 D9 Am y gV au hy agl aPh aPi aPj aPk w w0 eU hw=>⟨⟨n+1,?_,by omega,?_⟩,?_⟩⟩⟩⟩⟩
  rotate_left 1
  ·refineλx hx=>?_
   rw[show ms.take (n+1)=ms.take n++[ms.getD n 0] from Gw ms n (by omega),Mp,<-FJ,show 0+(ms.take n).length=n by rw[m4];omega,ahT n _ MB]at hx;simp only[vG]at hx;simp only[m2,uU,or_false]at hx;rcases hx with rfl|rfl|rfl|rfl|rfl|rfl|rfl|rfl
   ·exact⟨by omega,by omega⟩
   ·exact kr 0
   ·exact kr 1
   ·exact kr 2
   ·exact⟨by omega,by omega⟩
   ·exact kr 4
   ·exact kr 5
   ·exact kr 6
  rotate_left 1
  ·have ha:0<=v.getD 4 0->v.getD 4 0<=4294967295->a=vl bN (v.getD 4 0):=And.left (show _/\a=DX 6 11 25 0 (v.getD 4 0) from ha);have ha:=ha (kr 4).1 (kr 4).2;have hf:0<=v.getD 0 0->v.getD 0 0<=4294967295->f=vk bN (v.getD 0 0):=And.left (show _/\f=DX 2 13 22 0 (v.getD 0 0) from hf);have hf:=hf (kr 0).1 (kr 0).2;have hx:x=ms.getD n 0:=by
    rw[fU hx,hm,hC,ky,ky,wG (by omega)]
   have he:e=AE bN n:=by
    rw[hC]at apq;show _=uF.getD n 0/2^(64-32);rw[<-apq,show(2:Int)^(64-32)=4294967296 by decide];omega
   have aB:[[t]]=_:=aB;have aB:t=(v.getD 7 0+(a+(-bt*o+(d+(-bt*p+(e+(-bt*q+(x+-bt*r))))))))% 4294967296:=by simpa using aB
   have hu:[[u]]=_:=hu;have hu:u=(f+(g5+-bt*agi))% 4294967296:=by simpa using hu
   have hy:[[y]]=_:=hy;have hy:y=(t+(u+-bt*agj))% 4294967296:=by simpa using hy
   have hw:[[w]]=_:=hw;have hw:w=(v.getD 3 0+(t+-bt*agl))% 4294967296:=by simpa using hw
   have abG:d=wZ bN (v.getD 4 0) (v.getD 5 0) (v.getD 6 0):=by
    unfold wZ;have ak:=Nw (kr 4).1 (by have:=(kr 4).2;omega) (kr 5).1 (by have:=(kr 5).2;omega);have ai:=aI4 (kr 4).1 (by have:=(kr 4).2;omega) (kr 6).1 (by have:=(kr 6).2;omega);have aw:=Nw (x:=4294967295-v.getD 4 0) (by have:=(kr 4).2;omega) (by have:=(kr 4).1;omega) (kr 6).1 (by have:=(kr 6).2;omega);have hb:=hb.trans ak.1;have hc:=hc.trans ai;rw[hd,hb,hc,(MC ak.2.1 ak.2.2 aw.2.1 aw.2.2).1];show _=br .xor .u32 (br .and .u32 (v.getD 4 0) (v.getD 5 0)) (br .and .u32 ((2:Int)^32-1-v.getD 4 0) (v.getD 6 0));rw[show(2:Int)^32-1-v.getD 4 0=4294967295-v.getD 4 0 by rw[show(2:Int)^32=4294967296 by decide];omega]
   have afZ:g5=Ah bN (v.getD 0 0) (v.getD 1 0) (v.getD 2 0):=by
    unfold Ah;have ak:=Nw (kr 0).1 (by have:=(kr 0).2;omega) (kr 1).1 (by have:=(kr 1).2;omega);have ai:=Nw (kr 0).1 (by have:=(kr 0).2;omega) (kr 2).1 (by have:=(kr 2).2;omega);have dk:=Nw (kr 1).1 (by have:=(kr 1).2;omega) (kr 2).1 (by have:=(kr 2).2;omega);have aw:=MC ak.2.1 ak.2.2 ai.2.1 ai.2.2;have h1:=h1.trans ak.1;have h2:=h2.trans ai.1;have h4:=h4.trans dk.1;have h3:g3=br .xor .u32 (br .and .u32 (v.getD 0 0) (v.getD 1 0)) (br .and .u32 (v.getD 0 0) (v.getD 2 0)):=by rw[h3,h1,h2];exact aw.1
    rw[h5,h3,h4];exact(MC aw.2.1 aw.2.2 dk.2.1 dk.2.2).1
   have t1:t=md bN (v.getD 7 0+vl bN (v.getD 4 0)+wZ bN (v.getD 4 0) (v.getD 5 0) (v.getD 6 0)+AE bN n+ms.getD n 0):=by
    rw[vG,<-ha,<-abG,<-he,<-hx];(unfold bt at*;omega)
   have kY:u=md bN (vk bN (v.getD 0 0)+Ah bN (v.getD 0 0) (v.getD 1 0) (v.getD 2 0)):=by
    rw[vG,<-hf,<-afZ];(unfold bt at*;omega)
   rw[Gw ms n (by omega),Mp,<-FJ,show 0+(ms.take n).length=n by rw[m4];omega,ahT n _ MB,<-t1,<-kY];simp only[vG];rw[show(t+u)% 4294967296=y by(unfold bt at*;omega),show(v.getD 3 0+t)% 4294967296=w by(unfold bt at*;omega)];rfl
  ·show(64-((n:Int)+1)).toNat<(64-(n:Int)).toNat;omega
 ·have hi:=of_decide_eq_false hi;have:n=64:=by omega
  subst this;rw[mu (by omega)]at hv UP⊢;exact lE hv UP
theorem auu {h v:List Int} {P:List Int->Prop}:∀(n i:Nat) (acc:List Int),P (acc++(dP n).map λj=>md bN (h.getD (i+j) 0+v.getD (i+j) 0))->ah7 SB h v n i acc P
 |0,i,acc,lE=>by
  show P acc;simpa using lE
 |n+1,i,acc,lE=>λo rW o1 kG pc y gV au hy=>auu n (i+1) (acc++[y]) (by
  have hy:[[y]]=_:=hy;have hy:y=(h.getD i 0+(v.getD i 0+-0x10000000000000000*o))% 4294967296:=by simpa using hy
  have e:y=md bN (h.getD (i+0) 0+v.getD (i+0) 0):=by rw[vG,m3];omega
  rw[Yx,df,<-e,lz]at lE;rw[fS];refine Eq.mp (congrArg (λl=>P (acc++([y]++l))) (j5 λj _=>?_)) lE;show md bN (h.getD (i+(j+1)) 0+v.getD (i+(j+1)) 0)=_;rw[show i+(j+1)=i+1+j by omega])
theorem av9:∀(l m:List Int),∀x∈List.zipWith (λa b=>md bN (a+b)) l m,0<=x/\x<=4294967295
 |[],_,x,hx=>by simp at hx
 |_::_,[],x,hx=>by simp at hx
 |a::l,b::m,x,hx=>by
  rw[List.zipWith_cons_cons,m2]at hx;rcases hx with rfl|hx
  ·rw[vG];omega
  ·exact av9 l m x hx
theorem aR4 {K:List (List Int)->List (List Int)->Prop} {z0 c n:Int} {B:List Int} {q:Nat} (da:aJ c=B) (hn:n=(B.length:Int)) (an:B.length=64*q) (hl:B.length<=1000001000) (qc:∀r,0<=r->r<=cP->aJ r=pC bN B->K [[z0]] [[r]]):ah6 SB K z0 c n:=by
 refine⟨λs=>∃k:Nat,s=[[((64*k:Nat):Int)],ru bN B k (mB bN)]/\k<=q/\∀x∈ru bN B k (mB bN),0<=x/\x<=4294967295,λs=>(n-(s.getD 0 []).getD 0 0).toNat,⟨0,by rw[show ru bN B 0 (mB bN)=mB bN from rfl,abd];rfl,AS _,by rw[show ru bN B 0 (mB bN)=mB bN from rfl,abd];decide⟩,?_⟩;intro a a0 bR h ah ⟨k,e,ag,nj⟩;simp only[hD,and_true]at e;obtain⟨rfl,e⟩:=e;obtain⟨ch,fW⟩:=DC 8 _ ah;rw[<-e]at nj;refine⟨λhi=>?_,λhi=>?_⟩
 ·have hi:=of_decide_eq_true hi;refine Kv 80 0 0 (by decide) λm hm=>aR5 (k:=k) (by rw[hm,qF];rfl) da hn rfl (by omega) hl λeJ s5 aF6=>aR8 s5 (by unfold re;simp) aF6 λur Ic=>aR7 Ic ?_ ch nj λ_ _=>auu 8 0 [] ?_
  ·unfold sched;rw[HK];unfold re;simp;rfl
  ·intro o rW o1 kG pc;have:o=0:=by omega
   subst this;rw[show((64*k:Nat):Int)+-bt*0+64=((64*(k+1):Nat):Int) by omega];refine⟨⟨by omega,by omega⟩,⟨k+1,?_,by omega,?_⟩,?_⟩
   ·show _=[[((64*(k+1):Nat):Int)],uM bN (ru bN B k (mB bN)) (re bN ((B.drop (64*k)).take 64))];rw[<-e];unfold uM;rw[av6 _ ch (by rw[WV _ _ _ _ ch])];rfl
   ·show ∀x∈uM bN (ru bN B k (mB bN)) (re bN ((B.drop (64*k)).take 64)),_;unfold uM
    exactλx hx=>av9 _ _ x hx
   ·show(n-((64*(k+1):Nat):Int)).toNat<(n-((64*k:Nat):Int)).toNat;omega
 ·have hi:=of_decide_eq_false hi;have:k=q:=by omega
  subst this;refine Kv 8 0 0 (by omega) λg hg=>aR6 (h:=h) (by rw[hg,qF,eQ,jA,mu (by omega)]) ch nj λr r0 r1 hr=>qc r r0 r1 ?_;rw[hr,e];unfold pC;rw[an];show _=oH bN (ru bN B (64*k/64) (mB bN));rw[Sg _ (by decide)]
theorem aR3 {K:List (List Int)->List (List Int)->Prop} {z0 z3 c l:Int} {B:List Int} {N:Nat} (h3:z3=(N:Int)) (cF:N<=1000000000) (da:aJ c=B) (hl:l=(B.length:Int)) (hb:B.length<=1000000900) (lE:∀z,aJ z=B++Br (8*N)->ah6 SB K z0 z (l+8)):aus SB K z0 z3 c l:=by
 intro aS a0 bR a2 a3 ba dM b4 cg dh;refine⟨ns (by rw[da,hl]),o8 (by rw[da];omega),λaW _ _ lp bm _ _ bp d0 d1 d2 d3 z20 cv av aH ca=>?_⟩;have lp:aJ aW=B++[ba]:=by rw[eR lp,da]
 refine⟨ns (by rw[lp];simp;omega),o8 (by rw[lp];simp;omega),λz21 _ _ kS z22 _ _ bW f0 f1 f2 f3 z24 g0 g1 g2 g3=>?_⟩;have kS:=eR kS;rw[lp,fS]at kS;refine⟨ns (by rw[kS];simp;omega),o8 (by rw[kS];simp;omega),λcr _ _ sy z26 _ _ b5 i0 i1 i2 i3 z28 fC dN nY o6=>?_⟩;have sy:=eR sy;rw[kS,fS]at sy;refine⟨ns (by rw[sy];simp;omega),o8 (by rw[sy];simp;omega),λcl _ _ sz cA _ _ z31 o7 k1 k2 k3 bj lb l1 l2 n7=>?_⟩;have sz:=eR sz;rw[sy,fS]at sz;refine⟨ns (by rw[sz];simp;omega),o8 (by rw[sz];simp;omega),λbM _ _ sA cw _ _ b7 m0 gk eJ ur cp e9 bh fF sJ=>?_⟩;have sA:=eR sA;rw[sz,fS]at sA;refine⟨ns (by rw[sA];simp;omega),o8 (by rw[sA];simp;omega),λz37 _ _ sB cU _ _ cO p0 bw bz cY z40 eu aQ bn cj=>?_⟩;have sB:=eR sB;rw[sA,fS]at sB;refine⟨ns (by rw[sB];simp;omega),o8 (by rw[sB];simp;omega),λc2 _ _ rC db _ _ dc r0 r1 r2 gS=>?_⟩;have rC:=eR rC;rw[sB,fS]at rC;refine⟨ns (by rw[rC];simp;omega),o8 (by rw[rC];simp;omega),λeh _ _ s3 dC _ _=>lE eh ?_⟩;have s3:=eR s3;rw[rC,fS]at s3;rw[s3]
 congr 1
 have t0:ba=((8*N/72057594037927936% 256:Nat):Int):=by omega
 have t1:bp+-256*z20=((8*N/281474976710656% 256:Nat):Int):=by omega
 have t2:bW+-256*z24=((8*N/1099511627776% 256:Nat):Int):=by omega
 have t3:b5+-256*z28=((8*N/4294967296% 256:Nat):Int):=by omega
 have t4:z31+-256*bj=((8*N/16777216% 256:Nat):Int):=by omega
 have t5:b7+-256*cp=((8*N/65536% 256:Nat):Int):=by omega
 have t6:cO+-256*z40=((8*N/256% 256:Nat):Int):=by omega
 have t7:8*z3+(-0x10000000000000000*aS+-256*dc)=((8*N/1% 256:Nat):Int):=by omega
 rw[t0,t1,t2,t3,t4,t5,t6,t7];rfl
theorem auw {K:List (List Int)->List (List Int)->Prop} {z0 z3 c l k:Int} {b:List Int} {N:Nat} (h3:z3=(N:Int)) (cF:N<=1000000000) (hb:b.length=N) (hc:aJ c=b++[128]) (hl:l=(N:Int)+1) (qc:∀r,0<=r->r<=cP->aJ r=jy bN b->K [[z0]] [[r]]):ah8 SB K z0 z3 c l k:=by
 obtain⟨aQ,⟨q,bn⟩,cj⟩:=asO b;rw[hb]at aQ bn cj;have ng:N+9<=lf 32 N:=by
  show N+9<=(N+1+32/4+(2*32-1))/(2*32)*(2*32);omega
 have Pg:pM z3 32=((lf 32 N:Nat):Int):=by
  unfold pM;rw[if_neg (by omega),h3,hC];rfl
 obtain⟨M,ma⟩:∃M,M=lf 32 N:=⟨_,rfl⟩;rw[<-ma]at aQ bn cj ng Pg;refine⟨λs=>∃(j:Nat) (c l k:Int),s=[[c],[l],[k]]/\l=((N+1+j:Nat):Int)/\aJ c=b++[128]++dw j 0/\N+1+j<=M-8,λs=>((M:Int)-(s.getD 1 []).getD 0 0).toNat,⟨0,c,l,k,rfl,by omega,by rw[hc];simp,by omega⟩,?_⟩;intro aY _ _ aN _ _ z12 _ _ ⟨j,ek,l',bJ,e,jK,dB,aR⟩ a1 _ _ hp aG rW o1 kG pc;simp only[hD,and_true]at e;obtain⟨rfl,rfl,rfl⟩:=e;have hp:[[a1]]=[[pM z3 32]]:=hp;have hp:a1=(M:Int):=by rw[<-Pg];simpa using hp
 have lc:(aJ aY).length=N+1+j:=by rw[dB];simp;omega
 refine⟨λh=>?_,λh=>?_⟩
 ·have h:=of_decide_eq_true h;refine⟨ns (by rw[lc,jK]),o8 (by omega),λaS _ _ vr ba _ _=>⟨⟨j+1,aS,aN+1,ba,rfl,by omega,?_,by omega⟩,?_⟩⟩
  ·rw[eR vr,dB,fS,ajp]
  ·show((M:Int)-(aN+1)).toNat<((M:Int)-aN).toNat;omega
 ·have h:=of_decide_eq_false h;have acm:j=M-N-9:=by omega
  refine aR3 h3 cF dB (by rw[jK,<-lc,dB]) (by rw[<-dB,lc];omega) λz hz=>?_;have hz:aJ z=q4 bN b:=by
   rw[hz,acm,ma];unfold q4;rw[hb];rfl
  have tS:aN+8=((q4 bN b).length:Int):=by rw[aQ];omega
  exact aR4 (q:=q) hz tS (by rw[aQ,bn]) (by rw[aQ];omega) qc
theorem aNo:aj2 SB (ej SB [uv] 488):=by
 intro z0 a0 bR hp ar dM z2 dK c1 z3 d0 d1 h3;have hp:(af z0).length<=1000000000:=hp;have h3:z3=((af z0).length:Int):=h3;refine⟨⟨cn _,by omega,by rw[h3];exact cn _⟩,by show((af 0).length:Int)+z3<=1073741824;rw[j2];simp;omega,λz4 _ _ h4 z5 _ _ h5=>?_⟩;have h5:aJ z5=aJ z0:=by rw[gA h5,qF,eQ,jU (fP h4 h3)]
 have gR:∀r,0<=r->r<=cP->aJ r=jy bN (aJ z0)->ej SB [uv] 488 [[z0]] [[r]]:=λr h0 h1 hr=>⟨⟨h0,h1,trivial⟩,hr⟩;exact⟨λh=>by
  have h:=of_decide_eq_true h;have hn:aJ z0=[]:=uV (by rw[fT];omega);refine⟨by show((af 0).length:Int)+1<=1073741824;rw[j2];decide,λaZ _ _ h6 aK _ _=>?_⟩;exact auw h3 hp (fT z0) (by rw[eR h6,qF,hn]) (by omega) gR,λ_ aZ _ _=>⟨ns (by rw[h5,fT];exact h3),o8 (by rw[h5,fT];omega),λaK _ _ h7 aF _ _=>auw h3 hp (fT z0) (by rw[eR h7,h5]) (by omega) gR⟩⟩
end Go.dg
namespace Go.dg
open Go Go.bX
def ajx (S:zzS) (K:zzK):Prop:=∀r0:List Int,ay (aT 0 255 32) r0->aq 0 31 (U r0 0 0) 8 λbj=>aq 0 3 (U r0 31 0) 64 λbM=>K [r0] [[(8*bj),(U r0 1 0),(U r0 2 0),(U r0 3 0),(U r0 4 0),(U r0 5 0),(U r0 6 0),(U r0 7 0),(U r0 8 0),(U r0 9 0),(U r0 10 0),(U r0 11 0),(U r0 12 0),(U r0 13 0),(U r0 14 0),(U r0 15 0),(U r0 16 0),(U r0 17 0),(U r0 18 0),(U r0 19 0),(U r0 20 0),(U r0 21 0),(U r0 22 0),(U r0 23 0),(U r0 24 0),(U r0 25 0),(U r0 26 0),(U r0 27 0),(U r0 28 0),(U r0 29 0),(U r0 30 0),(((U r0 31 0)+((-64)*bM))+64)]]
def ajy (S:zzS) (K:zzK):Prop:=∀r0:List Int,ay (aT 0 255 32) r0->jJ r0 0 32 0 λew=>aj 71 [ew]/\∀e0:List Int,ay (aT 0 255 64) e0->S 478 [[ew]] [e0]->((((∀iF:List Int,ay (aT 0 255 32) iF->S 751 [(fy e0 0 32)] [iF]->((TB S K e0 r0 iF)/\(TB S K e0 r0 iF)))/\(((((zC S K e0 r0)/\(zC S K e0 r0)))/\(((zC S K e0 r0)/\(zC S K e0 r0)))))))/\(((((((zC S K e0 r0)/\(zC S K e0 r0)))/\(zC S K e0 r0)))/\(((((zC S K e0 r0)/\(zC S K e0 r0)))/\(zC S K e0 r0))))))
def ajB (S:zzS) (K:zzK):Prop:=∀r0:List Int,ay (aT 0 255 32) r0->∀b6:List Int,ay (aT 0 255 32) b6->dV λfI=>S 752 [r0] [b6,[fI]]->bY λgD=>cz λgE=>ee 20 [fI] λgg=>∀pg:List Int,ay (aT 0 255 32) pg->S 750 [b6] [pg]->K [r0] [pg]
def ajA (S:zzS) (K:zzK):Prop:=∀r0:List Int,ay (aT 0 255 32) r0->∀b6:List Int,ay (aT 0 255 32) b6->∀e0:List Int,ay (aT 0 255 32) e0->jJ r0 0 32 0 λz127=>aj 71 [z127]/\∀iF:List Int,ay (aT 0 0xffffffffffffffff 4) iF->S 725 [[z127]] [iF]->jJ b6 0 32 0 λmi=>∃(SJ:List (List Int)->Prop) (Yy:List (List Int)->Nat),SJ [[255],[0,0,0,0]]/\(dy (-1) 255 λmj=>∀pO:List Int,ay (aT 0 0xffffffffffffffff 4) pO->SJ [[mj],pO]->(eb (decide (0<=mj)) (∀B9:List Int,ay (aT 0 0xffffffffffffffff 4) B9->S 724 [pO,pO] [B9]->aq 0 31 mj 8 λEB=>aj 30 [EB,32]/\aj 21 [mi,EB]/\iE 21 [mi,EB,0] λz175=>aq 0 31 mj 8 λml=>ax λlY=>lY=z175/2^((mj+((-8)*ml))).toNat->aq 0 127 lY 2 λpW=>(eb (decide ((lY+((-2)*pW))=1)) (∀Je:List Int,ay (aT 0 0xffffffffffffffff 4) Je->S 724 [B9,iF] [Je]->(SJ [[(mj+(-1))],Je]/\Yy [[(mj+(-1))],Je]<Yy [[mj],pO])) ((SJ [[(mj+(-1))],B9]/\Yy [[(mj+(-1))],B9]<Yy [[mj],pO])))) (((TD S K e0 pO r0 b6)/\(((TD S K e0 pO r0 b6)/\(TD S K e0 pO r0 b6)))))))
def ajD (S:zzS) (K:zzK):Prop:=∀r0:List Int,ay (aT 0 255 32) r0->dV λbj=>(aj 75 (fy r0 0 32++[bj])->bY λbM=>cz λcw=>ee 20 [bj] λb7=>∀iy:List Int,ay (aT 0 255 32) iy->dV λgh=>S 752 [r0] [iy,[gh]]->bY λgn=>cz λz70=>ee 20 [gh] λgM=>aj 22 [gh,0,gM]/\ck 22 [gh,0,gM] λz72=>aj 22 [bj,0,b7]/\ck 22 [bj,0,b7] λfZ=>aj 75 [z72,fZ,0]/\∀gT:List Int,ay (aT 0 255 32) gT->S 697 [[z72],[fZ],[0]] [gT]->∀hM:List Int,ay (aT 0 255 32) hM->S 750 [gT] [hM]->∀yF:List Int,ay (aT 0 255 32) yF->S 750 [iy] [yF]->((jJ hM 0 32 0 λz201=>jJ yF 0 32 0 λz233=>aj 22 [bj,0,b7]/\ck 22 [bj,0,b7] λz234=>aj 75 [z201,z233,z234]/\∀nA:List Int,ay (aT 0 255 32) nA->S 697 [[z201],[z233],[z234]] [nA]->((TE S K nA iy gT hM r0 bj)/\(TE S K nA iy gT hM r0 bj)))/\(jJ hM 0 32 0 λz201=>jJ yF 0 32 0 λz233=>aj 22 [bj,0,b7]/\ck 22 [bj,0,b7] λz234=>aj 75 [z201,z233,z234]/\∀nA:List Int,ay (aT 0 255 32) nA->S 697 [[z201],[z233],[z234]] [nA]->TE S K nA iy gT hM r0 bj)))
def ajH (S:zzS) (K:zzK):Prop:=ag1 λz0=>(aj 91 [z0]->ck 27 [z0] λar=>ee 0 [z0] λz2=>cz λz3=>aj 22 [ar,0,z2]/\ck 22 [ar,0,z2] λz4=>aj 71 [z4]/\∀aD:List Int,ay (aT 0 255 32) aD->S 452 [[z4]] [aD]->K [[z0]] [aD])
def ajw (S:zzS) (K:zzK):Prop:=ag1 λz0=>(aj 91 [z0]->ck 27 [z0] λar=>ee 0 [z0] λz2=>cz λz3=>aj 22 [ar,0,z2]/\ck 22 [ar,0,z2] λz4=>aj 71 [z4]/\∀aD:List Int,ay (aT 0 255 32) aD->S 489 [[z4]] [aD]->K [[z0]] [aD])
def ajJ (S:zzS) (K:zzK):Prop:=∀r0:List Int,ay (aT 0 255 32) r0->dV λbj=>ag1 λbM=>bY λcw=>cz λb7=>ee 20 [bj] λcp=>dI λz37=>S 683 [] [[z37]]->(eb ((!(decide (z37=1)))) (K [r0,[bj],[bM]] [[(cond (false) 1 0)]]) ((eb (decide (2000<cp)) (K [r0,[bj],[bM]] [[(cond (true) 1 0)]]) (ee 0 [bM] λcU=>(eb (decide (2000<cU)) (K [r0,[bj],[bM]] [[(cond (true) 1 0)]]) (∀Rv:List Int,ay (aT 0 255 32) Rv->S 680 [r0] [Rv]->∀Rx:List Int,ay (aT 0 255 32) Rx->S 753 [r0] [Rx]->(eb (decide (Rv=Rx)) (aj 22 [bj,0,cp]/\ck 22 [bj,0,cp] λtB=>aj 75 (fy r0 0 32++[tB])/\∀rY:List Int,ay (aT 0 255 64) rY->S 681 [r0,[tB]] [rY]->aj 22 [bj,0,cp]/\ck 22 [bj,0,cp] λz168=>aj 75 (fy r0 0 32++[z168])/\∀Rt:List Int,ay (aT 0 255 64) Rt->S 755 [r0,[z168]] [Rt]->(eb (decide (rY=Rt)) (aj 91 [bM]/\∀Me:List Int,ay (aT 0 255 32) Me->S 756 [[bM]] [Me]->aj 91 [bM]/\∀Mf:List Int,ay (aT 0 255 32) Mf->S 757 [[bM]] [Mf]->K [r0,[bj],[bM]] [[(cond (decide (Me=Mf)) 1 0)]]) (K [r0,[bj],[bM]] [[(cond (false) 1 0)]]))) (K [r0,[bj],[bM]] [[(cond (false) 1 0)]]))))))))
theorem aCq {r:List Int} {o n:Nat} (h:o+n<=r.length):fy r o n=(r.drop o).take n:=by
 unfold fy;apply JO
 ·simp;omega
 ·intro i h1 h2;simp at h1;simp[U,show o+i<r.length by omega]
theorem aMa:ajx SB (ej SB [.d cN] 751):=by
 intro r0 i0 bj _ _ a2 a3 bM _ _ cg dh;have lb:r0.length=32:=dj i0;have ha:=Iz i0;have hg:∀j,j<32->0<=r0.getD j 0/\r0.getD j 0<=255:=λj aR=>by
  rw[ky,lA (by omega)];exact ha _ (CL _)
 have g0:=hg 0 (by decide);have aX0:=hg 31 (by decide);have cv:8*bj=r0.getD 0 0/8*8:=by omega
 have av:r0.getD 31 0+-64*bM+64=r0.getD 31 0% 64+64:=by omega
 have em:fy r0 1 30=(r0.drop 1).take 30:=aCq (by omega);have anR:(8*bj)::(fy r0 1 30++[r0.getD 31 0+-64*bM+64])=zB r0:=by rw[cv,av,em];rfl
 have hb:ay (aT 0 255 32) (zB r0):=vv 32 _ (by unfold zB;simp;omega) λx hx=>by
  unfold zB at hx;rcases List.mem_cons.1 hx with rfl|hx
  ·omega
  ·rcases List.mem_append.1 hx with hx|hx
   ·exact ha x (List.mem_of_mem_drop (mv hx))
   ·rw[List.mem_singleton.1 hx];omega
 rw[<-anR]at hb;exact⟨Ad hb,anR⟩
theorem aMb:ajy SB (ej SB [.d cN,hh] 752):=by
 intro r0 i0;have lb:r0.length=32:=dj i0;refine rz 32 0 0 (by omega) λew acZ=>?_;obtain⟨aQ,bn⟩:=uy (o:=0) lb acZ;refine⟨by show(af ew).length<=1000000000;omega,λe0 i64 s1=>?_⟩;have IV:e0.length=64:=dj i64;have s1:[e0]=[jy bP (aJ ew)]:=s1;have s1:e0=ot r0:=by rw[aQ,jA]at s1;simpa [ot]using s1
 have T:∀iF:List Int,ay (aT 0 255 32) iF->SB 751 [fy e0 0 32] [iF]->TB SB (ej SB [.d cN,hh] 752) e0 r0 iF:=λiF i128 s2=>by
  have s2:iF=zB (fy e0 0 32):=s2;rw[Fo (by omega),s1]at s2;refine⟨by show((af 0).length:Int)+32<=1073741824;rw[j2];decide,rz 32 32 0 (by omega) λuR aCJ=>?_⟩;obtain⟨cj,dU⟩:=uy (o:=32) IV aCJ;intro Cy _ _;refine⟨⟨cn _,by decide,by omega⟩,λz193 e9 bh aCK=>⟨?_,s2,?_⟩⟩
  ·show ay (aT 0 255 32++((0,cP)::[])) [iF,[z193]].flatten;rw[nH,nH,sT,gO];exact oC i128 ⟨e9,bh,trivial⟩
  ·rw[jU (fP aCK (by rw[dU];rfl)),cj,s1]
 have axV:zC SB (ej SB [.d cN,hh] 752) e0 r0:=T
 repeat' first
  |exact axV
  |exactλr i s=>⟨T r i s,T r i s⟩
  |apply y2
theorem aMf:ajB SB (ej SB [.d cN] 753):=by
 intro r0 i0 b6 i32 fI _ _ s1 gD _ gE _ _ gg _ _ _ pg i68 s2;have s1:b6=Cg r0/\aJ fI=(ot r0).drop 32:=s1;have s2:b9 pg=Go.Fd.enc (Go.Fd.eK (b9 b6).toNat Go.Fd.kn):=s2;refine⟨Ad i68,?_⟩;show b9 pg=Ae r0;rw[s2,s1.1];rfl
theorem aMd:ajA SB (ej SB [.d cN] 754):=by
 intro r0 i0 b6 i32 e0 i64;have lb:r0.length=32:=dj i0;have LK:b6.length=32:=dj i32;have IV:e0.length=32:=dj i64;refine rz 32 0 0 (by omega) λz127 aCG=>?_;obtain⟨aQ,bn⟩:=uy (o:=0) lb aCG;rw[jA]at aQ;refine⟨by show(af z127).length<=1000000000;omega,λiF i128 s1=>?_⟩;have s1:Go.Fd.ad iF=b9 (aJ z127)% (Go.Fd.dG:Int):=s1;rw[aQ]at s1;refine rz 32 0 0 (by omega) λmi aCH=>?_;obtain⟨cj,dU⟩:=uy (o:=0) LK aCH;rw[jA]at cj;obtain⟨X,cb⟩:∃X,X=b9 r0:=⟨_,rfl⟩;rw[<-cb]at s1;have aix:Go.Fd.ad iF<(Go.Fd.dG:Int):=by rw[s1];exact ri _ (by decide)
 replace aix:=nK.mk aix;replace s1:=nK.mk s1;refine⟨λs=>∃(j:Nat) (r:List Int),s=[[(j:Int)-1],r]/\j<=256/\Go.Fd.ad r=sX b6 j*X% (Go.Fd.dG:Int),λs=>((s.getD 0 []).getD 0 0+1).toNat,⟨256,[0,0,0,0],rfl,b1 _,?_⟩,?_⟩
 ·have:sX b6 256=0:=by
   unfold sX;rw[GW (by omega),ky,M8 (by omega)];rfl
  rw[this,Int.zero_mul];rfl
 ·intro mj g0 g1 pO i166 ⟨j,r,e,aR,hr⟩;simp only[hD,and_true]at e;obtain⟨rfl,rfl⟩:=e;have hlt:Go.Fd.ad pO<(Go.Fd.dG:Int):=by rw[hr];exact ri _ (by decide)
  replace hlt:=nK.mk hlt;replace hr:=nK.mk hr;refine⟨λh B9 i170 Fs EB o7 k1 k2 k3=>?_,λh=>?_⟩
  ·have h:=of_decide_eq_true h;obtain⟨i,rfl⟩:∃i,j=i+1:=⟨j-1,by omega⟩;have tR:EB=((i/8:Nat):Int):=TC k2 k3;refine⟨⟨by omega,by omega⟩,pI (by omega) (by rw[cj];omega),λz175 afh l1 lp ml m0 gk eJ ur lY e9 bh w6 pW rW o1 kG pc=>?_⟩;have zD:z175=b6.getD (i/8) 0:=by rw[fU lp,cj,tR,hC]
   have zE:ml=((i/8:Nat):Int):=TC eJ ur;have ya:lY=b6.getD (i/8) 0/2^(i% 8):=by rw[w6,zD,zE,ann i]
   have st:=amp b6 i (by rw[<-zD];exact afh) (by rw[<-zD];exact l1);rw[<-ya]at st;have Fs:Go.Fd.ad pO<(Go.Fd.dG:Int)->Go.Fd.ad pO<(Go.Fd.dG:Int)->Go.Fd.ad B9=(Go.Fd.ad pO+Go.Fd.ad pO)% (Go.Fd.dG:Int):=Fs;have Fs:=Fs hlt.h hlt.h;rw[hr.h,<-MR,<-Int.two_mul,<-Int.mul_assoc]at Fs;have hm:∀r,Go.Fd.ad r=sX b6 i*X% (Go.Fd.dG:Int)->(∃(j:Nat) (r':List Int),[[((i+1:Nat):Int)-1+-1],r]=[[(j:Int)-1],r']/\j<=256/\Go.Fd.ad r'=sX b6 j*X% (Go.Fd.dG:Int))/\((([[((i+1:Nat):Int)-1+-1],r]:List (List Int)).getD 0 []).getD 0 0+1).toNat<((([[((i+1:Nat):Int)-1],pO]:List (List Int)).getD 0 []).getD 0 0+1).toNat:=λr ah=>⟨⟨i,r,by rw[anm],by omega,ah⟩,ano i⟩;refine⟨λhc Je aYq kS=>hm Je ?_,λhc=>hm B9 ?_⟩
   ·have kS:Go.Fd.ad B9<(Go.Fd.dG:Int)->Go.Fd.ad iF<(Go.Fd.dG:Int)->Go.Fd.ad Je=(Go.Fd.ad B9+Go.Fd.ad iF)% (Go.Fd.dG:Int):=kS;have kS:=kS (by rw[Fs];exact ri _ (by decide)) aix.h;rw[Fs,s1.h,<-MR]at kS;rw[kS,st,ank kG pc (of_decide_eq_true hc),Int.add_mul,wJ]
   ·rw[Fs,st,anl kG pc (of_decide_eq_false hc),wI]
  ·have h:=of_decide_eq_false h;have:j=0:=by omega
   subst this;have w2:sX b6 0=b9 b6:=by
    have e:=agb b6 0;rw[jA]at e;unfold sX;show b9 (b6.drop 1)*256+b6.getD 0 0/1=_;rw[e,Int.ediv_one,kL,Int.add_comm]
   have zV:=hr.h;rw[w2]at zV;have fin:TD SB (ej SB [.d cN] 754) e0 pO r0 b6:=by
    refine rz 32 0 0 (by omega) λz201 acR=>?_;obtain⟨jv,lK⟩:=uy (o:=0) IV acR;rw[jA]at jv;refine⟨by show(af z201).length<=1000000000;omega,λJg aYs t1 Mb aYt t2 Mc aGt t3=>⟨Ad aGt,?_⟩⟩;have t1:Go.Fd.ad Jg=b9 (aJ z201)% (Go.Fd.dG:Int):=t1;rw[jv]at t1;have t2:Go.Fd.ad pO<(Go.Fd.dG:Int)->Go.Fd.ad Jg<(Go.Fd.dG:Int)->Go.Fd.ad Mb=(Go.Fd.ad pO+Go.Fd.ad Jg)% (Go.Fd.dG:Int):=t2;have t2:=t2 hlt.h (by rw[t1];exact ri _ (by decide));have t3:b9 Mc=Go.Fd.ad Mb:=t3;show b9 Mc=(b9 r0*b9 b6+b9 e0)% (Go.Fd.dG:Int);rw[t3,t2,zV,t1,<-MR,cb,kL]
   repeat' first
    |exact fin
    |apply y2
theorem aMh:ajD SB (ej SB [.d j7] 755):=by
 intro r0 i0 bj _ _ hp bM _ cw _ _ b7 BU _ oX iy i36 gh _ _ s1 gn _ z70 _ _ gM VR _ Uj;have hp:∀x∈fy r0 0 32++[bj],(af x).length<=100000000:=hp;have hz:=hp bj (by simp);have oX:b7=((af bj).length:Int):=oX;have Uj:gM=((af gh).length:Int):=Uj;have lb:r0.length=32:=dj i0;have s1:iy=Cg r0/\aJ gh=(ot r0).drop 32:=s1;have aHP:(ot r0).length=64:=E0 _ _;have E2:(af gh).length=32:=by rw[<-fT,s1.2,List.length_drop,aHP]
 refine⟨⟨cn _,VR,by rw[Uj];exact cn _⟩,λz72 _ _ Uk=>⟨⟨cn _,BU,by rw[oX];exact cn _⟩,λfZ _ _ Ul=>?_⟩⟩;have Uk:=fP Uk Uj;have Ul:=fP Ul oX;refine⟨λz jn=>?_,λgT i74 s2 hM i106 bx yF i138 cG=>?_⟩
 ·simp only[m2,uU,or_false]at jn;rcases jn with rfl|rfl|rfl
  ·rw[Uk];omega
  ·rw[Ul];exact hz
  ·rw[j2];decide
 have s2:b9 gT=qk (aJ z72++(aJ fZ++aJ 0)):=s2;rw[jU Uk,jU Ul,qF,gO,s1.2]at s2;have s2:b9 gT=Mj r0 (aJ bj):=s2;have bx:b9 hM=Go.Fd.enc (Go.Fd.eK (b9 gT).toNat Go.Fd.kn):=bx;have cG:b9 yF=Go.Fd.enc (Go.Fd.eK (b9 iy).toNat Go.Fd.kn):=cG;rw[s2]at bx;rw[s1.1]at cG;have cG:b9 yF=Ae r0:=cG;have Vr:hM.length=32:=dj i106;have aHH:yF.length=32:=dj i138;have fin:∀nA:List Int,b9 nA=qk (hM++(yF++aJ bj))->TE SB (ej SB [.d j7] 755) nA iy gT hM r0 bj:=λnA er qo aqe eW=>by
  have eW:b9 qo=(b9 nA*b9 iy+b9 gT)% (Go.Fd.dG:Int):=eW;have aHJ:qo.length=32:=dj aqe;refine rz 32 0 0 (by omega) λuS aCP=>rz 32 0 0 (by omega) λmZ aCR=>rz 64 0 0 (by decide) λX3 aCS=>?_;obtain⟨bw,bz⟩:=uy (o:=0) Vr aCP;obtain⟨cY,fa⟩:=uy (o:=0) aHJ aCR;rw[jA]at bw cY;have fv:aJ X3=dw 64 0:=by unfold aJ;rw[aCS,j2];decide
  obtain⟨A,aV⟩:∃A:Nat->List Int,A=λn=>(hM.take n++dw (32-n) 0)++(qo.take n++dw (32-n) 0):=⟨_,rfl⟩;obtain⟨c5,ea⟩:∃c5:List (List Int)->Prop,c5=λs=>∃(n:Nat) (a:Int),s=[[(n:Int)],[a]]/\n<=32/\aJ a=A n:=⟨_,rfl⟩;obtain⟨ey,aGl⟩:∃ey:List (List Int)->Nat,ey=λs=>(32-(s.getD 0 []).getD 0 0).toNat:=⟨_,rfl⟩;have aro:∀n,n<=32->(A n).length=64:=λn hn=>by rw[aV];simp;omega
  refine⟨c5,ey,by rw[ea];exact⟨0,X3,rfl,by decide,by rw[fv,aV];rfl⟩,?_⟩;intro dY g0 g1 hP _ _ hs;rw[ea]at hs;obtain⟨n,a,e,hn,ha⟩:=hs;simp only[hD,and_true]at e;obtain⟨rfl,rfl⟩:=e;have gZ:(aJ hP).length=64:=by rw[ha,aro n hn]
  refine⟨λh=>?_,λh=>?_⟩
  ·have h:=of_decide_eq_true h;have h:n<32:=by omega
   have c1:aj 30 [(n:Int),32]:=⟨by omega,by omega⟩;have bQ:aj 30 [(n:Int),64]:=⟨by omega,by omega⟩;have cD:aj 30 [(n:Int)+32,64]:=⟨by omega,by omega⟩;have step:∀(l:List Int),n<l.length->(l.take n++dw (32-n) 0).set n (l.getD n 0)=l.take (n+1)++dw (32-(n+1)) 0:=λl h2=>by
    rw[show 32-n=(32-(n+1))+1 by omega,y8,RQ _ _ _ _ _ (by rw[m4];omega),Gw l n h2,fS];rfl
   have aCV:A n=(hM.take n++dw (32-n) 0)++(qo.take n++dw (32-n) 0):=by rw[aV]
   have OD:A (n+1)=(hM.take (n+1)++dw (32-(n+1)) 0)++(qo.take (n+1)++dw (32-(n+1)) 0):=by rw[aV]
   have nn:((A n).set n (hM.getD n 0)).set (n+32) (qo.getD n 0)=A (n+1):=by
    rw[aCV,OD,List.set_append_left _ _ (by simp;omega),step hM (by omega),List.set_append_right _ _ (by simp;omega)];have aH:n+32-(hM.take (n+1)++dw (32-(n+1)) (0:Int)).length=n:=by simp;omega
    rw[aH,step qo (by omega)]
   have afK:∀{k:Int->Prop},k (hM.getD n 0)->aj 21 [uS,(n:Int)]/\∀y:Int,0<=y->y<=255->y=cu 21 [uS,(n:Int),0]->k y:=λ{k} ag=>⟨pI (by omega) (by rw[bw];omega),λy _ _ hy=>by
    rw[fU hy,bw,hC];exact ag⟩
   have Qu:∀{k:Int->Prop},k (qo.getD n 0)->aj 21 [mZ,(n:Int)]/\∀y:Int,0<=y->y<=255->y=cu 21 [mZ,(n:Int),0]->k y:=λ{k} ag=>⟨pI (by omega) (by rw[cY];omega),λy _ _ hy=>by
    rw[fU hy,cY,hC];exact ag⟩
   have ZS:∀c:Int,aJ c=(A n).set n (hM.getD n 0)->N4 SB (ej SB [.d j7] 755) (n:Int) c (qo.getD n 0) c5 ey hP:=λc hc=>by
    have lc:(aJ c).length=64:=by rw[hc,List.length_set,aro n hn]
    exact⟨cD,pI (by omega) (by omega),λ_ d _ _ hd=>⟨by
     rw[ea];refine⟨n+1,d,rfl,by omega,?_⟩;rw[mA hd,hc,show((n:Int)+32).toNat=n+32 by omega];exact nn,by rw[aGl];show(32-((n:Int)+1)).toNat<(32-(n:Int)).toNat;omega⟩⟩
   have ahS:∀{k:Int->Prop},(∀c,aJ c=(A n).set n (hM.getD n 0)->k c)->aj 21 [hP,(n:Int)]/\(aj 67 [hP,(n:Int),1]->∀y:Int,0<=y->y<=cP->y=cu 42 [hP,(n:Int),0,hM.getD n 0]->k y):=λ{k} ag=>⟨pI (by omega) (by omega),λ_ y _ _ hy=>ag y (by
    rw[mA hy,ha,hC])⟩
   have SG:HA SB (ej SB [.d j7] 755) hP (n:Int) (hM.getD n 0) (qo.getD n 0) c5 ey:=ahS ZS;have akA:TF SB (ej SB [.d j7] 755) mZ (n:Int) hP (hM.getD n 0) c5 ey:=⟨Qu (k:=λy=>HA SB (ej SB [.d j7] 755) hP (n:Int) (hM.getD n 0) y c5 ey) SG,ahS (k:=λc=>_) λc hc=>Qu (k:=λy=>N4 SB (ej SB [.d j7] 755) (n:Int) c y c5 ey hP) (ZS c hc)⟩;have awM:ab0 SB (ej SB [.d j7] 755) (n:Int) uS mZ hP c5 ey:=by
    refine⟨c1,⟨afK ?_,Qu ?_⟩⟩
    ·exact⟨Qu ⟨bQ,SG⟩,bQ,akA⟩
    ·exact afK ⟨bQ,SG⟩
   repeat' first
    |exact c1
    |exact bQ
    |exact SG
    |exact akA
    |exact awM
    |refine afK ?_
    |refine Qu ?_
    |refine ahS λc hc=>?_
    |exact ZS _ (by assumption)
    |apply y2
  ·have h:=of_decide_eq_false h;have:n=32:=by omega
   subst this;have ha:aJ hP=hM++qo:=by
    rw[ha,aV];show(hM.take 32++dw (32-32) 0)++(qo.take 32++dw (32-32) 0)=_;rw[mu (by omega),mu (by omega)];simp
   refine NX 64 0 [] (by rw[<-fT,gZ];decide) λl h1 _ h3=>?_;rw[eQ,h3,jA,mu (by omega),ha];refine⟨afd (aqs i106 aqe),?_⟩;show xG r0 (aJ bj) (hM++qo);have av:(hM++qo).take 32=hM:=List.take_left' Vr;have aH:(hM++qo).drop 32=qo:=List.drop_left' Vr;unfold xG;rw[av,aH];refine⟨bx,yF,i138,cG,?_⟩;rw[eW,er,s2,s1.1]
 have mid:∀Q:List Int->Prop,(∀nA:List Int,b9 nA=qk (hM++(yF++aJ bj))->Q nA)->jJ hM 0 32 0 λz201=>jJ yF 0 32 0 λz233=>aj 22 [bj,0,b7]/\∀z234:Int,0<=z234->z234<=cP->z234=cu 22 [bj,0,b7]->aj 75 [z201,z233,z234]/\∀nA:List Int,ay (aT 0 255 32) nA->SB 697 [[z201],[z233],[z234]] [nA]->Q nA:=λQ tW=>by
  refine rz 32 0 0 (by omega) λz201 acR=>rz 32 0 0 (by omega) λz233 aCN=>?_;obtain⟨bw,bz⟩:=uy (o:=0) Vr acR;obtain⟨cY,fa⟩:=uy (o:=0) aHH aCN;rw[jA]at bw cY;refine⟨⟨cn _,BU,by rw[oX];exact cn _⟩,λz234 _ _ Uf=>?_⟩;have Uf:=fP Uf oX;refine⟨λz jn=>?_,λnA aYv er=>?_⟩
  ·simp only[m2,uU,or_false]at jn;rcases jn with rfl|rfl|rfl
   ·omega
   ·omega
   ·rw[Uf];exact hz
  have er:b9 nA=qk (aJ z201++(aJ z233++aJ z234)):=er;rw[bw,cY,jU Uf]at er;exact tW nA er
 exact⟨mid _ λr s=>⟨fin r s,fin r s⟩,mid _ fin⟩
theorem W4 {z ar z2 z4:Int} (hc:(bD z).length<=2000) (h1:ar=cu 27 [z]) (h2:z2=cu 0 [z]) (h4:z4=cu 22 [ar,0,z2]):aJ z4=Mz (bD z)/\(af z4).length<=2000/\aj 22 [ar,0,z2]:=by
 have av:af ar=(Mz (bD z)).map λx=>[x]:=by
  rw[h1];show af (rc _)=_;rw[jO];unfold Mz;rw[lz];rfl
 have l1:(af ar).length=(bD z).length:=by rw[av];simp[Mz]
 have h2:z2=((af ar).length:Int):=by rw[l1];exact h2
 have h4:=fP h4 h2;refine⟨?_,by rw[h4,l1];exact hc,⟨cn _,by omega,by omega⟩⟩;rw[jU h4];exact abn av
theorem aMl:ajH SB (ej SB [.d cN] 756):=by
 intro z0 _ _ hc ar _ _ h1 z2 _ _ h2 z3 _ _;have hc:(bD z0).length<=2000:=(show ∀z∈([z0]:List Int),(bD z).length<=2000 from hc) z0 (by simp);refine⟨(W4 hc h1 h2 rfl).2.2,λz4 _ _ h4=>?_⟩;obtain⟨av,aH,_⟩:=W4 hc h1 h2 h4;refine⟨by show(af z4).length<=1000000000;omega,λaD i5 s=>⟨Ad i5,?_⟩⟩;have s:[aD]=[jy bN (aJ z4)]:=s;rw[av]at s;exact s
theorem aL9:ajw SB (ej SB [.d cN] 757):=by
 intro z0 _ _ hc ar _ _ h1 z2 _ _ h2 z3 _ _;have hc:(bD z0).length<=2000:=(show ∀z∈([z0]:List Int),(bD z).length<=2000 from hc) z0 (by simp);refine⟨(W4 hc h1 h2 rfl).2.2,λz4 _ _ h4=>?_⟩;obtain⟨av,aH,_⟩:=W4 hc h1 h2 h4;refine⟨by show(af z4).length<=1000000000;omega,λaD i5 s=>⟨Ad i5,?_⟩⟩;have s:[aD]=[jy bN (aJ z4)]:=s;rw[av]at s;exact s
theorem aQY {s m g kq:List Int} (h:xG s m g) (aP:xG s m kq) (yo:ay (aT 0 255 64) g) (aGI:ay (aT 0 255 64) kq):g=kq:=by
 obtain⟨i1,i2⟩:=Ln yo;obtain⟨i3,i4⟩:=Ln aGI;obtain⟨h1,A,aV,h2,h3⟩:=h;obtain⟨h4,YD,aCU,h5,h6⟩:=aP;have av:g.take 32=kq.take 32:=Go.Fd.ti i1 i3 (h1.trans h4.symm);have aH:A=YD:=Go.Fd.ti aV aCU (h2.trans h5.symm);rw[<-av,<-aH]at h6;have ca:g.drop 32=kq.drop 32:=Go.Fd.ti i2 i4 (h3.trans h6.symm);rw[<-nI 32 g,av,ca,nI]
theorem aMn:ajJ SB (ej SB [.d .bool] 758):=by
 intro r0 i0 bj _ _ bM _ _ cw _ b7 _ _ cp IU _ BH z37 _ _ aL;have aL:z37=1:=aL;have BH:cp=((af bj).length:Int):=BH;have lb:r0.length=32:=dj i0;have one:ej SB [.d .bool] 758 [r0,[bj],[bM]] [[(cond true 1 0)]]:=⟨⟨by decide,by decide,trivial⟩,rfl⟩;refine⟨λh=>by rw[aL]at h;simp at h,λ_=>⟨λ_=>one,λhm cU _ _ KW=>⟨λ_=>one,λaB Rv i39 s1 Rx i71 s2=>⟨λ_=>?_,λh=>?_⟩⟩⟩⟩
 ·have hm:=of_decide_eq_false hm;have aB:=of_decide_eq_false aB;have KW:cU=((bD bM).length:Int):=KW;have NU:aj 91 [bM]:=λz hz=>by
   rw[List.mem_singleton.1 hz];omega
  have Tl:∀{y:Int},af y=af bj->aj 75 (fy r0 0 32++[y]):=λ{y} hy z hz=>by
   rcases List.mem_append.1 hz with hz|hz
   ·rw[Fo (by omega)]at hz;exact S4 i0 z (mv hz)
   ·rw[List.mem_singleton.1 hz,hy];omega
  refine⟨⟨cn _,IU,by rw[BH];exact cn _⟩,λtB _ _ Ua=>?_⟩;have Ua:=fP Ua BH;refine⟨Tl Ua,λrY i104 bx=>⟨⟨cn _,IU,by rw[BH];exact cn _⟩,λz168 _ _ Ub=>?_⟩⟩;have Ub:=fP Ub BH;refine⟨Tl Ub,λRt i169 cG=>⟨λ_=>⟨NU,λMe aYu er=>⟨NU,λMf aYw eW=>?_⟩⟩,λh=>?_⟩⟩
  ·have er:[Me]=_:=er;have eW:[Mf]=_:=eW;have e:Me=Mf:=by simpa using er.trans eW.symm
   rw[decide_eq_true e];exact one
  ·have bx:xG r0 (aJ tB) rY:=bx;have cG:xG r0 (aJ z168) Rt:=cG;rw[jU Ua]at bx;rw[jU Ub]at cG;exact absurd (aQY bx cG i104 i169) (of_decide_eq_false h)
 ·have s1:b9 Rv=Ae r0:=s1;have s2:b9 Rx=Ae r0:=s2;exact absurd (Go.Fd.ti i39 i71 (s1.trans s2.symm)) (of_decide_eq_false h)
end Go.dg
namespace Go.dg
open Go Go.bX
def bB:dv->Nat->Option fB:=λ_ _=>none
def cf:Nat->List Nat:=λ_=>[]
def FW:bq:=⟨108,440,[x8,x8],[x8]⟩
def DG:bq:=⟨64,444,[vo],[vo]⟩
def DI:bq:=⟨66,445,[vo],[vo]⟩
def DK:bq:=⟨67,446,[vo],[vo]⟩
def DM:bq:=⟨68,447,[vo],[vo]⟩
def IQ:eG:=⟨70,442,[hh,.d qV],[uv],71⟩
def aH9:dv->Nat->Option fB:=λf r=>match f,r with
 |70,6=>some ⟨[0,1,5],[(6,0,0xffffffffffffffff),(7,-1,0x7fffffffffffffff)],[(1,0,0,0)],[],[],[],[]⟩
 |_,_=>none
def aIq:Nat->List Nat:=λn=>[1,1,1]
def aHi:eG:=⟨71,460,[hh],[hh],71⟩
def QL:kP:=⟨aHi,23,true⟩
def DO:bq:=⟨63,466,[anh],[vo]⟩
def IF:eG:=⟨127,462,[aIu],[Wm],66⟩
def Vg:eG:=⟨69,464,[hh],[uv],72⟩
def Jk:p5:=⟨Vg,[.int .u32 1779033703,.int .u32 3144134277,.int .u32 1013904242,.int .u32 2773480762,.int .u32 1359893119,.int .u32 2600822924,.int .u32 528734635,.int .u32 1541459225,.int .i64 64,.fn 63,.fn 64,.fn 66,.fn 67,.fn 68],99,[.int .i64 4]⟩
def VT:dv->Nat->Option fB:=λf r=>match f,r with
 |107,3=>some ⟨[0],[(5,16,0x7fffffffffffffff)],[],[],[(4,[.int .u32 0 4294967295],92)],[],[]⟩
 |107,8=>some ⟨[0,106,107],[(108,0,0x7fffffffffffffff),(6,0,4294967295),(7,0,4294967295),(8,0,4294967295),(9,0,4294967295),(10,0,4294967295),(11,0,4294967295),(12,0,4294967295),(13,0,4294967295)],[],[],[],[],[]⟩
 |69,15=>some ⟨[3,5,13,47,48],[(14,-1,3)],[],[],[(11,[.int .u8 0 255],5)],[],[]⟩
 |_,_=>none
def arF:Nat->List Nat:=λn=>cond (aU n 4) [8,1] (cond (aU n 102) [8,1] [1,1,1,1])
def Vm:eG:=⟨28,452,[hh],[.d cN],71⟩
def L2:kP:=⟨Vm,23,false⟩
def DH:bq:=⟨84,448,[cx],[cx]⟩
def DJ:bq:=⟨86,449,[cx],[cx]⟩
def DL:bq:=⟨87,450,[cx],[cx]⟩
def DN:bq:=⟨88,451,[cx],[cx]⟩
def xl:eG:=⟨70,443,[hh,.d qW],[uv],71⟩
def aIa:dv->Nat->Option fB:=λf r=>match f,r with
 |70,6=>some ⟨[0,1,5],[(6,0,0xffffffffffffffff),(7,-1,0x7fffffffffffffff)],[(1,0,0,0)],[],[],[],[]⟩
 |_,_=>none
def aIr:Nat->List Nat:=λn=>[1,1,1]
def aHj:eG:=⟨71,461,[hh],[hh],71⟩
def QM:kP:=⟨aHj,23,true⟩
def Vk:eG:=⟨71,472,[hh,hh],[hh],75⟩
def I1:kP:=⟨Vk,23,true⟩
def Vl:eG:=⟨71,469,[hh,hh,hh],[hh],75⟩
def I2:kP:=⟨Vl,23,true⟩
def DP:bq:=⟨83,467,[anh],[cx]⟩
def IG:eG:=⟨130,463,[aIv],[Wn],66⟩
def Vh:eG:=⟨89,465,[hh],[uv],73⟩
def xv:p5:=⟨Vh,[.int .u64 0x6a09e667f3bcc908,.int .u64 0xbb67ae8584caa73b,.int .u64 0x3c6ef372fe94f82b,.int .u64 0xa54ff53a5f1d36f1,.int .u64 0x510e527fade682d1,.int .u64 0x9b05688c2b3e6c1f,.int .u64 0x1f83d9abfb41bd6b,.int .u64 0x5be0cd19137e2179,.int .i64 80,.fn 83,.fn 84,.fn 86,.fn 87,.fn 88],115,[.int .i64 8]⟩
def VU:dv->Nat->Option fB:=λf r=>match f,r with
 |121,3=>some ⟨[0],[(5,16,0x7fffffffffffffff)],[],[],[(4,[.int .u64 0 0xffffffffffffffff],45)],[],[]⟩
 |121,8=>some ⟨[0,106,107],[(108,0,0x7fffffffffffffff),(6,0,0xffffffffffffffff),(7,0,0xffffffffffffffff),(8,0,0xffffffffffffffff),(9,0,0xffffffffffffffff),(10,0,0xffffffffffffffff),(11,0,0xffffffffffffffff),(12,0,0xffffffffffffffff),(13,0,0xffffffffffffffff)],[],[],[],[],[]⟩
 |89,15=>some ⟨[3,5,13,47,48],[(14,-1,7)],[],[],[(11,[.int .u8 0 255],5)],[],[]⟩
 |_,_=>none
def arG:Nat->List Nat:=λn=>cond (aU n 4) [8,1] (cond (aU n 166) [8,1] [1,1,1,1])
def Vn:eG:=⟨40,453,[hh],[.d j7],71⟩
def Gb:kP:=⟨Vn,23,false⟩
def Vo:eG:=⟨40,473,[hh,hh],[.d j7],75⟩
def I3:kP:=⟨Vo,23,false⟩
def Vp:eG:=⟨40,471,[hh,hh,hh],[.d j7],75⟩
def I4:kP:=⟨Vp,23,false⟩
def Qs:bq:=⟨15,112,[cN],[cN,anX]⟩
def IS:bq:=⟨22,114,[cN],[cN]⟩
def Qr:bq:=⟨16,115,[cN,cN,cN],[cN,anX]⟩
def Qq:bq:=⟨14,151,[cN],[.bool]⟩
def DT:bq:=⟨39,152,[j7],[cN]⟩
def Qp:bq:=⟨26,153,[cN,cN,cN],[cN]⟩
def IP:bq:=⟨53,154,[cN],[cN]⟩
def Vi:eG:=⟨17,674,[hh,hh],[.d cN],75⟩
def L1:kP:=⟨Vi,23,false⟩
def Vj:eG:=⟨17,675,[hh,hh,hh],[.d cN],75⟩
def Ga:kP:=⟨Vj,23,false⟩
def DD:eG:=⟨8,680,[.d cN],[.d cN],0⟩
def DE:eG:=⟨10,681,[.d cN,hh],[.d j7],75⟩
def LF:eG:=⟨6,682,[.d cN,hh,.d j7],[.d .bool],75⟩
def IM:eG:=⟨5,683,[],[.d .bool],0⟩
def IJ:bq:=⟨62,690,[dO],[cN]⟩
def PN:bq:=⟨46,691,[],[dO]⟩
def PO:bq:=⟨44,694,[dO,dO],[.bool]⟩
def PR:bq:=⟨96,722,[dO,dO],[dO,c1]⟩
def PQ:bq:=⟨97,723,[dO,dO],[dO,c1]⟩
def FV:bq:=⟨110,441,[x8,x8],[x8]⟩
def lv:bq:=⟨111,476,[cx,qW],[cx]⟩
def P1:bq:=⟨128,701,[cx,aHp,qW],[cx]⟩
def Q0:gi:=⟨P1,82⟩
def P9:bq:=⟨128,706,[cx,aq8,qW],[cx]⟩
def Q8:gi:=⟨P9,82⟩
def Qb:bq:=⟨128,707,[cx,aq9,qW],[cx]⟩
def Ra:gi:=⟨Qb,82⟩
def Qc:bq:=⟨128,708,[cx,aHE,qW],[cx]⟩
def Rb:gi:=⟨Qc,82⟩
def P2:bq:=⟨128,714,[cx,aHt,qW],[cx]⟩
def Q1:gi:=⟨P2,82⟩
def P3:bq:=⟨128,718,[cx,aq6,qW],[cx]⟩
def Q2:gi:=⟨P3,82⟩
def P4:bq:=⟨128,719,[cx,aq7,qW],[cx]⟩
def Q3:gi:=⟨P4,82⟩
def P5:bq:=⟨128,728,[cx,aHy,qW],[cx]⟩
def Q4:gi:=⟨P5,82⟩
def P6:bq:=⟨128,734,[cx,aHA,qW],[cx]⟩
def Q5:gi:=⟨P6,82⟩
def P7:bq:=⟨128,739,[cx,aHB,qW],[cx]⟩
def Q6:gi:=⟨P7,82⟩
def P8:bq:=⟨128,741,[cx,aHC,qW],[cx]⟩
def Q7:gi:=⟨P8,82⟩
def Qa:bq:=⟨128,761,[cx,aHD,qW],[cx]⟩
def Q9:gi:=⟨Qa,82⟩
def PT:bq:=⟨112,479,[cx,aIK,.bool,qW],[cx]⟩
def QS:gi:=⟨PT,82⟩
def PU:bq:=⟨112,480,[cx,aIL,.bool,qW],[cx]⟩
def QT:gi:=⟨PU,82⟩
def PV:bq:=⟨112,481,[cx,aIM,.bool,qW],[cx]⟩
def QU:gi:=⟨PV,82⟩
def PW:bq:=⟨112,482,[cx,aIN,.bool,qW],[cx]⟩
def QV:gi:=⟨PW,82⟩
def LJ:eG:=⟨72,477,[hh,.d qW],[uv],71⟩
def aH8:dv->Nat->Option fB:=λf r=>match f,r with
 |72,7=>some ⟨[0,1,5,6],[],[],[],[(7,[.int .u8 0 255],5)],[],[]⟩
 |72,21=>some ⟨[0,1,5,6,7,8,10,12],[(13,0,0x7fffffffffffffff)],[(1010,0,0,0xffffffffffffffff),(1010,1,0,0xffffffffffffffff),(1010,2,0,0xffffffffffffffff),(1010,3,0,0xffffffffffffffff),(1010,4,0,0xffffffffffffffff),(1010,5,0,0xffffffffffffffff),(1010,6,0,0xffffffffffffffff),(1010,7,0,0xffffffffffffffff)],[],[],[],[]⟩
 |72,25=>some ⟨[0,1,5,6,7,8,10,12,13,14],[(15,0,128)],[(1014,0,0,0)],[],[],[(1014,[.int .u64 0 0xffffffffffffffff],80)],[]⟩
 |72,29=>some ⟨[0,1,5,6,7,8,10,12,13,14],[(16,16,80)],[(1014,0,0,0)],[],[],[],[]⟩
 |72,34=>some ⟨[0,1,5,6,7,8,10,12,13,14,17],[(18,0,80)],[(1017,0,0,0xffffffffffffffff),(1017,1,0,0xffffffffffffffff),(1017,2,0,0xffffffffffffffff),(1017,3,0,0xffffffffffffffff),(1017,4,0,0xffffffffffffffff),(1017,5,0,0xffffffffffffffff),(1017,6,0,0xffffffffffffffff),(1017,7,0,0xffffffffffffffff)],[],[],[],[]⟩
 |72,45=>some ⟨[0,1,5,6,7,8,10,12],[(23,0,8)],[],[],[(22,[.int .u8 0 255],5)],[(1010,[.int .u64 0 0xffffffffffffffff],8)],[]⟩
 |72,48=>some ⟨[0,1,5,6,7,8,10,12,23],[(24,-8,56)],[],[],[(22,[.int .u8 0 255],5)],[],[]⟩
 |_,_=>none
def aIo:Nat->List Nat:=λn=>cond (aU n 45||aU n 46||aU n 141||aU n 142) [1,8] (cond (aU n 8||aU n 9) [1,1,1] (cond (aU n 135||aU n 136||aU n 138||aU n 139) [1,1] [1,1,1,1]))
def FU:eG:=⟨51,478,[hh],[.d j7],71⟩
def FR:eG:=⟨61,724,[.d dO,.d dO],[.d dO],0⟩
def FQ:eG:=⟨60,725,[hh],[.d dO],71⟩
def aH4:dv->Nat->Option fB:=λf r=>match f,r with
 |60,3=>some ⟨[0,2,3],[(4,-1,0x7fffffffffffffff)],[(1003,0,0,0xffffffffffffffff),(1003,1,0,0xffffffffffffffff),(1003,2,0,0xffffffffffffffff),(1003,3,0,0xffffffffffffffff)],[],[],[],[]⟩
 |_,_=>none
def aIk:Nat->List Nat:=λn=>[1,4]
def LD:eG:=⟨50,726,[.d j7],[.d cN],0⟩
def LH:eG:=⟨21,697,[hh,hh,hh],[.d cN],75⟩
def jt:bq:=⟨111,483,[cx,qV],[cx]⟩
def Qj:bq:=⟨128,802,[cx,aHv,qV],[cx]⟩
def Ri:gi:=⟨Qj,82⟩
def Qm:bq:=⟨128,803,[cx,aHz,qV],[cx]⟩
def Rl:gi:=⟨Qm,82⟩
def Qn:bq:=⟨128,806,[cx,aq8,qV],[cx]⟩
def Rm:gi:=⟨Qn,82⟩
def Qo:bq:=⟨128,807,[cx,aq9,qV],[cx]⟩
def Rn:gi:=⟨Qo,82⟩
def Qd:bq:=⟨128,810,[cx,aHq,qV],[cx]⟩
def Rc:gi:=⟨Qd,82⟩
def Qe:bq:=⟨128,811,[cx,aHr,qV],[cx]⟩
def Rd:gi:=⟨Qe,82⟩
def Qf:bq:=⟨128,813,[cx,aHs,qV],[cx]⟩
def Re:gi:=⟨Qf,82⟩
def Qg:bq:=⟨128,817,[cx,aHu,qV],[cx]⟩
def Rf:gi:=⟨Qg,82⟩
def Qh:bq:=⟨128,818,[cx,aq6,qV],[cx]⟩
def Rg:gi:=⟨Qh,82⟩
def Qi:bq:=⟨128,819,[cx,aq7,qV],[cx]⟩
def Rh:gi:=⟨Qi,82⟩
def Qk:bq:=⟨128,822,[cx,aHw,qV],[cx]⟩
def Rj:gi:=⟨Qk,82⟩
def Ql:bq:=⟨128,825,[cx,aHx,qV],[cx]⟩
def Rk:gi:=⟨Ql,82⟩
def PX:bq:=⟨112,484,[cx,aIO,.bool,qV],[cx]⟩
def QW:gi:=⟨PX,82⟩
def PY:bq:=⟨112,485,[cx,aIP,.bool,qV],[cx]⟩
def QX:gi:=⟨PY,82⟩
def PZ:bq:=⟨112,486,[cx,aIQ,.bool,qV],[cx]⟩
def QY:gi:=⟨PZ,82⟩
def P0:bq:=⟨112,487,[cx,aIR,.bool,qV],[cx]⟩
def QZ:gi:=⟨P0,82⟩
def LI:eG:=⟨72,488,[hh,.d qV],[uv],71⟩
def aH7:dv->Nat->Option fB:=λf r=>match f,r with
 |72,7=>some ⟨[0,1,5,6],[],[],[],[(7,[.int .u8 0 255],5)],[],[]⟩
 |72,21=>some ⟨[0,1,5,6,7,8,10,12],[(13,0,0x7fffffffffffffff)],[(1010,0,0,0xffffffffffffffff),(1010,1,0,0xffffffffffffffff),(1010,2,0,0xffffffffffffffff),(1010,3,0,0xffffffffffffffff),(1010,4,0,0xffffffffffffffff),(1010,5,0,0xffffffffffffffff),(1010,6,0,0xffffffffffffffff),(1010,7,0,0xffffffffffffffff)],[],[],[],[]⟩
 |72,25=>some ⟨[0,1,5,6,7,8,10,12,13,14],[(15,0,64)],[(1014,0,0,0)],[],[],[(1014,[.int .u64 0 0xffffffffffffffff],80)],[]⟩
 |72,29=>some ⟨[0,1,5,6,7,8,10,12,13,14],[(16,16,64)],[(1014,0,0,0)],[],[],[],[]⟩
 |72,34=>some ⟨[0,1,5,6,7,8,10,12,13,14,17],[(18,0,64)],[(1017,0,0,0xffffffffffffffff),(1017,1,0,0xffffffffffffffff),(1017,2,0,0xffffffffffffffff),(1017,3,0,0xffffffffffffffff),(1017,4,0,0xffffffffffffffff),(1017,5,0,0xffffffffffffffff),(1017,6,0,0xffffffffffffffff),(1017,7,0,0xffffffffffffffff)],[],[],[],[]⟩
 |72,45=>some ⟨[0,1,5,6,7,8,10,12],[(23,0,8)],[],[],[(22,[.int .u8 0 255],5)],[(1010,[.int .u64 0 0xffffffffffffffff],8)],[]⟩
 |72,48=>some ⟨[0,1,5,6,7,8,10,12,23],[(24,-8,24)],[],[],[(22,[.int .u8 0 255],5)],[],[]⟩
 |_,_=>none
def aIn:Nat->List Nat:=λn=>cond (aU n 45||aU n 46||aU n 141||aU n 142) [1,8] (cond (aU n 8||aU n 9) [1,1,1] (cond (aU n 135||aU n 136||aU n 138||aU n 139) [1,1] [1,1,1,1]))
def LG:eG:=⟨29,489,[hh],[.d cN],71⟩
def II:bq:=⟨25,750,[cN],[cN]⟩
def LB:eG:=⟨54,751,[.d cN],[.d cN],0⟩
def FP:eG:=⟨24,752,[.d cN],[.d cN,hh],0⟩
def IK:eG:=⟨9,753,[.d cN],[.d cN],0⟩
def LC:eG:=⟨27,754,[.d cN,.d cN,.d cN],[.d cN],0⟩
def aH5:dv->Nat->Option fB:=λf r=>match f,r with
 |27,3=>some ⟨[4,5,6,7,8],[(9,-1,255)],[(1008,0,0,0xffffffffffffffff),(1008,1,0,0xffffffffffffffff),(1008,2,0,0xffffffffffffffff),(1008,3,0,0xffffffffffffffff)],[],[],[(1004,[.int .u8 0 255],32)],[]⟩
 |_,_=>none
def aIl:Nat->List Nat:=λn=>[1,4]
def IL:eG:=⟨11,755,[.d cN,hh],[.d j7],75⟩
def aH6:dv->Nat->Option fB:=λf r=>match f,r with
 |11,7=>some ⟨[4,8,10,11],[(12,0,32)],[(1011,0,0,0)],[],[],[(1008,[.int .u8 0 255],32),(1010,[.int .u8 0 255],32),(1011,[.int .u8 0 255],64)],[]⟩
 |_,_=>none
def aIm:Nat->List Nat:=λn=>[1,1]
def IN:eG:=⟨12,756,[.d .str],[.d cN],91⟩
def IH:eG:=⟨13,757,[.d .str],[.d cN],91⟩
def PS:eG:=⟨4,758,[.d cN,hh,.d .str],[.d .bool],0⟩
def sh:Nat->List Nat×List Nat
 |440=>([1,1],[1])
 |444=>([1],[1])
 |445=>([1],[1])
 |446=>([1],[1])
 |447=>([1],[1])
 |442=>([1],[1])
 |460=>([1],[1])
 |466=>([1],[1])
 |462=>([1],[1])
 |464=>([1],[1])
 |452=>([1],[32])
 |448=>([1],[1])
 |449=>([1],[1])
 |450=>([1],[1])
 |451=>([1],[1])
 |443=>([1],[1])
 |461=>([1],[1])
 |472=>([1,1],[1])
 |469=>([1,1,1],[1])
 |467=>([1],[1])
 |463=>([1],[1])
 |465=>([1],[1])
 |453=>([1],[64])
 |473=>([1,1],[64])
 |471=>([1,1,1],[64])
 |112=>([32],[32,1])
 |114=>([32],[32])
 |115=>([32,32,32],[32,1])
 |151=>([32],[1])
 |152=>([64],[32])
 |153=>([32,32,32],[32])
 |154=>([32],[32])
 |674=>([1,1],[32])
 |675=>([1,1,1],[32])
 |680=>([32],[32])
 |681=>([32,1],[64])
 |682=>([32,1,64],[1])
 |683=>([],[1])
 |690=>([4],[32])
 |691=>([],[4])
 |693=>([32],[4])
 |694=>([4,4],[1])
 |722=>([4,4],[4,1])
 |723=>([4,4],[4,1])
 |441=>([1,1],[1])
 |476=>([1],[1])
 |701=>([1,1],[1])
 |706=>([1,1],[1])
 |707=>([1,1],[1])
 |708=>([1,1],[1])
 |714=>([1,1],[1])
 |718=>([1,1],[1])
 |719=>([1,1],[1])
 |728=>([1,1],[1])
 |734=>([1,1],[1])
 |739=>([1,1],[1])
 |741=>([1,1],[1])
 |761=>([1,1],[1])
 |479=>([1,3,1],[1])
 |480=>([1,3,1],[1])
 |481=>([1,3,1],[1])
 |482=>([1,3,1],[1])
 |477=>([1],[1])
 |478=>([1],[64])
 |724=>([4,4],[4])
 |725=>([1],[4])
 |726=>([64],[32])
 |697=>([1,1,1],[32])
 |483=>([1],[1])
 |802=>([1,1],[1])
 |803=>([1,1],[1])
 |806=>([1,1],[1])
 |807=>([1,1],[1])
 |810=>([1,1],[1])
 |811=>([1,1],[1])
 |813=>([1,1],[1])
 |817=>([1,1],[1])
 |818=>([1,1],[1])
 |819=>([1,1],[1])
 |822=>([1,1],[1])
 |825=>([1,1],[1])
 |484=>([1,3,1],[1])
 |485=>([1,3,1],[1])
 |486=>([1,3,1],[1])
 |487=>([1,3,1],[1])
 |488=>([1],[1])
 |489=>([1],[32])
 |750=>([32],[32])
 |751=>([32],[32])
 |752=>([32],[32,1])
 |753=>([32],[32])
 |754=>([32,32,32],[32])
 |755=>([32,1],[64])
 |756=>([1],[32])
 |757=>([1],[32])
 |758=>([32,1,1],[1])
 |_=>([],[])
abbrev uZ (P:Program) (gl:fK) (c:bq) (cal:gb) (li:dv->Nat->Option fB) (lsh:Nat->List Nat) (lens:List Nat) (B:(Nat->List (List Int)->List (List Int)->Prop)->(List (List Int)->List (List Int)->Prop)->Prop):Prop:=∀S K,cZ sh lsh S K lens (aX c.args) c.res (c.tree P gl cal li 600 6)=B S K
end Go.dg
