/- CvVcB: a part of the proof of statements of this seat. -/
import Derived.Test.YtacpildnjohidaaDoorPac
import Derived.Test.YtacpildnjohidaaDoorPad
import Derived.Test.YtacpildnjohidaaDoorProg
import Derived.KernelRfl
open And renaming intro->DZ
open Bool renaming not_eq_true'->cI,not_true->cU,not_eq_false'->dd,not_false->dh
open Go renaming FuncId->dL
open Int renaming eq_ofNat_of_zero_le->oY,mul_emod->sU,emod_nonneg->sV,emod_lt_of_pos->wg,add_zero->xU,one_mul->xV,add_mul_emod_self_left->xW,zero_add->Cf
open List renaming getD->U,nil_append->gq,getD_cons_zero->gD,append_nil->hK,getD_cons_succ->hL,cons_append->jD,take_succ_cons->nL,flatten_cons->oh,take_append_drop->oi,drop_zero->pJ,take_zero->qp,flatten_nil->tH,drop_succ_cons->tK
open List.cons renaming injEq->qn
open Nat renaming beq->aP
open Prod.mk renaming injEq->eO
set_option linter.unusedVariables false
set_option linter.unusedSimpArgs false
set_option maxRecDepth 20000
namespace Go.Fd
open Go.b9
def Vm (S:Nat->List (List Int)->List (List Int)->Prop) (K:List (List Int)->List (List Int)->Prop):Prop:=
 K [] [[8496970652267935907,31536524315187371,10144147576115030168,5909686906226998899]]
theorem aBS (G):Vm (fr G) (eP qV.res 120):=by
 unfold Vm;exact⟨by simp[qV,aY,D.bds,ez,ab,ai],by show ad _=dv;decide⟩
def VF (S:Nat->List (List Int)->List (List Int)->Prop) (K:List (List Int)->List (List Int)->Prop):Prop:=
 K [] [[0,0,0,0],[1,0,0,0],[1,0,0,0]]
theorem aCa (G):VF (fr G) (eP ve.res 121):=by
 unfold VF;exact⟨aaa zU RI RI,by decide,by decide,by decide⟩
def Vj (S:Nat->List (List Int)->List (List Int)->Prop) (K:List (List Int)->List (List Int)->Prop):Prop:=
 ∀r0:List Int,ab (ai 0 bP 4) r0->∀aR:List Int,ab (ai 0 bP 4) aR->∀hV:List Int,ab (ai 0 bP 4) hV->∀j9:List Int,ab (ai 0 bP 4) j9->∀dt:List Int,ab (ai 0 bP 4) dt->∀c8:List Int,ab (ai 0 bP 4) c8->
 ∀gC:List Int,ab (ai 0 bP 4) gC->S 36 [hV,c8] [gC]->
 ∀jZ:List Int,ab (ai 0 bP 4) jZ->S 36 [gC,gC] [jZ]->
 ∀b8:List Int,ab (ai 0 bP 4) b8->S 36 [r0,j9] [b8]->
 ∀kR:List Int,ab (ai 0 bP 4) kR->S 36 [aR,dt] [kR]->
 ∀hH:List Int,ab (ai 0 bP 4) hH->S 120 [] [hH]->
 ∀uv:List Int,ab (ai 0 bP 4) uv->S 36 [b8,kR] [uv]->
 ∀qe:List Int,ab (ai 0 bP 4) qe->S 36 [hH,uv] [qe]->
 ∀kp:List Int,ab (ai 0 bP 4) kp->S 41 [jZ,qe] [kp]->
 ∀DD:List Int,ab (ai 0 bP 4) DD->S 40 [jZ,qe] [DD]->
 ∀lN:List Int,ab (ai 0 bP 4) lN->S 36 [r0,dt] [lN]->
 ∀ka:List Int,ab (ai 0 bP 4) ka->S 36 [aR,j9] [ka]->
 ∀nF:List Int,ab (ai 0 bP 4) nF->S 40 [lN,ka] [nF]->
 ∀qf:List Int,ab (ai 0 bP 4) qf->S 40 [kR,b8] [qf]->
 ∀yM:List Int,ab (ai 0 bP 4) yM->S 36 [gC,kp] [yM]->
 ∀qg:List Int,ab (ai 0 bP 4) qg->S 36 [yM,nF] [qg]->
 ∀q5:List Int,ab (ai 0 bP 4) q5->S 36 [gC,DD] [q5]->
 ∀OP:List Int,ab (ai 0 bP 4) OP->S 36 [q5,qf] [OP]->
 ∀Ae:List Int,ab (ai 0 bP 4) Ae->S 36 [kp,DD] [Ae]->
 K [r0,aR,hV,j9,dt,c8] [qg,OP,Ae]
theorem aBP (G):Vj (fr G) (eP vb.res 122):=by
 simp(maxSteps:=4000000) only[Vj,bP];intro r0 i0 aR i4 hV i8 j9 i12 dt i16 c8 i20 gC i24 aH jZ i28 s1 b8 i32 s2 kR i36 bn hH i40 cz uv i44 dO qe i48 ec kp i52 eK DD i56 gy lN i60 gX ka i64 j0 nF i68 oP qf i72 Ia yM i76 Ib qg i80 Ic q5 i84 BJ OP i88 acJ Ae i92 acK;have aH:ad gC=ad hV*ad c8% 57896044618658097711785492504343953926634992332820282019728792003956564819949:=aH.1;have s1:ad jZ=ad gC*ad gC% 57896044618658097711785492504343953926634992332820282019728792003956564819949:=s1.1;have s2:ad b8=ad r0*ad j9% 57896044618658097711785492504343953926634992332820282019728792003956564819949:=s2.1;have bn:ad kR=ad aR*ad dt% 57896044618658097711785492504343953926634992332820282019728792003956564819949:=bn.1;have cz:ad hH=dv:=cz.1;have dO:ad uv=ad b8*ad kR% 57896044618658097711785492504343953926634992332820282019728792003956564819949:=dO.1;have ec:ad qe=ad hH*ad uv% 57896044618658097711785492504343953926634992332820282019728792003956564819949:=ec.1;have eK:ad kp=(ad jZ-ad qe+(if ad jZ<ad qe then 57896044618658097711785492504343953926634992332820282019728792003956564819949 else 0))% 115792089237316195423570985008687907853269984665640564039457584007913129639936:=eK.1;have gy:ad DD=(ad jZ+ad qe)% 115792089237316195423570985008687907853269984665640564039457584007913129639936% 57896044618658097711785492504343953926634992332820282019728792003956564819949:=gy.1;have gX:ad lN=ad r0*ad dt% 57896044618658097711785492504343953926634992332820282019728792003956564819949:=gX.1;have j0:ad ka=ad aR*ad j9% 57896044618658097711785492504343953926634992332820282019728792003956564819949:=j0.1;have oP:ad nF=(ad lN+ad ka)% 115792089237316195423570985008687907853269984665640564039457584007913129639936% 57896044618658097711785492504343953926634992332820282019728792003956564819949:=oP.1;have Ia:ad qf=(ad kR+ad b8)% 115792089237316195423570985008687907853269984665640564039457584007913129639936% 57896044618658097711785492504343953926634992332820282019728792003956564819949:=Ia.1;have Ib:ad yM=ad gC*ad kp% 57896044618658097711785492504343953926634992332820282019728792003956564819949:=Ib.1;have Ic:ad qg=ad yM*ad nF% 57896044618658097711785492504343953926634992332820282019728792003956564819949:=Ic.1;have BJ:ad q5=ad gC*ad DD% 57896044618658097711785492504343953926634992332820282019728792003956564819949:=BJ.1;have acJ:ad OP=ad q5*ad qf% 57896044618658097711785492504343953926634992332820282019728792003956564819949:=acJ.1;have acK:ad Ae=ad kp*ad DD% 57896044618658097711785492504343953926634992332820282019728792003956564819949:=acK.1;refine⟨aaa i80 i88 i92,?_⟩;intro A B aO ea bg b3;have aiv:=Fz s1;have aiw:=Fz ec;have auM:=Fz gX;have auJ:=Fz j0;have auL:=Fz bn;have auK:=Fz s2;have k1:ad qe% 57896044618658097711785492504343953926634992332820282019728792003956564819949=dv*ad uv% 57896044618658097711785492504343953926634992332820282019728792003956564819949:=by rw[ec,cz];exact Int.emod_emod _ _
 have k2:ad kp% 57896044618658097711785492504343953926634992332820282019728792003956564819949=(ad jZ-ad qe)% 57896044618658097711785492504343953926634992332820282019728792003956564819949:=by rw[eK];exact asY aiv aiw
 have k3:ad DD% 57896044618658097711785492504343953926634992332820282019728792003956564819949=(ad jZ+ad qe)% 57896044618658097711785492504343953926634992332820282019728792003956564819949:=by rw[gy];exact smod aiv aiw
 have k4:ad nF% 57896044618658097711785492504343953926634992332820282019728792003956564819949=(ad lN+ad ka)% 57896044618658097711785492504343953926634992332820282019728792003956564819949:=by rw[oP];exact smod auM auJ
 have tl:ad qf% 57896044618658097711785492504343953926634992332820282019728792003956564819949=(ad kR+ad b8)% 57896044618658097711785492504343953926634992332820282019728792003956564819949:=by rw[Ia];exact smod auL auK
 exact amx aO ea bg b3 (tv aH) (tv s1) (tv s2) (tv bn) (tv dO) k1 k2 k3 (tv gX) (tv j0) k4 tl (tv Ib) (tv Ic) (tv BJ) (tv acJ) (tv acK)
def Vv (S:Nat->List (List Int)->List (List Int)->Prop) (K:List (List Int)->List (List Int)->Prop):Prop:=
 ∀r0:List Int,ab (ai 0 255 32) r0->∀b8:List Int,ab (ai 0 bP 4) b8->∀kR:List Int,ab (ai 0 bP 4) kR->∀hH:List Int,ab (ai 0 bP 4) hH->
 ∀uv:List Int,ab (ai 0 bP 4) uv->∀qe:List Int,ab (ai 0 bP 4) qe->∀kp:List Int,ab (ai 0 bP 4) kp->S 121 [] [uv,qe,kp]->
 ∃(PI:List (List Int)->Prop) (UP:List (List Int)->Nat),PI [[255],uv,qe,kp]/\(oL (-1) 255 λcu=>∀jO:List Int,ab (ai 0 bP 4) jO->∀iY:List Int,ab (ai 0 bP 4) iY->∀n9:List Int,ab (ai 0 bP 4) n9->PI [[cu],jO,iY,n9]->
  (((decide (0<=cu))=true->
   ∀dB:List Int,ab (ai 0 bP 4) dB->∀kb:List Int,ab (ai 0 bP 4) kb->∀xq:List Int,ab (ai 0 bP 4) xq->S 122 [jO,iY,n9,jO,iY,n9] [dB,kb,xq]->
   aB 0 31 cu 8 λji=>
   dK 255 (U r0 (ji).toNat 0) λhZ=>
   aB 0 31 cu 8 λjA=>
   dK 255 (hZ/2^((cu+((-8)*jA))).toNat) λz85=>
   aB 0 127 z85 2 λjj=>
   (((decide ((z85+((-2)*jj))=1))=true->
    ∀tw:List Int,ab (ai 0 bP 4) tw->∀ux:List Int,ab (ai 0 bP 4) ux->∀tx:List Int,ab (ai 0 bP 4) tx->S 122 [dB,kb,xq,b8,kR,hH] [tw,ux,tx]->
    (PI [[(cu+(-1))],tw,ux,tx]/\UP [[(cu+(-1))],tw,ux,tx]<UP [[cu],jO,iY,n9])
   )/\((decide ((z85+((-2)*jj))=1))=false->
    (PI [[(cu+(-1))],dB,kb,xq]/\UP [[(cu+(-1))],dB,kb,xq]<UP [[cu],jO,iY,n9])
   ))
  )/\((decide (0<=cu))=false->
   K [r0,b8,kR,hH] [jO,iY,n9]
  ))
 )
theorem aB0 (G):Vv (fr G) (V8 G):=by
 simp(maxSteps:=4000000) only[Vv,dK,oL,aB,bP];intro r0 i0 b8 i32 kR i36 hH i40 uv i44 qe i48 kp i52 aH;have KW:=aH.2;have aH:acT [] [uv,qe,kp]:=aH.1;refine⟨λl=>match l with|[[i],x,y,z]=>(∀A,on A->lP (ad b8) (ad kR) (ad hH) A->lP (ad x) (ad y) (ad z) (er ((nb r0).toNat/2^(i+1).toNat) A))/\[x,y,z].flatten=uy G [b8,kR,hH].flatten (nb r0).toNat (255-i).toNat|_=>False,λl=>match l with|[[i],_,_,_]=>(i+1).toNat|_=>0,?_,?_⟩
 ·show(∀A,on A->lP (ad b8) (ad kR) (ad hH) A->lP (ad uv) (ad qe) (ad kp) (er ((nb r0).toNat/2^(255+1:Int).toNat) A))/\[uv,qe,kp].flatten=uy G [b8,kR,hH].flatten (nb r0).toNat (255-255:Int).toNat;refine⟨λA aO ak=>?_,KW⟩;rw[anE i0];exact aEE aH
 ·intro cu kj j3 jO i58 iY i62 n9 i66 eg;have eg:(∀A,on A->lP (ad b8) (ad kR) (ad hH) A->lP (ad jO) (ad iY) (ad n9) (er ((nb r0).toNat/2^(cu+1).toNat) A))/\[jO,iY,n9].flatten=uy G [b8,kR,hH].flatten (nb r0).toNat (255-cu).toNat:=eg;refine⟨λh0=>?_,λh0=>?_⟩
  ·skip
   simp only[cI,dd,cU,dh,decide_eq_true_eq,decide_eq_false_iff_not]at h0;intro dB i70 kb i74 xq i78 s1 ji wu wE Es d82 hZ wv wF GQ jA wx wG Et d84 z85 a85 zr Jn jj Cv Cy GD d86;have Ie:=s1.2;have s1:acS [jO,iY,n9,jO,iY,n9] [dB,kb,xq]:=s1.1;refine⟨λh1=>?_,λh1=>?_⟩
   ·skip
    simp only[cI,dd,cU,dh,decide_eq_true_eq,decide_eq_false_iff_not]at h1;intro tw i87 ux i91 tx i95 s2;have acL:=s2.2;have s2:acS [dB,kb,xq,b8,kR,hH] [tw,ux,tx]:=s2.1;obtain⟨i,rfl⟩:=oY h0;have hb:=P9 i0 j3 Es d82 GQ Et d84 Jn GD d86;have nY:((i:Int)+1).toNat=i+1:=by omega
    have tV:((i:Int)+(-1)+1).toNat=i:=by omega
    obtain⟨eg,hF⟩:=eg;rw[nY]at eg;have sE:(255-(i:Int)).toNat=255-i:=by omega
    have zA:(255-((i:Int)+(-1))).toNat=(255-i)+1:=by omega
    have zB:255-(255-i)=i:=by omega
    rw[sE]at hF;have g0:[dB,kb,xq].flatten=G 122 [jO,iY,n9,jO,iY,n9].flatten:=Ie;rw[Ye,hF]at g0;have g1:[tw,ux,tx].flatten=G 122 [dB,kb,xq,b8,kR,hH].flatten:=acL;rw[Ye,g0]at g1;have cP:(nb r0).toNat/2^i% 2=1:=by omega
    refine⟨⟨λA aO ak=>?_,?_⟩,?_⟩
    ·show lP (ad tw) (ad ux) (ad tx) (er ((nb r0).toNat/2^((i:Int)+(-1)+1).toNat) A);rw[tV,alB aO cP];have u6:=eg A aO ak;have k1:=s1 _ _ (jf aO _) (jf aO _) u6 u6;exact s2 _ _ (wy (jf aO _) (jf aO _)) aO k1 ak
    ·show [tw,ux,tx].flatten=uy G [b8,kR,hH].flatten (nb r0).toNat (255-((i:Int)+(-1))).toNat;rw[zA,uy,zB];have:((nb r0).toNat/2^i% 2==1)=true:=by simpa using cP
     rw[this,cond_true];exact g1
    ·show((i:Int)+(-1)+1).toNat<((i:Int)+1).toNat;omega
   ·skip
    simp only[cI,dd,cU,dh,decide_eq_true_eq,decide_eq_false_iff_not]at h1;obtain⟨i,rfl⟩:=oY h0;have hb:=P9 i0 j3 Es d82 GQ Et d84 Jn GD d86;have nY:((i:Int)+1).toNat=i+1:=by omega
    have tV:((i:Int)+(-1)+1).toNat=i:=by omega
    obtain⟨eg,hF⟩:=eg;rw[nY]at eg;have sE:(255-(i:Int)).toNat=255-i:=by omega
    have zA:(255-((i:Int)+(-1))).toNat=(255-i)+1:=by omega
    have zB:255-(255-i)=i:=by omega
    rw[sE]at hF;have g0:[dB,kb,xq].flatten=G 122 [jO,iY,n9,jO,iY,n9].flatten:=Ie;rw[Ye,hF]at g0;have cP:(nb r0).toNat/2^i% 2≠1:=by omega
    refine⟨⟨λA aO ak=>?_,?_⟩,?_⟩
    ·show lP (ad dB) (ad kb) (ad xq) (er ((nb r0).toNat/2^((i:Int)+(-1)+1).toNat) A);rw[tV,alA aO cP];have u6:=eg A aO ak;exact s1 _ _ (jf aO _) (jf aO _) u6 u6
    ·show [dB,kb,xq].flatten=uy G [b8,kR,hH].flatten (nb r0).toNat (255-((i:Int)+(-1))).toNat;rw[zA,uy,zB];have:((nb r0).toNat/2^i% 2==1)=false:=by simpa using cP
     rw[this,cond_false];exact g0
    ·show((i:Int)+(-1)+1).toNat<((i:Int)+1).toNat;omega
  ·skip
   simp only[cI,dd,cU,dh,decide_eq_true_eq,decide_eq_false_iff_not]at h0;obtain⟨eg,hF⟩:=eg;have nY:(cu+1).toNat=0:=by omega
   have sE:(255-cu).toNat=256:=by omega
   rw[nY]at eg;rw[sE]at hF;refine⟨⟨aaa i58 i62 i66,?_⟩,hF⟩;intro A aO ak;have eg:=eg A aO ak
   rwa [Nat.pow_zero,Nat.div_one]at eg
def Vi (S:Nat->List (List Int)->List (List Int)->Prop) (K:List (List Int)->List (List Int)->Prop):Prop:=
 ∀r0:List Int,ab (ai 0 bP 4) r0->∀aR:List Int,ab (ai 0 bP 4) aR->∀hV:List Int,ab (ai 0 bP 4) hV->
 ∀j9:List Int,ab (ai 0 bP 4) j9->S 45 [hV] [j9]->
 ∀dt:List Int,ab (ai 0 bP 4) dt->S 36 [r0,j9] [dt]->
 ∀c8:List Int,ab (ai 0 bP 4) c8->S 36 [aR,j9] [c8]->
 ∀gC:List Int,ab (ai 0 255 32) gC->S 27 [c8] [gC]->
 aB 0 zW (U dt 0 0) 2 λdg=>
 bz ((128*(U dt 0 0))+((U gC 31 0)+((-256)*dg))) 256 λcu=>
 K [r0,aR,hV] [[(U gC 0 0),(U gC 1 0),(U gC 2 0),(U gC 3 0),(U gC 4 0),(U gC 5 0),(U gC 6 0),(U gC 7 0),(U gC 8 0),(U gC 9 0),(U gC 10 0),(U gC 11 0),(U gC 12 0),(U gC 13 0),(U gC 14 0),(U gC 15 0),(U gC 16 0),(U gC 17 0),(U gC 18 0),(U gC 19 0),(U gC 20 0),(U gC 21 0),(U gC 22 0),(U gC 23 0),(U gC 24 0),(U gC 25 0),(U gC 26 0),(U gC 27 0),(U gC 28 0),(U gC 29 0),(U gC 30 0),((128*(U dt 0 0))+((U gC 31 0)+(((-256)*dg)+((-256)*cu))))]]
theorem aBO (G):Vi (fr G) (eP va.res 124):=by
 simp(maxSteps:=4000000) only[Vi,aB,bz,zW,bP];intro r0 i0 aR i4 hV i8 j9 i12 aH dt i16 s1 c8 i20 s2 gC i24 bn dg kB k6 sy d56 cu kj j3 qB d57;have aH:ad j9=cr (ad hV) s9:=aH.1;have s1:ad dt=ad r0*ad j9% 57896044618658097711785492504343953926634992332820282019728792003956564819949:=s1.1;have s2:ad c8=ad aR*ad j9% 57896044618658097711785492504343953926634992332820282019728792003956564819949:=s2.1;have bn:nb gC=ad c8:=bn.1;have eJ:ad c8=ad aR*lJ (ad hV)% 57896044618658097711785492504343953926634992332820282019728792003956564819949:=s2.trans (by rw[aH];rfl);have bg:ad dt=ad r0*lJ (ad hV)% 57896044618658097711785492504343953926634992332820282019728792003956564819949:=s1.trans (by rw[aH];rfl);rw[eJ]at bn;have hlt:nb gC<ej:=by rw[bn];exact Int.lt_trans (oH _).2 (by decide)
 have aD:=anC i24 hlt;have hg:=aip i24;have hp:=Oh dt;have hz:cu=0:=by clear aH s1 s2 bn eJ bg hlt;omega
 subst hz;refine⟨akc i24 (by clear aH s1 s2 bn eJ bg hlt;omega) (by clear aH s1 s2 bn eJ bg hlt;omega),?_⟩;show nb _=A8 (ad r0) (ad aR) (ad hV);rw[abC i24];unfold A8;rw[<-bg,bn,hp];unfold ej;clear aH s1 s2 bn eJ bg hlt;omega
def VB (S:Nat->List (List Int)->List (List Int)->Prop) (K:List (List Int)->List (List Int)->Prop):Prop:=
 ∀r0:List Int,ab (ai 0 255 32) r0->
 bz (U r0 31 0) 128 λaS=>
 ∀fB:List Int,ab (ai 0 bP 4) fB->S 37 [[(U r0 0 0),(U r0 1 0),(U r0 2 0),(U r0 3 0),(U r0 4 0),(U r0 5 0),(U r0 6 0),(U r0 7 0),(U r0 8 0),(U r0 9 0),(U r0 10 0),(U r0 11 0),(U r0 12 0),(U r0 13 0),(U r0 14 0),(U r0 15 0),(U r0 16 0),(U r0 17 0),(U r0 18 0),(U r0 19 0),(U r0 20 0),(U r0 21 0),(U r0 22 0),(U r0 23 0),(U r0 24 0),(U r0 25 0),(U r0 26 0),(U r0 27 0),(U r0 28 0),(U r0 29 0),(U r0 30 0),((U r0 31 0)+((-128)*aS))]] [fB]->
 ∀gf:List Int,ab (ai 0 bP 4) gf->S 28 [] [gf]->
 gp λcq=>S 42 [fB,gf] [[cq]]->
 ((((!(decide (cq=1))))=true->
  K [r0] [[0,0,0,0],[0,0,0,0],[0,0,0,0],[(cond (false) 1 0)]]
 )/\(((!(decide (cq=1))))=false->
  ∀ko:List Int,ab (ai 0 bP 4) ko->S 36 [fB,fB] [ko]->
  ∀KM:List Int,ab (ai 0 bP 4) KM->S 120 [] [KM]->
  ∀ly:List Int,ab (ai 0 bP 4) ly->S 36 [KM,ko] [ly]->
  ∀KN:List Int,ab (ai 0 bP 4) KN->S 40 [ly,[1,0,0,0]] [KN]->
  ∀jO:List Int,ab (ai 0 bP 4) jO->S 41 [ko,[1,0,0,0]] [jO]->
  ∀iY:List Int,ab (ai 0 bP 4) iY->S 45 [KN] [iY]->
  ∀n9:List Int,ab (ai 0 bP 4) n9->S 36 [jO,iY] [n9]->
  ∀dB:List Int,ab (ai 0 bP 4) dB->gp λgI=>S 38 [n9] [dB,[gI]]->
  ((((!(decide (gI=1))))=true->
   K [r0] [[0,0,0,0],[0,0,0,0],[0,0,0,0],[(cond (false) 1 0)]]
  )/\(((!(decide (gI=1))))=false->
   (((decide (128<=(U r0 31 0)))=true->
    (((decide (dB=[0,0,0,0]))=true->
     K [r0] [[0,0,0,0],[0,0,0,0],[0,0,0,0],[(cond (false) 1 0)]]
    )/\((decide (dB=[0,0,0,0]))=false->
     ∀q3:List Int,ab (ai 0 bP 4) q3->S 41 [[0,0,0,0],dB] [q3]->
     K [r0] [q3,fB,[1,0,0,0],[(cond (true) 1 0)]]
    ))
   )/\((decide (128<=(U r0 31 0)))=false->
    K [r0] [dB,fB,[1,0,0,0],[(cond (true) 1 0)]]
   ))
  ))
 ))
theorem aB6 (G):VB (fr G) (eP vd.res 125):=by
 simp(maxSteps:=4000000) only[VB,gp,bz,bP];intro r0 i0 aS c7 ga rp d32 fB i33 aH gf i37 s1 cq jG jI s2;have aH:ad fB=nb [(U r0 0 0),(U r0 1 0),(U r0 2 0),(U r0 3 0),(U r0 4 0),(U r0 5 0),(U r0 6 0),(U r0 7 0),(U r0 8 0),(U r0 9 0),(U r0 10 0),(U r0 11 0),(U r0 12 0),(U r0 13 0),(U r0 14 0),(U r0 15 0),(U r0 16 0),(U r0 17 0),(U r0 18 0),(U r0 19 0),(U r0 20 0),(U r0 21 0),(U r0 22 0),(U r0 23 0),(U r0 24 0),(U r0 25 0),(U r0 26 0),(U r0 27 0),(U r0 28 0),(U r0 29 0),(U r0 30 0),((U r0 31 0)+((-128)*aS))]:=aH.1;have s1:ad gf=57896044618658097711785492504343953926634992332820282019728792003956564819949:=s1.1;have s2:cq=bit (ad fB<ad gf):=s2.1;refine⟨λh0=>?_,λh0=>?_⟩
 ·skip
  simp only[cI,dd,cU,dh,decide_eq_true_eq,decide_eq_false_iff_not]at h0;have hm:=Bu i0 rp d32;rw[hm.1]at aH;rw[aH,s1]at s2;refine⟨NU zU zU zU (by decide),?_⟩;rw[s2]at h0;show Gc (dec (nb r0)) _ _ _ _;rw[ahn (Gy h0)];rfl
 ·skip
  simp only[cI,dd,cU,dh,decide_eq_true_eq,decide_eq_false_iff_not]at h0;intro ko i42 bn KM i46 cz ly i50 dO KN i54 ec jO i58 eK iY i62 gy n9 i66 gX dB i70 gI zl zp j0;have bn:ad ko=ad fB*ad fB% 57896044618658097711785492504343953926634992332820282019728792003956564819949:=bn.1;have cz:ad KM=dv:=cz.1;have dO:ad ly=ad KM*ad ko% 57896044618658097711785492504343953926634992332820282019728792003956564819949:=dO.1;have ec:ad KN=(ad ly+ad [1,0,0,0])% 115792089237316195423570985008687907853269984665640564039457584007913129639936% 57896044618658097711785492504343953926634992332820282019728792003956564819949:=ec.1;have eK:ad jO=(ad ko-ad [1,0,0,0]+(if ad ko<ad [1,0,0,0]then 57896044618658097711785492504343953926634992332820282019728792003956564819949 else 0))% 115792089237316195423570985008687907853269984665640564039457584007913129639936:=eK.1;have gy:ad iY=cr (ad KN) s9:=gy.1;have gX:ad n9=ad jO*ad iY% 57896044618658097711785492504343953926634992332820282019728792003956564819949:=gX.1;have j0:(ad dB,gI)=qi (ad n9):=j0.1;refine⟨λh1=>?_,λh1=>?_⟩
  ·skip
   simp only[cI,dd,cU,dh,decide_eq_true_eq,decide_eq_false_iff_not]at h1;have hm:=Bu i0 rp d32;rw[hm.1]at aH;rw[aH,s1]at s2;have hy:nb r0% ej<57896044618658097711785492504343953926634992332820282019728792003956564819949:=wH (by rw[<-s2];exact h0);have q:=Tt aH bn cz dO ec eK gy gX;rw[q,<-TF (oH _).1 (oH _).2]at j0;have af:gI=0:=by omega
   refine⟨NU zU zU zU (by decide),?_⟩;show Gc (dec (nb r0)) _ _ _ _;rw[ahp hy j0 af];rfl
  ·skip
   simp only[cI,dd,cU,dh,decide_eq_true_eq,decide_eq_false_iff_not]at h1;refine⟨λh2=>?_,λh2=>?_⟩
   ·skip
    simp only[cI,dd,cU,dh,decide_eq_true_eq,decide_eq_false_iff_not]at h2;refine⟨λh3=>?_,λh3=>?_⟩
    ·skip
     simp only[cI,dd,cU,dh,decide_eq_true_eq,decide_eq_false_iff_not]at h3;have hm:=Bu i0 rp d32;rw[hm.1]at aH;rw[aH,s1]at s2;have hy:nb r0% ej<57896044618658097711785492504343953926634992332820282019728792003956564819949:=wH (by rw[<-s2];exact h0);have q:=Tt aH bn cz dO ec eK gy gX;rw[q,<-TF (oH _).1 (oH _).2]at j0;have af:gI≠0:=by omega
     have aA:nb r0/ej=1:=by rw[<-hm.2];omega
     have ak:ad dB=0:=by rw[h3];decide
     refine⟨NU zU zU zU (by decide),?_⟩;show Gc (dec (nb r0)) _ _ _ _;rw[ahr hy j0 af aA ak];rfl
    ·skip
     simp only[cI,dd,cU,dh,decide_eq_true_eq,decide_eq_false_iff_not]at h3;intro q3 i75 oP;have oP:ad q3=(ad [0,0,0,0]-ad dB+(if ad [0,0,0,0]<ad dB then 57896044618658097711785492504343953926634992332820282019728792003956564819949 else 0))% 115792089237316195423570985008687907853269984665640564039457584007913129639936:=oP.1;have hm:=Bu i0 rp d32;rw[hm.1]at aH;rw[aH,s1]at s2;have hy:nb r0% ej<57896044618658097711785492504343953926634992332820282019728792003956564819949:=wH (by rw[<-s2];exact h0);have q:=Tt aH bn cz dO ec eK gy gX;rw[q,<-TF (oH _).1 (oH _).2]at j0;have af:gI≠0:=by omega
     have aA:nb r0/ej=1:=by rw[<-hm.2];omega
     have ak:ad dB≠0:=λh=>h3 (vi i70 zU (h.trans (by decide)));refine⟨NU i75 i33 RI (by decide),?_⟩;show Gc (dec (nb r0)) _ _ _ _;rw[ahq hy j0 af aA ak];have hr:=aFq j0;have oR:ad q3=(0-ad dB)% 57896044618658097711785492504343953926634992332820282019728792003956564819949:=oP.trans (by rw[show ad [0,0,0,0]=0 by decide];exact diff_eq (by decide) hr);exact⟨rfl,oR,aH,by decide⟩
   ·skip
    simp only[cI,dd,cU,dh,decide_eq_true_eq,decide_eq_false_iff_not]at h2;have hm:=Bu i0 rp d32;rw[hm.1]at aH;rw[aH,s1]at s2;have hy:nb r0% ej<57896044618658097711785492504343953926634992332820282019728792003956564819949:=wH (by rw[<-s2];exact h0);have q:=Tt aH bn cz dO ec eK gy gX;rw[q,<-TF (oH _).1 (oH _).2]at j0;have af:gI≠0:=by omega
    have aA:¬nb r0/ej=1:=by rw[<-hm.2];omega
    refine⟨NU i70 i33 RI (by decide),?_⟩;show Gc (dec (nb r0)) _ _ _ _;rw[aho hy j0 af aA];exact⟨rfl,rfl,aH,by decide⟩
def Vk (S:Nat->List (List Int)->List (List Int)->Prop) (K:List (List Int)->List (List Int)->Prop):Prop:=
 ∀r0:List Int,ab (ai 0 255 32) r0->∀b8:List Int,ab (ai 0 255 32) b8->
 ∀ka:List Int,ab (ai 0 bP 4) ka->∀nF:List Int,ab (ai 0 bP 4) nF->∀qf:List Int,ab (ai 0 bP 4) qf->gp λz76=>S 125 [b8] [ka,nF,qf,[z76]]->
 ((((!(decide (z76=1))))=true->
  K [r0,b8] [[0,0,0,0,0,0,0,0,0,0,0,0,0,0,0,0,0,0,0,0,0,0,0,0,0,0,0,0,0,0,0,0],[1]]
 )/\(((!(decide (z76=1))))=false->
  ∀xp:List Int,ab (ai 0 bP 4) xp->∀xr:List Int,ab (ai 0 bP 4) xr->∀uw:List Int,ab (ai 0 bP 4) uw->S 123 [r0,ka,nF,qf] [xp,xr,uw]->
  ∀vl:List Int,ab (ai 0 255 32) vl->S 124 [xp,xr,uw] [vl]->
  K [r0,b8] [vl,[0]]
 ))
theorem aBQ (G):Vk (fr G) (eP z8.res 130):=by
 simp(maxSteps:=4000000) only[Vk,gp,bP];intro r0 i0 b8 i32 ka i64 nF i68 qf i72 z76 a76 uQ aH;have aH:Tw [b8] [ka,nF,qf,[z76]]:=aH.1;refine⟨λh0=>?_,λh0=>?_⟩
 ·skip
  simp only[cI,dd,cU,dh,decide_eq_true_eq,decide_eq_false_iff_not]at h0;have e:=aEw aH h0;refine⟨Fa aab (by decide),?_⟩;show rk _ _ _;rw[e];exact⟨rfl,by decide⟩
 ·skip
  simp only[cI,dd,cU,dh,decide_eq_true_eq,decide_eq_false_iff_not]at h0;intro xp i77 xr i81 uw i85 s1 vl i89 s2;have s1:am3 [r0,ka,nF,qf] [xp,xr,uw]:=s1.1;have s2:am2 [xp,xr,uw] [vl]:=s2.1;obtain⟨AK,az,bg⟩:=aEx aH h0;have o1:=Je az;refine⟨Fa i89 (by decide),?_⟩;show rk _ _ _;rw[az];exact⟨rfl,s2.trans (KQ (jf o1 _) (s1 _ o1 bg))⟩
def Vt (S:Nat->List (List Int)->List (List Int)->Prop) (K:List (List Int)->List (List Int)->Prop):Prop:=
 K [] [[6346243789798364141,1503914060200516822,0,1152921504606846976]]
theorem aBY (G):Vt (fr G) (eP yC.res 133):=by
 unfold Vt;exact⟨by simp[yC,aY,D.bds,ez,ab,ai],by show ad _=(jx:Int);decide⟩
end Go.Fd
namespace Go.nN
open Go.b9
def Wq (S:Nat->List Int->List Int->Prop) (K:List Int->List Int->Prop):Prop:=
 av λz0=>
 av λaF=>
 av λz2=>
 av λz3=>
 av λz4=>
 av λz5=>
 av λbC=>
 av λaX=>
 av λaK=>
 av λz9=>
 av λa8=>
 av λaL=>
 av λz12=>
 av λaq=>
 av λax=>
 av λaT=>
 av λbh=>
 av λaU=>
 av λbd=>
 av λbk=>
 av λz20=>
 av λz21=>
 av λz22=>
 av λbA=>
 av λz24=>
 av λbS=>
 av λz26=>
 av λbO=>
 av λz28=>
 av λbX=>
 av λb2=>
 av λz31=>
 K [z0,aF,z2,z3,z4,z5,bC,aX,aK,z9,a8,aL,z12,aq,ax,aT,bh,aU,bd,bk,z20,z21,z22,bA,z24,bS,z26,bO,z28,bX,b2,z31] [((1*z0+(256*aF+(65536*z2+(iF*z3+(iG*z4+(iH*z5+(iI*bC+(jd*aX+0))))))))+0),((1*aK+(256*z9+(65536*a8+(iF*aL+(iG*z12+(iH*aq+(iI*ax+(jd*aT+0))))))))+0),((1*bh+(256*aU+(65536*bd+(iF*bk+(iG*z20+(iH*z21+(iI*z22+(jd*bA+0))))))))+0),((1*z24+(256*bS+(65536*z26+(iF*bO+(iG*z28+(iH*bX+(iI*b2+(jd*z31+0))))))))+0)]
theorem abZ:Wq cJ λzs rs=>ab (aY lg.res) rs/\cJ 22 zs rs:=by
 simp(maxSteps:=4000000) only[Wq,av,iF,iG,iH,iI,jd];intros;simp only[lg,aY,ch,D.bds,ai,jD,gq,hK,ab,and_true,cJ,uA,num];omega
def Wr (S:Nat->List Int->List Int->Prop) (K:List Int->List Int->Prop):Prop:=
 av λz0=>
 av λaF=>
 av λz2=>
 av λz3=>
 av λz4=>
 av λz5=>
 av λbC=>
 av λaX=>
 av λaK=>
 av λz9=>
 av λa8=>
 av λaL=>
 av λz12=>
 av λaq=>
 av λax=>
 av λaT=>
 av λbh=>
 av λaU=>
 av λbd=>
 av λbk=>
 av λz20=>
 av λz21=>
 av λz22=>
 av λbA=>
 av λz24=>
 av λbS=>
 av λz26=>
 av λbO=>
 av λz28=>
 av λbX=>
 av λb2=>
 av λz31=>
 av λaS=>
 av λbL=>
 av λbY=>
 av λbB=>
 av λbZ=>
 av λz37=>
 av λcA=>
 av λct=>
 av λz40=>
 av λcq=>
 av λcw=>
 av λcN=>
 av λdp=>
 av λcH=>
 av λz46=>
 av λcE=>
 av λcQ=>
 av λz49=>
 av λc9=>
 av λz51=>
 av λcx=>
 av λz53=>
 av λdf=>
 av λdq=>
 av λdg=>
 av λcu=>
 av λdz=>
 av λz59=>
 av λdJ=>
 av λdP=>
 av λdV=>
 av λdr=>
 K [z0,aF,z2,z3,z4,z5,bC,aX,aK,z9,a8,aL,z12,aq,ax,aT,bh,aU,bd,bk,z20,z21,z22,bA,z24,bS,z26,bO,z28,bX,b2,z31,aS,bL,bY,bB,bZ,z37,cA,ct,z40,cq,cw,cN,dp,cH,z46,cE,cQ,z49,c9,z51,cx,z53,df,dq,dg,cu,dz,z59,dJ,dP,dV,dr] [((1*z0+(256*aF+(65536*z2+(iF*z3+(iG*z4+(iH*z5+(iI*bC+(jd*aX+0))))))))+0),((1*aK+(256*z9+(65536*a8+(iF*aL+(iG*z12+(iH*aq+(iI*ax+(jd*aT+0))))))))+0),((1*bh+(256*aU+(65536*bd+(iF*bk+(iG*z20+(iH*z21+(iI*z22+(jd*bA+0))))))))+0),((1*z24+(256*bS+(65536*z26+(iF*bO+(iG*z28+(iH*bX+(iI*b2+(jd*z31+0))))))))+0)]
theorem aBD:Wr cJ λzs rs=>ab (aY Bq.res) rs/\cJ 122 zs rs:=by
 simp(maxSteps:=4000000) only[Wr,av,iF,iG,iH,iI,jd];intros;simp only[Bq,aY,ch,D.bds,ai,jD,gq,hK,ab,and_true,cJ,yQ,num,nL,qp];omega
def Ws (S:Nat->List Int->List Int->Prop) (K:List Int->List Int->Prop):Prop:=
 av λz0=>
 av λaF=>
 av λz2=>
 av λz3=>
 av λz4=>
 av λz5=>
 av λbC=>
 av λaX=>
 av λaK=>
 av λz9=>
 av λa8=>
 av λaL=>
 av λz12=>
 av λaq=>
 av λax=>
 av λaT=>
 av λbh=>
 av λaU=>
 av λbd=>
 av λbk=>
 av λz20=>
 av λz21=>
 av λz22=>
 av λbA=>
 av λz24=>
 av λbS=>
 av λz26=>
 av λbO=>
 av λz28=>
 av λbX=>
 av λb2=>
 av λz31=>
 av λaS=>
 av λbL=>
 av λbY=>
 av λbB=>
 av λbZ=>
 av λz37=>
 av λcA=>
 av λct=>
 av λz40=>
 av λcq=>
 av λcw=>
 av λcN=>
 av λdp=>
 av λcH=>
 av λz46=>
 av λcE=>
 av λcQ=>
 av λz49=>
 av λc9=>
 av λz51=>
 av λcx=>
 av λz53=>
 av λdf=>
 av λdq=>
 av λdg=>
 av λcu=>
 av λdz=>
 av λz59=>
 av λdJ=>
 av λdP=>
 av λdV=>
 av λdr=>
 K [z0,aF,z2,z3,z4,z5,bC,aX,aK,z9,a8,aL,z12,aq,ax,aT,bh,aU,bd,bk,z20,z21,z22,bA,z24,bS,z26,bO,z28,bX,b2,z31,aS,bL,bY,bB,bZ,z37,cA,ct,z40,cq,cw,cN,dp,cH,z46,cE,cQ,z49,c9,z51,cx,z53,df,dq,dg,cu,dz,z59,dJ,dP,dV,dr] [((1*aS+(256*bL+(65536*bY+(iF*bB+(iG*bZ+(iH*z37+(iI*cA+(jd*ct+0))))))))+0),((1*z40+(256*cq+(65536*cw+(iF*cN+(iG*dp+(iH*cH+(iI*z46+(jd*cE+0))))))))+0),((1*cQ+(256*z49+(65536*c9+(iF*z51+(iG*cx+(iH*z53+(iI*df+(jd*dq+0))))))))+0),((1*dg+(256*cu+(65536*dz+(iF*z59+(iG*dJ+(iH*dP+(iI*dV+(jd*dr+0))))))))+0)]
theorem aBE:Ws cJ λzs rs=>ab (aY Db.res) rs/\cJ 222 zs rs:=by
 simp(maxSteps:=4000000) only[Ws,av,iF,iG,iH,iI,jd];intros;simp only[Db,aY,ch,D.bds,ai,jD,gq,hK,ab,and_true,cJ,yR,num,tK,pJ];omega
def Wt (S:Nat->List Int->List Int->Prop) (K:List Int->List Int->Prop):Prop:=
 a7 λz0=>
 a7 λaF=>
 a7 λz2=>
 a7 λz3=>
 a7 λz4=>
 a7 λz5=>
 a7 λbC=>
 a7 λaX=>
 aB (-1) 0 ((1*z0+((-1)*z4+0))+0) a1 λaK=>
 aB (-1) 0 ((1*aF+((-1)*z5+(1*aK+0)))+0) a1 λz9=>
 aB (-1) 0 ((1*z2+((-1)*bC+(1*z9+0)))+0) a1 λa8=>
 aB (-1) 0 ((1*z3+((-1)*aX+(1*a8+0)))+0) a1 λaL=>
 K [z0,aF,z2,z3,z4,z5,bC,aX] [((1*z0+((-1)*z4+(aa*aK+0)))+0),((1*aF+((-1)*z5+(1*aK+(aa*z9+0))))+0),((1*z2+((-1)*bC+(1*z9+(aa*a8+0))))+0),((1*z3+((-1)*aX+(1*a8+(aa*aL+0))))+0),(cond (decide ((((-1)*aL+0)+0)=(0+1))) 1 0)]
theorem ab0:Wt cJ λzs rs=>ab (aY iU.res) rs/\cJ 29 zs rs:=by
 simp(maxSteps:=4000000) only[Wt,a7,aB,aa,a1];intros;simp only[iU,aY,ch,D.bds,ai,jD,gq,hK,ab,and_true,cJ,r5,num,nL,qp,tK,pJ,hL,gD,Bool.cond_decide];split<;>omega
def Wv (S:Nat->List Int->List Int->Prop) (K:List Int->List Int->Prop):Prop:=
 a7 λz0=>
 a7 λaF=>
 a7 λz2=>
 a7 λz3=>
 a7 λz4=>
 a7 λz5=>
 a7 λbC=>
 a7 λaX=>
 bz ((1*z0+(1*z4+0))+0) a1 λaK=>
 bz ((1*aF+(1*z5+(1*aK+0)))+0) a1 λz9=>
 bz ((1*z2+(1*bC+(1*z9+0)))+0) a1 λa8=>
 bz ((1*z3+(1*aX+(1*a8+0)))+0) a1 λaL=>
 K [z0,aF,z2,z3,z4,z5,bC,aX] [((1*z0+(1*z4+(aa*aK+0)))+0),((1*aF+(1*z5+(1*aK+(aa*z9+0))))+0),((1*z2+(1*bC+(1*z9+(aa*a8+0))))+0),((1*z3+(1*aX+(1*a8+(aa*aL+0))))+0),((1*aL+0)+0)]
theorem ab1:Wv cJ λzs rs=>ab (aY iV.res) rs/\cJ 24 zs rs:=by
 simp(maxSteps:=4000000) only[Wv,a7,bz,aa,a1];intros;simp only[iV,aY,ch,c1,D.bds,ai,jD,gq,hK,ab,and_true,cJ,r6,num,nL,qp,tK,pJ,hL,gD];omega
def Wm (S:Nat->List Int->List Int->Prop) (K:List Int->List Int->Prop):Prop:=
 a7 λz0=>
 a7 λaF=>
 a7 λz2=>
 a7 λz3=>
 aB 0 rP ((1*z0+0)+0) 256 λz4=>
 aB 0 rP ((1*z0+0)+0) 256 λz5=>
 aB 0 rQ ((1*z5+0)+0) 256 λbC=>
 aB 0 rQ ((1*z0+0)+0) 65536 λaX=>
 aB 0 jY ((1*aX+0)+0) 256 λaK=>
 aB 0 jY ((1*z0+0)+0) iF λz9=>
 aB 0 rN ((1*z9+0)+0) 256 λa8=>
 aB 0 rN ((1*z0+0)+0) iG λaL=>
 aB 0 rO ((1*aL+0)+0) 256 λz12=>
 aB 0 rO ((1*z0+0)+0) iH λaq=>
 aB 0 65535 ((1*aq+0)+0) 256 λax=>
 aB 0 65535 ((1*z0+0)+0) iI λaT=>
 aB 0 255 ((1*aT+0)+0) 256 λbh=>
 aB 0 255 ((1*z0+0)+0) jd λaU=>
 aB 0 rP ((1*aF+0)+0) 256 λbd=>
 aB 0 rP ((1*aF+0)+0) 256 λbk=>
 aB 0 rQ ((1*bk+0)+0) 256 λz20=>
 aB 0 rQ ((1*aF+0)+0) 65536 λz21=>
 aB 0 jY ((1*z21+0)+0) 256 λz22=>
 aB 0 jY ((1*aF+0)+0) iF λbA=>
 aB 0 rN ((1*bA+0)+0) 256 λz24=>
 aB 0 rN ((1*aF+0)+0) iG λbS=>
 aB 0 rO ((1*bS+0)+0) 256 λz26=>
 aB 0 rO ((1*aF+0)+0) iH λbO=>
 aB 0 65535 ((1*bO+0)+0) 256 λz28=>
 aB 0 65535 ((1*aF+0)+0) iI λbX=>
 aB 0 255 ((1*bX+0)+0) 256 λb2=>
 aB 0 255 ((1*aF+0)+0) jd λz31=>
 aB 0 rP ((1*z2+0)+0) 256 λaS=>
 aB 0 rP ((1*z2+0)+0) 256 λbL=>
 aB 0 rQ ((1*bL+0)+0) 256 λbY=>
 aB 0 rQ ((1*z2+0)+0) 65536 λbB=>
 aB 0 jY ((1*bB+0)+0) 256 λbZ=>
 aB 0 jY ((1*z2+0)+0) iF λz37=>
 aB 0 rN ((1*z37+0)+0) 256 λcA=>
 aB 0 rN ((1*z2+0)+0) iG λct=>
 aB 0 rO ((1*ct+0)+0) 256 λz40=>
 aB 0 rO ((1*z2+0)+0) iH λcq=>
 aB 0 65535 ((1*cq+0)+0) 256 λcw=>
 aB 0 65535 ((1*z2+0)+0) iI λcN=>
 aB 0 255 ((1*cN+0)+0) 256 λdp=>
 aB 0 255 ((1*z2+0)+0) jd λcH=>
 aB 0 rP ((1*z3+0)+0) 256 λz46=>
 aB 0 rP ((1*z3+0)+0) 256 λcE=>
 aB 0 rQ ((1*cE+0)+0) 256 λcQ=>
 aB 0 rQ ((1*z3+0)+0) 65536 λz49=>
 aB 0 jY ((1*z49+0)+0) 256 λc9=>
 aB 0 jY ((1*z3+0)+0) iF λz51=>
 aB 0 rN ((1*z51+0)+0) 256 λcx=>
 aB 0 rN ((1*z3+0)+0) iG λz53=>
 aB 0 rO ((1*z53+0)+0) 256 λdf=>
 aB 0 rO ((1*z3+0)+0) iH λdq=>
 aB 0 65535 ((1*dq+0)+0) 256 λdg=>
 aB 0 65535 ((1*z3+0)+0) iI λcu=>
 aB 0 255 ((1*cu+0)+0) 256 λdz=>
 aB 0 255 ((1*z3+0)+0) jd λz59=>
 K [z0,aF,z2,z3] [((1*z0+((-256)*z4+0))+0),((1*z5+((-256)*bC+0))+0),((1*aX+((-256)*aK+0))+0),((1*z9+((-256)*a8+0))+0),((1*aL+((-256)*z12+0))+0),((1*aq+((-256)*ax+0))+0),((1*aT+((-256)*bh+0))+0),((1*aU+0)+0),((1*aF+((-256)*bd+0))+0),((1*bk+((-256)*z20+0))+0),((1*z21+((-256)*z22+0))+0),((1*bA+((-256)*z24+0))+0),((1*bS+((-256)*z26+0))+0),((1*bO+((-256)*z28+0))+0),((1*bX+((-256)*b2+0))+0),((1*z31+0)+0),((1*z2+((-256)*aS+0))+0),((1*bL+((-256)*bY+0))+0),((1*bB+((-256)*bZ+0))+0),((1*z37+((-256)*cA+0))+0),((1*ct+((-256)*z40+0))+0),((1*cq+((-256)*cw+0))+0),((1*cN+((-256)*dp+0))+0),((1*cH+0)+0),((1*z3+((-256)*z46+0))+0),((1*cE+((-256)*cQ+0))+0),((1*z49+((-256)*c9+0))+0),((1*z51+((-256)*cx+0))+0),((1*z53+((-256)*df+0))+0),((1*dq+((-256)*dg+0))+0),((1*cu+((-256)*dz+0))+0),((1*z59+0)+0)]
theorem abY:Wm cJ λzs rs=>ab (aY iJ.res) rs/\cJ 26 zs rs:=by
 simp(maxSteps:=4000000) only[Wm,a7,aB,iF,iG,iH,iI,jd,rP,rQ,jY,rN,rO];simp only[xV,xU,Cf];intro z0 tt vq aF l1 oR z2 l2 sR z3 oG BQ z4 w3 Lc a4 mm z5 yE T9 a5 mn bC akD Ua pL pM aX HF Ub qx qy aK Dh u8 jH jJ z9 Di Ld a9 fx a8 Sd K6 iA iq aL Df K7 eX e1 z12 Se K8 a12 iv aq Sf K9 fF fI ax Sg La iN iO aT Ff Lb ft fv bh Sh u16 jm jo aU Si TL fu fJ bd Sj TM fR gi bk Sk TN fS fW z20 Sl TP a20 fw z21 Sm TQ a21 fj z22 Sn TR a22 fk bA So TS fh fl z24 Sp TT a24 fm bS Sq TU fG fK z26 Sr TV a26 fL bO Ss TW fH fX z28 St TX a28 gu bX Su TY fT fY b2 Sv TZ gh fZ z31 Sw T0 a31 gz aS Sx u32 c7 ga bL HE T1 eY e2 bY Sy T2 fi fo bB Dg T3 e7 e9 bZ Sz T4 eZ eQ z37 SA T5 a37 fM cA SC T6 e0 fa ct SD T7 e8 fp z40 SE T8 a40 gA cq aaN ado jG jI cw aaO adp jn jq cN aaP adq kx kD dp aaQ adr kW kE cH aaR ads lD lS z46 aaS adt a46 lF cE aaT adu ky kF cQ aaU adv kz kG z49 aaV adw a49 kH c9 aaW adx lE lT z51 aaX ady a51 kZ cx aaY adz kA kI z53 aaZ adA a53 k0 df aa0 adB ll k5 dq aa1 adC lQ lU dg aa2 adD kB k6 cu aa3 adE kj j3 dz aa4 adF lR mo z59 aa5 adG a59 k7;have hC:z4=z5:=Ij (by decide) a4 mm a5 mn;have pe:bd=bk:=Ij (by decide) fR gi fS fW;have Jj:aS=bL:=Ij (by decide) c7 ga eY e2;have EC:z46=cE:=Ij (by decide) a46 lF ky kF;have wJ:bC=aX:=nq (by decide) a5 mn pL pM qx qy;have qF:aK=z9:=nq (by decide) qx qy jH jJ a9 fx;have pV:a8=aL:=nq (by decide) a9 fx iA iq eX e1;have Ew:z12=aq:=nq (by decide) eX e1 a12 iv fF fI;have zx:ax=aT:=nq (by decide) fF fI iN iO ft fv;have nr:bh=aU:=nq (by decide) ft fv jm jo fu fJ;have Ey:z20=z21:=nq (by decide) fS fW a20 fw a21 fj;have pW:z22=bA:=nq (by decide) a21 fj a22 fk fh fl;have Ez:z24=bS:=nq (by decide) fh fl a24 fm fG fK;have A3:z26=bO:=nq (by decide) fG fK a26 fL fH fX;have Mt:z28=bX:=nq (by decide) fH fX a28 gu fT fY;have Mu:b2=z31:=nq (by decide) fT fY gh fZ a31 gz;have Mv:bY=bB:=nq (by decide) eY e2 fi fo e7 e9;have GL:bZ=z37:=nq (by decide) e7 e9 eZ eQ a37 fM;have EB:cA=ct:=nq (by decide) a37 fM e0 fa e8 fp;have sC:z40=cq:=nq (by decide) e8 fp a40 gA jG jI;have Mw:cw=cN:=nq (by decide) jG jI jn jq kx kD;have A4:dp=cH:=nq (by decide) kx kD kW kE lD lS;have My:cQ=z49:=nq (by decide) ky kF kz kG a49 kH;have pY:c9=z51:=nq (by decide) a49 kH lE lT a51 kZ;have Mz:cx=z53:=nq (by decide) a51 kZ kA kI a53 k0;have GN:df=dq:=nq (by decide) a53 k0 ll k5 lQ lU;have EE:dg=cu:=nq (by decide) lQ lU kB k6 kj j3;have sD:dz=z59:=nq (by decide) kj j3 lR mo a59 k7;clear pL pM jH jJ iA iq a12 iv iN iO jm jo a20 fw a22 fk a24 fm a26 fL a28 gu gh fZ fi fo eZ eQ e0 fa a40 gA jn jq kW kE kz kG lE lT kA kI ll k5 kB k6 lR mo;simp only[hC,pe,Jj,EC,wJ,qF,pV,Ew,zx,nr,Ey,pW,Ez,A3,Mt,Mu,Mv,GL,EB,sC,Mw,A4,My,pY,Mz,GN,EE,sD];refine⟨?_,?_⟩
 ·simp only[iJ,aY,gN,D.bds,ai,jD,gq,hK,ab,and_true];refine⟨?_,?_,?_,?_,?_,?_,?_,?_,?_,?_,?_,?_,?_,?_,?_,?_,?_,?_,?_,?_,?_,?_,?_,?_,?_,?_,?_,?_,?_,?_,?_,?_,?_,?_,?_,?_,?_,?_,?_,?_,?_,?_,?_,?_,?_,?_,?_,?_,?_,?_,?_,?_,?_,?_,?_,?_,?_,?_,?_,?_,?_,?_,?_,?_⟩<;>omega
 ·simp only[cJ,uz,num];omega
def Ww (S:Nat->List Int->List Int->Prop) (K:List Int->List Int->Prop):Prop:=
 a7 λz0=>
 a7 λaF=>
 a7 λz2=>
 a7 λz3=>
 a7 λz4=>
 a7 λz5=>
 a7 λbC=>
 a7 λaX=>
 dK jX (((1*z0+0)+0)*((1*z4+0)+0)) λaK=>
 aB 0 iS ((1*aK+0)+0) a1 λz9=>
 dK jX (((1*z0+0)+0)*((1*z5+0)+0)) λa8=>
 aB 0 iS ((1*a8+0)+0) a1 λaL=>
 bz ((1*z9+(1*a8+(aa*aL+0)))+0) a1 λz12=>
 dK jX (((1*z0+0)+0)*((1*bC+0)+0)) λaq=>
 aB 0 iS ((1*aq+0)+0) a1 λax=>
 bz ((1*aL+(1*z12+(1*aq+(aa*ax+0))))+0) a1 λaT=>
 dK jX (((1*z0+0)+0)*((1*aX+0)+0)) λbh=>
 aB 0 iS ((1*bh+0)+0) a1 λaU=>
 bz ((1*ax+(1*aT+(1*bh+(aa*aU+0))))+0) a1 λbd=>
 dK jX (((1*aF+0)+0)*((1*z4+0)+0)) λbk=>
 aB 0 iS ((1*bk+0)+0) a1 λz20=>
 bz ((1*z9+(1*a8+(aa*aL+(aa*z12+(1*bk+(aa*z20+0))))))+0) a1 λz21=>
 dK jX (((1*aF+0)+0)*((1*z5+0)+0)) λz22=>
 aB 0 iS ((1*z22+0)+0) a1 λbA=>
 bz ((1*aL+(1*z12+(1*aq+(aa*ax+(aa*aT+(1*z22+(aa*bA+0)))))))+0) a1 λz24=>
 bz ((1*aL+(1*z12+(1*aq+(aa*ax+(aa*aT+(1*z20+(1*z21+(1*z22+(aa*bA+(aa*z24+0))))))))))+0) a1 λbS=>
 bz ((1*bA+(1*z24+(1*bS+0)))+0) a1 λz26=>
 dK jX (((1*aF+0)+0)*((1*bC+0)+0)) λbO=>
 aB 0 iS ((1*bO+0)+0) a1 λz28=>
 bz ((1*ax+(1*aT+(1*bh+(aa*aU+(aa*bd+(1*bO+(aa*z28+0)))))))+0) a1 λbX=>
 bz ((1*ax+(1*aT+(1*bh+(aa*aU+(aa*bd+(1*bA+(1*z24+(1*bS+(aa*z26+(1*bO+(aa*z28+(aa*bX+0))))))))))))+0) a1 λb2=>
 bz ((1*z28+(1*bX+(1*b2+0)))+0) a1 λz31=>
 dK jX (((1*aF+0)+0)*((1*aX+0)+0)) λaS=>
 aB 0 iS ((1*aS+0)+0) a1 λbL=>
 bz ((1*aU+(1*bd+(1*aS+(aa*bL+0))))+0) a1 λbY=>
 bz ((1*aU+(1*bd+(1*z28+(1*bX+(1*b2+(aa*z31+(1*aS+(aa*bL+(aa*bY+0)))))))))+0) a1 λbB=>
 bz ((1*bL+(1*bY+(1*bB+0)))+0) a1 λbZ=>
 dK jX (((1*z2+0)+0)*((1*z4+0)+0)) λz37=>
 aB 0 iS ((1*z37+0)+0) a1 λcA=>
 bz ((1*aL+(1*z12+(1*aq+(aa*ax+(aa*aT+(1*z20+(1*z21+(1*z22+(aa*bA+(aa*z24+(aa*bS+(1*z37+(aa*cA+0)))))))))))))+0) a1 λct=>
 dK jX (((1*z2+0)+0)*((1*z5+0)+0)) λz40=>
 aB 0 iS ((1*z40+0)+0) a1 λcq=>
 bz ((1*ax+(1*aT+(1*bh+(aa*aU+(aa*bd+(1*bA+(1*z24+(1*bS+(aa*z26+(1*bO+(aa*z28+(aa*bX+(aa*b2+(1*z40+(aa*cq+0)))))))))))))))+0) a1 λcw=>
 bz ((1*ax+(1*aT+(1*bh+(aa*aU+(aa*bd+(1*bA+(1*z24+(1*bS+(aa*z26+(1*bO+(aa*z28+(aa*bX+(aa*b2+(1*cA+(1*ct+(1*z40+(aa*cq+(aa*cw+0))))))))))))))))))+0) a1 λcN=>
 bz ((1*cq+(1*cw+(1*cN+0)))+0) a1 λdp=>
 dK jX (((1*z2+0)+0)*((1*bC+0)+0)) λcH=>
 aB 0 iS ((1*cH+0)+0) a1 λz46=>
 bz ((1*aU+(1*bd+(1*z28+(1*bX+(1*b2+(aa*z31+(1*aS+(aa*bL+(aa*bY+(aa*bB+(1*cH+(aa*z46+0))))))))))))+0) a1 λcE=>
 bz ((1*aU+(1*bd+(1*z28+(1*bX+(1*b2+(aa*z31+(1*aS+(aa*bL+(aa*bY+(aa*bB+(1*cq+(1*cw+(1*cN+(aa*dp+(1*cH+(aa*z46+(aa*cE+0)))))))))))))))))+0) a1 λcQ=>
 bz ((1*z46+(1*cE+(1*cQ+0)))+0) a1 λz49=>
 dK jX (((1*z2+0)+0)*((1*aX+0)+0)) λc9=>
 aB 0 iS ((1*c9+0)+0) a1 λz51=>
 bz ((1*bL+(1*bY+(1*bB+(aa*bZ+(1*c9+(aa*z51+0))))))+0) a1 λcx=>
 bz ((1*bL+(1*bY+(1*bB+(aa*bZ+(1*z46+(1*cE+(1*cQ+(aa*z49+(1*c9+(aa*z51+(aa*cx+0)))))))))))+0) a1 λz53=>
 bz ((1*z51+(1*cx+(1*z53+0)))+0) a1 λdf=>
 dK jX (((1*z3+0)+0)*((1*z4+0)+0)) λdq=>
 aB 0 iS ((1*dq+0)+0) a1 λdg=>
 bz ((1*ax+(1*aT+(1*bh+(aa*aU+(aa*bd+(1*bA+(1*z24+(1*bS+(aa*z26+(1*bO+(aa*z28+(aa*bX+(aa*b2+(1*cA+(1*ct+(1*z40+(aa*cq+(aa*cw+(aa*cN+(1*dq+(aa*dg+0)))))))))))))))))))))+0) a1 λcu=>
 dK jX (((1*z3+0)+0)*((1*z5+0)+0)) λdz=>
 aB 0 iS ((1*dz+0)+0) a1 λz59=>
 bz ((1*aU+(1*bd+(1*z28+(1*bX+(1*b2+(aa*z31+(1*aS+(aa*bL+(aa*bY+(aa*bB+(1*cq+(1*cw+(1*cN+(aa*dp+(1*cH+(aa*z46+(aa*cE+(aa*cQ+(1*dz+(aa*z59+0))))))))))))))))))))+0) a1 λdJ=>
 bz ((1*aU+(1*bd+(1*z28+(1*bX+(1*b2+(aa*z31+(1*aS+(aa*bL+(aa*bY+(aa*bB+(1*cq+(1*cw+(1*cN+(aa*dp+(1*cH+(aa*z46+(aa*cE+(aa*cQ+(1*dg+(1*cu+(1*dz+(aa*z59+(aa*dJ+0)))))))))))))))))))))))+0) a1 λdP=>
 bz ((1*z59+(1*dJ+(1*dP+0)))+0) a1 λdV=>
 dK jX (((1*z3+0)+0)*((1*bC+0)+0)) λdr=>
 aB 0 iS ((1*dr+0)+0) a1 λed=>
 bz ((1*bL+(1*bY+(1*bB+(aa*bZ+(1*z46+(1*cE+(1*cQ+(aa*z49+(1*c9+(aa*z51+(aa*cx+(aa*z53+(1*dr+(aa*ed+0))))))))))))))+0) a1 λeG=>
 bz ((1*bL+(1*bY+(1*bB+(aa*bZ+(1*z46+(1*cE+(1*cQ+(aa*z49+(1*c9+(aa*z51+(aa*cx+(aa*z53+(1*z59+(1*dJ+(1*dP+(aa*dV+(1*dr+(aa*ed+(aa*eG+0)))))))))))))))))))+0) a1 λeD=>
 bz ((1*ed+(1*eG+(1*eD+0)))+0) a1 λeu=>
 dK jX (((1*z3+0)+0)*((1*aX+0)+0)) λfb=>
 aB 0 iS ((1*fb+0)+0) a1 λek=>
 bz ((1*z51+(1*cx+(1*z53+(aa*df+(1*fb+(aa*ek+0))))))+0) a1 λz70=>
 bz ((1*z51+(1*cx+(1*z53+(aa*df+(1*ed+(1*eG+(1*eD+(aa*eu+(1*fb+(aa*ek+(aa*z70+0)))))))))))+0) a1 λfc=>
 bz ((1*ek+(1*z70+(1*fc+0)))+0) a1 λz72=>
 K [z0,aF,z2,z3,z4,z5,bC,aX] [((1*aK+(aa*z9+0))+0),((1*z9+(1*a8+(aa*aL+(aa*z12+(1*bk+(aa*z20+(aa*z21+0)))))))+0),((1*aL+(1*z12+(1*aq+(aa*ax+(aa*aT+(1*z20+(1*z21+(1*z22+(aa*bA+(aa*z24+(aa*bS+(1*z37+(aa*cA+(aa*ct+0))))))))))))))+0),((1*ax+(1*aT+(1*bh+(aa*aU+(aa*bd+(1*bA+(1*z24+(1*bS+(aa*z26+(1*bO+(aa*z28+(aa*bX+(aa*b2+(1*cA+(1*ct+(1*z40+(aa*cq+(aa*cw+(aa*cN+(1*dq+(aa*dg+(aa*cu+0))))))))))))))))))))))+0),((1*aU+(1*bd+(1*z28+(1*bX+(1*b2+(aa*z31+(1*aS+(aa*bL+(aa*bY+(aa*bB+(1*cq+(1*cw+(1*cN+(aa*dp+(1*cH+(aa*z46+(aa*cE+(aa*cQ+(1*dg+(1*cu+(1*dz+(aa*z59+(aa*dJ+(aa*dP+0))))))))))))))))))))))))+0),((1*bL+(1*bY+(1*bB+(aa*bZ+(1*z46+(1*cE+(1*cQ+(aa*z49+(1*c9+(aa*z51+(aa*cx+(aa*z53+(1*z59+(1*dJ+(1*dP+(aa*dV+(1*dr+(aa*ed+(aa*eG+(aa*eD+0))))))))))))))))))))+0),((1*z51+(1*cx+(1*z53+(aa*df+(1*ed+(1*eG+(1*eD+(aa*eu+(1*fb+(aa*ek+(aa*z70+(aa*fc+0))))))))))))+0),((1*ek+(1*z70+(1*fc+(aa*z72+0))))+0)]
theorem aBL:Ww cJ λzs rs=>ab (aY Dc.res) rs/\cJ 21 zs rs:=by
 simp(maxSteps:=4000000) only[Ww,dK,a7,aB,bz,aa,a1,jX,iS];simp only[xV,xU,Cf];intro z0 tt vq aF l1 oR z2 l2 sR z3 oG BQ z4 w3 Lc z5 yE T9 bC akD Ua aX HF Ub aK Dh u8 alk z9 Di Ld a9 fx a8 Sd K6 ak6 aL Df K7 eX e1 z12 Se K8 a12 iv aq Sf K9 ak7 ax Sg La iN iO aT Ff Lb ft fv bh Sh u16 ak8 aU Si TL fu fJ bd Sj TM fR gi bk Sk TN ak9 z20 Sl TP a20 fw z21 Sm TQ a21 fj z22 Sn TR ala bA So TS fh fl z24 Sp TT a24 fm bS Sq TU fG fK z26 Sr TV a26 fL bO Ss TW alb z28 St TX a28 gu bX Su TY fT fY b2 Sv TZ gh fZ z31 Sw T0 a31 gz aS Sx u32 m32 bL HE T1 eY e2 bY Sy T2 fi fo bB Dg T3 e7 e9 bZ Sz T4 eZ eQ z37 SA T5 alc cA SC T6 e0 fa ct SD T7 e8 fp z40 SE T8 ald cq aaN ado jG jI cw aaO adp jn jq cN aaP adq kx kD dp aaQ adr kW kE cH aaR ads ale z46 aaS adt a46 lF cE aaT adu ky kF cQ aaU adv kz kG z49 aaV adw a49 kH c9 aaW adx alf z51 aaX ady a51 kZ cx aaY adz kA kI z53 aaZ adA a53 k0 df aa0 adB ll k5 dq aa1 adC alg dg aa2 adD kB k6 cu aa3 adE kj j3 dz aa4 adF alh z59 aa5 adG a59 k7 dJ akE anJ mH mN dP akF anK mI mO dV akG anL mJ mq dr akH anM ali ed aa6 u64 jb mP eG akI anN mK mQ eD akJ anO mL mR eu akK anP ng mS fb SF anQ alj ek akL anR nh nk z70 akM anS a70 nm fc akN anT ni nn z72 akO anU a72 np;have xO:=tg Dh u8 alk;have BY:=cv Di Ld a9 fx;have y2:=tg Sd K6 ak6;have DO:=cv Df K7 eX e1
 have BT:=cv Se K8 a12 iv;have DP:=tg Sf K9 ak7;have FP:=cv Sg La iN iO;have FQ:=cv Ff Lb ft fv
 have Im:=tg Sh u16 ak8;have Io:=cv Si TL fu fJ;have vN:=cv Sj TM fR gi;have Ip:=tg Sk TN ak9
 have y3:=cv Sl TP a20 fw;have DQ:=cv Sm TQ a21 fj;have y4:=tg Sn TR ala;have Lf:=cv So TS fh fl
 have DR:=cv Sp TT a24 fm;have Iq:=cv Sq TU fG fK;have BU:=cv Sr TV a26 fL;have FR:=tg Ss TW alb
 have Ir:=cv St TX a28 gu;have Lg:=cv Su TY fT fY;have FT:=cv Sv TZ gh fZ;have FU:=cv Sw T0 a31 gz
 have vS:=tg Sx u32 m32;have Lh:=cv HE T1 eY e2;have Aj:=cv Sy T2 fi fo;have FV:=cv Dg T3 e7 e9
 have y5:=cv Sz T4 eZ eQ;have Is:=tg SA T5 alc;have BV:=cv SC T6 e0 fa;have DS:=cv SD T7 e8 fp
 have BW:=tg SE T8 ald;have Li:=cv aaN ado jG jI;have It:=cv aaO adp jn jq;have Iu:=cv aaP adq kx kD
 have FW:=cv aaQ adr kW kE;have FX:=tg aaR ads ale;have y6:=cv aaS adt a46 lF;have Lj:=cv aaT adu ky kF
 have xN:=cv aaU adv kz kG;have FY:=cv aaV adw a49 kH;have y7:=tg aaW adx alf;have Lk:=cv aaX ady a51 kZ
 have DT:=cv aaY adz kA kI;have FZ:=cv aaZ adA a53 k0;have BX:=cv aa0 adB ll k5;have Iw:=tg aa1 adC alg
 have F0:=cv aa2 adD kB k6;have DU:=cv aa3 adE kj j3;have F1:=tg aa4 adF alh;have Ll:=cv aa5 adG a59 k7
 have aoZ:=cv akE anJ mH mN;have Pb:=cv akF anK mI mO;have Ug:=cv akG anL mJ mq;have Uh:=tg akH anM ali
 have aOy:=cv aa6 u64 jb mP;have aOz:=cv akI anN mK mQ;have adL:=cv akJ anO mL mR;have ao0:=cv akK anP ng mS
 have ao1:=tg SF anQ alj;have aOA:=cv akL anR nh nk;have aOB:=cv akM anS a70 nm;have adM:=cv akN anT ni nn
 have adN:=cv akO anU a72 np;clear Dh u8 alk Di Ld a9 fx Sd K6 ak6 Df K7 eX e1 Se K8 a12 iv Sf K9 ak7 Sg La iN iO Ff Lb ft fv Sh u16 ak8 Si TL fu fJ Sj TM fR gi Sk TN ak9 Sl TP a20 fw Sm TQ a21 fj Sn TR ala So TS fh fl Sp TT a24 fm Sq TU fG fK Sr TV a26 fL Ss TW alb St TX a28 gu Su TY fT fY Sv TZ gh fZ Sw T0 a31 gz Sx u32 m32 HE T1 eY e2 Sy T2 fi fo Dg T3 e7 e9 Sz T4 eZ eQ SA T5 alc SC T6 e0 fa SD T7 e8 fp SE T8 ald aaN ado jG jI aaO adp jn jq aaP adq kx kD aaQ adr kW kE aaR ads ale aaS adt a46 lF aaT adu ky kF aaU adv kz kG aaV adw a49 kH aaW adx alf aaX ady a51 kZ aaY adz kA kI aaZ adA a53 k0 aa0 adB ll k5 aa1 adC alg aa2 adD kB k6 aa3 adE kj j3 aa4 adF alh aa5 adG a59 k7 akE anJ mH mN akF anK mI mO akG anL mJ mq akH anM ali aa6 u64 jb mP akI anN mK mQ akJ anO mL mR akK anP ng mS SF anQ alj akL anR nh nk akM anS a70 nm akN anT ni nn akO anU a72 np;have A3:z26=0:=by have:=FQ.h.2.2.2;have:=y3.h.2.1;have:=DQ.h.2.1;have:=y4.h.2.1;have:=Iq.h.2.2.1;have:=BU.h;omega
 have GK:z31=0:=by have:=vN.h.2.2.2;have:=BU.h.2.2.2;have:=FR.h.2.1;have:=FT.h.2.2.1;have:=FU.h;omega
 have GL:bZ=0:=by have:=Io.h.2.1;have:=vN.h.2.1;have:=FU.h.2.2.2;have:=vS.h.2.1;have:=FV.h.2.2.1;have:=y5.h;omega
 have A4:dp=0:=by have:=FT.h.2.2.2;have:=BV.h.2.1;have:=DS.h.2.1;have:=BW.h.2.1;have:=Iu.h.2.2.1;have:=FW.h;omega
 have zy:z49=0:=by have:=FV.h.2.2.2;have:=FW.h.2.2.2;have:=FX.h.2.1;have:=xN.h.2.2.1;have:=FY.h;omega
 have GN:df=0:=by have:=y5.h.2.2.2;have:=FY.h.2.2.2;have:=y7.h.2.1;have:=FZ.h.2.2.1;have:=BX.h;omega
 have EF:dV=0:=by have:=xN.h.2.2.2;have:=F0.h.2.1;have:=DU.h.2.1;have:=F1.h.2.1;have:=Pb.h.2.2.1;have:=Ug.h;omega
 have EG:eu=0:=by have:=FZ.h.2.2.2;have:=Ug.h.2.2.2;have:=Uh.h.2.1;have:=adL.h.2.2.1;have:=ao0.h;omega
 have MC:z72=0:=by have:=BX.h.2.2.2;have:=ao0.h.2.2.2;have:=ao1.h.2.1;have:=adM.h.2.2.1;have:=adN.h;omega
 refine⟨?_,?_⟩
 ·simp only[Dc,aY,y1,D.bds,ai,jD,gq,hK,ab,and_true];clear A3 GK GL A4 zy GN EF EG MC;exact⟨by have:=BY.h;omega,by have:=BY.h;omega,by have:=DQ.h;omega,by have:=DQ.h;omega,by have:=DS.h;omega,by have:=DS.h;omega,by have:=DU.h;omega,by have:=DU.h;omega,by have:=Pb.h;omega,by have:=Pb.h;omega,by have:=adL.h;omega,by have:=adL.h;omega,by have:=adM.h;omega,by have:=adM.h;omega,by have:=adN.h;omega,by have:=adN.h;omega⟩
 ·simp only[cJ,yU,num,nL,qp,tK,pJ];rw[ab7,<-xO.h.2.2,<-y2.h.2.2,<-DP.h.2.2,<-Im.h.2.2,<-Ip.h.2.2,<-y4.h.2.2,<-FR.h.2.2,<-vS.h.2.2,<-Is.h.2.2,<-BW.h.2.2,<-FX.h.2.2,<-y7.h.2.2,<-Iw.h.2.2,<-F1.h.2.2,<-Uh.h.2.2,<-ao1.h.2.2]
  skip
  omega
def Wo (S:Nat->List Int->List Int->Prop) (K:List Int->List Int->Prop):Prop:=
 a7 λz0=>
 a7 λaF=>
 a7 λz2=>
 a7 λz3=>
 a7 λz4=>
 a7 λz5=>
 a7 λbC=>
 a7 λaX=>
 aB 0 15 ((1*z3+0)+0) wY λaK=>
 aB 0 15 ((1*z3+0)+0) wY λz9=>
 aB 0 15 ((16*z4+0)+0) a1 λa8=>
 aB 0 15 ((1*z4+0)+0) wY λaL=>
 aB 0 15 ((16*z5+0)+0) a1 λz12=>
 aB 0 15 ((1*z5+0)+0) wY λaq=>
 aB 0 15 ((16*bC+0)+0) a1 λax=>
 aB 0 15 ((1*bC+0)+0) wY λaT=>
 aB 0 15 ((16*aX+0)+0) a1 λbh=>
 aB 0 15 ((1*aX+0)+0) wY λaU=>
 aB 0 NX ((m3*z4+(iT*z9+(m2*a8+0)))+0) a1 λbd=>
 aB 0 NX ((m3*z5+(iT*aL+(m2*z12+0)))+0) a1 λbk=>
 bz ((m3*z5+(iT*aL+(m2*z12+(1*bd+(aa*bk+0)))))+0) a1 λz20=>
 aB 0 NX ((m3*bC+(iT*aq+(m2*ax+0)))+0) a1 λz21=>
 bz ((m3*bC+(iT*aq+(m2*ax+(1*bk+(1*z20+(aa*z21+0))))))+0) a1 λz22=>
 aB 0 NX ((m3*aX+(iT*aT+(m2*bh+0)))+0) a1 λbA=>
 bz ((m3*aX+(iT*aT+(m2*bh+(1*z21+(1*z22+(aa*bA+0))))))+0) a1 λz24=>
 aB 0 5 ((iT*aU+0)+0) a1 λbS=>
 bz ((iT*aU+(1*bA+(1*z24+(aa*bS+0))))+0) a1 λz26=>
 aB 0 NY ((ny*z4+(jw*z9+(nx*a8+0)))+0) a1 λbO=>
 bz ((ny*z4+(m3*z5+(jw*z9+(nx*a8+(iT*aL+(m2*z12+(1*bd+(aa*bk+(aa*z20+(aa*bO+0))))))))))+0) a1 λz28=>
 aB 0 NY ((ny*z5+(jw*aL+(nx*z12+0)))+0) a1 λbX=>
 bz ((ny*z5+(m3*bC+(jw*aL+(nx*z12+(iT*aq+(m2*ax+(1*bk+(1*z20+(aa*z21+(aa*z22+(aa*bX+0)))))))))))+0) a1 λb2=>
 bz ((ny*z5+(m3*bC+(jw*aL+(nx*z12+(iT*aq+(m2*ax+(1*bk+(1*z20+(aa*z21+(aa*z22+(1*bO+(1*z28+(aa*bX+(aa*b2+0))))))))))))))+0) a1 λz31=>
 aB 0 NY ((ny*bC+(jw*aq+(nx*ax+0)))+0) a1 λaS=>
 bz ((ny*bC+(m3*aX+(jw*aq+(nx*ax+(iT*aT+(m2*bh+(1*z21+(1*z22+(aa*bA+(aa*z24+(aa*aS+0)))))))))))+0) a1 λbL=>
 bz ((ny*bC+(m3*aX+(jw*aq+(nx*ax+(iT*aT+(m2*bh+(1*z21+(1*z22+(aa*bA+(aa*z24+(1*bX+(1*b2+(1*z31+(aa*aS+(aa*bL+0)))))))))))))))+0) a1 λbY=>
 aB 0 NY ((ny*aX+(jw*aT+(nx*bh+0)))+0) a1 λbB=>
 bz ((ny*aX+(jw*aT+(nx*bh+(iT*aU+(1*bA+(1*z24+(aa*bS+(aa*z26+(aa*bB+0)))))))))+0) a1 λbZ=>
 bz ((ny*aX+(jw*aT+(nx*bh+(iT*aU+(1*bA+(1*z24+(aa*bS+(aa*z26+(1*aS+(1*bL+(1*bY+(aa*bB+(aa*bZ+0)))))))))))))+0) a1 λz37=>
 bz ((jw*aU+0)+0) a1 λcA=>
 bz ((jw*aU+(1*bS+(1*z26+(aa*cA+0))))+0) a1 λct=>
 bz ((jw*aU+(1*bS+(1*z26+(1*bB+(1*bZ+(1*z37+(aa*cA+(aa*ct+0))))))))+0) a1 λz40=>
 ((
  ((
   K [z0,aF,z2,z3,z4,z5,bC,aX] [((1*z0+0)+0),((1*aF+0)+0),((1*z2+0)+0),((1*z3+(RO*aK+0))+0),((m3*z4+(iT*z9+(m2*a8+(aa*bd+0))))+0),((ny*z4+(m3*z5+(jw*z9+(nx*a8+(iT*aL+(m2*z12+(1*bd+(aa*bk+(aa*z20+(aa*bO+(aa*z28+0)))))))))))+0),((ny*z5+(m3*bC+(jw*aL+(nx*z12+(iT*aq+(m2*ax+(1*bk+(1*z20+(aa*z21+(aa*z22+(1*bO+(1*z28+(aa*bX+(aa*b2+(aa*z31+0)))))))))))))))+0),((ny*bC+(m3*aX+(jw*aq+(nx*ax+(iT*aT+(m2*bh+(1*z21+(1*z22+(aa*bA+(aa*z24+(1*bX+(1*b2+(1*z31+(aa*aS+(aa*bL+(aa*bY+0))))))))))))))))+0),((ny*aX+(jw*aT+(nx*bh+(iT*aU+(1*bA+(1*z24+(aa*bS+(aa*z26+(1*aS+(1*bL+(1*bY+(aa*bB+(aa*bZ+(aa*z37+0))))))))))))))+0),((jw*aU+(1*bS+(1*z26+(1*bB+(1*bZ+(1*z37+(aa*cA+(aa*ct+(aa*z40+0)))))))))+0),((1*cA+(1*ct+(1*z40+0)))+0),(0+0)]
  )/\(
   K [z0,aF,z2,z3,z4,z5,bC,aX] [((1*z0+0)+0),((1*aF+0)+0),((1*z2+0)+0),((1*z3+(RO*aK+0))+0),((m3*z4+(iT*z9+(m2*a8+(aa*bd+0))))+0),((ny*z4+(m3*z5+(jw*z9+(nx*a8+(iT*aL+(m2*z12+(1*bd+(aa*bk+(aa*z20+(aa*bO+(aa*z28+0)))))))))))+0),((ny*z5+(m3*bC+(jw*aL+(nx*z12+(iT*aq+(m2*ax+(1*bk+(1*z20+(aa*z21+(aa*z22+(1*bO+(1*z28+(aa*bX+(aa*b2+(aa*z31+0)))))))))))))))+0),((ny*bC+(m3*aX+(jw*aq+(nx*ax+(iT*aT+(m2*bh+(1*z21+(1*z22+(aa*bA+(aa*z24+(1*bX+(1*b2+(1*z31+(aa*aS+(aa*bL+(aa*bY+0))))))))))))))))+0),((ny*aX+(jw*aT+(nx*bh+(iT*aU+(1*bA+(1*z24+(aa*bS+(aa*z26+(1*aS+(1*bL+(1*bY+(aa*bB+(aa*bZ+(aa*z37+0))))))))))))))+0),((jw*aU+(1*bS+(1*z26+(1*bB+(1*bZ+(1*z37+(aa*cA+(aa*ct+(aa*z40+0)))))))))+0),((1*cA+(1*ct+(1*z40+0)))+0),(0+0)]
  ))
 )/\(
  K [z0,aF,z2,z3,z4,z5,bC,aX] [((1*z0+0)+0),((1*aF+0)+0),((1*z2+0)+0),((1*z3+(RO*aK+0))+0),((m3*z4+(iT*z9+(m2*a8+(aa*bd+0))))+0),((ny*z4+(m3*z5+(jw*z9+(nx*a8+(iT*aL+(m2*z12+(1*bd+(aa*bk+(aa*z20+(aa*bO+(aa*z28+0)))))))))))+0),((ny*z5+(m3*bC+(jw*aL+(nx*z12+(iT*aq+(m2*ax+(1*bk+(1*z20+(aa*z21+(aa*z22+(1*bO+(1*z28+(aa*bX+(aa*b2+(aa*z31+0)))))))))))))))+0),((ny*bC+(m3*aX+(jw*aq+(nx*ax+(iT*aT+(m2*bh+(1*z21+(1*z22+(aa*bA+(aa*z24+(1*bX+(1*b2+(1*z31+(aa*aS+(aa*bL+(aa*bY+0))))))))))))))))+0),((ny*aX+(jw*aT+(nx*bh+(iT*aU+(1*bA+(1*z24+(aa*bS+(aa*z26+(1*aS+(1*bL+(1*bY+(aa*bB+(aa*bZ+(aa*z37+0))))))))))))))+0),((jw*aU+(1*bS+(1*z26+(1*bB+(1*bZ+(1*z37+(aa*cA+(aa*ct+(aa*z40+0)))))))))+0),((1*cA+(1*ct+(1*z40+0)))+0),(0+0)]
 ))
theorem aBu:Wo cJ λzs rs=>ab (aY C4.res) rs/\cJ 35 zs rs:=by
 simp(maxSteps:=4000000) only[Wo,a7,aB,bz,aa,a1,m2,nx,RO,wY,NX,m3,iT,NY,ny,jw];simp only[xV,xU,Cf];intro z0 tt vq aF l1 oR z2 l2 sR z3 oG BQ z4 w3 Lc z5 yE T9 bC akD Ua aX HF Ub aK Dh u8 jH jJ z9 Di Ld a9 fx a8 Sd K6 iA iq aL Df K7 eX e1 z12 Se K8 a12 iv aq Sf K9 fF fI ax Sg La iN iO aT Ff Lb ft fv bh Sh u16 jm jo aU Si TL fu fJ bd Sj TM fR gi bk Sk TN fS fW z20 Sl TP a20 fw z21 Sm TQ a21 fj z22 Sn TR a22 fk bA So TS fh fl z24 Sp TT a24 fm bS Sq TU fG fK z26 Sr TV a26 fL bO Ss TW fH fX z28 St TX a28 gu bX Su TY fT fY b2 Sv TZ gh fZ z31 Sw T0 a31 gz aS Sx u32 c7 ga bL HE T1 eY e2 bY Sy T2 fi fo bB Dg T3 e7 e9 bZ Sz T4 eZ eQ z37 SA T5 a37 fM cA SC T6 e0 fa ct SD T7 e8 fp z40 SE T8 a40 gA;have qF:aK=z9:=Ij (by decide) jH jJ a9 fx;have pV:a8=aL:=TA iA iq eX e1;have Ew:z12=aq:=TA a12 iv fF fI;have zx:ax=aT:=TA iN iO ft fv;have nr:bh=aU:=TA jm jo fu fJ;subst qF;subst pV;subst Ew;subst zx;subst nr;refine⟨⟨?_,?_⟩,?_⟩<;>
 ·simp only[C4,aY,ch,y1,D.bds,ai,jD,gq,hK,ab,and_true,cJ,vm,num,nL,qp,tK,pJ];have ak:(z0+18446744073709551616*(aF+18446744073709551616*(z2+18446744073709551616*(z3+18446744073709551616*(z4+18446744073709551616*(z5+18446744073709551616*(bC+18446744073709551616*(aX+18446744073709551616*0))))))))/7237005577332262213973186563042994240829374041602535252466099000494570602496=aK+16*(z4+18446744073709551616*(z5+18446744073709551616*(bC+18446744073709551616*aX))):=by
   clear fR gi fS fW a20 fw a21 fj a22 fk fh fl a24 fm fG fK a26 fL fH fX a28 gu fT fY gh fZ a31 gz c7 ga eY e2 fi fo e7 e9 eZ eQ a37 fM e0 fa e8 fp a40 gA;omega
  refine⟨⟨tt,vq,l1,oR,l2,sR,by clear ak eX e1 fF fI ft fv fu fJ fR gi fS fW a20 fw a21 fj a22 fk fh fl a24 fm fG fK a26 fL fH fX a28 gu fT fY gh fZ a31 gz c7 ga eY e2 fi fo e7 e9 eZ eQ a37 fM e0 fa e8 fp a40 gA;omega,by clear ak eX e1 fF fI ft fv fu fJ fR gi fS fW a20 fw a21 fj a22 fk fh fl a24 fm fG fK a26 fL fH fX a28 gu fT fY gh fZ a31 gz c7 ga eY e2 fi fo e7 e9 eZ eQ a37 fM e0 fa e8 fp a40 gA;omega,by clear ak a9 fx eX e1 fF fI ft fv fu fJ fS fW a20 fw a21 fj a22 fk fh fl a24 fm fG fK a26 fL fH fX a28 gu fT fY gh fZ a31 gz c7 ga eY e2 fi fo e7 e9 eZ eQ a37 fM e0 fa e8 fp a40 gA;omega,by clear ak a9 fx eX e1 fF fI ft fv fu fJ fS fW a20 fw a21 fj a22 fk fh fl a24 fm fG fK a26 fL fH fX a28 gu fT fY gh fZ a31 gz c7 ga eY e2 fi fo e7 e9 eZ eQ a37 fM e0 fa e8 fp a40 gA;omega,by clear ak a9 fx eX e1 fF fI ft fv fu fJ fR gi fS fW a20 fw a21 fj a22 fk fh fl a24 fm fG fK a26 fL fH fX fT fY gh fZ a31 gz c7 ga eY e2 fi fo e7 e9 eZ eQ a37 fM e0 fa e8 fp a40 gA;omega,by clear ak a9 fx eX e1 fF fI ft fv fu fJ fR gi fS fW a20 fw a21 fj a22 fk fh fl a24 fm fG fK a26 fL fH fX fT fY gh fZ a31 gz c7 ga eY e2 fi fo e7 e9 eZ eQ a37 fM e0 fa e8 fp a40 gA;omega,by clear ak a9 fx eX e1 fF fI ft fv fu fJ fR gi fS fW a20 fw a21 fj a22 fk fh fl a24 fm fG fK a26 fL fH fX a28 gu fT fY gh fZ c7 ga eY e2 fi fo e7 e9 eZ eQ a37 fM e0 fa e8 fp a40 gA;omega,by clear ak a9 fx eX e1 fF fI ft fv fu fJ fR gi fS fW a20 fw a21 fj a22 fk fh fl a24 fm fG fK a26 fL fH fX a28 gu fT fY gh fZ c7 ga eY e2 fi fo e7 e9 eZ eQ a37 fM e0 fa e8 fp a40 gA;omega,by clear ak a9 fx eX e1 fF fI ft fv fu fJ fR gi fS fW a20 fw a21 fj a22 fk fh fl a24 fm fG fK a26 fL fH fX a28 gu fT fY gh fZ a31 gz c7 ga eY e2 e7 e9 eZ eQ a37 fM e0 fa e8 fp a40 gA;omega,by clear ak a9 fx eX e1 fF fI ft fv fu fJ fR gi fS fW a20 fw a21 fj a22 fk fh fl a24 fm fG fK a26 fL fH fX a28 gu fT fY gh fZ a31 gz c7 ga eY e2 e7 e9 eZ eQ a37 fM e0 fa e8 fp a40 gA;omega,by clear ak a9 fx eX e1 fF fI ft fv fu fJ fR gi fS fW a20 fw a21 fj a22 fk fh fl a24 fm fG fK a26 fL fH fX a28 gu fT fY gh fZ a31 gz c7 ga eY e2 fi fo e7 e9 eZ eQ e0 fa e8 fp a40 gA;omega,by clear ak a9 fx eX e1 fF fI ft fv fu fJ fR gi fS fW a20 fw a21 fj a22 fk fh fl a24 fm fG fK a26 fL fH fX a28 gu fT fY gh fZ a31 gz c7 ga eY e2 fi fo e7 e9 eZ eQ e0 fa e8 fp a40 gA;omega,by clear ak a9 fx eX e1 fF fI ft fv fu fJ fR gi fS fW a20 fw a21 fj a22 fk fh fl a24 fm fG fK a26 fL fH fX a28 gu fT fY gh fZ a31 gz c7 ga eY e2 fi fo e7 e9 eZ eQ a37 fM e0 fa e8 fp;omega,by clear ak a9 fx eX e1 fF fI ft fv fu fJ fR gi fS fW a20 fw a21 fj a22 fk fh fl a24 fm fG fK a26 fL fH fX a28 gu fT fY gh fZ a31 gz c7 ga eY e2 fi fo e7 e9 eZ eQ a37 fM e0 fa e8 fp;omega,by clear ak a9 fx eX e1 fF fI ft fv fu fJ fR gi fS fW a20 fw a21 fj a22 fk fh fl a24 fm fG fK a26 fL fH fX a28 gu fT fY gh fZ a31 gz c7 ga eY e2 fi fo e7 e9 eZ eQ a37 fM e0 fa e8 fp a40 gA;omega,by clear ak a9 fx eX e1 fF fI ft fv fu fJ fR gi fS fW a20 fw a21 fj a22 fk fh fl a24 fm fG fK a26 fL fH fX a28 gu fT fY gh fZ a31 gz c7 ga eY e2 fi fo e7 e9 eZ eQ a37 fM e0 fa e8 fp a40 gA;omega,by decide,by decide⟩,?_,?_⟩
  ·rw[Int.emod_def,ak];clear ak a9 fx eX e1 fF fI ft fv fu fJ fR gi fS fW a20 fw a21 fj a22 fk fh fl a24 fm fG fK a26 fL fH fX a28 gu fT fY gh fZ a31 gz c7 ga eY e2 fi fo e7 e9 eZ eQ a37 fM e0 fa e8 fp a40 gA;omega
  ·rw[ak];clear ak a9 fx eX e1 fF fI ft fv fu fJ fR gi fS fW a20 fw a21 fj a22 fk fh fl a24 fm fG fK a26 fL fH fX a28 gu fT fY gh fZ a31 gz c7 ga eY e2 fi fo e7 e9 eZ eQ a37 fM e0 fa e8 fp a40 gA;omega
def Wp (S:Nat->List Int->List Int->Prop) (K:List Int->List Int->Prop):Prop:=
 ∀z0:Int,0<=z0->z0<=18446744073709551615->
 ∀aF:Int,0<=aF->aF<=18446744073709551615->
 ∀z2:Int,0<=z2->z2<=18446744073709551615->
 ∀z3:Int,0<=z3->z3<=18446744073709551615->
 ∀z4:Int,0<=z4->z4<=18446744073709551615->∀z5:Int,0<=z5->z5<=18446744073709551615->∀bC:Int,0<=bC->bC<=18446744073709551615->∀aX:Int,0<=aX->aX<=18446744073709551615->S 23 [((1*z0+0)+0),((1*aF+0)+0),((1*z2+0)+0),((1*z3+0)+0),(0+0),(0+0),(0+0),(0+0)] [z4,z5,bC,aX]->
 K [z0,aF,z2,z3] [((1*z4+0)+0),((1*z5+0)+0),((1*bC+0)+0),((1*aX+0)+0)]
theorem aBC:Wp cJ λzs rs=>ab (aY Da.res) rs/\cJ 25 zs rs:=by
 unfold Wp;simp(maxSteps:=4000000) only[xV,xU,Cf];intro z0 a0 fV aF b7 ca z2 a2 cc z3 a3 dm z4 a4 mm z5 a5 mn bC pL pM aX qx qy aH;simp(maxSteps:=2000000) only[cJ,uA,yQ,yR,r5,r6,uz,yU,vm,yP,Ag,uC,yT,uB,yS,xz,Af,xA,xB,yV,xC,nL,qp,tK,pJ,gD,hL]at aH;rw[azu]at aH;refine⟨?_,?_⟩
 ·simp only[Da,aY,ch,D.bds,ai,jD,gq,hK,ab,and_true];exact⟨a4,mm,a5,mn,pL,pM,qx,qy⟩
 ·exact aH
def Wy (S:Nat->List Int->List Int->Prop) (K:List Int->List Int->Prop):Prop:=
 a7 λz0=>
 a7 λaF=>
 a7 λz2=>
 a7 λz3=>
 a7 λz4=>
 a7 λz5=>
 a7 λbC=>
 a7 λaX=>
 a7 λaK=>a7 λz9=>a7 λa8=>a7 λaL=>a7 λz12=>a7 λaq=>a7 λax=>a7 λaT=>a7 λbh=>a7 λaU=>a7 λbd=>a7 λbk=>S 35 [((1*z0+0)+0),((1*aF+0)+0),((1*z2+0)+0),((1*z3+0)+0),((1*z4+0)+0),((1*z5+0)+0),((1*bC+0)+0),((1*aX+0)+0)] [aK,z9,a8,aL,z12,aq,ax,aT,bh,aU,bd,bk]->
 a7 λz20=>a7 λz21=>a7 λz22=>a7 λbA=>gp λz24=>S 24 [(0+0),(0+0),(0+0),(0+0),((1*aK+0)+0),((1*z9+0)+0),((1*a8+0)+0),((1*aL+0)+0)] [z20,z21,z22,bA,z24]->
 a7 λbS=>a7 λz26=>a7 λbO=>a7 λz28=>a7 λbX=>a7 λb2=>a7 λz31=>a7 λaS=>a7 λbL=>a7 λbY=>a7 λbB=>a7 λbZ=>S 35 [((1*z12+0)+0),((1*aq+0)+0),((1*ax+0)+0),((1*aT+0)+0),((1*bh+0)+0),((1*aU+0)+0),((1*bd+0)+0),((1*bk+0)+0)] [bS,z26,bO,z28,bX,b2,z31,aS,bL,bY,bB,bZ]->
 a7 λz37=>a7 λcA=>a7 λct=>a7 λz40=>gp λcq=>S 24 [((1*z20+0)+0),((1*z21+0)+0),((1*z22+0)+0),((1*bA+0)+0),(0+iT),(0+jw),(0+0),(0+wY)] [z37,cA,ct,z40,cq]->
 a7 λcw=>a7 λcN=>a7 λdp=>a7 λcH=>gp λz46=>S 29 [((1*z37+0)+0),((1*cA+0)+0),((1*ct+0)+0),((1*z40+0)+0),((1*bS+0)+0),((1*z26+0)+0),((1*bO+0)+0),((1*z28+0)+0)] [cw,cN,dp,cH,z46]->
 a7 λcE=>a7 λcQ=>a7 λz49=>a7 λc9=>a7 λz51=>a7 λcx=>a7 λz53=>a7 λdf=>a7 λdq=>a7 λdg=>a7 λcu=>a7 λdz=>S 35 [((1*bX+0)+0),((1*b2+0)+0),((1*z31+0)+0),((1*aS+0)+0),((1*bL+0)+0),((1*bY+0)+0),((1*bB+0)+0),((1*bZ+0)+0)] [cE,cQ,z49,c9,z51,cx,z53,df,dq,dg,cu,dz]->
 a7 λz59=>a7 λdJ=>a7 λdP=>a7 λdV=>gp λdr=>S 24 [((1*cw+0)+0),((1*cN+0)+0),((1*dp+0)+0),((1*cH+0)+0),((1*cE+0)+0),((1*cQ+0)+0),((1*z49+0)+0),((1*c9+0)+0)] [z59,dJ,dP,dV,dr]->
 a7 λed=>a7 λeG=>a7 λeD=>a7 λeu=>a7 λfb=>a7 λek=>a7 λz70=>a7 λfc=>a7 λz72=>a7 λeH=>a7 λgI=>a7 λz75=>S 35 [((1*z51+0)+0),((1*cx+0)+0),((1*z53+0)+0),((1*df+0)+0),((1*dq+0)+0),((1*dg+0)+0),((1*cu+0)+0),((1*dz+0)+0)] [ed,eG,eD,eu,fb,ek,z70,fc,z72,eH,gI,z75]->
 a7 λz76=>a7 λhX=>a7 λho=>a7 λhq=>gp λil=>S 24 [((1*z59+0)+0),((1*dJ+0)+0),((1*dP+0)+0),((1*dV+0)+0),(0+iT),(0+jw),(0+0),(0+wY)] [z76,hX,ho,hq,il]->
 a7 λj2=>a7 λji=>a7 λhZ=>a7 λjA=>gp λz85=>S 29 [((1*z76+0)+0),((1*hX+0)+0),((1*ho+0)+0),((1*hq+0)+0),((1*ed+0)+0),((1*eG+0)+0),((1*eD+0)+0),((1*eu+0)+0)] [j2,ji,hZ,jA,z85]->
 ∃(V6:List Int->Prop) (apR:List Int->Nat),V6 [((1*j2+0)+0),((1*ji+0)+0),((1*hZ+0)+0),((1*jA+0)+0)]/\(a7 λz87=>a7 λku=>a7 λjk=>a7 λkT=>V6 [z87,ku,jk,kT]->
  a7 λz91=>a7 λjB=>a7 λz93=>a7 λlj=>gp λmg=>S 29 [((1*z87+0)+0),((1*ku+0)+0),((1*jk+0)+0),((1*kT+0)+0),(0+iT),(0+jw),(0+0),(0+wY)] [z91,jB,z93,lj,mg]->
  (((decide (((1*mg+0)+0)=(0+1)))=true->
   K [z0,aF,z2,z3,z4,z5,bC,aX] [((1*z87+0)+0),((1*ku+0)+0),((1*jk+0)+0),((1*kT+0)+0)]
  )/\((decide (((1*mg+0)+0)=(0+1)))=false->
   (V6 [((1*z91+0)+0),((1*jB+0)+0),((1*z93+0)+0),((1*lj+0)+0)]/\apR [((1*z91+0)+0),((1*jB+0)+0),((1*z93+0)+0),((1*lj+0)+0)]<apR [z87,ku,jk,kT])
  ))
 )
theorem aBV:Wy cJ λzs rs=>ab (aY wZ.res) rs/\cJ 23 zs rs:=by
 simp(maxSteps:=4000000) only[Wy,a7,gp,wY,iT,jw];simp(maxSteps:=4000000) only[xV,xU,Cf];intro z0 a0 fV aF b7 ca z2 a2 cc z3 a3 dm z4 a4 mm z5 a5 mn bC pL pM aX qx qy aK jH jJ z9 a9 fx a8 iA iq aL eX e1 z12 a12 iv aq fF fI ax iN iO aT ft fv bh jm jo aU fu fJ bd fR gi bk fS fW aH z20 a20 fw z21 a21 fj z22 a22 fk bA fh fl z24 a24 fm s1 bS fG fK z26 a26 fL bO fH fX z28 a28 gu bX fT fY b2 gh fZ z31 a31 gz aS c7 ga bL eY e2 bY fi fo bB e7 e9 bZ eZ eQ s2 z37 a37 fM cA e0 fa ct e8 fp z40 a40 gA cq jG jI bn cw jn jq cN kx kD dp kW kE cH lD lS z46 a46 lF cz cE ky kF cQ kz kG z49 a49 kH c9 lE lT z51 a51 kZ cx kA kI z53 a53 k0 df ll k5 dq lQ lU dg kB k6 cu kj j3 dz lR mo dO z59 a59 k7 dJ mH mN dP mI mO dV mJ mq dr pa pN ec ed jb mP eG mK mQ eD mL mR eu ng mS fb pb pO ek nh nk z70 a70 nm fc ni nn z72 a72 np eH zk wD gI zl zp z75 a75 zq eK z76 a76 uQ hX x4 ya ho x5 yb hq x6 yc il AS AX gy j2 x7 yd ji wu wE hZ wv wF jA wx wG z85 a85 zr gX;simp(maxSteps:=2000000) only[cJ,uA,yQ,yR,r5,r6,uz,yU,vm,yP,Ag,uC,yT,uB,yS,xz,Af,xA,xB,yV,xC,nL,qp,tK,pJ,gD,hL]at aH s1 s2 bn cz dO ec eK gy gX;simp only[abF,azt]at*;have SN:=m5 a20 fw a21 fj a22 fk fh fl;have aby:=m5 a37 fM e0 fa e8 fp a40 gA;have alE:=m5 jn jq kx kD kW kE lD lS;have alF:=m5 a59 k7 mH mN mI mO mJ mq;have alG:=m5 a76 uQ x4 ya x5 yb x6 yc;have alH:=m5 x7 yd wu wE wv wF wx wG;have abA:=m5 jH jJ a9 fx iA iq eX e1;have alD:=m5 fG fK a26 fL fH fX a28 gu;have azh:=m5 ky kF kz kG a49 kH lE lT;have azi:=m5 jb mP mK mQ mL mR ng mS;have gS:=azs a0 fV b7 ca a2 cc a3 dm a4 mm a5 mn pL pM qx qy;obtain⟨f0,g0⟩:=aH;obtain⟨f2,g2⟩:=s2;obtain⟨f5,g5⟩:=dO;obtain⟨f7,g7⟩:=eK;refine⟨λl=>(ad l-ad [z0,aF,z2,z3,z4,z5,bC,aX])% 7237005577332262213973186563042994240857116359379907606001950938285454250989=0,λl=>(ad l).toNat,?_,?_⟩
 ·show(ad _-ad _)% 7237005577332262213973186563042994240857116359379907606001950938285454250989=0;clear a0 fV b7 ca a2 cc a3 dm a4 mm a5 mn pL pM qx qy jH jJ a9 fx iA iq eX e1 a12 iv fF fI iN iO ft fv jm jo fu fJ fR gi fS fW a20 fw a21 fj a22 fk fh fl fG fK a26 fL fH fX a28 gu fT fY gh fZ a31 gz c7 ga eY e2 fi fo e7 e9 eZ eQ a37 fM e0 fa e8 fp a40 gA jn jq kx kD kW kE lD lS ky kF kz kG a49 kH lE lT a51 kZ kA kI a53 k0 ll k5 lQ lU kB k6 kj j3 lR mo a59 k7 mH mN mI mO mJ mq jb mP mK mQ mL mR ng mS pb pO nh nk a70 nm ni nn a72 np zk wD zl zp a75 zq a76 uQ x4 ya x5 yb x6 yc x7 yd wu wE wv wF wx wG;generalize ad [aK,z9,a8,aL]=aqU at*;generalize ad [z20,z21,z22,bA]=aJ6 at*;generalize ad [bS,z26,bO,z28]=aJ7 at*;generalize ad [z37,cA,ct,z40]=aqT at*;generalize ad [cw,cN,dp,cH]=aKa at*;generalize ad [cE,cQ,z49,c9]=aKb at*;generalize ad [z59,dJ,dP,dV]=aKd at*;generalize ad [ed,eG,eD,eu]=aKe at*;generalize ad [z76,hX,ho,hq]=aKg at*;generalize ad [j2,ji,hZ,jA]=aKh at*;generalize ad [z0,aF,z2,z3,z4,z5,bC,aX]=uO at*;generalize ad [z12,aq,ax,aT,bh,aU,bd,bk]=aJ2 at*;generalize ad [bX,b2,z31,aS,bL,bY,bB,bZ]=aJ8 at*;generalize ad [z51,cx,z53,df,dq,dg,cu,dz]=aKc at*;generalize ad [fb,ek,z70,fc,z72,eH,gI,z75]=aKf at*;exact aEi gS f0 g0 f2 g2 f5 g5 f7 g7 (by simpa using s1) bn cz ec gy gX a24 fm jG jI a46 lF pa pN AS AX a85 zr SN aby alE alF alG alH
 ·clear jH jJ a9 fx iA iq eX e1 a12 iv fF fI iN iO ft fv jm jo fu fJ fR gi fS fW a20 fw a21 fj a22 fk fh fl fG fK a26 fL fH fX a28 gu fT fY gh fZ a31 gz c7 ga eY e2 fi fo e7 e9 eZ eQ a37 fM e0 fa e8 fp a40 gA jn jq kx kD kW kE lD lS ky kF kz kG a49 kH lE lT a51 kZ kA kI a53 k0 ll k5 lQ lU kB k6 kj j3 lR mo a59 k7 mH mN mI mO mJ mq jb mP mK mQ mL mR ng mS pb pO nh nk a70 nm ni nn a72 np zk wD zl zp a75 zq a76 uQ x4 ya x5 yb x6 yc x7 yd wu wE wv wF wx wG;intro z87 a87 El ku Ee Em jk Ef En kT Eg Eo eg z91 a91 Gr jB Gj Gs z93 a93 Gt lj Gk Gu mg IX I3 s;simp(maxSteps:=2000000) only[cJ,uA,yQ,yR,r5,r6,uz,yU,vm,yP,Ag,uC,yT,uB,yS,xz,Af,xA,xB,yV,xC,nL,qp,tK,pJ,gD,hL]at s;simp only[abF]at s;have aNQ:=m5 a87 El Ee Em Ef En Eg Eo;have aNR:=m5 a91 Gr Gj Gs a93 Gt Gk Gu;clear s1 bn cz ec gy gX f0 g0 f2 g2 f5 g5 f7 g7 abA SN alD aby alE azh alF azi alG alH a0 fV b7 ca a2 cc a3 dm a4 mm a5 mn pL pM qx qy;refine⟨λh=>⟨?_,?_⟩,λh=>⟨?_,?_⟩⟩
  ·simp only[wZ,aY,ch,D.bds,ai,jD,gq,hK,ab,and_true];exact⟨a87,El,Ee,Em,Ef,En,Eg,Eo⟩
  ·simp only[decide_eq_true_eq]at h;simp only[cJ,uA,yQ,yR,r5,r6,uz,yU,vm,yP,Ag,uC,yT,uB,yS,xz,Af,xA,xB,yV,xC];generalize ad [z87,ku,jk,kT]=ae4 at*;generalize ad [z91,jB,z93,lj]=ae5 at*;generalize ad [z0,aF,z2,z3,z4,z5,bC,aX]=uO at*;subst h;omega
  ·simp only[decide_eq_false_iff_not]at h;generalize ad [z87,ku,jk,kT]=ae4 at*;generalize ad [z91,jB,z93,lj]=ae5 at*;generalize ad [z0,aF,z2,z3,z4,z5,bC,aX]=uO at*;omega
  ·simp only[decide_eq_false_iff_not]at h;show(ad _).toNat<(ad _).toNat;generalize ad [z87,ku,jk,kT]=ae4 at*;generalize ad [z91,jB,z93,lj]=ae5 at*;generalize ad [z0,aF,z2,z3,z4,z5,bC,aX]=uO at*;omega
def Wn (S:Nat->List Int->List Int->Prop) (K:List Int->List Int->Prop):Prop:=
 av λz0=>
 av λaF=>
 av λz2=>
 av λz3=>
 av λz4=>
 av λz5=>
 av λbC=>
 av λaX=>
 av λaK=>
 av λz9=>
 av λa8=>
 av λaL=>
 av λz12=>
 av λaq=>
 av λax=>
 av λaT=>
 av λbh=>
 av λaU=>
 av λbd=>
 av λbk=>
 av λz20=>
 av λz21=>
 av λz22=>
 av λbA=>
 av λz24=>
 av λbS=>
 av λz26=>
 av λbO=>
 av λz28=>
 av λbX=>
 av λb2=>
 av λz31=>
 aB 0 31 ((1*z0+0)+0) 8 λaS=>
 aB 0 3 ((1*z31+0)+0) 64 λbL=>
 K [z0,aF,z2,z3,z4,z5,bC,aX,aK,z9,a8,aL,z12,aq,ax,aT,bh,aU,bd,bk,z20,z21,z22,bA,z24,bS,z26,bO,z28,bX,b2,z31] [((8*aS+0)+0),((1*aF+0)+0),((1*z2+0)+0),((1*z3+0)+0),((1*z4+0)+0),((1*z5+0)+0),((1*bC+0)+0),((1*aX+0)+0),((1*aK+0)+0),((1*z9+0)+0),((1*a8+0)+0),((1*aL+0)+0),((1*z12+0)+0),((1*aq+0)+0),((1*ax+0)+0),((1*aT+0)+0),((1*bh+0)+0),((1*aU+0)+0),((1*bd+0)+0),((1*bk+0)+0),((1*z20+0)+0),((1*z21+0)+0),((1*z22+0)+0),((1*bA+0)+0),((1*z24+0)+0),((1*bS+0)+0),((1*z26+0)+0),((1*bO+0)+0),((1*z28+0)+0),((1*bX+0)+0),((1*b2+0)+0),((1*z31+((-64)*bL+0))+64)]
theorem aBg:Wn cJ λzs rs=>ab (aY Fb.res) rs/\cJ 14 zs rs:=by
 simp(maxSteps:=4000000) only[Wn,av,aB];simp only[xV,xU,Cf];intros;refine⟨?_,?_⟩
 ·simp only[Fb,aY,gN,D.bds,ai,jD,gq,hK,ab,and_true];omega
 ·simp only[cJ,xz,hL,gD,nL,qp,tK,pJ,jD,gq,qn,and_true,true_and];omega
def Wz (S:Nat->List Int->List Int->Prop) (K:List Int->List Int->Prop):Prop:=
 av λz0=>
 av λaF=>
 av λz2=>
 av λz3=>
 av λz4=>
 av λz5=>
 av λbC=>
 av λaX=>
 av λaK=>
 av λz9=>
 av λa8=>
 av λaL=>
 av λz12=>
 av λaq=>
 av λax=>
 av λaT=>
 av λbh=>
 av λaU=>
 av λbd=>
 av λbk=>
 av λz20=>
 av λz21=>
 av λz22=>
 av λbA=>
 av λz24=>
 av λbS=>
 av λz26=>
 av λbO=>
 av λz28=>
 av λbX=>
 av λb2=>
 av λz31=>
 a7 λaS=>a7 λbL=>a7 λbY=>a7 λbB=>S 22 [((1*z0+0)+0),((1*aF+0)+0),((1*z2+0)+0),((1*z3+0)+0),((1*z4+0)+0),((1*z5+0)+0),((1*bC+0)+0),((1*aX+0)+0),((1*aK+0)+0),((1*z9+0)+0),((1*a8+0)+0),((1*aL+0)+0),((1*z12+0)+0),((1*aq+0)+0),((1*ax+0)+0),((1*aT+0)+0),((1*bh+0)+0),((1*aU+0)+0),((1*bd+0)+0),((1*bk+0)+0),((1*z20+0)+0),((1*z21+0)+0),((1*z22+0)+0),((1*bA+0)+0),((1*z24+0)+0),((1*bS+0)+0),((1*z26+0)+0),((1*bO+0)+0),((1*z28+0)+0),((1*bX+0)+0),((1*b2+0)+0),((1*z31+0)+0)] [aS,bL,bY,bB]->
 a7 λbZ=>a7 λz37=>a7 λcA=>a7 λct=>gp λz40=>S 29 [((1*aS+0)+0),((1*bL+0)+0),((1*bY+0)+0),((1*bB+0)+0),(0+iT),(0+jw),(0+0),(0+wY)] [bZ,z37,cA,ct,z40]->
 K [z0,aF,z2,z3,z4,z5,bC,aX,aK,z9,a8,aL,z12,aq,ax,aT,bh,aU,bd,bk,z20,z21,z22,bA,z24,bS,z26,bO,z28,bX,b2,z31] [(cond (decide (((1*z40+0)+0)=(0+1))) 1 0)]
theorem ab3:Wz cJ λzs rs=>ab (aY nz.res) rs/\cJ 13 zs rs:=by
 simp(maxSteps:=4000000) only[Wz,av,a7,gp,wY,iT,jw];simp(maxSteps:=4000000) only[xV,xU,Cf];intro z0 a0 fV aF b7 ca z2 a2 cc z3 a3 dm z4 a4 mm z5 a5 mn bC pL pM aX qx qy aK jH jJ z9 a9 fx a8 iA iq aL eX e1 z12 a12 iv aq fF fI ax iN iO aT ft fv bh jm jo aU fu fJ bd fR gi bk fS fW z20 a20 fw z21 a21 fj z22 a22 fk bA fh fl z24 a24 fm bS fG fK z26 a26 fL bO fH fX z28 a28 gu bX fT fY b2 gh fZ z31 a31 gz aS c7 ga bL eY e2 bY fi fo bB e7 e9 aH bZ eZ eQ z37 a37 fM cA e0 fa ct e8 fp z40 a40 gA s1;simp(maxSteps:=2000000) only[cJ,uA,yQ,yR,r5,r6,uz,yU,vm,yP,Ag,uC,yT,uB,yS,xz,Af,xA,xB,yV,xC,nL,qp,tK,pJ,gD,hL]at aH s1;have gS:ab (ai 0 255 32) [z0,aF,z2,z3,z4,z5,bC,aX,aK,z9,a8,aL,z12,aq,ax,aT,bh,aU,bd,bk,z20,z21,z22,bA,z24,bS,z26,bO,z28,bX,b2,z31]:=by
  simp only[ai,ab,and_true];exact⟨a0,fV,b7,ca,a2,cc,a3,dm,a4,mm,a5,mn,pL,pM,qx,qy,jH,jJ,a9,fx,iA,iq,eX,e1,a12,iv,fF,fI,iN,iO,ft,fv,jm,jo,fu,fJ,fR,gi,fS,fW,a20,fw,a21,fj,a22,fk,fh,fl,a24,fm,fG,fK,a26,fL,fH,fX,a28,gu,fT,fY,gh,fZ,a31,gz⟩
 have m0:=alJ gS;have Oe:=m5 c7 ga eY e2 fi fo e7 e9;have aNO:=m5 eZ eQ a37 fM e0 fa e8 fp;rw[abF,aH]at s1;rw[aH]at Oe;refine⟨?_,?_⟩
 ·by_cases h:z40=1<;>simp[h,nz,aY,D.bds,ab]
 ·simp only[cJ,uA,yQ,yR,r5,r6,uz,yU,vm,yP,Ag,uC,yT,uB,yS,xz,Af,xA,xB,yV,xC,qn,and_true];clear gS m0 aH a0 fV b7 ca a2 cc a3 dm a4 mm a5 mn pL pM qx qy jH jJ a9 fx iA iq eX e1 a12 iv fF fI iN iO ft fv jm jo fu fJ fR gi fS fW a20 fw a21 fj a22 fk fh fl a24 fm fG fK a26 fL fH fX a28 gu fT fY gh fZ a31 gz c7 ga eY e2 fi fo e7 e9 eZ eQ a37 fM e0 fa e8 fp;generalize nb [z0,aF,z2,z3,z4,z5,bC,aX,aK,z9,a8,aL,z12,aq,ax,aT,bh,aU,bd,bk,z20,z21,z22,bA,z24,bS,z26,bO,z28,bX,b2,z31]=A at*;generalize ad [bZ,z37,cA,ct]=N at*;by_cases h:z40=1
  ·subst h;simp;omega
  ·simp[h];omega
def Wx (S:Nat->List Int->List Int->Prop) (K:List Int->List Int->Prop):Prop:=
 av λz0=>
 av λaF=>
 av λz2=>
 av λz3=>
 av λz4=>
 av λz5=>
 av λbC=>
 av λaX=>
 av λaK=>
 av λz9=>
 av λa8=>
 av λaL=>
 av λz12=>
 av λaq=>
 av λax=>
 av λaT=>
 av λbh=>
 av λaU=>
 av λbd=>
 av λbk=>
 av λz20=>
 av λz21=>
 av λz22=>
 av λbA=>
 av λz24=>
 av λbS=>
 av λz26=>
 av λbO=>
 av λz28=>
 av λbX=>
 av λb2=>
 av λz31=>
 av λaS=>
 av λbL=>
 av λbY=>
 av λbB=>
 av λbZ=>
 av λz37=>
 av λcA=>
 av λct=>
 av λz40=>
 av λcq=>
 av λcw=>
 av λcN=>
 av λdp=>
 av λcH=>
 av λz46=>
 av λcE=>
 av λcQ=>
 av λz49=>
 av λc9=>
 av λz51=>
 av λcx=>
 av λz53=>
 av λdf=>
 av λdq=>
 av λdg=>
 av λcu=>
 av λdz=>
 av λz59=>
 av λdJ=>
 av λdP=>
 av λdV=>
 av λdr=>
 a7 λed=>a7 λeG=>a7 λeD=>a7 λeu=>S 122 [((1*z0+0)+0),((1*aF+0)+0),((1*z2+0)+0),((1*z3+0)+0),((1*z4+0)+0),((1*z5+0)+0),((1*bC+0)+0),((1*aX+0)+0),((1*aK+0)+0),((1*z9+0)+0),((1*a8+0)+0),((1*aL+0)+0),((1*z12+0)+0),((1*aq+0)+0),((1*ax+0)+0),((1*aT+0)+0),((1*bh+0)+0),((1*aU+0)+0),((1*bd+0)+0),((1*bk+0)+0),((1*z20+0)+0),((1*z21+0)+0),((1*z22+0)+0),((1*bA+0)+0),((1*z24+0)+0),((1*bS+0)+0),((1*z26+0)+0),((1*bO+0)+0),((1*z28+0)+0),((1*bX+0)+0),((1*b2+0)+0),((1*z31+0)+0),((1*aS+0)+0),((1*bL+0)+0),((1*bY+0)+0),((1*bB+0)+0),((1*bZ+0)+0),((1*z37+0)+0),((1*cA+0)+0),((1*ct+0)+0),((1*z40+0)+0),((1*cq+0)+0),((1*cw+0)+0),((1*cN+0)+0),((1*dp+0)+0),((1*cH+0)+0),((1*z46+0)+0),((1*cE+0)+0),((1*cQ+0)+0),((1*z49+0)+0),((1*c9+0)+0),((1*z51+0)+0),((1*cx+0)+0),((1*z53+0)+0),((1*df+0)+0),((1*dq+0)+0),((1*dg+0)+0),((1*cu+0)+0),((1*dz+0)+0),((1*z59+0)+0),((1*dJ+0)+0),((1*dP+0)+0),((1*dV+0)+0),((1*dr+0)+0)] [ed,eG,eD,eu]->
 a7 λfb=>a7 λek=>a7 λz70=>a7 λfc=>S 222 [((1*z0+0)+0),((1*aF+0)+0),((1*z2+0)+0),((1*z3+0)+0),((1*z4+0)+0),((1*z5+0)+0),((1*bC+0)+0),((1*aX+0)+0),((1*aK+0)+0),((1*z9+0)+0),((1*a8+0)+0),((1*aL+0)+0),((1*z12+0)+0),((1*aq+0)+0),((1*ax+0)+0),((1*aT+0)+0),((1*bh+0)+0),((1*aU+0)+0),((1*bd+0)+0),((1*bk+0)+0),((1*z20+0)+0),((1*z21+0)+0),((1*z22+0)+0),((1*bA+0)+0),((1*z24+0)+0),((1*bS+0)+0),((1*z26+0)+0),((1*bO+0)+0),((1*z28+0)+0),((1*bX+0)+0),((1*b2+0)+0),((1*z31+0)+0),((1*aS+0)+0),((1*bL+0)+0),((1*bY+0)+0),((1*bB+0)+0),((1*bZ+0)+0),((1*z37+0)+0),((1*cA+0)+0),((1*ct+0)+0),((1*z40+0)+0),((1*cq+0)+0),((1*cw+0)+0),((1*cN+0)+0),((1*dp+0)+0),((1*cH+0)+0),((1*z46+0)+0),((1*cE+0)+0),((1*cQ+0)+0),((1*z49+0)+0),((1*c9+0)+0),((1*z51+0)+0),((1*cx+0)+0),((1*z53+0)+0),((1*df+0)+0),((1*dq+0)+0),((1*dg+0)+0),((1*cu+0)+0),((1*dz+0)+0),((1*z59+0)+0),((1*dJ+0)+0),((1*dP+0)+0),((1*dV+0)+0),((1*dr+0)+0)] [fb,ek,z70,fc]->
 a7 λz72=>a7 λeH=>a7 λgI=>a7 λz75=>S 23 [((1*ed+0)+0),((1*eG+0)+0),((1*eD+0)+0),((1*eu+0)+0),((1*fb+0)+0),((1*ek+0)+0),((1*z70+0)+0),((1*fc+0)+0)] [z72,eH,gI,z75]->
 av λz76=>av λhX=>av λho=>av λhq=>av λil=>av λj2=>av λji=>av λhZ=>av λjA=>av λz85=>av λjj=>av λz87=>av λku=>av λjk=>av λkT=>av λz91=>av λjB=>av λz93=>av λlj=>av λmg=>av λq9=>av λsT=>av λsc=>av λmC=>av λoT=>av λvW=>av λvX=>av λvY=>av λvZ=>av λz105=>av λv7=>av λz107=>S 26 [((1*z72+0)+0),((1*eH+0)+0),((1*gI+0)+0),((1*z75+0)+0)] [z76,hX,ho,hq,il,j2,ji,hZ,jA,z85,jj,z87,ku,jk,kT,z91,jB,z93,lj,mg,q9,sT,sc,mC,oT,vW,vX,vY,vZ,z105,v7,z107]->
 K [z0,aF,z2,z3,z4,z5,bC,aX,aK,z9,a8,aL,z12,aq,ax,aT,bh,aU,bd,bk,z20,z21,z22,bA,z24,bS,z26,bO,z28,bX,b2,z31,aS,bL,bY,bB,bZ,z37,cA,ct,z40,cq,cw,cN,dp,cH,z46,cE,cQ,z49,c9,z51,cx,z53,df,dq,dg,cu,dz,z59,dJ,dP,dV,dr] [((1*z76+0)+0),((1*hX+0)+0),((1*ho+0)+0),((1*hq+0)+0),((1*il+0)+0),((1*j2+0)+0),((1*ji+0)+0),((1*hZ+0)+0),((1*jA+0)+0),((1*z85+0)+0),((1*jj+0)+0),((1*z87+0)+0),((1*ku+0)+0),((1*jk+0)+0),((1*kT+0)+0),((1*z91+0)+0),((1*jB+0)+0),((1*z93+0)+0),((1*lj+0)+0),((1*mg+0)+0),((1*q9+0)+0),((1*sT+0)+0),((1*sc+0)+0),((1*mC+0)+0),((1*oT+0)+0),((1*vW+0)+0),((1*vX+0)+0),((1*vY+0)+0),((1*vZ+0)+0),((1*z105+0)+0),((1*v7+0)+0),((1*z107+0)+0)]
theorem ab2:Wx cJ λzs rs=>ab (aY n3.res) rs/\cJ 11 zs rs:=by
 simp(maxSteps:=4000000) only[Wx,av,a7];simp(maxSteps:=4000000) only[xV,xU,Cf];intro z0 a0 fV aF b7 ca z2 a2 cc z3 a3 dm z4 a4 mm z5 a5 mn bC pL pM aX qx qy aK jH jJ z9 a9 fx a8 iA iq aL eX e1 z12 a12 iv aq fF fI ax iN iO aT ft fv bh jm jo aU fu fJ bd fR gi bk fS fW z20 a20 fw z21 a21 fj z22 a22 fk bA fh fl z24 a24 fm bS fG fK z26 a26 fL bO fH fX z28 a28 gu bX fT fY b2 gh fZ z31 a31 gz aS c7 ga bL eY e2 bY fi fo bB e7 e9 bZ eZ eQ z37 a37 fM cA e0 fa ct e8 fp z40 a40 gA cq jG jI cw jn jq cN kx kD dp kW kE cH lD lS z46 a46 lF cE ky kF cQ kz kG z49 a49 kH c9 lE lT z51 a51 kZ cx kA kI z53 a53 k0 df ll k5 dq lQ lU dg kB k6 cu kj j3 dz lR mo z59 a59 k7 dJ mH mN dP mI mO dV mJ mq dr pa pN ed jb mP eG mK mQ eD mL mR eu ng mS aH fb pb pO ek nh nk z70 a70 nm fc ni nn s1 z72 a72 np eH zk wD gI zl zp z75 a75 zq s2 z76 a76 uQ hX x4 ya ho x5 yb hq x6 yc il AS AX j2 x7 yd ji wu wE hZ wv wF jA wx wG z85 a85 zr jj Cv Cy z87 a87 El ku Ee Em jk Ef En kT Eg Eo z91 a91 Gr jB Gj Gs z93 a93 Gt lj Gk Gu mg IX I3 q9 L5 L9 sT WK Xe sc WL Xf mC WM Xg oT WB W2 vW WC W4 vX WD W5 vY WE W6 vZ WG W7 z105 a105 W8 v7 WH W9 z107 a107 Xa bn;simp(maxSteps:=2000000) only[cJ,uA,yQ,yR,r5,r6,uz,yU,vm,yP,Ag,uC,yT,uB,yS,xz,Af,xA,xB,yV,xC,nL,qp,tK,pJ,gD,hL]at aH s1 s2 bn;refine⟨?_,?_⟩
 ·simp only[n3,aY,gN,D.bds,ai,jD,gq,hK,ab,and_true];exact⟨a76,uQ,x4,ya,x5,yb,x6,yc,AS,AX,x7,yd,wu,wE,wv,wF,wx,wG,a85,zr,Cv,Cy,a87,El,Ee,Em,Ef,En,Eg,Eo,a91,Gr,Gj,Gs,a93,Gt,Gk,Gu,IX,I3,L5,L9,WK,Xe,WL,Xf,WM,Xg,WB,W2,WC,W4,WD,W5,WE,W6,WG,W7,a105,W8,WH,W9,a107,Xa⟩
 ·simp only[cJ,uA,yQ,yR,r5,r6,uz,yU,vm,yP,Ag,uC,yT,uB,yS,xz,Af,xA,xB,yV,xC];rw[bn,s2];have az:ad [ed,eG,eD,eu,fb,ek,z70,fc]=ad [ed,eG,eD,eu]+115792089237316195423570985008687907853269984665640564039457584007913129639936*ad [fb,ek,z70,fc]:=by simp only[num];omega
  have aI:nb [z0,aF,z2,z3,z4,z5,bC,aX,aK,z9,a8,aL,z12,aq,ax,aT,bh,aU,bd,bk,z20,z21,z22,bA,z24,bS,z26,bO,z28,bX,b2,z31,aS,bL,bY,bB,bZ,z37,cA,ct,z40,cq,cw,cN,dp,cH,z46,cE,cQ,z49,c9,z51,cx,z53,df,dq,dg,cu,dz,z59,dJ,dP,dV,dr]=nb [z0,aF,z2,z3,z4,z5,bC,aX,aK,z9,a8,aL,z12,aq,ax,aT,bh,aU,bd,bk,z20,z21,z22,bA,z24,bS,z26,bO,z28,bX,b2,z31]+115792089237316195423570985008687907853269984665640564039457584007913129639936*nb [aS,bL,bY,bB,bZ,z37,cA,ct,z40,cq,cw,cN,dp,cH,z46,cE,cQ,z49,c9,z51,cx,z53,df,dq,dg,cu,dz,z59,dJ,dP,dV,dr]:=by simp only[num];omega
  rw[az,aI,aH,s1]
def Wu (S:Nat->List Int->List Int->Prop) (K:List Int->List Int->Prop):Prop:=
 av λz0=>
 av λaF=>
 av λz2=>
 av λz3=>
 av λz4=>
 av λz5=>
 av λbC=>
 av λaX=>
 av λaK=>
 av λz9=>
 av λa8=>
 av λaL=>
 av λz12=>
 av λaq=>
 av λax=>
 av λaT=>
 av λbh=>
 av λaU=>
 av λbd=>
 av λbk=>
 av λz20=>
 av λz21=>
 av λz22=>
 av λbA=>
 av λz24=>
 av λbS=>
 av λz26=>
 av λbO=>
 av λz28=>
 av λbX=>
 av λb2=>
 av λz31=>
 av λaS=>
 av λbL=>
 av λbY=>
 av λbB=>
 av λbZ=>
 av λz37=>
 av λcA=>
 av λct=>
 av λz40=>
 av λcq=>
 av λcw=>
 av λcN=>
 av λdp=>
 av λcH=>
 av λz46=>
 av λcE=>
 av λcQ=>
 av λz49=>
 av λc9=>
 av λz51=>
 av λcx=>
 av λz53=>
 av λdf=>
 av λdq=>
 av λdg=>
 av λcu=>
 av λdz=>
 av λz59=>
 av λdJ=>
 av λdP=>
 av λdV=>
 av λdr=>
 av λed=>
 av λeG=>
 av λeD=>
 av λeu=>
 av λfb=>
 av λek=>
 av λz70=>
 av λfc=>
 av λz72=>
 av λeH=>
 av λgI=>
 av λz75=>
 av λz76=>
 av λhX=>
 av λho=>
 av λhq=>
 av λil=>
 av λj2=>
 av λji=>
 av λhZ=>
 av λjA=>
 av λz85=>
 av λjj=>
 av λz87=>
 av λku=>
 av λjk=>
 av λkT=>
 av λz91=>
 av λjB=>
 av λz93=>
 av λlj=>
 av λmg=>
 a7 λq9=>a7 λsT=>a7 λsc=>a7 λmC=>S 22 [((1*z0+0)+0),((1*aF+0)+0),((1*z2+0)+0),((1*z3+0)+0),((1*z4+0)+0),((1*z5+0)+0),((1*bC+0)+0),((1*aX+0)+0),((1*aK+0)+0),((1*z9+0)+0),((1*a8+0)+0),((1*aL+0)+0),((1*z12+0)+0),((1*aq+0)+0),((1*ax+0)+0),((1*aT+0)+0),((1*bh+0)+0),((1*aU+0)+0),((1*bd+0)+0),((1*bk+0)+0),((1*z20+0)+0),((1*z21+0)+0),((1*z22+0)+0),((1*bA+0)+0),((1*z24+0)+0),((1*bS+0)+0),((1*z26+0)+0),((1*bO+0)+0),((1*z28+0)+0),((1*bX+0)+0),((1*b2+0)+0),((1*z31+0)+0)] [q9,sT,sc,mC]->
 a7 λoT=>a7 λvW=>a7 λvX=>a7 λvY=>S 22 [((1*aS+0)+0),((1*bL+0)+0),((1*bY+0)+0),((1*bB+0)+0),((1*bZ+0)+0),((1*z37+0)+0),((1*cA+0)+0),((1*ct+0)+0),((1*z40+0)+0),((1*cq+0)+0),((1*cw+0)+0),((1*cN+0)+0),((1*dp+0)+0),((1*cH+0)+0),((1*z46+0)+0),((1*cE+0)+0),((1*cQ+0)+0),((1*z49+0)+0),((1*c9+0)+0),((1*z51+0)+0),((1*cx+0)+0),((1*z53+0)+0),((1*df+0)+0),((1*dq+0)+0),((1*dg+0)+0),((1*cu+0)+0),((1*dz+0)+0),((1*z59+0)+0),((1*dJ+0)+0),((1*dP+0)+0),((1*dV+0)+0),((1*dr+0)+0)] [oT,vW,vX,vY]->
 a7 λvZ=>a7 λz105=>a7 λv7=>a7 λz107=>a7 λB0=>a7 λz109=>a7 λB1=>a7 λB2=>S 21 [((1*q9+0)+0),((1*sT+0)+0),((1*sc+0)+0),((1*mC+0)+0),((1*oT+0)+0),((1*vW+0)+0),((1*vX+0)+0),((1*vY+0)+0)] [vZ,z105,v7,z107,B0,z109,B1,B2]->
 a7 λAl=>a7 λAm=>a7 λv8=>a7 λwa=>S 23 [((1*vZ+0)+0),((1*z105+0)+0),((1*v7+0)+0),((1*z107+0)+0),((1*B0+0)+0),((1*z109+0)+0),((1*B1+0)+0),((1*B2+0)+0)] [Al,Am,v8,wa]->
 a7 λz116=>a7 λz117=>a7 λwc=>a7 λz119=>S 22 [((1*ed+0)+0),((1*eG+0)+0),((1*eD+0)+0),((1*eu+0)+0),((1*fb+0)+0),((1*ek+0)+0),((1*z70+0)+0),((1*fc+0)+0),((1*z72+0)+0),((1*eH+0)+0),((1*gI+0)+0),((1*z75+0)+0),((1*z76+0)+0),((1*hX+0)+0),((1*ho+0)+0),((1*hq+0)+0),((1*il+0)+0),((1*j2+0)+0),((1*ji+0)+0),((1*hZ+0)+0),((1*jA+0)+0),((1*z85+0)+0),((1*jj+0)+0),((1*z87+0)+0),((1*ku+0)+0),((1*jk+0)+0),((1*kT+0)+0),((1*z91+0)+0),((1*jB+0)+0),((1*z93+0)+0),((1*lj+0)+0),((1*mg+0)+0)] [z116,z117,wc,z119]->
 a7 λAn=>a7 λAo=>a7 λAp=>a7 λAq=>S 25 [((1*z116+0)+0),((1*z117+0)+0),((1*wc+0)+0),((1*z119+0)+0)] [An,Ao,Ap,Aq]->
 a7 λz124=>a7 λAr=>a7 λAs=>a7 λz127=>gp λDV=>S 24 [((1*Al+0)+0),((1*Am+0)+0),((1*v8+0)+0),((1*wa+0)+0),((1*An+0)+0),((1*Ao+0)+0),((1*Ap+0)+0),((1*Aq+0)+0)] [z124,Ar,As,z127,DV]->
 a7 λB3=>a7 λz130=>a7 λz131=>a7 λB4=>S 25 [((1*z124+0)+0),((1*Ar+0)+0),((1*As+0)+0),((1*z127+0)+0)] [B3,z130,z131,B4]->
 av λpC=>av λB5=>av λB6=>av λB7=>av λB8=>av λz138=>av λz139=>av λB9=>av λz141=>av λLm=>av λz143=>av λLn=>av λz145=>av λz146=>av λLo=>av λz148=>av λLp=>av λLq=>av λLr=>av λz152=>av λLs=>av λz154=>av λLt=>av λz156=>av λz157=>av λAt=>av λz159=>av λz160=>av λadQ=>av λz162=>av λod=>av λz164=>S 26 [((1*B3+0)+0),((1*z130+0)+0),((1*z131+0)+0),((1*B4+0)+0)] [pC,B5,B6,B7,B8,z138,z139,B9,z141,Lm,z143,Ln,z145,z146,Lo,z148,Lp,Lq,Lr,z152,Ls,z154,Lt,z156,z157,At,z159,z160,adQ,z162,od,z164]->
 K [z0,aF,z2,z3,z4,z5,bC,aX,aK,z9,a8,aL,z12,aq,ax,aT,bh,aU,bd,bk,z20,z21,z22,bA,z24,bS,z26,bO,z28,bX,b2,z31,aS,bL,bY,bB,bZ,z37,cA,ct,z40,cq,cw,cN,dp,cH,z46,cE,cQ,z49,c9,z51,cx,z53,df,dq,dg,cu,dz,z59,dJ,dP,dV,dr,ed,eG,eD,eu,fb,ek,z70,fc,z72,eH,gI,z75,z76,hX,ho,hq,il,j2,ji,hZ,jA,z85,jj,z87,ku,jk,kT,z91,jB,z93,lj,mg] [((1*pC+0)+0),((1*B5+0)+0),((1*B6+0)+0),((1*B7+0)+0),((1*B8+0)+0),((1*z138+0)+0),((1*z139+0)+0),((1*B9+0)+0),((1*z141+0)+0),((1*Lm+0)+0),((1*z143+0)+0),((1*Ln+0)+0),((1*z145+0)+0),((1*z146+0)+0),((1*Lo+0)+0),((1*z148+0)+0),((1*Lp+0)+0),((1*Lq+0)+0),((1*Lr+0)+0),((1*z152+0)+0),((1*Ls+0)+0),((1*z154+0)+0),((1*Lt+0)+0),((1*z156+0)+0),((1*z157+0)+0),((1*At+0)+0),((1*z159+0)+0),((1*z160+0)+0),((1*adQ+0)+0),((1*z162+0)+0),((1*od+0)+0),((1*z164+0)+0)]
theorem aBG:Wu cJ λzs rs=>ab (aY Fe.res) rs/\cJ 8 zs rs:=by
 simp(maxSteps:=4000000) only[Wu,av,a7,gp];simp(maxSteps:=4000000) only[xV,xU,Cf];intro z0 a0 fV aF b7 ca z2 a2 cc z3 a3 dm z4 a4 mm z5 a5 mn bC pL pM aX qx qy aK jH jJ z9 a9 fx a8 iA iq aL eX e1 z12 a12 iv aq fF fI ax iN iO aT ft fv bh jm jo aU fu fJ bd fR gi bk fS fW z20 a20 fw z21 a21 fj z22 a22 fk bA fh fl z24 a24 fm bS fG fK z26 a26 fL bO fH fX z28 a28 gu bX fT fY b2 gh fZ z31 a31 gz aS c7 ga bL eY e2 bY fi fo bB e7 e9 bZ eZ eQ z37 a37 fM cA e0 fa ct e8 fp z40 a40 gA cq jG jI cw jn jq cN kx kD dp kW kE cH lD lS z46 a46 lF cE ky kF cQ kz kG z49 a49 kH c9 lE lT z51 a51 kZ cx kA kI z53 a53 k0 df ll k5 dq lQ lU dg kB k6 cu kj j3 dz lR mo z59 a59 k7 dJ mH mN dP mI mO dV mJ mq dr pa pN ed jb mP eG mK mQ eD mL mR eu ng mS fb pb pO ek nh nk z70 a70 nm fc ni nn z72 a72 np eH zk wD gI zl zp z75 a75 zq z76 a76 uQ hX x4 ya ho x5 yb hq x6 yc il AS AX j2 x7 yd ji wu wE hZ wv wF jA wx wG z85 a85 zr jj Cv Cy z87 a87 El ku Ee Em jk Ef En kT Eg Eo z91 a91 Gr jB Gj Gs z93 a93 Gt lj Gk Gu mg IX I3 q9 L5 L9 sT WK Xe sc WL Xf mC WM Xg aH oT WB W2 vW WC W4 vX WD W5 vY WE W6 s1 vZ WG W7 z105 a105 W8 v7 WH W9 z107 a107 Xa B0 aq6 arD z109 a109 arE B1 aq7 arF B2 aq8 arG s2 Al afa afW Am afb afX v8 WI Xb wa WJ Xc bn z116 a116 Xd z117 a117 afY wc afc afZ z119 a119 arH cz An afd af0 Ao afe af1 Ap aff af2 Aq afg af3 dO z124 a124 af4 Ar afh af5 As afi af6 z127 a127 af7 DV aKi aKM ec B3 aq9 arI z130 a130 arJ z131 a131 arK B4 ara arL eK pC afj af8 B5 afk af9 B6 afl aga B7 afm agb B8 afn agc z138 a138 agd z139 a139 age B9 afo agf z141 a141 agh Lm afp agi z143 a143 agj Ln afq agk z145 a145 agl z146 a146 agm Lo afr agn z148 a148 ago Lp afs agp Lq aft agq Lr afu agr z152 a152 ags Ls afv agt z154 a154 agu Lt afw agv z156 a156 agw z157 a157 agx At afx agy z159 a159 agz z160 a160 agA adQ afy agB z162 a162 agC od afz agD z164 a164 agE gy;simp(maxSteps:=2000000) only[cJ,uA,yQ,yR,r5,r6,uz,yU,vm,yP,Ag,uC,yT,uB,yS,xz,Af,xA,xB,yV,xC,nL,qp,tK,pJ,gD,hL]at aH s1 s2 bn cz dO ec eK gy;have n112:=m5 afa afW afb afX WI Xb WJ Xc;have n120:=m5 afd af0 afe af1 aff af2 afg af3;have n124:=m5 a124 af4 afh af5 afi af6 a127 af7;refine⟨?_,?_⟩
 ·simp only[Fe,aY,gN,D.bds,ai,jD,gq,hK,ab,and_true];exact⟨afj,af8,afk,af9,afl,aga,afm,agb,afn,agc,a138,agd,a139,age,afo,agf,a141,agh,afp,agi,a143,agj,afq,agk,a145,agl,a146,agm,afr,agn,a148,ago,afs,agp,aft,agq,afu,agr,a152,ags,afv,agt,a154,agu,afw,agv,a156,agw,a157,agx,afx,agy,a159,agz,a160,agA,afy,agB,a162,agC,afz,agD,a164,agE⟩
 ·simp only[cJ,uA,yQ,yR,r5,r6,uz,yU,vm,yP,Ag,uC,yT,uB,yS,xz,Af,xA,xB,yV,xC,nL,qp,tK,pJ,gD,hL];rw[gy,eK];rw[s2,aH,s1]at bn;rw[cz]at dO;clear aH s1 s2 cz eK gy a0 fV b7 ca a2 cc a3 dm a4 mm a5 mn pL pM qx qy jH jJ a9 fx iA iq eX e1 a12 iv fF fI iN iO ft fv jm jo fu fJ fR gi fS fW a20 fw a21 fj a22 fk fh fl a24 fm fG fK a26 fL fH fX a28 gu fT fY gh fZ a31 gz c7 ga eY e2 fi fo e7 e9 eZ eQ a37 fM e0 fa e8 fp a40 gA jG jI jn jq kx kD kW kE lD lS a46 lF ky kF kz kG a49 kH lE lT a51 kZ kA kI a53 k0 ll k5 lQ lU kB k6 kj j3 lR mo a59 k7 mH mN mI mO mJ mq pa pN jb mP mK mQ mL mR ng mS pb pO nh nk a70 nm ni nn a72 np zk wD zl zp a75 zq a76 uQ x4 ya x5 yb x6 yc AS AX x7 yd wu wE wv wF wx wG a85 zr Cv Cy a87 El Ee Em Ef En Eg Eo a91 Gr Gj Gs a93 Gt Gk Gu IX I3 L5 L9 WK Xe WL Xf WM Xg WB W2 WC W4 WD W5 WE W6 WG W7 a105 W8 WH W9 a107 Xa aq6 arD a109 arE aq7 arF aq8 arG afa afW afb afX WI Xb WJ Xc a116 Xd a117 afY afc afZ a119 arH afd af0 afe af1 aff af2 afg af3 a124 af4 afh af5 afi af6 a127 af7 aq9 arI a130 arJ a131 arK ara arL afj af8 afk af9 afl aga afm agb afn agc a138 agd a139 age afo agf a141 agh afp agi a143 agj afq agk a145 agl a146 agm afr agn a148 ago afs agp aft agq afu agr a152 ags afv agt a154 agu afw agv a156 agw a157 agx afx agy a159 agz a160 agA afy agB a162 agC afz agD a164 agE;generalize ad [Al,Am,v8,wa]=aJ1 at*;generalize ad [An,Ao,Ap,Aq]=aJ3 at*;generalize ad [z124,Ar,As,z127]=aJ4 at*;generalize nb [z0,aF,z2,z3,z4,z5,bC,aX,aK,z9,a8,aL,z12,aq,ax,aT,bh,aU,bd,bk,z20,z21,z22,bA,z24,bS,z26,bO,z28,bX,b2,z31]*nb [aS,bL,bY,bB,bZ,z37,cA,ct,z40,cq,cw,cN,dp,cH,z46,cE,cQ,z49,c9,z51,cx,z53,df,dq,dg,cu,dz,z59,dJ,dP,dV,dr]=M at*;generalize nb [ed,eG,eD,eu,fb,ek,z70,fc,z72,eH,gI,z75,z76,hX,ho,hq,il,j2,ji,hZ,jA,z85,jj,z87,ku,jk,kT,z91,jB,z93,lj,mg]=C at*;omega
end Go.nN
namespace Go.Fd
open Go.b9
def UY (S:Nat->List (List Int)->List (List Int)->Prop) (K:List (List Int)->List (List Int)->Prop):Prop:=
 ∀r0:List Int,ab (ai 0 zW 5) r0->
 aB 0 4095 (U r0 0 0) fy λz5=>
 aB 0 4095 (U r0 0 0) fy λbC=>
 aB 0 4096 ((U r0 1 0)+z5) fy λaX=>
 aB 0 4096 ((U r0 1 0)+z5) fy λaK=>
 aB 0 4096 ((U r0 2 0)+aX) fy λz9=>
 aB 0 4096 ((U r0 2 0)+aX) fy λa8=>
 aB 0 4096 ((U r0 3 0)+z9) fy λaL=>
 aB 0 4096 ((U r0 3 0)+z9) fy λz12=>
 aB 0 4096 ((U r0 4 0)+aL) fy λaq=>
 aB 0 4096 ((U r0 4 0)+aL) fy λax=>
 bz ((U r0 0 0)+((eh*bC)+(19*aq))) fy λaT=>
 bz ((U r0 0 0)+((eh*bC)+(19*aq))) fy λbh=>
 bz ((U r0 1 0)+(z5+((eh*aK)+aT))) fy λaU=>
 bz ((U r0 1 0)+(z5+((eh*aK)+aT))) fy λbd=>
 bz ((U r0 2 0)+(aX+((eh*a8)+aU))) fy λbk=>
 bz ((U r0 2 0)+(aX+((eh*a8)+aU))) fy λz20=>
 bz ((U r0 3 0)+(z9+((eh*z12)+bk))) fy λz21=>
 bz ((U r0 3 0)+(z9+((eh*z12)+bk))) fy λz22=>
 bz ((U r0 4 0)+(aL+((eh*ax)+z21))) fy λbA=>
 bz ((U r0 4 0)+(aL+((eh*ax)+z21))) fy λz24=>
 K [r0] [[((U r0 0 0)+((eh*bC)+((19*aq)+((eh*bh)+(19*bA))))),((U r0 1 0)+(z5+((eh*aK)+(aT+(eh*bd))))),((U r0 2 0)+(aX+((eh*a8)+(aU+(eh*z20))))),((U r0 3 0)+(z9+((eh*z12)+(bk+(eh*z22))))),((U r0 4 0)+(aL+((eh*ax)+(z21+(eh*z24)))))]]
theorem aBc (G):UY (fr G) (eP kO.res 46):=by
 simp(maxSteps:=4000000) only[UY,aB,bz,eh,zW,fy];intro r0 i0 z5 a5 mn fN d5 bC pL pM hQ d6 aX qx qy nT d7 aK jH jJ lX d8 z9 a9 fx j5 d9 a8 iA iq pQ d10 aL eX e1 lW d11 z12 a12 iv nO d12 aq fF fI yh d13 ax iN iO pc d14 aT ft fv om d15 bh jm jo AY d16 aU fu fJ oo d17 bd fR gi nP d18 bk fS fW zt d19 z20 a20 fw nQ d20 z21 a21 fj aV d21 z22 a22 fk uW d22 bA fh fl nR d23 z24 a24 fm nS d24;refine⟨?_,?_⟩
 ·obtain⟨dx,aj,ah,au,de,rfl,cY,cZ,c0,c2,c3,c4,c5,c6,xL,xM⟩:=Bn i0;simp only[gD,hL]at*;have n6:z5=bC:=dup fN d5 hQ d6;subst n6;have oK:aX=aK:=dup nT d7 lX d8;subst oK;have acb:z9=a8:=dup j5 d9 pQ d10;subst acb;have acd:aL=z12:=dup lW d11 nO d12;subst acd;have ace:aq=ax:=dup yh d13 pc d14;subst ace;have Ot:aT=bh:=dup om d15 AY d16;subst Ot;have Ou:aU=bd:=dup oo d17 nP d18;subst Ou;have Ov:bk=z20:=dup zt d19 nQ d20;subst Ov;have Ow:z21=z22:=dup aV d21 uW d22;subst Ow;have Ox:bA=z24:=dup nR d23 nS d24;subst Ox;simp only[kO,aY,D.bds,hC,ai,jD,gq,hK,oh,tH,ab,and_true];omega
 ·show v5 [((U r0 0 0)+(((-2251799813685248)*bC)+((19*aq)+(((-2251799813685248)*bh)+(19*bA))))),((U r0 1 0)+(z5+(((-2251799813685248)*aK)+(aT+((-2251799813685248)*bd))))),((U r0 2 0)+(aX+(((-2251799813685248)*a8)+(aU+((-2251799813685248)*z20))))),((U r0 3 0)+(z9+(((-2251799813685248)*z12)+(bk+((-2251799813685248)*z22))))),((U r0 4 0)+(aL+(((-2251799813685248)*ax)+(z21+((-2251799813685248)*z24)))))]% 57896044618658097711785492504343953926634992332820282019728792003956564819949=v5 r0% 57896044618658097711785492504343953926634992332820282019728792003956564819949/\v5 [((U r0 0 0)+(((-2251799813685248)*bC)+((19*aq)+(((-2251799813685248)*bh)+(19*bA))))),((U r0 1 0)+(z5+(((-2251799813685248)*aK)+(aT+((-2251799813685248)*bd))))),((U r0 2 0)+(aX+(((-2251799813685248)*a8)+(aU+((-2251799813685248)*z20))))),((U r0 3 0)+(z9+(((-2251799813685248)*z12)+(bk+((-2251799813685248)*z22))))),((U r0 4 0)+(aL+(((-2251799813685248)*ax)+(z21+((-2251799813685248)*z24)))))]<57896044618658097711785492504343953926634992332820282019728792003956564819949+38;obtain⟨dx,aj,ah,au,de,rfl,cY,cZ,c0,c2,c3,c4,c5,c6,xL,xM⟩:=Bn i0;simp only[gD,hL]at*;have n6:z5=bC:=dup fN d5 hQ d6;subst n6;have oK:aX=aK:=dup nT d7 lX d8;subst oK;have acb:z9=a8:=dup j5 d9 pQ d10;subst acb;have acd:aL=z12:=dup lW d11 nO d12;subst acd;have ace:aq=ax:=dup yh d13 pc d14;subst ace;have Ot:aT=bh:=dup om d15 AY d16;subst Ot;have Ou:aU=bd:=dup oo d17 nP d18;subst Ou;have Ov:bk=z20:=dup zt d19 nQ d20;subst Ov;have Ow:z21=z22:=dup aV d21 uW d22;subst Ow;have Ox:bA=z24:=dup nR d23 nS d24;subst Ox;have e:v5 [(dx+(((-2251799813685248)*z5)+((19*aq)+(((-2251799813685248)*aT)+(19*bA))))),(aj+(z5+(((-2251799813685248)*aX)+(aT+((-2251799813685248)*aU))))),(ah+(aX+(((-2251799813685248)*z9)+(aU+((-2251799813685248)*bk))))),(au+(z9+(((-2251799813685248)*aL)+(bk+((-2251799813685248)*z21))))),(de+(aL+(((-2251799813685248)*aq)+(z21+((-2251799813685248)*bA)))))]=v5 [dx,aj,ah,au,de]+57896044618658097711785492504343953926634992332820282019728792003956564819949*(-(aq+bA)):=by
   clear a5 mn fN d5 pL pM hQ d6 qx qy nT d7 jH jJ lX d8 a9 fx j5 d9 iA iq pQ d10 eX e1 lW d11 a12 iv nO d12 fF fI yh d13 iN iO pc d14 ft fv om d15 jm jo AY d16 fu fJ oo d17 fR gi nP d18 fS fW zt d19 a20 fw nQ d20 a21 fj aV d21 a22 fk uW d22 fh fl nR d23 a24 fm nS d24;simp only[DN];omega
  refine⟨?_,?_⟩
  ·show v5 [(dx+(((-2251799813685248)*z5)+((19*aq)+(((-2251799813685248)*aT)+(19*bA))))),(aj+(z5+(((-2251799813685248)*aX)+(aT+((-2251799813685248)*aU))))),(ah+(aX+(((-2251799813685248)*z9)+(aU+((-2251799813685248)*bk))))),(au+(z9+(((-2251799813685248)*aL)+(bk+((-2251799813685248)*z21))))),(de+(aL+(((-2251799813685248)*aq)+(z21+((-2251799813685248)*bA)))))]% 57896044618658097711785492504343953926634992332820282019728792003956564819949=v5 [dx,aj,ah,au,de]% 57896044618658097711785492504343953926634992332820282019728792003956564819949;rw[e,xW]
  ·show v5 [(dx+(((-2251799813685248)*z5)+((19*aq)+(((-2251799813685248)*aT)+(19*bA))))),(aj+(z5+(((-2251799813685248)*aX)+(aT+((-2251799813685248)*aU))))),(ah+(aX+(((-2251799813685248)*z9)+(aU+((-2251799813685248)*bk))))),(au+(z9+(((-2251799813685248)*aL)+(bk+((-2251799813685248)*z21))))),(de+(aL+(((-2251799813685248)*aq)+(z21+((-2251799813685248)*bA)))))]<57896044618658097711785492504343953926634992332820282019728792003956564819949+38;clear e;simp only[DN];omega
def U8 (S:Nat->List (List Int)->List (List Int)->Prop) (K:List (List Int)->List (List Int)->Prop):Prop:=
 ∀r0:List Int,ab (ai 0 255 32) r0->
 aB 0 8191 ((U r0 0 0)+((256*(U r0 1 0))+((65536*(U r0 2 0))+((iF*(U r0 3 0))+((iG*(U r0 4 0))+((iH*(U r0 5 0))+((iI*(U r0 6 0))+(jd*(U r0 7 0))))))))) fy λaS=>
 aB 0 8191 ((U r0 0 0)+((256*(U r0 1 0))+((65536*(U r0 2 0))+((iF*(U r0 3 0))+((iG*(U r0 4 0))+((iH*(U r0 5 0))+((iI*(U r0 6 0))+(jd*(U r0 7 0))))))))) fy λbL=>
 aB 0 8191 ((8192*(U r0 8 0))+((J5*(U r0 9 0))+((J6*(U r0 10 0))+((J7*(U r0 11 0))+((J8*(U r0 12 0))+((RP*(U r0 13 0))+((RQ*(U r0 14 0))+(RR*(U r0 15 0))))))))) a1 λbY=>
 aB 0 8191 ((8192*(U r0 8 0))+((J5*(U r0 9 0))+((J6*(U r0 10 0))+((J7*(U r0 11 0))+((J8*(U r0 12 0))+((RP*(U r0 13 0))+((RQ*(U r0 14 0))+((RR*(U r0 15 0))+(bL+(aa*bY)))))))))) fy λbB=>
 aB 0 aag ((U r0 8 0)+((256*(U r0 9 0))+((65536*(U r0 10 0))+((iF*(U r0 11 0))+((iG*(U r0 12 0))+((iH*(U r0 13 0))+((iI*(U r0 14 0))+(jd*(U r0 15 0))))))))) akj λbZ=>
 aB 0 aag ((J9*(U r0 16 0))+((Ka*(U r0 17 0))+((Kb*(U r0 18 0))+((Kc*(U r0 19 0))+((RS*(U r0 20 0))+((RT*(U r0 21 0))+((RU*(U r0 22 0))+(RV*(U r0 23 0))))))))) a1 λz37=>
 aB 0 8191 ((J9*(U r0 16 0))+((Ka*(U r0 17 0))+((Kb*(U r0 18 0))+((Kc*(U r0 19 0))+((RS*(U r0 20 0))+((RT*(U r0 21 0))+((RU*(U r0 22 0))+((RV*(U r0 23 0))+(bZ+(aa*z37)))))))))) fy λcA=>
 aB 0 Kd ((U r0 16 0)+((256*(U r0 17 0))+((65536*(U r0 18 0))+((iF*(U r0 19 0))+((iG*(U r0 20 0))+((iH*(U r0 21 0))+((iI*(U r0 22 0))+(jd*(U r0 23 0))))))))) akk λct=>
 aB 0 Kd ((Ke*(U r0 24 0))+((Kf*(U r0 25 0))+((RW*(U r0 26 0))+((RX*(U r0 27 0))+((RY*(U r0 28 0))+((RZ*(U r0 29 0))+((R0*(U r0 30 0))+(R1*(U r0 31 0))))))))) a1 λz40=>
 aB 0 8191 ((Ke*(U r0 24 0))+((Kf*(U r0 25 0))+((RW*(U r0 26 0))+((RX*(U r0 27 0))+((RY*(U r0 28 0))+((RZ*(U r0 29 0))+((R0*(U r0 30 0))+((R1*(U r0 31 0))+(ct+(aa*z40)))))))))) fy λcq=>
 aB 0 bE ((U r0 24 0)+((256*(U r0 25 0))+((65536*(U r0 26 0))+((iF*(U r0 27 0))+((iG*(U r0 28 0))+((iH*(U r0 29 0))+((iI*(U r0 30 0))+(jd*(U r0 31 0))))))))) 4096 λcw=>
 ∀HX:List Int,ab (ai 0 bE 5) HX->S 46 [[((U r0 0 0)+((256*(U r0 1 0))+((65536*(U r0 2 0))+((iF*(U r0 3 0))+((iG*(U r0 4 0))+((iH*(U r0 5 0))+((iI*(U r0 6 0))+((jd*(U r0 7 0))+(eh*aS))))))))),((8192*(U r0 8 0))+((J5*(U r0 9 0))+((J6*(U r0 10 0))+((J7*(U r0 11 0))+((J8*(U r0 12 0))+((RP*(U r0 13 0))+((RQ*(U r0 14 0))+((RR*(U r0 15 0))+(bL+((aa*bY)+(eh*bB))))))))))),((J9*(U r0 16 0))+((Ka*(U r0 17 0))+((Kb*(U r0 18 0))+((Kc*(U r0 19 0))+((RS*(U r0 20 0))+((RT*(U r0 21 0))+((RU*(U r0 22 0))+((RV*(U r0 23 0))+(bZ+((aa*z37)+(eh*cA))))))))))),((Ke*(U r0 24 0))+((Kf*(U r0 25 0))+((RW*(U r0 26 0))+((RX*(U r0 27 0))+((RY*(U r0 28 0))+((RZ*(U r0 29 0))+((R0*(U r0 30 0))+((R1*(U r0 31 0))+(ct+((aa*z40)+(eh*cq))))))))))),cw]] [HX]->
 K [r0] [HX]
theorem aBv (G):U8 (fr G) (eP rS.res 29):=by
 simp(maxSteps:=4000000) only[U8,aB,iF,iG,iH,iI,jd,aa,a1,eh,fy,J5,J6,J7,J8,RP,RQ,RR,aag,akj,J9,Ka,Kb,Kc,RS,RT,RU,RV,Kd,akk,Ke,Kf,RW,RX,RY,RZ,R0,R1,bE];intro r0 i0 aS c7 ga rp d32 bL eY e2 k8 d33 bY fi fo oq d34 bB e7 e9 qA d35 bZ eZ eQ pd d36 z37 a37 fM yi d37 cA e0 fa pS d38 ct e8 fp ot d39 z40 a40 gA zu d40 cq jG jI pT d41 cw jn jq ou d42 HX i43 aH;have aH:v5 HX% 57896044618658097711785492504343953926634992332820282019728792003956564819949=v5 [((U r0 0 0)+((256*(U r0 1 0))+((65536*(U r0 2 0))+((16777216*(U r0 3 0))+((4294967296*(U r0 4 0))+((1099511627776*(U r0 5 0))+((281474976710656*(U r0 6 0))+((72057594037927936*(U r0 7 0))+((-2251799813685248)*aS))))))))),((8192*(U r0 8 0))+((2097152*(U r0 9 0))+((536870912*(U r0 10 0))+((137438953472*(U r0 11 0))+((35184372088832*(U r0 12 0))+((9007199254740992*(U r0 13 0))+((2305843009213693952*(U r0 14 0))+((590295810358705651712*(U r0 15 0))+(bL+(((-18446744073709551616)*bY)+((-2251799813685248)*bB))))))))))),((67108864*(U r0 16 0))+((17179869184*(U r0 17 0))+((4398046511104*(U r0 18 0))+((1125899906842624*(U r0 19 0))+((288230376151711744*(U r0 20 0))+((73786976294838206464*(U r0 21 0))+((18889465931478580854784*(U r0 22 0))+((4835703278458516698824704*(U r0 23 0))+(bZ+(((-18446744073709551616)*z37)+((-2251799813685248)*cA))))))))))),((549755813888*(U r0 24 0))+((140737488355328*(U r0 25 0))+((36028797018963968*(U r0 26 0))+((9223372036854775808*(U r0 27 0))+((2361183241434822606848*(U r0 28 0))+((604462909807314587353088*(U r0 29 0))+((154742504910672534362390528*(U r0 30 0))+((39614081257132168796771975168*(U r0 31 0))+(ct+(((-18446744073709551616)*z40)+((-2251799813685248)*cq))))))))))),cw]% 57896044618658097711785492504343953926634992332820282019728792003956564819949/\v5 HX<57896044618658097711785492504343953926634992332820282019728792003956564819949+38:=aH.1;refine⟨?_,?_⟩
 ·exact kY i43
 ·show v5 HX% 57896044618658097711785492504343953926634992332820282019728792003956564819949=nb r0% 57896044618658097711785492504343953926634992332820282019728792003956564819949;obtain⟨dx,aj,ah,au,de,iK,jz,mc,me,mf,mB,hW,jy,mb,uI,uJ,vu,vv,vw,vx,vy,vz,vA,vB,vC,vD,vE,vF,vG,vH,vI,vJ,rfl,cY,cZ,c0,c2,c3,c4,c5,c6,xL,xM,aoN,aoO,aoP,aoQ,aoR,aoS,aoT,aoU,aoV,aoW,an5,an6,an7,an8,an9,aoa,aob,aoc,aod,aoe,aof,aog,aoh,aoi,aoj,aok,aol,aom,aon,aoo,aop,aoq,aor,aos,aot,aou,aov,aow,aox,aoy,aoz,aoA,aoB,aoC,aoD,aoE,aoF,aoG,aoH,aoI,aoJ,aoK,aoL,aoM⟩:=Ht i0;simp only[gD,hL]at*;have acg:aS=bL:=dup rp d32 k8 d33;subst acg;have Oz:bZ=8192*bY+bB:=by
   clear rp d32 eY e2 k8 d33 fi fo e7 e9 eZ eQ a37 fM yi d37 e0 fa pS d38 e8 fp ot d39 a40 gA zu d40 jG jI pT d41 jn jq ou d42 aH;omega
  have Tf:ct=8192*z37+cA:=by
   clear c7 ga rp d32 eY e2 k8 d33 fi fo oq d34 e7 e9 qA d35 pd d36 a37 fM e0 fa e8 fp a40 gA zu d40 jG jI pT d41 jn jq ou d42 aH;clear Oz;omega
  have aci:cw=8192*z40+cq:=by
   clear c7 ga rp d32 eY e2 k8 d33 fi fo oq d34 e7 e9 qA d35 eZ eQ pd d36 a37 fM yi d37 e0 fa pS d38 ot d39 a40 gA jG jI jn jq aH;clear Oz Tf;omega
  rw[aH.1]
  congr 1
  clear c7 ga rp d32 eY e2 k8 d33 fi fo oq d34 e7 e9 qA d35 eZ eQ pd d36 a37 fM yi d37 e0 fa pS d38 e8 fp ot d39 a40 gA zu d40 jG jI pT d41 jn jq ou d42 aH;subst aci;subst Tf;subst Oz;simp only[num];omega
def UX (S:Nat->List (List Int)->List (List Int)->Prop) (K:List (List Int)->List (List Int)->Prop):Prop:=
 ∀r0:List Int,ab (ai 0 bE 5) r0->
 ∀aE:List Int,ab (ai 0 bE 5) aE->S 46 [r0] [aE]->
 aB 0 2 ((U aE 0 0)+19) fy λa8=>
 aB 0 2 ((U aE 1 0)+a8) fy λaL=>
 aB 0 2 ((U aE 2 0)+aL) fy λz12=>
 aB 0 2 ((U aE 3 0)+z12) fy λaq=>
 aB 0 2 ((U aE 4 0)+aq) fy λax=>
 aB 0 2 ((U aE 0 0)+(19*ax)) fy λaT=>
 aB 0 2 ((U aE 0 0)+(19*ax)) fy λbh=>
 aB 0 2 ((U aE 1 0)+aT) fy λaU=>
 aB 0 2 ((U aE 1 0)+aT) fy λbd=>
 aB 0 2 ((U aE 2 0)+aU) fy λbk=>
 aB 0 2 ((U aE 2 0)+aU) fy λz20=>
 aB 0 2 ((U aE 3 0)+bk) fy λz21=>
 aB 0 2 ((U aE 3 0)+bk) fy λz22=>
 aB 0 2 ((U aE 4 0)+z21) fy λbA=>
 aB 0 2 ((U aE 4 0)+z21) fy λz24=>
 aB 0 aal ((U aE 0 0)+((19*ax)+(eh*bh))) 256 λbS=>
 aB 0 aal ((U aE 0 0)+((19*ax)+(eh*bh))) 256 λz26=>
 aB 0 aam z26 256 λbO=>
 aB 0 aam ((U aE 0 0)+((19*ax)+(eh*bh))) 65536 λz28=>
 aB 0 aan z28 256 λbX=>
 aB 0 aan ((U aE 0 0)+((19*ax)+(eh*bh))) iF λb2=>
 aB 0 524287 b2 256 λz31=>
 aB 0 524287 ((U aE 0 0)+((19*ax)+(eh*bh))) iG λaS=>
 aB 0 2047 aS 256 λbL=>
 aB 0 2047 ((U aE 0 0)+((19*ax)+(eh*bh))) iH λbY=>
 aB 0 7 bY 256 λbB=>
 aB 0 7 ((U aE 0 0)+((19*ax)+(eh*bh))) iI λbZ=>
 aB 0 aao ((8*(U aE 1 0))+((8*aT)+(aah*bd))) 256 λz37=>
 aB 0 aao ((U aE 1 0)+(aT+(eh*bd))) 32 λcA=>
 aB 0 aap cA 256 λct=>
 aB 0 aap ((U aE 1 0)+(aT+(eh*bd))) 8192 λz40=>
 aB 0 aaq z40 256 λcq=>
 aB 0 aaq ((U aE 1 0)+(aT+(eh*bd))) J5 λcw=>
 aB 0 aar cw 256 λcN=>
 aB 0 aar ((U aE 1 0)+(aT+(eh*bd))) J6 λdp=>
 aB 0 16383 dp 256 λcH=>
 aB 0 16383 ((U aE 1 0)+(aT+(eh*bd))) J7 λz46=>
 aB 0 63 z46 256 λcE=>
 aB 0 63 ((U aE 1 0)+(aT+(eh*bd))) J8 λcQ=>
 aB 0 aas ((64*(U aE 2 0))+((64*aU)+(aai*z20))) 256 λz49=>
 aB 0 aas ((U aE 2 0)+(aU+(eh*z20))) 4 λc9=>
 aB 0 aat c9 256 λz51=>
 aB 0 aat ((U aE 2 0)+(aU+(eh*z20))) 1024 λcx=>
 aB 0 aau cx 256 λz53=>
 aB 0 aau ((U aE 2 0)+(aU+(eh*z20))) 262144 λdf=>
 aB 0 aav df 256 λdq=>
 aB 0 aav ((U aE 2 0)+(aU+(eh*z20))) J9 λdg=>
 aB 0 131071 dg 256 λcu=>
 aB 0 131071 ((U aE 2 0)+(aU+(eh*z20))) Ka λdz=>
 aB 0 511 dz 256 λz59=>
 aB 0 511 ((U aE 2 0)+(aU+(eh*z20))) Kb λdJ=>
 bz dJ 256 λdP=>
 bz ((U aE 2 0)+(aU+(eh*z20))) Kc λdV=>
 aB 0 aaw ((2*(U aE 3 0))+((2*bk)+(aaj*z22))) 256 λdr=>
 aB 0 aaw ((U aE 3 0)+(bk+(eh*z22))) 128 λed=>
 aB 0 aax ed 256 λeG=>
 aB 0 aax ((U aE 3 0)+(bk+(eh*z22))) 32768 λeD=>
 aB 0 aay eD 256 λeu=>
 aB 0 aay ((U aE 3 0)+(bk+(eh*z22))) akl λfb=>
 aB 0 aaz fb 256 λek=>
 aB 0 aaz ((U aE 3 0)+(bk+(eh*z22))) akm λz70=>
 aB 0 4095 z70 256 λfc=>
 aB 0 4095 ((U aE 3 0)+(bk+(eh*z22))) Ke λz72=>
 aB 0 15 z72 256 λeH=>
 aB 0 15 ((U aE 3 0)+(bk+(eh*z22))) Kf λgI=>
 aB 0 aaA ((16*(U aE 4 0))+((16*z21)+(aak*z24))) 256 λz75=>
 aB 0 aaA ((U aE 4 0)+(z21+(eh*z24))) 16 λz76=>
 aB 0 Kd z76 256 λhX=>
 aB 0 Kd ((U aE 4 0)+(z21+(eh*z24))) 4096 λho=>
 aB 0 aaB ho 256 λhq=>
 aB 0 aaB ((U aE 4 0)+(z21+(eh*z24))) akn λil=>
 aB 0 aaC il 256 λj2=>
 aB 0 aaC ((U aE 4 0)+(z21+(eh*z24))) ako λji=>
 aB 0 32767 ji 256 λhZ=>
 aB 0 32767 ((U aE 4 0)+(z21+(eh*z24))) akp λjA=>
 aB 0 127 jA 256 λz85=>
 aB 0 127 ((U aE 4 0)+(z21+(eh*z24))) akq λjj=>
 K [r0] [[((U aE 0 0)+((19*ax)+((eh*bh)+((-256)*bS)))),(z26+((-256)*bO)),(z28+((-256)*bX)),(b2+((-256)*z31)),(aS+((-256)*bL)),(bY+((-256)*bB)),((8*(U aE 1 0))+((8*aT)+((aah*bd)+(bZ+((-256)*z37))))),(cA+((-256)*ct)),(z40+((-256)*cq)),(cw+((-256)*cN)),(dp+((-256)*cH)),(z46+((-256)*cE)),((64*(U aE 2 0))+((64*aU)+((aai*z20)+(cQ+((-256)*z49))))),(c9+((-256)*z51)),(cx+((-256)*z53)),(df+((-256)*dq)),(dg+((-256)*cu)),(dz+((-256)*z59)),(dJ+((-256)*dP)),((2*(U aE 3 0))+((2*bk)+((aaj*z22)+(dV+((-256)*dr))))),(ed+((-256)*eG)),(eD+((-256)*eu)),(fb+((-256)*ek)),(z70+((-256)*fc)),(z72+((-256)*eH)),((16*(U aE 4 0))+((16*z21)+((aak*z24)+(gI+((-256)*z75))))),(z76+((-256)*hX)),(ho+((-256)*hq)),(il+((-256)*j2)),(ji+((-256)*hZ)),(jA+((-256)*z85)),jj]]
structure sX (p:Prop):Prop where
 h:p
theorem ch {a b c d:Prop} (ha:a) (hb:b) (hc:c) (hd:d):sX (a/\b/\c/\d):=⟨ha,hb,hc,hd⟩
theorem abY (G):UX (fr G) (eP iJ.res 31):=by
 simp(maxSteps:=4000000) only[UX,aB,bz,iF,iG,iH,iI,eh,fy,J5,J6,J7,J8,J9,Ka,Kb,Kc,Kd,Ke,Kf,bE,aah,aai,aaj,aak,aal,aam,aan,aao,aap,aaq,aar,aas,aat,aau,aav,aaw,aax,aay,akl,aaz,akm,aaA,aaB,akn,aaC,ako,akp,akq];intro r0 i0 aE i5 aH a8 iA iq pQ d10 aL eX e1 lW d11 z12 a12 iv nO d12 aq fF fI yh d13 ax iN iO pc d14 aT ft fv om d15 bh jm jo AY d16 aU fu fJ oo d17 bd fR gi nP d18 bk fS fW zt d19 z20 a20 fw nQ d20 z21 a21 fj aV d21 z22 a22 fk uW d22 bA fh fl nR d23 z24 a24 fm nS d24 bS fG fK pR d25 z26 a26 fL tO d26 bO fH fX Gz d27 z28 a28 gu rn d28 bX fT fY sZ d29 b2 gh fZ sq d30 z31 a31 gz sr d31 aS c7 ga rp d32 bL eY e2 k8 d33 bY fi fo oq d34 bB e7 e9 qA d35 bZ eZ eQ pd d36 z37 a37 fM yi d37 cA e0 fa pS d38 ct e8 fp ot d39 z40 a40 gA zu d40 cq jG jI pT d41 cw jn jq ou d42 cN kx kD ss d43 dp kW kE tP d44 cH lD lS GA d45 z46 a46 lF rq d46 cE ky kF s0 d47 cQ kz kG su d48 z49 a49 kH sw d49 c9 lE lT Mh d50 z51 a51 kZ rr d51 cx kA kI ru d52 z53 a53 k0 tQ d53 df ll k5 sx d54 dq lQ lU GB d55 dg kB k6 sy d56 cu kj j3 qB d57 dz lR mo GC d58 z59 a59 k7 s3 d59 dJ mH mN tR d60 dP mI mO uX d61 dV mJ mq yj d62 dr pa pN Qj d63 ed jb mP tS d64 eG mK mQ wI d65 eD mL mR uY d66 eu ng mS uZ d67 fb pb pO ag0 d68 ek nh nk tT d69 z70 a70 nm tU d70 fc ni nn yk d71 z72 a72 np u0 d72 eH zk wD Qk d73 gI zl zp ag2 d74 z75 a75 zq Ql d75 z76 a76 uQ Qm d76 hX x4 ya ag3 d77 ho x5 yb Qn d78 hq x6 yc Qo d79 il AS AX Qp d80 j2 x7 yd Mi d81 ji wu wE Es d82 hZ wv wF Qq d83 jA wx wG Et d84 z85 a85 zr Mj d85 jj Cv Cy GD d86;have pV:=ch iA iq pQ d10;have as3:=ch eX e1 lW d11;have Ew:=ch a12 iv nO d12;have s7:=ch fF fI yh d13
 have zx:=ch iN iO pc d14;have Ji:=ch ft fv om d15;have nr:=ch jm jo AY d16;have QJ:=ch fu fJ oo d17
 have Ex:=ch fR gi nP d18;have pe:=ch fS fW zt d19;have Ey:=ch a20 fw nQ d20;have GJ:=ch a21 fj aV d21
 have pW:=ch a22 fk uW d22;have Ms:=ch fh fl nR d23;have Ez:=ch a24 fm nS d24;have EA:=ch fG fK pR d25
 have A3:=ch a26 fL tO d26;have qE:=ch fH fX Gz d27;have Mt:=ch a28 gu rn d28;have CE:=ch fT fY sZ d29
 have Mu:=ch gh fZ sq d30;have GK:=ch a31 gz sr d31;have ry:=ch c7 ga rp d32;have Jj:=ch eY e2 k8 d33
 have Mv:=ch fi fo oq d34;have Jk:=ch e7 e9 qA d35;have GL:=ch eZ eQ pd d36;have pX:=ch a37 fM yi d37
 have EB:=ch e0 fa pS d38;have GM:=ch e8 fp ot d39;have sC:=ch a40 gA zu d40;have CF:=ch jG jI pT d41
 have Mw:=ch jn jq ou d42;have Mx:=ch kx kD ss d43;have A4:=ch kW kE tP d44;have s8:=ch lD lS GA d45
 have XR:=ch a46 lF rq d46;have EC:=ch ky kF s0 d47;have My:=ch kz kG su d48;have zy:=ch a49 kH sw d49
 have pY:=ch lE lT Mh d50;have ED:=ch a51 kZ rr d51;have Mz:=ch kA kI ru d52;have A5:=ch a53 k0 tQ d53
 have GN:=ch ll k5 sx d54;have rz:=ch lQ lU GB d55;have EE:=ch kB k6 sy d56;have MA:=ch kj j3 qB d57
 have sD:=ch lR mo GC d58;have GO:=ch a59 k7 s3 d59;have XS:=ch mH mN tR d60;have XT:=ch mI mO uX d61
 have EF:=ch mJ mq yj d62;have nX:=ch pa pN Qj d63;have XU:=ch jb mP tS d64;have A6:=ch mK mQ wI d65
 have XV:=ch mL mR uY d66;have EG:=ch ng mS uZ d67;have rA:=ch pb pO ag0 d68;have MB:=ch nh nk tT d69
 have XW:=ch a70 nm tU d70;have GP:=ch ni nn yk d71;have MC:=ch a72 np u0 d72;have XX:=ch zk wD Qk d73
 have Jl:=ch zl zp ag2 d74;have EH:=ch a75 zq Ql d75;have XY:=ch a76 uQ Qm d76;have A7:=ch x4 ya ag3 d77
 have XZ:=ch x5 yb Qn d78;have Jm:=ch x6 yc Qo d79;have X0:=ch AS AX Qp d80;have MD:=ch x7 yd Mi d81
 have X1:=ch wu wE Es d82;have GQ:=ch wv wF Qq d83;have X2:=ch wx wG Et d84;have Jn:=ch a85 zr Mj d85
 have X3:=ch Cv Cy GD d86;clear iA iq pQ d10 eX e1 lW d11 a12 iv nO d12 fF fI yh d13 iN iO pc d14 ft fv om d15 jm jo AY d16 fu fJ oo d17 fR gi nP d18 fS fW zt d19 a20 fw nQ d20 a21 fj aV d21 a22 fk uW d22 fh fl nR d23 a24 fm nS d24 fG fK pR d25 a26 fL tO d26 fH fX Gz d27 a28 gu rn d28 fT fY sZ d29 gh fZ sq d30 a31 gz sr d31 c7 ga rp d32 eY e2 k8 d33 fi fo oq d34 e7 e9 qA d35 eZ eQ pd d36 a37 fM yi d37 e0 fa pS d38 e8 fp ot d39 a40 gA zu d40 jG jI pT d41 jn jq ou d42 kx kD ss d43 kW kE tP d44 lD lS GA d45 a46 lF rq d46 ky kF s0 d47 kz kG su d48 a49 kH sw d49 lE lT Mh d50 a51 kZ rr d51 kA kI ru d52 a53 k0 tQ d53 ll k5 sx d54 lQ lU GB d55 kB k6 sy d56 kj j3 qB d57 lR mo GC d58 a59 k7 s3 d59 mH mN tR d60 mI mO uX d61 mJ mq yj d62 pa pN Qj d63 jb mP tS d64 mK mQ wI d65 mL mR uY d66 ng mS uZ d67 pb pO ag0 d68 nh nk tT d69 a70 nm tU d70 ni nn yk d71 a72 np u0 d72 zk wD Qk d73 zl zp ag2 d74 a75 zq Ql d75 a76 uQ Qm d76 x4 ya ag3 d77 x5 yb Qn d78 x6 yc Qo d79 AS AX Qp d80 x7 yd Mi d81 wu wE Es d82 wv wF Qq d83 wx wG Et d84 a85 zr Mj d85 Cv Cy GD d86;have aH:v5 aE% 57896044618658097711785492504343953926634992332820282019728792003956564819949=v5 r0% 57896044618658097711785492504343953926634992332820282019728792003956564819949/\v5 aE<57896044618658097711785492504343953926634992332820282019728792003956564819949+38:=aH.1;have aH:=sX.mk aH;refine⟨?_,?_⟩
 ·obtain⟨dx,aj,ah,au,de,rfl,cY,cZ,c0,c2,c3,c4,c5,c6,xL,xM⟩:=Bn i5;have f0:=sX.mk (DZ cY cZ);have f1:=sX.mk (DZ c0 c2);have f2:=sX.mk (DZ c3 c4);have f3:=sX.mk (DZ c5 c6);have f4:=sX.mk (DZ xL xM)
  clear cY cZ c0 c2 c3 c4 c5 c6 xL xM;simp only[gD,hL]at*;simp only[iJ,aY,D.bds,gN,ai,jD,gq,hK,oh,tH,ab,and_true];exact⟨by have:=zx.h;have:=nr.h;have:=EA.h;omega,
   by have:=zx.h;have:=nr.h;have:=EA.h;omega,
   by have:=A3.h;have:=qE.h;omega,
   by have:=A3.h;have:=qE.h;omega,
   by have:=Mt.h;have:=CE.h;omega,
   by have:=Mt.h;have:=CE.h;omega,
   by have:=Mu.h;have:=GK.h;omega,
   by have:=Mu.h;have:=GK.h;omega,
   by have:=ry.h;have:=Jj.h;omega,
   by have:=ry.h;have:=Jj.h;omega,
   by have:=Mv.h;have:=Jk.h;omega,
   by have:=Mv.h;have:=Jk.h;omega,
   by have:=Ji.h;have:=Ex.h;have:=GL.h;have:=pX.h;omega,
   by have:=Ji.h;have:=Ex.h;have:=GL.h;have:=pX.h;omega,
   by have:=EB.h;have:=GM.h;omega,
   by have:=EB.h;have:=GM.h;omega,
   by have:=sC.h;have:=CF.h;omega,
   by have:=sC.h;have:=CF.h;omega,
   by have:=Mw.h;have:=Mx.h;omega,
   by have:=Mw.h;have:=Mx.h;omega,
   by have:=A4.h;have:=s8.h;omega,
   by have:=A4.h;have:=s8.h;omega,
   by have:=XR.h;have:=EC.h;omega,
   by have:=XR.h;have:=EC.h;omega,
   by have:=QJ.h;have:=Ey.h;have:=My.h;have:=zy.h;omega,
   by have:=QJ.h;have:=Ey.h;have:=My.h;have:=zy.h;omega,
   by have:=pY.h;have:=ED.h;omega,
   by have:=pY.h;have:=ED.h;omega,
   by have:=Mz.h;have:=A5.h;omega,
   by have:=Mz.h;have:=A5.h;omega,
   by have:=GN.h;have:=rz.h;omega,
   by have:=GN.h;have:=rz.h;omega,
   by have:=EE.h;have:=MA.h;omega,
   by have:=EE.h;have:=MA.h;omega,
   by have:=sD.h;have:=GO.h;omega,
   by have:=sD.h;have:=GO.h;omega,
   by have:=XS.h;have:=XT.h;omega,
   by have:=XS.h;have:=XT.h;omega,
   by have:=pe.h;have:=pW.h;have:=EF.h;have:=nX.h;omega,
   by have:=pe.h;have:=pW.h;have:=EF.h;have:=nX.h;omega,
   by have:=XU.h;have:=A6.h;omega,
   by have:=XU.h;have:=A6.h;omega,
   by have:=XV.h;have:=EG.h;omega,
   by have:=XV.h;have:=EG.h;omega,
   by have:=rA.h;have:=MB.h;omega,
   by have:=rA.h;have:=MB.h;omega,
   by have:=XW.h;have:=GP.h;omega,
   by have:=XW.h;have:=GP.h;omega,
   by have:=MC.h;have:=XX.h;omega,
   by have:=MC.h;have:=XX.h;omega,
   by have:=GJ.h;have:=Ez.h;have:=Jl.h;have:=EH.h;omega,
   by have:=GJ.h;have:=Ez.h;have:=Jl.h;have:=EH.h;omega,
   by have:=XY.h;have:=A7.h;omega,
   by have:=XY.h;have:=A7.h;omega,
   by have:=XZ.h;have:=Jm.h;omega,
   by have:=XZ.h;have:=Jm.h;omega,
   by have:=X0.h;have:=MD.h;omega,
   by have:=X0.h;have:=MD.h;omega,
   by have:=X1.h;have:=GQ.h;omega,
   by have:=X1.h;have:=GQ.h;omega,
   by have:=X2.h;have:=Jn.h;omega,
   by have:=X2.h;have:=Jn.h;omega,
   by have:=X3.h;omega,
   by have:=X3.h;omega⟩
 ·show nb [((U aE 0 0)+((19*ax)+(((-2251799813685248)*bh)+((-256)*bS)))),(z26+((-256)*bO)),(z28+((-256)*bX)),(b2+((-256)*z31)),(aS+((-256)*bL)),(bY+((-256)*bB)),((8*(U aE 1 0))+((8*aT)+(((-18014398509481984)*bd)+(bZ+((-256)*z37))))),(cA+((-256)*ct)),(z40+((-256)*cq)),(cw+((-256)*cN)),(dp+((-256)*cH)),(z46+((-256)*cE)),((64*(U aE 2 0))+((64*aU)+(((-144115188075855872)*z20)+(cQ+((-256)*z49))))),(c9+((-256)*z51)),(cx+((-256)*z53)),(df+((-256)*dq)),(dg+((-256)*cu)),(dz+((-256)*z59)),(dJ+((-256)*dP)),((2*(U aE 3 0))+((2*bk)+(((-4503599627370496)*z22)+(dV+((-256)*dr))))),(ed+((-256)*eG)),(eD+((-256)*eu)),(fb+((-256)*ek)),(z70+((-256)*fc)),(z72+((-256)*eH)),((16*(U aE 4 0))+((16*z21)+(((-36028797018963968)*z24)+(gI+((-256)*z75))))),(z76+((-256)*hX)),(ho+((-256)*hq)),(il+((-256)*j2)),(ji+((-256)*hZ)),(jA+((-256)*z85)),jj]=v5 r0% 57896044618658097711785492504343953926634992332820282019728792003956564819949;have aO:=aHR i5;obtain⟨dx,aj,ah,au,de,rfl,cY,cZ,c0,c2,c3,c4,c5,c6,xL,xM⟩:=Bn i5;have f0:=sX.mk (DZ cY cZ);have f1:=sX.mk (DZ c0 c2);have f2:=sX.mk (DZ c3 c4);have f3:=sX.mk (DZ c5 c6);have f4:=sX.mk (DZ xL xM)
  clear cY cZ c0 c2 c3 c4 c5 c6 xL xM;simp only[gD,hL]at*;have Ot:aT=bh:=by
   have:=Ji.h;have:=nr.h;have:=f0.h;have:=f1.h;have:=f2.h;have:=f3.h;have:=f4.h
   omega
  subst Ot;have Ou:aU=bd:=by
   have:=QJ.h;have:=Ex.h;have:=f0.h;have:=f1.h;have:=f2.h;have:=f3.h;have:=f4.h
   omega
  subst Ou;have Ov:bk=z20:=by
   have:=pe.h;have:=Ey.h;have:=f0.h;have:=f1.h;have:=f2.h;have:=f3.h;have:=f4.h
   omega
  subst Ov;have Ow:z21=z22:=by
   have:=GJ.h;have:=pW.h;have:=f0.h;have:=f1.h;have:=f2.h;have:=f3.h;have:=f4.h
   omega
  subst Ow;have Ox:bA=z24:=by
   have:=Ms.h;have:=Ez.h;have:=f0.h;have:=f1.h;have:=f2.h;have:=f3.h;have:=f4.h
   omega
  subst Ox;have aDp:bS=z26:=by
   have:=EA.h;have:=A3.h;have:=f0.h;have:=f1.h;have:=f2.h;have:=f3.h;have:=f4.h
   omega
  subst aDp;have aDr:bO=z28:=by
   have:=EA.h;have:=qE.h;have:=Mt.h;have:=f0.h;have:=f1.h;have:=f2.h;have:=f3.h;have:=f4.h
   omega
  subst aDr;have aDt:bX=b2:=by
   have:=EA.h;have:=qE.h;have:=CE.h;have:=Mu.h;have:=f0.h;have:=f1.h;have:=f2.h;have:=f3.h;have:=f4.h
   omega
  subst aDt;have aDv:z31=aS:=by
   have:=EA.h;have:=qE.h;have:=CE.h;have:=GK.h;have:=ry.h;have:=f0.h;have:=f1.h;have:=f2.h;have:=f3.h;have:=f4.h
   omega
  subst aDv;have aDw:bL=bY:=by
   have:=EA.h;have:=qE.h;have:=CE.h;have:=GK.h;have:=Jj.h;have:=Mv.h;have:=f0.h;have:=f1.h;have:=f2.h;have:=f3.h;have:=f4.h
   omega
  subst aDw;have Oz:bB=bZ:=by
   have:=EA.h;have:=qE.h;have:=CE.h;have:=GK.h;have:=Jj.h;have:=Jk.h;have:=GL.h;have:=f0.h;have:=f1.h;have:=f2.h;have:=f3.h;have:=f4.h
   omega
  subst Oz;have aDz:z37=cA:=by
   have:=pX.h;have:=EB.h;have:=f0.h;have:=f1.h;have:=f2.h;have:=f3.h;have:=f4.h
   omega
  subst aDz;have aDA:ct=z40:=by
   have:=pX.h;have:=GM.h;have:=sC.h;have:=f0.h;have:=f1.h;have:=f2.h;have:=f3.h;have:=f4.h
   omega
  subst aDA;have aci:cq=cw:=by
   have:=pX.h;have:=GM.h;have:=CF.h;have:=Mw.h;have:=f0.h;have:=f1.h;have:=f2.h;have:=f3.h;have:=f4.h
   omega
  subst aci;have aDD:cN=dp:=by
   have:=pX.h;have:=GM.h;have:=CF.h;have:=Mx.h;have:=A4.h;have:=f0.h;have:=f1.h;have:=f2.h;have:=f3.h;have:=f4.h
   omega
  subst aDD;have aDF:cH=z46:=by
   have:=pX.h;have:=GM.h;have:=CF.h;have:=Mx.h;have:=s8.h;have:=XR.h;have:=f0.h;have:=f1.h;have:=f2.h;have:=f3.h;have:=f4.h
   omega
  subst aDF;have aDH:cE=cQ:=by
   have:=pX.h;have:=GM.h;have:=CF.h;have:=Mx.h;have:=s8.h;have:=EC.h;have:=My.h;have:=f0.h;have:=f1.h;have:=f2.h;have:=f3.h;have:=f4.h
   omega
  subst aDH;have aDJ:z49=c9:=by
   have:=zy.h;have:=pY.h;have:=f0.h;have:=f1.h;have:=f2.h;have:=f3.h;have:=f4.h
   omega
  subst aDJ;have aDL:z51=cx:=by
   have:=zy.h;have:=ED.h;have:=Mz.h;have:=f0.h;have:=f1.h;have:=f2.h;have:=f3.h;have:=f4.h
   omega
  subst aDL;have aDN:z53=df:=by
   have:=zy.h;have:=ED.h;have:=A5.h;have:=GN.h;have:=f0.h;have:=f1.h;have:=f2.h;have:=f3.h;have:=f4.h
   omega
  subst aDN;have aDP:dq=dg:=by
   have:=zy.h;have:=ED.h;have:=A5.h;have:=rz.h;have:=EE.h;have:=f0.h;have:=f1.h;have:=f2.h;have:=f3.h;have:=f4.h
   omega
  subst aDP;have aDR:cu=dz:=by
   have:=zy.h;have:=ED.h;have:=A5.h;have:=rz.h;have:=MA.h;have:=sD.h;have:=f0.h;have:=f1.h;have:=f2.h;have:=f3.h;have:=f4.h
   omega
  subst aDR;have aDT:z59=dJ:=by
   have:=zy.h;have:=ED.h;have:=A5.h;have:=rz.h;have:=MA.h;have:=GO.h;have:=XS.h;have:=f0.h;have:=f1.h;have:=f2.h;have:=f3.h;have:=f4.h
   omega
  subst aDT;have aDU:dP=dV:=by
   have:=zy.h;have:=ED.h;have:=A5.h;have:=rz.h;have:=MA.h;have:=GO.h;have:=XT.h;have:=EF.h;have:=f0.h;have:=f1.h;have:=f2.h;have:=f3.h;have:=f4.h
   omega
  subst aDU;have aDV:dr=ed:=by
   have:=nX.h;have:=XU.h;have:=f0.h;have:=f1.h;have:=f2.h;have:=f3.h;have:=f4.h
   omega
  subst aDV;have aDW:eG=eD:=by
   have:=nX.h;have:=A6.h;have:=XV.h;have:=f0.h;have:=f1.h;have:=f2.h;have:=f3.h;have:=f4.h
   omega
  subst aDW;have aDX:eu=fb:=by
   have:=nX.h;have:=A6.h;have:=EG.h;have:=rA.h;have:=f0.h;have:=f1.h;have:=f2.h;have:=f3.h;have:=f4.h
   omega
  subst aDX;have aDY:ek=z70:=by
   have:=nX.h;have:=A6.h;have:=EG.h;have:=MB.h;have:=XW.h;have:=f0.h;have:=f1.h;have:=f2.h;have:=f3.h;have:=f4.h
   omega
  subst aDY;have aDZ:fc=z72:=by
   have:=nX.h;have:=A6.h;have:=EG.h;have:=MB.h;have:=GP.h;have:=MC.h;have:=f0.h;have:=f1.h;have:=f2.h;have:=f3.h;have:=f4.h
   omega
  subst aDZ;have aD0:eH=gI:=by
   have:=nX.h;have:=A6.h;have:=EG.h;have:=MB.h;have:=GP.h;have:=XX.h;have:=Jl.h;have:=f0.h;have:=f1.h;have:=f2.h;have:=f3.h;have:=f4.h
   omega
  subst aD0;have aD1:z75=z76:=by
   have:=EH.h;have:=XY.h;have:=f0.h;have:=f1.h;have:=f2.h;have:=f3.h;have:=f4.h
   omega
  subst aD1;have aD2:hX=ho:=by
   have:=EH.h;have:=A7.h;have:=XZ.h;have:=f0.h;have:=f1.h;have:=f2.h;have:=f3.h;have:=f4.h
   omega
  subst aD2;have aD3:hq=il:=by
   have:=EH.h;have:=A7.h;have:=Jm.h;have:=X0.h;have:=f0.h;have:=f1.h;have:=f2.h;have:=f3.h;have:=f4.h
   omega
  subst aD3;have acn:j2=ji:=by
   have:=EH.h;have:=A7.h;have:=Jm.h;have:=MD.h;have:=X1.h;have:=f0.h;have:=f1.h;have:=f2.h;have:=f3.h;have:=f4.h
   omega
  subst acn;have aD4:hZ=jA:=by
   have:=EH.h;have:=A7.h;have:=Jm.h;have:=MD.h;have:=GQ.h;have:=X2.h;have:=f0.h;have:=f1.h;have:=f2.h;have:=f3.h;have:=f4.h
   omega
  subst aD4;have aD6:z85=jj:=by
   have:=EH.h;have:=A7.h;have:=Jm.h;have:=MD.h;have:=GQ.h;have:=Jn.h;have:=X3.h;have:=f0.h;have:=f1.h;have:=f2.h;have:=f3.h;have:=f4.h
   omega
  subst aD6;have ahD:nb [(dx+((19*ax)+(((-2251799813685248)*aT)+((-256)*bS)))),(bS+((-256)*bO)),(bO+((-256)*bX)),(bX+((-256)*z31)),(z31+((-256)*bL)),(bL+((-256)*bB)),((8*aj)+((8*aT)+(((-18014398509481984)*aU)+(bB+((-256)*z37))))),(z37+((-256)*ct)),(ct+((-256)*cq)),(cq+((-256)*cN)),(cN+((-256)*cH)),(cH+((-256)*cE)),((64*ah)+((64*aU)+(((-144115188075855872)*bk)+(cE+((-256)*z49))))),(z49+((-256)*z51)),(z51+((-256)*z53)),(z53+((-256)*dq)),(dq+((-256)*cu)),(cu+((-256)*z59)),(z59+((-256)*dP)),((2*au)+((2*bk)+(((-4503599627370496)*z21)+(dP+((-256)*dr))))),(dr+((-256)*eG)),(eG+((-256)*eu)),(eu+((-256)*ek)),(ek+((-256)*fc)),(fc+((-256)*eH)),((16*de)+((16*z21)+(((-36028797018963968)*bA)+(eH+((-256)*z75))))),(z75+((-256)*hX)),(hX+((-256)*hq)),(hq+((-256)*j2)),(j2+((-256)*hZ)),(hZ+((-256)*z85)),z85]=v5 [dx,aj,ah,au,de]+19*ax-57896044618658097711785492504343953926634992332820282019728792003956564819968*bA:=by
   have:=f0.h;have:=f1.h;have:=f2.h;have:=f3.h;have:=f4.h
   simp only[num];omega
  rw[ahD];clear ahD;obtain⟨amS,xy⟩:=aH.h;rw[<-amS];clear amS;have ax8:0<=dx+19-2251799813685248*a8/\dx+19-2251799813685248*a8<2251799813685248:=by
   have:=pV.h;have:=f0.h;have:=f1.h;have:=f2.h;have:=f3.h;have:=f4.h;clear aO xy
   omega
  have ax9:0<=aj+a8-2251799813685248*aL/\aj+a8-2251799813685248*aL<2251799813685248:=by
   have:=as3.h;have:=f0.h;have:=f1.h;have:=f2.h;have:=f3.h;have:=f4.h;clear aO xy
   omega
  have aya:0<=ah+aL-2251799813685248*z12/\ah+aL-2251799813685248*z12<2251799813685248:=by
   have:=Ew.h;have:=f0.h;have:=f1.h;have:=f2.h;have:=f3.h;have:=f4.h;clear aO xy
   omega
  have ayb:0<=au+z12-2251799813685248*aq/\au+z12-2251799813685248*aq<2251799813685248:=by
   have:=s7.h;have:=f0.h;have:=f1.h;have:=f2.h;have:=f3.h;have:=f4.h;clear aO xy
   omega
  have ayc:0<=de+aq-2251799813685248*ax/\de+aq-2251799813685248*ax<2251799813685248:=by
   have:=zx.h;have:=f0.h;have:=f1.h;have:=f2.h;have:=f3.h;have:=f4.h;clear aO xy
   omega
  have k1:=ahV ax8 ax9 aya ayb ayc;have ayd:0<=dx+19*ax-2251799813685248*aT/\dx+19*ax-2251799813685248*aT<2251799813685248:=by
   have:=Ji.h;have:=f0.h;have:=f1.h;have:=f2.h;have:=f3.h;have:=f4.h;clear aO xy
   omega
  have aye:0<=aj+aT-2251799813685248*aU/\aj+aT-2251799813685248*aU<2251799813685248:=by
   have:=QJ.h;have:=f0.h;have:=f1.h;have:=f2.h;have:=f3.h;have:=f4.h;clear aO xy
   omega
  have ayf:0<=ah+aU-2251799813685248*bk/\ah+aU-2251799813685248*bk<2251799813685248:=by
   have:=pe.h;have:=f0.h;have:=f1.h;have:=f2.h;have:=f3.h;have:=f4.h;clear aO xy
   omega
  have ayg:0<=au+bk-2251799813685248*z21/\au+bk-2251799813685248*z21<2251799813685248:=by
   have:=GJ.h;have:=f0.h;have:=f1.h;have:=f2.h;have:=f3.h;have:=f4.h;clear aO xy
   omega
  have ayh:0<=de+z21-2251799813685248*bA/\de+z21-2251799813685248*bA<2251799813685248:=by
   have:=Ms.h;have:=f0.h;have:=f1.h;have:=f2.h;have:=f3.h;have:=f4.h;clear aO xy
   omega
  have k2:=ahV ayd aye ayf ayg ayh;have:=f0.h;have:=f1.h;have:=f2.h;have:=f3.h;have:=f4.h
  have aki:dx+19-2251799813685248*a8+2251799813685248*(aj+a8-2251799813685248*aL)+5070602400912917605986812821504*(ah+aL-2251799813685248*z12)+11417981541647679048466287755595961091061972992*(au+z12-2251799813685248*aq)+25711008708143844408671393477458601640355247900524685364822016*(de+aq-2251799813685248*ax)=v5 [dx,aj,ah,au,de]+19-57896044618658097711785492504343953926634992332820282019728792003956564819968*ax:=by
   clear aO xy k1 k2;simp only[DN];omega
  have ayi:dx+19*ax-2251799813685248*aT+2251799813685248*(aj+aT-2251799813685248*aU)+5070602400912917605986812821504*(ah+aU-2251799813685248*bk)+11417981541647679048466287755595961091061972992*(au+bk-2251799813685248*z21)+25711008708143844408671393477458601640355247900524685364822016*(de+z21-2251799813685248*bA)=v5 [dx,aj,ah,au,de]+19*ax-57896044618658097711785492504343953926634992332820282019728792003956564819968*bA:=by
   clear aO xy k1 k2 aki;simp only[DN];omega
  rw[aki]at k1;rw[ayi]at k2;exact canon aO xy k1.1 k1.2 k2.1 k2.2
def Vf (S:Nat->List (List Int)->List (List Int)->Prop) (K:List (List Int)->List (List Int)->Prop):Prop:=
 ∀r0:List Int,ab (ai 0 4503599627370495 5) r0->∀aE:List Int,ab (ai 0 4503599627370495 5) aE->
 ∀cd:List Int,ab (ai 0 4503599627370495 5) cd->S 46 [[((U r0 0 0)+(U aE 0 0)),((U r0 1 0)+(U aE 1 0)),((U r0 2 0)+(U aE 2 0)),((U r0 3 0)+(U aE 3 0)),((U r0 4 0)+(U aE 4 0))]] [cd]->
 K [r0,aE] [cd]
theorem ab1 (G):Vf (fr G) (eP iV.res 34):=by
 unfold Vf;intro r0 i0 aE i5 cd i10 aH;have aH:v5 cd% 57896044618658097711785492504343953926634992332820282019728792003956564819949=v5 [((U r0 0 0)+(U aE 0 0)),((U r0 1 0)+(U aE 1 0)),((U r0 2 0)+(U aE 2 0)),((U r0 3 0)+(U aE 3 0)),((U r0 4 0)+(U aE 4 0))]% 57896044618658097711785492504343953926634992332820282019728792003956564819949/\v5 cd<57896044618658097711785492504343953926634992332820282019728792003956564819949+38:=aH.1;refine⟨?_,?_⟩
 ·exact kY i10
 ·show v5 cd% 57896044618658097711785492504343953926634992332820282019728792003956564819949=(v5 r0+v5 aE)% 57896044618658097711785492504343953926634992332820282019728792003956564819949;rw[aH.1];clear aH;obtain⟨dx,aj,ah,au,de,rfl,cY,cZ,c0,c2,c3,c4,c5,c6,xL,xM⟩:=Bn i0;obtain⟨j1,ar,an,aw,ks,rfl,vL,vM,vO,vP,vQ,vR,vT,vU,aoX,aoY⟩:=Bn i5;simp only[gD,hL,DN]
  congr 1
  omega
def Vc (S:Nat->List (List Int)->List (List Int)->Prop) (K:List (List Int)->List (List Int)->Prop):Prop:=
 ∀r0:List Int,ab (ai 0 4503599627370495 5) r0->∀aE:List Int,ab (ai 0 4503599627370495 5) aE->
 ∀cd:List Int,ab (ai 0 4503599627370495 5) cd->S 46 [[(((U r0 0 0)+((-1)*(U aE 0 0)))+9007199254740916),(((U r0 1 0)+((-1)*(U aE 1 0)))+9007199254740988),(((U r0 2 0)+((-1)*(U aE 2 0)))+9007199254740988),(((U r0 3 0)+((-1)*(U aE 3 0)))+9007199254740988),(((U r0 4 0)+((-1)*(U aE 4 0)))+9007199254740988)]] [cd]->
 K [r0,aE] [cd]
theorem ab0 (G):Vc (fr G) (eP iU.res 32):=by
 unfold Vc;intro r0 i0 aE i5 cd i10 aH;have aH:v5 cd% 57896044618658097711785492504343953926634992332820282019728792003956564819949=v5 [(((U r0 0 0)+((-1)*(U aE 0 0)))+9007199254740916),(((U r0 1 0)+((-1)*(U aE 1 0)))+9007199254740988),(((U r0 2 0)+((-1)*(U aE 2 0)))+9007199254740988),(((U r0 3 0)+((-1)*(U aE 3 0)))+9007199254740988),(((U r0 4 0)+((-1)*(U aE 4 0)))+9007199254740988)]% 57896044618658097711785492504343953926634992332820282019728792003956564819949/\v5 cd<57896044618658097711785492504343953926634992332820282019728792003956564819949+38:=aH.1;refine⟨?_,?_⟩
 ·exact kY i10
 ·show v5 cd% 57896044618658097711785492504343953926634992332820282019728792003956564819949=(v5 r0-v5 aE)% 57896044618658097711785492504343953926634992332820282019728792003956564819949;rw[aH.1];clear aH;obtain⟨dx,aj,ah,au,de,rfl,cY,cZ,c0,c2,c3,c4,c5,c6,xL,xM⟩:=Bn i0;obtain⟨j1,ar,an,aw,ks,rfl,vL,vM,vO,vP,vQ,vR,vT,vU,aoX,aoY⟩:=Bn i5;simp only[gD,hL];have e:v5 [((dx+((-1)*j1))+9007199254740916),((aj+((-1)*ar))+9007199254740988),((ah+((-1)*an))+9007199254740988),((au+((-1)*aw))+9007199254740988),((de+((-1)*ks))+9007199254740988)]=v5 [dx,aj,ah,au,de]-v5 [j1,ar,an,aw,ks]+57896044618658097711785492504343953926634992332820282019728792003956564819949*4:=by simp only[DN];omega
  rw[e,xW]
def VI (S:Nat->List (List Int)->List (List Int)->Prop) (K:List (List Int)->List (List Int)->Prop):Prop:=
 ∀r0:List Int,ab (ai 0 bE 5) r0->∀aE:List Int,ab (ai 0 bE 5) aE->
 dK tn ((U r0 0 0)*(U aE 0 0)) λa8=>
 aB 0 jY a8 a1 λaL=>
 dK tn ((U r0 0 0)*(U aE 1 0)) λz12=>
 aB 0 jY z12 a1 λaq=>
 dK tn ((U r0 0 0)*(U aE 2 0)) λax=>
 aB 0 jY ax a1 λaT=>
 dK tn ((U r0 0 0)*(U aE 3 0)) λbh=>
 aB 0 jY bh a1 λaU=>
 dK tn ((U r0 0 0)*(U aE 4 0)) λbd=>
 aB 0 jY bd a1 λbk=>
 dK tn ((U r0 1 0)*(U aE 0 0)) λz20=>
 aB 0 jY z20 a1 λz21=>
 bz (z12+((aa*aq)+(z20+(aa*z21)))) a1 λz22=>
 dK tn ((U r0 1 0)*(U aE 1 0)) λbA=>
 aB 0 jY bA a1 λz24=>
 bz (ax+((aa*aT)+(bA+(aa*z24)))) a1 λbS=>
 dK tn ((U r0 1 0)*(U aE 2 0)) λz26=>
 aB 0 jY z26 a1 λbO=>
 bz (bh+((aa*aU)+(z26+(aa*bO)))) a1 λz28=>
 dK tn ((U r0 1 0)*(U aE 3 0)) λbX=>
 aB 0 jY bX a1 λb2=>
 bz (bd+((aa*bk)+(bX+(aa*b2)))) a1 λz31=>
 dK zY ((U r0 1 0)*(19*(U aE 4 0))) λaS=>
 aB 0 zZ aS a1 λbL=>
 bz (a8+((aa*aL)+(aS+(aa*bL)))) a1 λbY=>
 dK tn ((U r0 2 0)*(U aE 0 0)) λbB=>
 aB 0 jY bB a1 λbZ=>
 bz (ax+((aa*aT)+(bA+((aa*z24)+((aa*bS)+(bB+(aa*bZ))))))) a1 λz37=>
 dK tn ((U r0 2 0)*(U aE 1 0)) λcA=>
 aB 0 jY cA a1 λct=>
 bz (bh+((aa*aU)+(z26+((aa*bO)+((aa*z28)+(cA+(aa*ct))))))) a1 λz40=>
 dK tn ((U r0 2 0)*(U aE 2 0)) λcq=>
 aB 0 jY cq a1 λcw=>
 bz (bd+((aa*bk)+(bX+((aa*b2)+((aa*z31)+(cq+(aa*cw))))))) a1 λcN=>
 dK zY ((U r0 2 0)*(19*(U aE 3 0))) λdp=>
 aB 0 zZ dp a1 λcH=>
 bz (a8+((aa*aL)+(aS+((aa*bL)+((aa*bY)+(dp+(aa*cH))))))) a1 λz46=>
 dK zY ((U r0 2 0)*(19*(U aE 4 0))) λcE=>
 aB 0 zZ cE a1 λcQ=>
 bz (z12+((aa*aq)+(z20+((aa*z21)+((aa*z22)+(cE+(aa*cQ))))))) a1 λz49=>
 dK tn ((U r0 3 0)*(U aE 0 0)) λc9=>
 aB 0 jY c9 a1 λz51=>
 bz (bh+((aa*aU)+(z26+((aa*bO)+((aa*z28)+(cA+((aa*ct)+((aa*z40)+(c9+(aa*z51)))))))))) a1 λcx=>
 dK tn ((U r0 3 0)*(U aE 1 0)) λz53=>
 aB 0 jY z53 a1 λdf=>
 bz (bd+((aa*bk)+(bX+((aa*b2)+((aa*z31)+(cq+((aa*cw)+((aa*cN)+(z53+(aa*df)))))))))) a1 λdq=>
 dK zY ((U r0 3 0)*(19*(U aE 2 0))) λdg=>
 aB 0 zZ dg a1 λcu=>
 bz (a8+((aa*aL)+(aS+((aa*bL)+((aa*bY)+(dp+((aa*cH)+((aa*z46)+(dg+(aa*cu)))))))))) a1 λdz=>
 dK zY ((U r0 3 0)*(19*(U aE 3 0))) λz59=>
 aB 0 zZ z59 a1 λdJ=>
 bz (z12+((aa*aq)+(z20+((aa*z21)+((aa*z22)+(cE+((aa*cQ)+((aa*z49)+(z59+(aa*dJ)))))))))) a1 λdP=>
 dK zY ((U r0 3 0)*(19*(U aE 4 0))) λdV=>
 aB 0 zZ dV a1 λdr=>
 bz (ax+((aa*aT)+(bA+((aa*z24)+((aa*bS)+(bB+((aa*bZ)+((aa*z37)+(dV+(aa*dr)))))))))) a1 λed=>
 dK tn ((U r0 4 0)*(U aE 0 0)) λeG=>
 aB 0 jY eG a1 λeD=>
 bz (bd+((aa*bk)+(bX+((aa*b2)+((aa*z31)+(cq+((aa*cw)+((aa*cN)+(z53+((aa*df)+((aa*dq)+(eG+(aa*eD))))))))))))) a1 λeu=>
 dK zY ((U r0 4 0)*(19*(U aE 1 0))) λfb=>
 aB 0 zZ fb a1 λek=>
 bz (a8+((aa*aL)+(aS+((aa*bL)+((aa*bY)+(dp+((aa*cH)+((aa*z46)+(dg+((aa*cu)+((aa*dz)+(fb+(aa*ek))))))))))))) a1 λz70=>
 dK zY ((U r0 4 0)*(19*(U aE 2 0))) λfc=>
 aB 0 zZ fc a1 λz72=>
 bz (z12+((aa*aq)+(z20+((aa*z21)+((aa*z22)+(cE+((aa*cQ)+((aa*z49)+(z59+((aa*dJ)+((aa*dP)+(fc+(aa*z72))))))))))))) a1 λeH=>
 dK zY ((U r0 4 0)*(19*(U aE 3 0))) λgI=>
 aB 0 zZ gI a1 λz75=>
 bz (ax+((aa*aT)+(bA+((aa*z24)+((aa*bS)+(bB+((aa*bZ)+((aa*z37)+(dV+((aa*dr)+((aa*ed)+(gI+(aa*z75))))))))))))) a1 λz76=>
 dK zY ((U r0 4 0)*(19*(U aE 4 0))) λhX=>
 aB 0 zZ hX a1 λho=>
 bz (bh+((aa*aU)+(z26+((aa*bO)+((aa*z28)+(cA+((aa*ct)+((aa*z40)+(c9+((aa*z51)+((aa*cx)+(hX+(aa*ho))))))))))))) a1 λhq=>
 bz (a8+((aa*aL)+(aS+((aa*bL)+((aa*bY)+(dp+((aa*cH)+((aa*z46)+(dg+((aa*cu)+((aa*dz)+(fb+((aa*ek)+(aa*z70)))))))))))))) a1 λil=>
 aB 0 8191 (a8+((aa*aL)+(aS+((aa*bL)+((aa*bY)+(dp+((aa*cH)+((aa*z46)+(dg+((aa*cu)+((aa*dz)+(fb+((aa*ek)+((aa*z70)+(aa*il))))))))))))))) fy λj2=>
 aB 0 8191 (a8+((aa*aL)+(aS+((aa*bL)+((aa*bY)+(dp+((aa*cH)+((aa*z46)+(dg+((aa*cu)+((aa*dz)+(fb+((aa*ek)+((aa*z70)+(aa*il))))))))))))))) fy λji=>
 bz ((8192*aL)+(z12+((aa*aq)+(z20+((aa*z21)+((aa*z22)+((8192*bL)+((8192*bY)+((8192*cH)+((8192*z46)+(cE+((aa*cQ)+((aa*z49)+((8192*cu)+((8192*dz)+(z59+((aa*dJ)+((aa*dP)+((8192*ek)+((8192*z70)+(fc+((aa*z72)+((aa*eH)+((8192*il)+ji)))))))))))))))))))))))) a1 λhZ=>
 aB 0 8191 ((8192*aL)+(z12+((aa*aq)+(z20+((aa*z21)+((aa*z22)+((8192*bL)+((8192*bY)+((8192*cH)+((8192*z46)+(cE+((aa*cQ)+((aa*z49)+((8192*cu)+((8192*dz)+(z59+((aa*dJ)+((aa*dP)+((8192*ek)+((8192*z70)+(fc+((aa*z72)+((aa*eH)+((8192*il)+(ji+(aa*hZ)))))))))))))))))))))))))) fy λjA=>
 aB 0 8191 ((8192*aL)+(z12+((aa*aq)+(z20+((aa*z21)+((aa*z22)+((8192*bL)+((8192*bY)+((8192*cH)+((8192*z46)+(cE+((aa*cQ)+((aa*z49)+((8192*cu)+((8192*dz)+(z59+((aa*dJ)+((aa*dP)+((8192*ek)+((8192*z70)+(fc+((aa*z72)+((aa*eH)+((8192*il)+(ji+(aa*hZ)))))))))))))))))))))))))) fy λz85=>
 bz ((8192*aq)+(ax+((aa*aT)+((8192*z21)+((8192*z22)+(bA+((aa*z24)+((aa*bS)+(bB+((aa*bZ)+((aa*z37)+((8192*cQ)+((8192*z49)+((8192*dJ)+((8192*dP)+(dV+((aa*dr)+((aa*ed)+((8192*z72)+((8192*eH)+(gI+((aa*z75)+((aa*z76)+((8192*hZ)+z85)))))))))))))))))))))))) a1 λjj=>
 aB 0 8191 ((8192*aq)+(ax+((aa*aT)+((8192*z21)+((8192*z22)+(bA+((aa*z24)+((aa*bS)+(bB+((aa*bZ)+((aa*z37)+((8192*cQ)+((8192*z49)+((8192*dJ)+((8192*dP)+(dV+((aa*dr)+((aa*ed)+((8192*z72)+((8192*eH)+(gI+((aa*z75)+((aa*z76)+((8192*hZ)+(z85+(aa*jj)))))))))))))))))))))))))) fy λz87=>
 aB 0 8191 ((8192*aq)+(ax+((aa*aT)+((8192*z21)+((8192*z22)+(bA+((aa*z24)+((aa*bS)+(bB+((aa*bZ)+((aa*z37)+((8192*cQ)+((8192*z49)+((8192*dJ)+((8192*dP)+(dV+((aa*dr)+((aa*ed)+((8192*z72)+((8192*eH)+(gI+((aa*z75)+((aa*z76)+((8192*hZ)+(z85+(aa*jj)))))))))))))))))))))))))) fy λku=>
 bz ((8192*aT)+(bh+((aa*aU)+((8192*z24)+((8192*bS)+(z26+((aa*bO)+((aa*z28)+((8192*bZ)+((8192*z37)+(cA+((aa*ct)+((aa*z40)+(c9+((aa*z51)+((aa*cx)+((8192*dr)+((8192*ed)+((8192*z75)+((8192*z76)+(hX+((aa*ho)+((aa*hq)+((8192*jj)+ku)))))))))))))))))))))))) a1 λjk=>
 aB 0 8191 ((8192*aT)+(bh+((aa*aU)+((8192*z24)+((8192*bS)+(z26+((aa*bO)+((aa*z28)+((8192*bZ)+((8192*z37)+(cA+((aa*ct)+((aa*z40)+(c9+((aa*z51)+((aa*cx)+((8192*dr)+((8192*ed)+((8192*z75)+((8192*z76)+(hX+((aa*ho)+((aa*hq)+((8192*jj)+(ku+(aa*jk)))))))))))))))))))))))))) fy λkT=>
 aB 0 8191 ((8192*aT)+(bh+((aa*aU)+((8192*z24)+((8192*bS)+(z26+((aa*bO)+((aa*z28)+((8192*bZ)+((8192*z37)+(cA+((aa*ct)+((aa*z40)+(c9+((aa*z51)+((aa*cx)+((8192*dr)+((8192*ed)+((8192*z75)+((8192*z76)+(hX+((aa*ho)+((aa*hq)+((8192*jj)+(ku+(aa*jk)))))))))))))))))))))))))) fy λz91=>
 bz ((8192*aU)+(bd+((aa*bk)+((8192*bO)+((8192*z28)+(bX+((aa*b2)+((aa*z31)+((8192*ct)+((8192*z40)+(cq+((aa*cw)+((aa*cN)+((8192*z51)+((8192*cx)+(z53+((aa*df)+((aa*dq)+(eG+((aa*eD)+((aa*eu)+((8192*ho)+((8192*hq)+((8192*jk)+z91)))))))))))))))))))))))) a1 λjB=>
 aB 0 8191 ((8192*aU)+(bd+((aa*bk)+((8192*bO)+((8192*z28)+(bX+((aa*b2)+((aa*z31)+((8192*ct)+((8192*z40)+(cq+((aa*cw)+((aa*cN)+((8192*z51)+((8192*cx)+(z53+((aa*df)+((aa*dq)+(eG+((aa*eD)+((aa*eu)+((8192*ho)+((8192*hq)+((8192*jk)+(z91+(aa*jB)))))))))))))))))))))))))) fy λz93=>
 aB 0 8191 ((8192*aU)+(bd+((aa*bk)+((8192*bO)+((8192*z28)+(bX+((aa*b2)+((aa*z31)+((8192*ct)+((8192*z40)+(cq+((aa*cw)+((aa*cN)+((8192*z51)+((8192*cx)+(z53+((aa*df)+((aa*dq)+(eG+((aa*eD)+((aa*eu)+((8192*ho)+((8192*hq)+((8192*jk)+(z91+(aa*jB)))))))))))))))))))))))))) fy λlj=>
 aB 0 8191 ((155648*bk)+((155648*b2)+((155648*z31)+((155648*cw)+((155648*cN)+((155648*df)+((155648*dq)+((155648*eD)+((155648*eu)+((155648*jB)+(19*lj))))))))))) fy λmg=>
 aB 0 8191 ((155648*bk)+((155648*b2)+((155648*z31)+((155648*cw)+((155648*cN)+((155648*df)+((155648*dq)+((155648*eD)+((155648*eu)+((155648*jB)+(19*lj))))))))))) fy λq9=>
 ∀xu:List Int,ab (ai 0 bE 5) xu->S 46 [[(a8+((aa*aL)+((155648*bk)+((155648*b2)+((155648*z31)+(aS+((aa*bL)+((aa*bY)+((155648*cw)+((155648*cN)+(dp+((aa*cH)+((aa*z46)+((155648*df)+((155648*dq)+(dg+((aa*cu)+((aa*dz)+((155648*eD)+((155648*eu)+(fb+((aa*ek)+((aa*z70)+((aa*il)+((eh*j2)+((155648*jB)+((19*lj)+(eh*mg)))))))))))))))))))))))))))),((8192*aL)+(z12+((aa*aq)+(z20+((aa*z21)+((aa*z22)+((8192*bL)+((8192*bY)+((8192*cH)+((8192*z46)+(cE+((aa*cQ)+((aa*z49)+((8192*cu)+((8192*dz)+(z59+((aa*dJ)+((aa*dP)+((8192*ek)+((8192*z70)+(fc+((aa*z72)+((aa*eH)+((8192*il)+(ji+((aa*hZ)+((eh*jA)+q9))))))))))))))))))))))))))),((8192*aq)+(ax+((aa*aT)+((8192*z21)+((8192*z22)+(bA+((aa*z24)+((aa*bS)+(bB+((aa*bZ)+((aa*z37)+((8192*cQ)+((8192*z49)+((8192*dJ)+((8192*dP)+(dV+((aa*dr)+((aa*ed)+((8192*z72)+((8192*eH)+(gI+((aa*z75)+((aa*z76)+((8192*hZ)+(z85+((aa*jj)+(eh*z87))))))))))))))))))))))))))),((8192*aT)+(bh+((aa*aU)+((8192*z24)+((8192*bS)+(z26+((aa*bO)+((aa*z28)+((8192*bZ)+((8192*z37)+(cA+((aa*ct)+((aa*z40)+(c9+((aa*z51)+((aa*cx)+((8192*dr)+((8192*ed)+((8192*z75)+((8192*z76)+(hX+((aa*ho)+((aa*hq)+((8192*jj)+(ku+((aa*jk)+(eh*kT))))))))))))))))))))))))))),((8192*aU)+(bd+((aa*bk)+((8192*bO)+((8192*z28)+(bX+((aa*b2)+((aa*z31)+((8192*ct)+((8192*z40)+(cq+((aa*cw)+((aa*cN)+((8192*z51)+((8192*cx)+(z53+((aa*df)+((aa*dq)+(eG+((aa*eD)+((aa*eu)+((8192*ho)+((8192*hq)+((8192*jk)+(z91+((aa*jB)+(eh*z93)))))))))))))))))))))))))))]] [xu]->
 K [r0,aE] [xu]
theorem aCk (G):VI (fr G) (eP ic.res 33):=by
 simp(maxSteps:=4000000) only[VI,dK,aB,bz,aa,a1,jY,eh,fy,bE,tn,zY,zZ];intro r0 i0 aE i5 a8 iA iq pV aL eX e1 lW d11 z12 a12 iv Ew aq fF fI yh d13 ax iN iO zx aT ft fv om d15 bh jm jo nr aU fu fJ oo d17 bd fR gi Ex bk fS fW zt d19 z20 a20 fw Ey z21 a21 fj aV d21 z22 a22 fk uW d22 bA fh fl Ms z24 a24 fm nS d24 bS fG fK pR d25 z26 a26 fL A3 bO fH fX Gz d27 z28 a28 gu rn d28 bX fT fY CE b2 gh fZ sq d30 z31 a31 gz sr d31 aS c7 ga ry bL eY e2 k8 d33 bY fi fo oq d34 bB e7 e9 Jk bZ eZ eQ pd d36 z37 a37 fM yi d37 cA e0 fa EB ct e8 fp ot d39 z40 a40 gA zu d40 cq jG jI CF cw jn jq ou d42 cN kx kD ss d43 dp kW kE A4 cH lD lS GA d45 z46 a46 lF rq d46 cE ky kF EC cQ kz kG su d48 z49 a49 kH sw d49 c9 lE lT pY z51 a51 kZ rr d51 cx kA kI ru d52 z53 a53 k0 A5 df ll k5 sx d54 dq lQ lU GB d55 dg kB k6 EE cu kj j3 qB d57 dz lR mo GC d58 z59 a59 k7 GO dJ mH mN tR d60 dP mI mO uX d61 dV mJ mq EF dr pa pN Qj d63 ed jb mP tS d64 eG mK mQ A6 eD mL mR uY d66 eu ng mS uZ d67 fb pb pO rA ek nh nk tT d69 z70 a70 nm tU d70 fc ni nn GP z72 a72 np u0 d72 eH zk wD Qk d73 gI zl zp Jl z75 a75 zq Ql d75 z76 a76 uQ Qm d76 hX x4 ya A7 ho x5 yb Qn d78 hq x6 yc Qo d79 il AS AX Qp d80 j2 x7 yd Mi d81 ji wu wE Es d82 hZ wv wF Qq d83 jA wx wG Et d84 z85 a85 zr Mj d85 jj Cv Cy GD d86 z87 a87 El ag4 d87 ku Ee Em ag5 d88 jk Ef En ar8 d89 kT Eg Eo ag6 d90 z91 a91 Gr ag7 d91 jB Gj Gs ar9 d92 z93 a93 Gt ag8 d93 lj Gk Gu ag9 d94 mg IX I3 aha d95 q9 L5 L9 ahb d96 xu i97 aH
 have aH:v5 xu% 57896044618658097711785492504343953926634992332820282019728792003956564819949=v5 [(a8+(((-18446744073709551616)*aL)+((155648*bk)+((155648*b2)+((155648*z31)+(aS+(((-18446744073709551616)*bL)+(((-18446744073709551616)*bY)+((155648*cw)+((155648*cN)+(dp+(((-18446744073709551616)*cH)+(((-18446744073709551616)*z46)+((155648*df)+((155648*dq)+(dg+(((-18446744073709551616)*cu)+(((-18446744073709551616)*dz)+((155648*eD)+((155648*eu)+(fb+(((-18446744073709551616)*ek)+(((-18446744073709551616)*z70)+(((-18446744073709551616)*il)+(((-2251799813685248)*j2)+((155648*jB)+((19*lj)+((-2251799813685248)*mg)))))))))))))))))))))))))))),((8192*aL)+(z12+(((-18446744073709551616)*aq)+(z20+(((-18446744073709551616)*z21)+(((-18446744073709551616)*z22)+((8192*bL)+((8192*bY)+((8192*cH)+((8192*z46)+(cE+(((-18446744073709551616)*cQ)+(((-18446744073709551616)*z49)+((8192*cu)+((8192*dz)+(z59+(((-18446744073709551616)*dJ)+(((-18446744073709551616)*dP)+((8192*ek)+((8192*z70)+(fc+(((-18446744073709551616)*z72)+(((-18446744073709551616)*eH)+((8192*il)+(ji+(((-18446744073709551616)*hZ)+(((-2251799813685248)*jA)+q9))))))))))))))))))))))))))),((8192*aq)+(ax+(((-18446744073709551616)*aT)+((8192*z21)+((8192*z22)+(bA+(((-18446744073709551616)*z24)+(((-18446744073709551616)*bS)+(bB+(((-18446744073709551616)*bZ)+(((-18446744073709551616)*z37)+((8192*cQ)+((8192*z49)+((8192*dJ)+((8192*dP)+(dV+(((-18446744073709551616)*dr)+(((-18446744073709551616)*ed)+((8192*z72)+((8192*eH)+(gI+(((-18446744073709551616)*z75)+(((-18446744073709551616)*z76)+((8192*hZ)+(z85+(((-18446744073709551616)*jj)+((-2251799813685248)*z87))))))))))))))))))))))))))),((8192*aT)+(bh+(((-18446744073709551616)*aU)+((8192*z24)+((8192*bS)+(z26+(((-18446744073709551616)*bO)+(((-18446744073709551616)*z28)+((8192*bZ)+((8192*z37)+(cA+(((-18446744073709551616)*ct)+(((-18446744073709551616)*z40)+(c9+(((-18446744073709551616)*z51)+(((-18446744073709551616)*cx)+((8192*dr)+((8192*ed)+((8192*z75)+((8192*z76)+(hX+(((-18446744073709551616)*ho)+(((-18446744073709551616)*hq)+((8192*jj)+(ku+(((-18446744073709551616)*jk)+((-2251799813685248)*kT))))))))))))))))))))))))))),((8192*aU)+(bd+(((-18446744073709551616)*bk)+((8192*bO)+((8192*z28)+(bX+(((-18446744073709551616)*b2)+(((-18446744073709551616)*z31)+((8192*ct)+((8192*z40)+(cq+(((-18446744073709551616)*cw)+(((-18446744073709551616)*cN)+((8192*z51)+((8192*cx)+(z53+(((-18446744073709551616)*df)+(((-18446744073709551616)*dq)+(eG+(((-18446744073709551616)*eD)+(((-18446744073709551616)*eu)+((8192*ho)+((8192*hq)+((8192*jk)+(z91+(((-18446744073709551616)*jB)+((-2251799813685248)*z93)))))))))))))))))))))))))))]% 57896044618658097711785492504343953926634992332820282019728792003956564819949/\v5 xu<57896044618658097711785492504343953926634992332820282019728792003956564819949+38:=aH.1;refine⟨?_,?_⟩
 ·exact kY i97
 ·show v5 xu% 57896044618658097711785492504343953926634992332820282019728792003956564819949=v5 r0*v5 aE% 57896044618658097711785492504343953926634992332820282019728792003956564819949;obtain⟨dx,aj,ah,au,de,rfl,cY,cZ,c0,c2,c3,c4,c5,c6,xL,xM⟩:=Bn i0;obtain⟨j1,ar,an,aw,ks,rfl,vL,vM,vO,vP,vQ,vR,vT,vU,aoX,aoY⟩:=Bn i5;simp only[gD,hL]at*;have acn:j2=ji:=dup Mi d81 Es d82;subst acn;have aD5:jA=z85:=dup Et d84 Mj d85;subst aD5;have aD7:z87=ku:=dup ag4 d87 ag5 d88;subst aD7;have aD8:kT=z91:=dup ag6 d90 ag7 d91;subst aD8;have aD9:z93=lj:=dup ag8 d93 ag9 d94;subst aD9;have aEa:mg=q9:=dup aha d95 ahb d96;subst aEa
  have ahF:v5 [(a8+(((-18446744073709551616)*aL)+((155648*bk)+((155648*b2)+((155648*z31)+(aS+(((-18446744073709551616)*bL)+(((-18446744073709551616)*bY)+((155648*cw)+((155648*cN)+(dp+(((-18446744073709551616)*cH)+(((-18446744073709551616)*z46)+((155648*df)+((155648*dq)+(dg+(((-18446744073709551616)*cu)+(((-18446744073709551616)*dz)+((155648*eD)+((155648*eu)+(fb+(((-18446744073709551616)*ek)+(((-18446744073709551616)*z70)+(((-18446744073709551616)*il)+(((-2251799813685248)*j2)+((155648*jB)+((19*z93)+((-2251799813685248)*mg)))))))))))))))))))))))))))),((8192*aL)+(z12+(((-18446744073709551616)*aq)+(z20+(((-18446744073709551616)*z21)+(((-18446744073709551616)*z22)+((8192*bL)+((8192*bY)+((8192*cH)+((8192*z46)+(cE+(((-18446744073709551616)*cQ)+(((-18446744073709551616)*z49)+((8192*cu)+((8192*dz)+(z59+(((-18446744073709551616)*dJ)+(((-18446744073709551616)*dP)+((8192*ek)+((8192*z70)+(fc+(((-18446744073709551616)*z72)+(((-18446744073709551616)*eH)+((8192*il)+(j2+(((-18446744073709551616)*hZ)+(((-2251799813685248)*jA)+mg))))))))))))))))))))))))))),((8192*aq)+(ax+(((-18446744073709551616)*aT)+((8192*z21)+((8192*z22)+(bA+(((-18446744073709551616)*z24)+(((-18446744073709551616)*bS)+(bB+(((-18446744073709551616)*bZ)+(((-18446744073709551616)*z37)+((8192*cQ)+((8192*z49)+((8192*dJ)+((8192*dP)+(dV+(((-18446744073709551616)*dr)+(((-18446744073709551616)*ed)+((8192*z72)+((8192*eH)+(gI+(((-18446744073709551616)*z75)+(((-18446744073709551616)*z76)+((8192*hZ)+(jA+(((-18446744073709551616)*jj)+((-2251799813685248)*z87))))))))))))))))))))))))))),((8192*aT)+(bh+(((-18446744073709551616)*aU)+((8192*z24)+((8192*bS)+(z26+(((-18446744073709551616)*bO)+(((-18446744073709551616)*z28)+((8192*bZ)+((8192*z37)+(cA+(((-18446744073709551616)*ct)+(((-18446744073709551616)*z40)+(c9+(((-18446744073709551616)*z51)+(((-18446744073709551616)*cx)+((8192*dr)+((8192*ed)+((8192*z75)+((8192*z76)+(hX+(((-18446744073709551616)*ho)+(((-18446744073709551616)*hq)+((8192*jj)+(z87+(((-18446744073709551616)*jk)+((-2251799813685248)*kT))))))))))))))))))))))))))),((8192*aU)+(bd+(((-18446744073709551616)*bk)+((8192*bO)+((8192*z28)+(bX+(((-18446744073709551616)*b2)+(((-18446744073709551616)*z31)+((8192*ct)+((8192*z40)+(cq+(((-18446744073709551616)*cw)+(((-18446744073709551616)*cN)+((8192*z51)+((8192*cx)+(z53+(((-18446744073709551616)*df)+(((-18446744073709551616)*dq)+(eG+(((-18446744073709551616)*eD)+(((-18446744073709551616)*eu)+((8192*ho)+((8192*hq)+((8192*jk)+(kT+(((-18446744073709551616)*jB)+((-2251799813685248)*z93)))))))))))))))))))))))))))]=(1*a8+2251799813685248*z12+5070602400912917605986812821504*ax+11417981541647679048466287755595961091061972992*bh+25711008708143844408671393477458601640355247900524685364822016*bd+2251799813685248*z20+5070602400912917605986812821504*bA+11417981541647679048466287755595961091061972992*z26+25711008708143844408671393477458601640355247900524685364822016*bX+1*aS+5070602400912917605986812821504*bB+11417981541647679048466287755595961091061972992*cA+25711008708143844408671393477458601640355247900524685364822016*cq+1*dp+2251799813685248*cE+11417981541647679048466287755595961091061972992*c9+25711008708143844408671393477458601640355247900524685364822016*z53+1*dg+2251799813685248*z59+5070602400912917605986812821504*dV+25711008708143844408671393477458601640355247900524685364822016*eG+1*fb+2251799813685248*fc+5070602400912917605986812821504*gI+11417981541647679048466287755595961091061972992*hX)+57896044618658097711785492504343953926634992332820282019728792003956564819949*(-(8192*bk+8192*b2+8192*z31+8192*cw+8192*cN+8192*df+8192*dq+8192*eD+8192*eu+8192*jB+1*z93)):=by
   clear iA iq pV eX e1 lW d11 a12 iv Ew fF fI yh d13 iN iO zx ft fv om d15 jm jo nr fu fJ oo d17 fR gi Ex fS fW zt d19 a20 fw Ey a21 fj aV d21 a22 fk uW d22 fh fl Ms a24 fm nS d24 fG fK pR d25 a26 fL A3 fH fX Gz d27 a28 gu rn d28 fT fY CE gh fZ sq d30 a31 gz sr d31 c7 ga ry eY e2 k8 d33 fi fo oq d34 e7 e9 Jk eZ eQ pd d36 a37 fM yi d37 e0 fa EB e8 fp ot d39 a40 gA zu d40 jG jI CF jn jq ou d42 kx kD ss d43 kW kE A4 lD lS GA d45 a46 lF rq d46 ky kF EC kz kG su d48 a49 kH sw d49 lE lT pY a51 kZ rr d51 kA kI ru d52 a53 k0 A5 ll k5 sx d54 lQ lU GB d55 kB k6 EE kj j3 qB d57 lR mo GC d58 a59 k7 GO mH mN tR d60 mI mO uX d61 mJ mq EF pa pN Qj d63 jb mP tS d64 mK mQ A6 mL mR uY d66 ng mS uZ d67 pb pO rA nh nk tT d69 a70 nm tU d70 ni nn GP a72 np u0 d72 zk wD Qk d73 zl zp Jl a75 zq Ql d75 a76 uQ Qm d76 x4 ya A7 x5 yb Qn d78 x6 yc Qo d79 AS AX Qp d80 x7 yd Mi d81 wu wE Es d82 wv wF Qq d83 wx wG Et d84 a85 zr Mj d85 Cv Cy GD d86 a87 El ag4 d87 Ee Em ag5 d88 Ef En ar8 d89 Eg Eo ag6 d90 a91 Gr ag7 d91 Gj Gs ar9 d92 a93 Gt ag8 d93 Gk Gu ag9 d94 IX I3 aha d95 L5 L9 ahb d96 aH;simp only[DN];omega
  rw[aH.1,ahF,xW];clear ahF aH;rw[pV,Ew,zx,nr,Ex,Ey,Ms,A3,CE,ry,Jk,EB,CF,A4,EC,pY,A5,EE,GO,EF,A6,rA,GP,Jl,A7];rw[DN,DN,aGc,xW]
end Go.Fd
namespace Go.Fd
open Go.b9
def VH (S:Nat->List (List Int)->List (List Int)->Prop) (K:List (List Int)->List (List Int)->Prop):Prop:=
 ∀r0:List Int,ab (ai 0 4503599627370495 5) r0->
 ∀aE:List Int,ab (ai 0 4503599627370495 5) aE->S 33 [r0,r0] [aE]->
 K [r0] [aE]
theorem aCg (G):VH (fr G) (eP mx.res 47):=by
 unfold VH;intro r0 i0 aE i5 aH;have aH:v5 aE% 57896044618658097711785492504343953926634992332820282019728792003956564819949=v5 r0*v5 r0% 57896044618658097711785492504343953926634992332820282019728792003956564819949:=aH.1;refine⟨?_,?_⟩
 ·exact kY i5
 ·show v5 aE% 57896044618658097711785492504343953926634992332820282019728792003956564819949=v5 r0*v5 r0% 57896044618658097711785492504343953926634992332820282019728792003956564819949;exact aH
def Vd (S:Nat->List (List Int)->List (List Int)->Prop) (K:List (List Int)->List (List Int)->Prop):Prop:=
 ∀r0:List Int,ab (ai 0 4503599627370495 5) r0->
 ∀aE:List Int,ab (ai 0 4503599627370495 5) aE->S 32 [[0,0,0,0,0],r0] [aE]->
 K [r0] [aE]
theorem aBH (G):Vd (fr G) (eP po.res 50):=by
 unfold Vd;intro r0 i0 aE i5 aH;have aH:v5 aE% 57896044618658097711785492504343953926634992332820282019728792003956564819949=(v5 [0,0,0,0,0]-v5 r0)% 57896044618658097711785492504343953926634992332820282019728792003956564819949:=aH.1;refine⟨?_,?_⟩
 ·exact kY i5
 ·show v5 aE% 57896044618658097711785492504343953926634992332820282019728792003956564819949=(0-v5 r0)% 57896044618658097711785492504343953926634992332820282019728792003956564819949;rw[show v5 [0,0,0,0,0]=0 by decide]at aH;exact aH
def Vg (S:Nat->List (List Int)->List (List Int)->Prop) (K:List (List Int)->List (List Int)->Prop):Prop:=
 ∀r0:List Int,ab (ai 0 bE 5) r0->∀aE:List Int,ab (ai 0 bP 4) aE->
 ∃(PL:List (List Int)->Prop) (US:List (List Int)->Nat),PL [[255],[1,0,0,0,0]]/\(oL (-1) 255 λa8=>∀q2:List Int,ab (ai 0 bE 5) q2->PL [[a8],q2]->
  (((decide (0<=a8))=true->
   ∀dt:List Int,ab (ai 0 bE 5) dt->S 47 [q2] [dt]->
   aB 0 3 a8 64 λz21=>
   dK bP (U aE (z21).toNat 0) λz22=>
   aB 0 3 a8 64 λbA=>
   dK bP (z22/2^((a8+((-64)*bA))).toNat) λz24=>
   aB 0 zW z24 2 λbS=>
   (((decide ((z24+((-2)*bS))=1))=true->
    ∀DC:List Int,ab (ai 0 bE 5) DC->S 33 [dt,r0] [DC]->
    (PL [[(a8+(-1))],DC]/\US [[(a8+(-1))],DC]<US [[a8],q2])
   )/\((decide ((z24+((-2)*bS))=1))=false->
    (PL [[(a8+(-1))],dt]/\US [[(a8+(-1))],dt]<US [[a8],q2])
   ))
  )/\((decide (0<=a8))=false->
   K [r0,aE] [q2]
  ))
 )
theorem aBM (G):Vg (fr G) (V9 G):=by
 simp(maxSteps:=4000000) only[Vg,dK,oL,aB,zW,bE,bP];intro r0 i0 aE i5;refine⟨λl=>match l with|[[i],r]=>v5 r% 57896044618658097711785492504343953926634992332820282019728792003956564819949=cr (v5 r0) ((ad aE).toNat/2^(i+1).toNat)/\r=yN G r0 (ad aE).toNat (255-i).toNat|_=>False,λl=>match l with|[[i],_]=>(i+1).toNat|_=>0,?_,?_⟩
 ·show v5 [1,0,0,0,0]% 57896044618658097711785492504343953926634992332820282019728792003956564819949=cr (v5 r0) ((ad aE).toNat/2^(255+1:Int).toNat)/\[1,0,0,0,0]=yN G r0 (ad aE).toNat (255-255:Int).toNat;refine⟨?_,rfl⟩;rw[anD i5,BF];decide
 ·intro a8 iA iq q2 i11 eg;have eg:v5 q2% 57896044618658097711785492504343953926634992332820282019728792003956564819949=cr (v5 r0) ((ad aE).toNat/2^(a8+1).toNat)/\q2=yN G r0 (ad aE).toNat (255-a8).toNat:=eg;refine⟨λh0=>?_,λh0=>?_⟩
  ·skip
   simp only[cI,dd,cU,dh,decide_eq_true_eq,decide_eq_false_iff_not]at h0;intro dt i16 aH z21 a21 fj aV d21 z22 a22 fk pW bA fh fl nR d23 z24 a24 fm Ez bS fG fK pR d25;have KW:=aH.2;have aH:v5 dt% 57896044618658097711785492504343953926634992332820282019728792003956564819949=v5 q2*v5 q2% 57896044618658097711785492504343953926634992332820282019728792003956564819949:=aH.1;refine⟨λh1=>?_,λh1=>?_⟩
   ·skip
    simp only[cI,dd,cU,dh,decide_eq_true_eq,decide_eq_false_iff_not]at h1;intro DC i26 s1;have Ie:=s1.2;have s1:v5 DC% 57896044618658097711785492504343953926634992332820282019728792003956564819949=v5 dt*v5 r0% 57896044618658097711785492504343953926634992332820282019728792003956564819949:=s1.1;obtain⟨i,rfl⟩:=oY h0;have hb:=Qb i5 iq aV d21 pW nR d23 Ez pR d25;have nY:((i:Int)+1).toNat=i+1:=by omega
    have tV:((i:Int)+(-1)+1).toNat=i:=by omega
    obtain⟨eg,hF⟩:=eg;rw[nY]at eg;have sE:(255-(i:Int)).toNat=255-i:=by omega
    have zA:(255-((i:Int)+(-1))).toNat=(255-i)+1:=by omega
    have zB:255-(255-i)=i:=by omega
    rw[sE]at hF;have g0:dt=G 47 q2:=by have:=KW;simpa using this
    have g1:DC=G 33 (dt++r0):=by have:=Ie;simpa using this
    have cP:(ad aE).toNat/2^i% 2=1:=by omega
    refine⟨⟨?_,?_⟩,?_⟩
    ·show v5 DC% 57896044618658097711785492504343953926634992332820282019728792003956564819949=cr (v5 r0) ((ad aE).toNat/2^((i:Int)+(-1)+1).toNat);rw[tV,amj cP,s1,<-sK (v5 dt),aH,sU (v5 q2) (v5 q2),eg]
    ·show DC=yN G r0 (ad aE).toNat (255-((i:Int)+(-1))).toNat;rw[zA,yN,zB,<-hF,<-g0];have:((ad aE).toNat/2^i% 2==1)=true:=by simpa using cP
     rw[this,cond_true,<-g1]
    ·show((i:Int)+(-1)+1).toNat<((i:Int)+1).toNat;omega
   ·skip
    simp only[cI,dd,cU,dh,decide_eq_true_eq,decide_eq_false_iff_not]at h1;obtain⟨i,rfl⟩:=oY h0;have hb:=Qb i5 iq aV d21 pW nR d23 Ez pR d25;have nY:((i:Int)+1).toNat=i+1:=by omega
    have tV:((i:Int)+(-1)+1).toNat=i:=by omega
    obtain⟨eg,hF⟩:=eg;rw[nY]at eg;have sE:(255-(i:Int)).toNat=255-i:=by omega
    have zA:(255-((i:Int)+(-1))).toNat=(255-i)+1:=by omega
    have zB:255-(255-i)=i:=by omega
    rw[sE]at hF;have g0:dt=G 47 q2:=by have:=KW;simpa using this
    have cP:(ad aE).toNat/2^i% 2≠1:=by omega
    refine⟨⟨?_,?_⟩,?_⟩
    ·show v5 dt% 57896044618658097711785492504343953926634992332820282019728792003956564819949=cr (v5 r0) ((ad aE).toNat/2^((i:Int)+(-1)+1).toNat);rw[tV,ami cP,aH,sU (v5 q2) (v5 q2),eg]
    ·show dt=yN G r0 (ad aE).toNat (255-((i:Int)+(-1))).toNat;rw[zA,yN,zB,<-hF,<-g0];have:((ad aE).toNat/2^i% 2==1)=false:=by simpa using cP
     rw[this,cond_false]
    ·show((i:Int)+(-1)+1).toNat<((i:Int)+1).toNat;omega
  ·skip
   simp only[cI,dd,cU,dh,decide_eq_true_eq,decide_eq_false_iff_not]at h0;obtain⟨eg,hF⟩:=eg;have nY:(a8+1).toNat=0:=by omega
   have sE:(255-a8).toNat=256:=by omega
   rw[nY]at eg;rw[sE]at hF;refine⟨⟨kY i11,?_⟩,?_⟩
   ·show v5 q2% 57896044618658097711785492504343953926634992332820282019728792003956564819949=cr (v5 r0) (ad aE).toNat;simpa using eg
   ·show [q2].flatten=yN G r0 (ad aE).toNat 256;simpa using hF
def U9 (S:Nat->List (List Int)->List (List Int)->Prop) (K:List (List Int)->List (List Int)->Prop):Prop:=
 ∀r0:List Int,ab (ai 0 4503599627370495 5) r0->
 ∀aE:List Int,ab (ai 0 4503599627370495 5) aE->S 43 [r0,[18446744073709551595,18446744073709551615,18446744073709551615,9223372036854775807]] [aE]->
 K [r0] [aE]
theorem aBB (G):U9 (fr G) (eP rT.res 35):=by
 unfold U9;intro r0 i0 aE i5 aH;have aH:v5 aE% 57896044618658097711785492504343953926634992332820282019728792003956564819949=cr (v5 r0) (ad [18446744073709551595,18446744073709551615,18446744073709551615,9223372036854775807]).toNat:=aH.1;refine⟨?_,?_⟩
 ·exact kY i5
 ·show v5 aE% 57896044618658097711785492504343953926634992332820282019728792003956564819949=cr (v5 r0) s9;rw[ate]at aH;exact aH
def VG (S:Nat->List (List Int)->List (List Int)->Prop) (K:List (List Int)->List (List Int)->Prop):Prop:=
 ∀r0:List Int,ab (ai 0 4503599627370495 5) r0->∀aE:List Int,ab (ai 0 4503599627370495 5) aE->
 ∀cd:List Int,ab (ai 0 255 32) cd->S 31 [r0] [cd]->
 ∀ko:List Int,ab (ai 0 255 32) ko->S 31 [aE] [ko]->
 K [r0,aE] [[(cond (decide (cd=ko)) 1 0)]]
theorem aCb (G):VG (fr G) (eP qX.res 48):=by
 unfold VG;intro r0 i0 aE i5 cd i10 aH ko i42 s1;have aH:nb cd=v5 r0% 57896044618658097711785492504343953926634992332820282019728792003956564819949:=aH.1;have s1:nb ko=v5 aE% 57896044618658097711785492504343953926634992332820282019728792003956564819949:=s1.1;refine⟨?_,?_⟩
 ·simp only[qX,aY,D.bds,jD,gq,oh,tH,ab,and_true];rw[u2];exact Xj
 ·show(cond (decide (cd=ko)) 1 0)=bit (v5 r0% 57896044618658097711785492504343953926634992332820282019728792003956564819949=v5 aE% 57896044618658097711785492504343953926634992332820282019728792003956564819949);rw[u2,<-aH,<-s1];exact agN ⟨λh=>by rw[h],λh=>w6 i10 i42 h⟩
def Ve (S:Nat->List (List Int)->List (List Int)->Prop) (K:List (List Int)->List (List Int)->Prop):Prop:=
 ∀r0:List Int,ab (ai 0 4503599627370495 5) r0->
 ∀aE:List Int,ab (ai 0 255 32) aE->S 31 [r0] [aE]->
 ∀z37:Int,0<=z37->z37<=127->0<=(U aE 0 0)-2*z37->(U aE 0 0)-2*z37<2->
 K [r0] [[(cond (decide (((U aE 0 0)+((-2)*z37))=1)) 1 0)]]
theorem aBK (G):Ve (fr G) (eP qT.res 49):=by
 unfold Ve;intro r0 i0 aE i5 aH z37 a37 fM yi d37;have aH:nb aE=v5 r0% 57896044618658097711785492504343953926634992332820282019728792003956564819949:=aH.1;refine⟨?_,?_⟩
 ·simp only[qT,aY,D.bds,jD,gq,oh,tH,ab,and_true];rw[u2];exact Xj
 ·show(cond (decide (((U aE 0 0)+((-2)*z37))=1)) 1 0)=v5 r0% 57896044618658097711785492504343953926634992332820282019728792003956564819949% 2;rw[u2,<-aH];have hp:=azk aE;unfold bit;split<;>omega
def Vx (S:Nat->List (List Int)->List (List Int)->Prop) (K:List (List Int)->List (List Int)->Prop):Prop:=
 ∀r0:List Int,ab (ai 0 bE 5) r0->
 ∀aE:List Int,ab (ai 0 bE 5) aE->S 43 [r0,[iS,bP,bP,R3]] [aE]->
 ∀cd:List Int,ab (ai 0 bE 5) cd->S 47 [aE] [cd]->
 gp λaT=>S 48 [cd,r0] [[aT]]->
 (((decide (aT=1))=true->
  gp λbh=>S 49 [aE] [[bh]]->
  (((decide (bh=1))=true->
   ∀xj:List Int,ab (ai 0 bE 5) xj->S 50 [aE] [xj]->
   K [r0] [xj,[(cond (true) 1 0)]]
  )/\((decide (bh=1))=false->
   K [r0] [aE,[(cond (true) 1 0)]]
  ))
 )/\((decide (aT=1))=false->
  ∀dt:List Int,ab (ai 0 bE 5) dt->S 33 [aE,[aaD,aaE,aaF,aaG,aaH]] [dt]->
  ∀DB:List Int,ab (ai 0 bE 5) DB->S 47 [dt] [DB]->
  gp λz26=>S 48 [DB,r0] [[z26]]->
  (((decide (z26=1))=true->
   gp λbO=>S 49 [dt] [[bO]]->
   (((decide (bO=1))=true->
    ∀jZ:List Int,ab (ai 0 bE 5) jZ->S 50 [dt] [jZ]->
    K [r0] [jZ,[(cond (true) 1 0)]]
   )/\((decide (bO=1))=false->
    K [r0] [dt,[(cond (true) 1 0)]]
   ))
  )/\((decide (z26=1))=false->
   ∀sO:List Int,ab (ai 0 bE 5) sO->S 33 [dt,[aaD,aaE,aaF,aaG,aaH]] [sO]->
   K [r0] [[0,0,0,0,0],[(cond (false) 1 0)]]
  ))
 ))
theorem aB2 (G):Vx (fr G) (eP uo.res 30):=by
 simp(maxSteps:=4000000) only[Vx,gp,iS,bE,bP,R3,aaD,aaE,aaF,aaG,aaH];intro r0 i0 aE i5 aH cd i10 s1 aT ft fv s2;have aH:v5 aE% 57896044618658097711785492504343953926634992332820282019728792003956564819949=cr (v5 r0) (ad [18446744073709551614,18446744073709551615,18446744073709551615,1152921504606846975]).toNat:=aH.1;have s1:v5 cd% 57896044618658097711785492504343953926634992332820282019728792003956564819949=v5 aE*v5 aE% 57896044618658097711785492504343953926634992332820282019728792003956564819949:=s1.1;have s2:aT=bit (v5 cd% 57896044618658097711785492504343953926634992332820282019728792003956564819949=v5 r0% 57896044618658097711785492504343953926634992332820282019728792003956564819949):=s2.1;refine⟨λh0=>?_,λh0=>?_⟩
 ·skip
  simp only[cI,dd,cU,dh,decide_eq_true_eq,decide_eq_false_iff_not]at h0;intro bh jm jo bn;have bn:bh=v5 aE% 57896044618658097711785492504343953926634992332820282019728792003956564819949% 2:=bn.1;refine⟨λh1=>?_,λh1=>?_⟩
  ·skip
   simp only[cI,dd,cU,dh,decide_eq_true_eq,decide_eq_false_iff_not]at h1;intro xj i17 cz;have cz:v5 xj% 57896044618658097711785492504343953926634992332820282019728792003956564819949=(0-v5 aE)% 57896044618658097711785492504343953926634992332820282019728792003956564819949:=cz.1;refine⟨?_,?_⟩
   ·exact Bl i17 ⟨by decide,by decide,trivial⟩
   ·show(v5 xj% 57896044618658097711785492504343953926634992332820282019728792003956564819949,(cond (true) 1 0))=l9 (v5 r0% 57896044618658097711785492504343953926634992332820282019728792003956564819949);rw[zz,<-BE]at aH;have m0:v5 cd% 57896044618658097711785492504343953926634992332820282019728792003956564819949=(v5 aE% 57896044618658097711785492504343953926634992332820282019728792003956564819949)*(v5 aE% 57896044618658097711785492504343953926634992332820282019728792003956564819949)% 57896044618658097711785492504343953926634992332820282019728792003956564819949:=by rw[s1,sU]
    rw[aH]at m0;rw[s2]at h0;have eJ:=wH h0;rw[m0]at eJ;unfold l9;simp only;rw[if_pos eJ];rw[aH]at bn;rw[if_pos (by omega)];have az:(0-v5 aE)% 57896044618658097711785492504343953926634992332820282019728792003956564819949=(0-v5 aE% 57896044618658097711785492504343953926634992332820282019728792003956564819949)% 57896044618658097711785492504343953926634992332820282019728792003956564819949:=by omega
    rw[cz,az,aH];rfl
  ·skip
   simp only[cI,dd,cU,dh,decide_eq_true_eq,decide_eq_false_iff_not]at h1;refine⟨?_,?_⟩
   ·exact Bl i5 ⟨by decide,by decide,trivial⟩
   ·show(v5 aE% 57896044618658097711785492504343953926634992332820282019728792003956564819949,(cond (true) 1 0))=l9 (v5 r0% 57896044618658097711785492504343953926634992332820282019728792003956564819949);rw[zz,<-BE]at aH;have m0:v5 cd% 57896044618658097711785492504343953926634992332820282019728792003956564819949=(v5 aE% 57896044618658097711785492504343953926634992332820282019728792003956564819949)*(v5 aE% 57896044618658097711785492504343953926634992332820282019728792003956564819949)% 57896044618658097711785492504343953926634992332820282019728792003956564819949:=by rw[s1,sU]
    rw[aH]at m0;rw[s2]at h0;have eJ:=wH h0;rw[m0]at eJ;unfold l9;simp only;rw[if_pos eJ];rw[aH]at bn;rw[if_neg (by omega),aH];rfl
 ·skip
  simp only[cI,dd,cU,dh,decide_eq_true_eq,decide_eq_false_iff_not]at h0;intro dt i16 bn DB i21 cz z26 a26 fL dO;have bn:v5 dt% 57896044618658097711785492504343953926634992332820282019728792003956564819949=v5 aE*v5 [1718705420411056,234908883556509,2233514472574048,2117202627021982,765476049583133]% 57896044618658097711785492504343953926634992332820282019728792003956564819949:=bn.1;have cz:v5 DB% 57896044618658097711785492504343953926634992332820282019728792003956564819949=v5 dt*v5 dt% 57896044618658097711785492504343953926634992332820282019728792003956564819949:=cz.1;have dO:z26=bit (v5 DB% 57896044618658097711785492504343953926634992332820282019728792003956564819949=v5 r0% 57896044618658097711785492504343953926634992332820282019728792003956564819949):=dO.1;refine⟨λh2=>?_,λh2=>?_⟩
  ·skip
   simp only[cI,dd,cU,dh,decide_eq_true_eq,decide_eq_false_iff_not]at h2;intro bO fH fX ec;have ec:bO=v5 dt% 57896044618658097711785492504343953926634992332820282019728792003956564819949% 2:=ec.1;refine⟨λh3=>?_,λh3=>?_⟩
   ·skip
    simp only[cI,dd,cU,dh,decide_eq_true_eq,decide_eq_false_iff_not]at h3;intro jZ i28 eK;have eK:v5 jZ% 57896044618658097711785492504343953926634992332820282019728792003956564819949=(0-v5 dt)% 57896044618658097711785492504343953926634992332820282019728792003956564819949:=eK.1;refine⟨?_,?_⟩
    ·exact Bl i28 ⟨by decide,by decide,trivial⟩
    ·show(v5 jZ% 57896044618658097711785492504343953926634992332820282019728792003956564819949,(cond (true) 1 0))=l9 (v5 r0% 57896044618658097711785492504343953926634992332820282019728792003956564819949);rw[zz,<-BE]at aH;have m0:v5 cd% 57896044618658097711785492504343953926634992332820282019728792003956564819949=(v5 aE% 57896044618658097711785492504343953926634992332820282019728792003956564819949)*(v5 aE% 57896044618658097711785492504343953926634992332820282019728792003956564819949)% 57896044618658097711785492504343953926634992332820282019728792003956564819949:=by rw[s1,sU]
     rw[aH]at m0;rw[s2]at h0;have eJ:=Gy h0;rw[m0]at eJ;unfold l9;simp only;rw[if_neg eJ];rw[adn,<-sK,aH]at bn;have ir:v5 DB% 57896044618658097711785492504343953926634992332820282019728792003956564819949=(v5 dt% 57896044618658097711785492504343953926634992332820282019728792003956564819949)*(v5 dt% 57896044618658097711785492504343953926634992332820282019728792003956564819949)% 57896044618658097711785492504343953926634992332820282019728792003956564819949:=by rw[cz,sU]
     rw[bn]at ir;rw[dO]at h2;have bg:=wH h2;rw[ir]at bg;rw[if_pos bg];rw[bn]at ec;rw[if_pos (by omega)];have az:(0-v5 dt)% 57896044618658097711785492504343953926634992332820282019728792003956564819949=(0-v5 dt% 57896044618658097711785492504343953926634992332820282019728792003956564819949)% 57896044618658097711785492504343953926634992332820282019728792003956564819949:=by omega
     rw[eK,az,bn];rfl
   ·skip
    simp only[cI,dd,cU,dh,decide_eq_true_eq,decide_eq_false_iff_not]at h3;refine⟨?_,?_⟩
    ·exact Bl i16 ⟨by decide,by decide,trivial⟩
    ·show(v5 dt% 57896044618658097711785492504343953926634992332820282019728792003956564819949,(cond (true) 1 0))=l9 (v5 r0% 57896044618658097711785492504343953926634992332820282019728792003956564819949);rw[zz,<-BE]at aH;have m0:v5 cd% 57896044618658097711785492504343953926634992332820282019728792003956564819949=(v5 aE% 57896044618658097711785492504343953926634992332820282019728792003956564819949)*(v5 aE% 57896044618658097711785492504343953926634992332820282019728792003956564819949)% 57896044618658097711785492504343953926634992332820282019728792003956564819949:=by rw[s1,sU]
     rw[aH]at m0;rw[s2]at h0;have eJ:=Gy h0;rw[m0]at eJ;unfold l9;simp only;rw[if_neg eJ];rw[adn,<-sK,aH]at bn;have ir:v5 DB% 57896044618658097711785492504343953926634992332820282019728792003956564819949=(v5 dt% 57896044618658097711785492504343953926634992332820282019728792003956564819949)*(v5 dt% 57896044618658097711785492504343953926634992332820282019728792003956564819949)% 57896044618658097711785492504343953926634992332820282019728792003956564819949:=by rw[cz,sU]
     rw[bn]at ir;rw[dO]at h2;have bg:=wH h2;rw[ir]at bg;rw[if_pos bg];rw[bn]at ec;rw[if_neg (by omega),bn];rfl
  ·skip
   simp only[cI,dd,cU,dh,decide_eq_true_eq,decide_eq_false_iff_not]at h2;intro sO i27 ec;have ec:v5 sO% 57896044618658097711785492504343953926634992332820282019728792003956564819949=v5 dt*v5 [1718705420411056,234908883556509,2233514472574048,2117202627021982,765476049583133]% 57896044618658097711785492504343953926634992332820282019728792003956564819949:=ec.1;refine⟨?_,?_⟩
   ·simp[uo,aY,D.bds,hC,ai,ab]
   ·show(v5 [0,0,0,0,0]% 57896044618658097711785492504343953926634992332820282019728792003956564819949,(cond (false) 1 0))=l9 (v5 r0% 57896044618658097711785492504343953926634992332820282019728792003956564819949);rw[zz,<-BE]at aH;have m0:v5 cd% 57896044618658097711785492504343953926634992332820282019728792003956564819949=(v5 aE% 57896044618658097711785492504343953926634992332820282019728792003956564819949)*(v5 aE% 57896044618658097711785492504343953926634992332820282019728792003956564819949)% 57896044618658097711785492504343953926634992332820282019728792003956564819949:=by rw[s1,sU]
    rw[aH]at m0;rw[s2]at h0;have eJ:=Gy h0;rw[m0]at eJ;unfold l9;simp only;rw[if_neg eJ];rw[adn,<-sK,aH]at bn;have ir:v5 DB% 57896044618658097711785492504343953926634992332820282019728792003956564819949=(v5 dt% 57896044618658097711785492504343953926634992332820282019728792003956564819949)*(v5 dt% 57896044618658097711785492504343953926634992332820282019728792003956564819949)% 57896044618658097711785492504343953926634992332820282019728792003956564819949:=by rw[cz,sU]
    rw[bn]at ir;rw[dO]at h2;have bg:=Gy h2;rw[ir]at bg;rw[if_neg bg];decide
def Vp (S:Nat->List (List Int)->List (List Int)->Prop) (K:List (List Int)->List (List Int)->Prop):Prop:=
 ∀r0:List Int,ab (ai 0 255 32) r0->
 ∀b8:List Int,ab (ai 0 4503599627370495 5) b8->S 29 [r0] [b8]->
 ∀gf:List Int,ab (ai 0 255 32) gf->S 31 [b8] [gf]->
 K [r0] [gf]
theorem ab2 (G):Vp (fr G) (eP n3.res 14):=by
 unfold Vp;intro r0 i0 b8 i32 aH gf i37 s1;have aH:v5 b8% 57896044618658097711785492504343953926634992332820282019728792003956564819949=nb r0% 57896044618658097711785492504343953926634992332820282019728792003956564819949:=aH.1;have s1:nb gf=v5 b8% 57896044618658097711785492504343953926634992332820282019728792003956564819949:=s1.1;refine⟨?_,?_⟩
 ·exact kY i37
 ·show nb gf=nb r0% 57896044618658097711785492504343953926634992332820282019728792003956564819949;rw[s1,aH]
def Vr (S:Nat->List (List Int)->List (List Int)->Prop) (K:List (List Int)->List (List Int)->Prop):Prop:=
 ∀r0:List Int,ab (ai 0 255 32) r0->
 ∀b8:List Int,ab (ai 0 255 32) b8->S 14 [r0] [b8]->
 K [r0] [[(cond (decide (b8=r0)) 1 0)]]
theorem ab3 (G):Vr (fr G) (eP nz.res 22):=by
 unfold Vr;intro r0 i0 b8 i32 aH;have aH:nb b8=nb r0% 57896044618658097711785492504343953926634992332820282019728792003956564819949:=aH.1;refine⟨?_,?_⟩
 ·simp only[nz,aY,D.bds,jD,gq,oh,tH,ab,and_true];rw[u2];exact Xj
 ·show(cond (decide (b8=r0)) 1 0)=bit (nb r0<57896044618658097711785492504343953926634992332820282019728792003956564819949);rw[u2];have gS:=abB i0;have e:b8=r0↔nb r0<57896044618658097711785492504343953926634992332820282019728792003956564819949:=by
   refine⟨λh=>?_,λh=>w6 i32 i0 (by rw[aH];omega)⟩;rw[h]at aH;omega
  exact agN e
end Go.Fd
namespace Go.Fd
open Go.b9
def Va (S:Nat->List (List Int)->List (List Int)->Prop) (K:List (List Int)->List (List Int)->Prop):Prop:=
 ∀r0:List Int,ab (ai 0 255 32) r0->
 K [r0] [[((U r0 0 0)+((256*(U r0 1 0))+((65536*(U r0 2 0))+((iF*(U r0 3 0))+((iG*(U r0 4 0))+((iH*(U r0 5 0))+((iI*(U r0 6 0))+(jd*(U r0 7 0))))))))),((U r0 8 0)+((256*(U r0 9 0))+((65536*(U r0 10 0))+((iF*(U r0 11 0))+((iG*(U r0 12 0))+((iH*(U r0 13 0))+((iI*(U r0 14 0))+(jd*(U r0 15 0))))))))),((U r0 16 0)+((256*(U r0 17 0))+((65536*(U r0 18 0))+((iF*(U r0 19 0))+((iG*(U r0 20 0))+((iH*(U r0 21 0))+((iI*(U r0 22 0))+(jd*(U r0 23 0))))))))),((U r0 24 0)+((256*(U r0 25 0))+((65536*(U r0 26 0))+((iF*(U r0 27 0))+((iG*(U r0 28 0))+((iH*(U r0 29 0))+((iI*(U r0 30 0))+(jd*(U r0 31 0)))))))))]]
theorem abZ (G):Va (fr G) (eP lg.res 37):=by
 simp(maxSteps:=4000000) only[Va,iF,iG,iH,iI,jd];intro r0 i0;refine⟨?_,?_⟩
 ·obtain⟨dx,aj,ah,au,de,iK,jz,mc,me,mf,mB,hW,jy,mb,uI,uJ,vu,vv,vw,vx,vy,vz,vA,vB,vC,vD,vE,vF,vG,vH,vI,vJ,rfl,cY,cZ,c0,c2,c3,c4,c5,c6,xL,xM,aoN,aoO,aoP,aoQ,aoR,aoS,aoT,aoU,aoV,aoW,an5,an6,an7,an8,an9,aoa,aob,aoc,aod,aoe,aof,aog,aoh,aoi,aoj,aok,aol,aom,aon,aoo,aop,aoq,aor,aos,aot,aou,aov,aow,aox,aoy,aoz,aoA,aoB,aoC,aoD,aoE,aoF,aoG,aoH,aoI,aoJ,aoK,aoL,aoM⟩:=Ht i0;simp only[lg,aY,D.bds,ez,ai,jD,gq,hK,oh,tH,ab,and_true,gD,hL];omega
 ·show ad [((U r0 0 0)+((256*(U r0 1 0))+((65536*(U r0 2 0))+((16777216*(U r0 3 0))+((4294967296*(U r0 4 0))+((1099511627776*(U r0 5 0))+((281474976710656*(U r0 6 0))+(72057594037927936*(U r0 7 0))))))))),((U r0 8 0)+((256*(U r0 9 0))+((65536*(U r0 10 0))+((16777216*(U r0 11 0))+((4294967296*(U r0 12 0))+((1099511627776*(U r0 13 0))+((281474976710656*(U r0 14 0))+(72057594037927936*(U r0 15 0))))))))),((U r0 16 0)+((256*(U r0 17 0))+((65536*(U r0 18 0))+((16777216*(U r0 19 0))+((4294967296*(U r0 20 0))+((1099511627776*(U r0 21 0))+((281474976710656*(U r0 22 0))+(72057594037927936*(U r0 23 0))))))))),((U r0 24 0)+((256*(U r0 25 0))+((65536*(U r0 26 0))+((16777216*(U r0 27 0))+((4294967296*(U r0 28 0))+((1099511627776*(U r0 29 0))+((281474976710656*(U r0 30 0))+(72057594037927936*(U r0 31 0)))))))))]=nb r0;obtain⟨dx,aj,ah,au,de,iK,jz,mc,me,mf,mB,hW,jy,mb,uI,uJ,vu,vv,vw,vx,vy,vz,vA,vB,vC,vD,vE,vF,vG,vH,vI,vJ,rfl,cY,cZ,c0,c2,c3,c4,c5,c6,xL,xM,aoN,aoO,aoP,aoQ,aoR,aoS,aoT,aoU,aoV,aoW,an5,an6,an7,an8,an9,aoa,aob,aoc,aod,aoe,aof,aog,aoh,aoi,aoj,aok,aol,aom,aon,aoo,aop,aoq,aor,aos,aot,aou,aov,aow,aox,aoy,aoz,aoA,aoB,aoC,aoD,aoE,aoF,aoG,aoH,aoI,aoJ,aoK,aoL,aoM⟩:=Ht i0;simp only[num,gD,hL];omega
def Vh (S:Nat->List (List Int)->List (List Int)->Prop) (K:List (List Int)->List (List Int)->Prop):Prop:=
 ∀r0:List Int,ab (ai 0 bP 4) r0->
 aB 0 rP (U r0 0 0) 256 λz4=>
 aB 0 rP (U r0 0 0) 256 λz5=>
 aB 0 rQ z5 256 λbC=>
 aB 0 rQ (U r0 0 0) 65536 λaX=>
 aB 0 jY aX 256 λaK=>
 aB 0 jY (U r0 0 0) iF λz9=>
 aB 0 rN z9 256 λa8=>
 aB 0 rN (U r0 0 0) iG λaL=>
 aB 0 rO aL 256 λz12=>
 aB 0 rO (U r0 0 0) iH λaq=>
 aB 0 65535 aq 256 λax=>
 aB 0 65535 (U r0 0 0) iI λaT=>
 aB 0 255 aT 256 λbh=>
 aB 0 255 (U r0 0 0) jd λaU=>
 aB 0 rP (U r0 1 0) 256 λbd=>
 aB 0 rP (U r0 1 0) 256 λbk=>
 aB 0 rQ bk 256 λz20=>
 aB 0 rQ (U r0 1 0) 65536 λz21=>
 aB 0 jY z21 256 λz22=>
 aB 0 jY (U r0 1 0) iF λbA=>
 aB 0 rN bA 256 λz24=>
 aB 0 rN (U r0 1 0) iG λbS=>
 aB 0 rO bS 256 λz26=>
 aB 0 rO (U r0 1 0) iH λbO=>
 aB 0 65535 bO 256 λz28=>
 aB 0 65535 (U r0 1 0) iI λbX=>
 aB 0 255 bX 256 λb2=>
 aB 0 255 (U r0 1 0) jd λz31=>
 aB 0 rP (U r0 2 0) 256 λaS=>
 aB 0 rP (U r0 2 0) 256 λbL=>
 aB 0 rQ bL 256 λbY=>
 aB 0 rQ (U r0 2 0) 65536 λbB=>
 aB 0 jY bB 256 λbZ=>
 aB 0 jY (U r0 2 0) iF λz37=>
 aB 0 rN z37 256 λcA=>
 aB 0 rN (U r0 2 0) iG λct=>
 aB 0 rO ct 256 λz40=>
 aB 0 rO (U r0 2 0) iH λcq=>
 aB 0 65535 cq 256 λcw=>
 aB 0 65535 (U r0 2 0) iI λcN=>
 aB 0 255 cN 256 λdp=>
 aB 0 255 (U r0 2 0) jd λcH=>
 aB 0 rP (U r0 3 0) 256 λz46=>
 aB 0 rP (U r0 3 0) 256 λcE=>
 aB 0 rQ cE 256 λcQ=>
 aB 0 rQ (U r0 3 0) 65536 λz49=>
 aB 0 jY z49 256 λc9=>
 aB 0 jY (U r0 3 0) iF λz51=>
 aB 0 rN z51 256 λcx=>
 aB 0 rN (U r0 3 0) iG λz53=>
 aB 0 rO z53 256 λdf=>
 aB 0 rO (U r0 3 0) iH λdq=>
 aB 0 65535 dq 256 λdg=>
 aB 0 65535 (U r0 3 0) iI λcu=>
 aB 0 255 cu 256 λdz=>
 aB 0 255 (U r0 3 0) jd λz59=>
 K [r0] [[((U r0 0 0)+((-256)*z4)),(z5+((-256)*bC)),(aX+((-256)*aK)),(z9+((-256)*a8)),(aL+((-256)*z12)),(aq+((-256)*ax)),(aT+((-256)*bh)),aU,((U r0 1 0)+((-256)*bd)),(bk+((-256)*z20)),(z21+((-256)*z22)),(bA+((-256)*z24)),(bS+((-256)*z26)),(bO+((-256)*z28)),(bX+((-256)*b2)),z31,((U r0 2 0)+((-256)*aS)),(bL+((-256)*bY)),(bB+((-256)*bZ)),(z37+((-256)*cA)),(ct+((-256)*z40)),(cq+((-256)*cw)),(cN+((-256)*dp)),cH,((U r0 3 0)+((-256)*z46)),(cE+((-256)*cQ)),(z49+((-256)*c9)),(z51+((-256)*cx)),(z53+((-256)*df)),(dq+((-256)*dg)),(cu+((-256)*dz)),z59]]
theorem aBN (G):Vh (fr G) (eP tp.res 27):=by
 simp(maxSteps:=4000000) only[Vh,aB,iF,iG,iH,iI,jd,rP,rQ,jY,rN,rO,bP];intro r0 i0 z4 a4 mm dk d4 z5 a5 mn fN d5 bC pL pM hQ d6 aX qx qy nT d7 aK jH jJ lX d8 z9 a9 fx j5 d9 a8 iA iq pQ d10 aL eX e1 lW d11 z12 a12 iv nO d12 aq fF fI yh d13 ax iN iO pc d14 aT ft fv om d15 bh jm jo AY d16 aU fu fJ oo d17 bd fR gi nP d18 bk fS fW zt d19 z20 a20 fw nQ d20 z21 a21 fj aV d21 z22 a22 fk uW d22 bA fh fl nR d23 z24 a24 fm nS d24 bS fG fK pR d25 z26 a26 fL tO d26 bO fH fX Gz d27 z28 a28 gu rn d28 bX fT fY sZ d29 b2 gh fZ sq d30 z31 a31 gz sr d31 aS c7 ga rp d32 bL eY e2 k8 d33 bY fi fo oq d34 bB e7 e9 qA d35 bZ eZ eQ pd d36 z37 a37 fM yi d37 cA e0 fa pS d38 ct e8 fp ot d39 z40 a40 gA zu d40 cq jG jI pT d41 cw jn jq ou d42 cN kx kD ss d43 dp kW kE tP d44 cH lD lS GA d45 z46 a46 lF rq d46 cE ky kF s0 d47 cQ kz kG su d48 z49 a49 kH sw d49 c9 lE lT Mh d50 z51 a51 kZ rr d51 cx kA kI ru d52 z53 a53 k0 tQ d53 df ll k5 sx d54 dq lQ lU GB d55 dg kB k6 sy d56 cu kj j3 qB d57 dz lR mo GC d58 z59 a59 k7 s3 d59;have ks:=cv a4 mm dk d4;have Iv:=cv a5 mn fN d5;have y8:=cv pL pM hQ d6;have Ix:=cv qx qy nT d7
 have xO:=cv jH jJ lX d8;have BY:=cv a9 fx j5 d9;have y2:=cv iA iq pQ d10;have DO:=cv eX e1 lW d11
 have BT:=cv a12 iv nO d12;have DP:=cv fF fI yh d13;have FP:=cv iN iO pc d14;have FQ:=cv ft fv om d15
 have Im:=cv jm jo AY d16;have Io:=cv fu fJ oo d17;have vN:=cv fR gi nP d18;have Ip:=cv fS fW zt d19
 have y3:=cv a20 fw nQ d20;have DQ:=cv a21 fj aV d21;have y4:=cv a22 fk uW d22;have Lf:=cv fh fl nR d23
 have DR:=cv a24 fm nS d24;have Iq:=cv fG fK pR d25;have BU:=cv a26 fL tO d26;have FR:=cv fH fX Gz d27
 have Ir:=cv a28 gu rn d28;have Lg:=cv fT fY sZ d29;have FT:=cv gh fZ sq d30;have FU:=cv a31 gz sr d31
 have vS:=cv c7 ga rp d32;have Lh:=cv eY e2 k8 d33;have Aj:=cv fi fo oq d34;have FV:=cv e7 e9 qA d35
 have y5:=cv eZ eQ pd d36;have Is:=cv a37 fM yi d37;have BV:=cv e0 fa pS d38;have DS:=cv e8 fp ot d39
 have BW:=cv a40 gA zu d40;have Li:=cv jG jI pT d41;have It:=cv jn jq ou d42;have Iu:=cv kx kD ss d43
 have FW:=cv kW kE tP d44;have FX:=cv lD lS GA d45;have y6:=cv a46 lF rq d46;have Lj:=cv ky kF s0 d47
 have xN:=cv kz kG su d48;have FY:=cv a49 kH sw d49;have y7:=cv lE lT Mh d50;have Lk:=cv a51 kZ rr d51
 have DT:=cv kA kI ru d52;have FZ:=cv a53 k0 tQ d53;have BX:=cv ll k5 sx d54;have Iw:=cv lQ lU GB d55
 have F0:=cv kB k6 sy d56;have DU:=cv kj j3 qB d57;have F1:=cv lR mo GC d58;have Ll:=cv a59 k7 s3 d59
 clear a4 mm dk d4 a5 mn fN d5 pL pM hQ d6 qx qy nT d7 jH jJ lX d8 a9 fx j5 d9 iA iq pQ d10 eX e1 lW d11 a12 iv nO d12 fF fI yh d13 iN iO pc d14 ft fv om d15 jm jo AY d16 fu fJ oo d17 fR gi nP d18 fS fW zt d19 a20 fw nQ d20 a21 fj aV d21 a22 fk uW d22 fh fl nR d23 a24 fm nS d24 fG fK pR d25 a26 fL tO d26 fH fX Gz d27 a28 gu rn d28 fT fY sZ d29 gh fZ sq d30 a31 gz sr d31 c7 ga rp d32 eY e2 k8 d33 fi fo oq d34 e7 e9 qA d35 eZ eQ pd d36 a37 fM yi d37 e0 fa pS d38 e8 fp ot d39 a40 gA zu d40 jG jI pT d41 jn jq ou d42 kx kD ss d43 kW kE tP d44 lD lS GA d45 a46 lF rq d46 ky kF s0 d47 kz kG su d48 a49 kH sw d49 lE lT Mh d50 a51 kZ rr d51 kA kI ru d52 a53 k0 tQ d53 ll k5 sx d54 lQ lU GB d55 kB k6 sy d56 kj j3 qB d57 lR mo GC d58 a59 k7 s3 d59;refine⟨?_,?_⟩
 ·obtain⟨dx,aj,ah,au,rfl,cY,cZ,c0,c2,c3,c4,c5,c6⟩:=nw i0;simp only[gD,hL]at*;simp only[tp,aY,D.bds,gN,ai,jD,gq,hK,oh,tH,ab,and_true];exact⟨by have:=ks.h;clear cY cZ c0 c2 c3 c4 c5 c6;omega,
   by have:=ks.h;clear cY cZ c0 c2 c3 c4 c5 c6;omega,
   by have:=Iv.h;have:=y8.h;clear cY cZ c0 c2 c3 c4 c5 c6;omega,
   by have:=Iv.h;have:=y8.h;clear cY cZ c0 c2 c3 c4 c5 c6;omega,
   by have:=Ix.h;have:=xO.h;clear cY cZ c0 c2 c3 c4 c5 c6;omega,
   by have:=Ix.h;have:=xO.h;clear cY cZ c0 c2 c3 c4 c5 c6;omega,
   by have:=BY.h;have:=y2.h;clear cY cZ c0 c2 c3 c4 c5 c6;omega,
   by have:=BY.h;have:=y2.h;clear cY cZ c0 c2 c3 c4 c5 c6;omega,
   by have:=DO.h;have:=BT.h;clear cY cZ c0 c2 c3 c4 c5 c6;omega,
   by have:=DO.h;have:=BT.h;clear cY cZ c0 c2 c3 c4 c5 c6;omega,
   by have:=DP.h;have:=FP.h;clear cY cZ c0 c2 c3 c4 c5 c6;omega,
   by have:=DP.h;have:=FP.h;clear cY cZ c0 c2 c3 c4 c5 c6;omega,
   by have:=FQ.h;have:=Im.h;clear cY cZ c0 c2 c3 c4 c5 c6;omega,
   by have:=FQ.h;have:=Im.h;clear cY cZ c0 c2 c3 c4 c5 c6;omega,
   by have:=Io.h;clear cY cZ c0 c2 c3 c4 c5 c6;omega,
   by have:=Io.h;clear cY cZ c0 c2 c3 c4 c5 c6;omega,
   by have:=vN.h;clear cY cZ c0 c2 c3 c4 c5 c6;omega,
   by have:=vN.h;clear cY cZ c0 c2 c3 c4 c5 c6;omega,
   by have:=Ip.h;have:=y3.h;clear cY cZ c0 c2 c3 c4 c5 c6;omega,
   by have:=Ip.h;have:=y3.h;clear cY cZ c0 c2 c3 c4 c5 c6;omega,
   by have:=DQ.h;have:=y4.h;clear cY cZ c0 c2 c3 c4 c5 c6;omega,
   by have:=DQ.h;have:=y4.h;clear cY cZ c0 c2 c3 c4 c5 c6;omega,
   by have:=Lf.h;have:=DR.h;clear cY cZ c0 c2 c3 c4 c5 c6;omega,
   by have:=Lf.h;have:=DR.h;clear cY cZ c0 c2 c3 c4 c5 c6;omega,
   by have:=Iq.h;have:=BU.h;clear cY cZ c0 c2 c3 c4 c5 c6;omega,
   by have:=Iq.h;have:=BU.h;clear cY cZ c0 c2 c3 c4 c5 c6;omega,
   by have:=FR.h;have:=Ir.h;clear cY cZ c0 c2 c3 c4 c5 c6;omega,
   by have:=FR.h;have:=Ir.h;clear cY cZ c0 c2 c3 c4 c5 c6;omega,
   by have:=Lg.h;have:=FT.h;clear cY cZ c0 c2 c3 c4 c5 c6;omega,
   by have:=Lg.h;have:=FT.h;clear cY cZ c0 c2 c3 c4 c5 c6;omega,
   by have:=FU.h;clear cY cZ c0 c2 c3 c4 c5 c6;omega,
   by have:=FU.h;clear cY cZ c0 c2 c3 c4 c5 c6;omega,
   by have:=vS.h;clear cY cZ c0 c2 c3 c4 c5 c6;omega,
   by have:=vS.h;clear cY cZ c0 c2 c3 c4 c5 c6;omega,
   by have:=Lh.h;have:=Aj.h;clear cY cZ c0 c2 c3 c4 c5 c6;omega,
   by have:=Lh.h;have:=Aj.h;clear cY cZ c0 c2 c3 c4 c5 c6;omega,
   by have:=FV.h;have:=y5.h;clear cY cZ c0 c2 c3 c4 c5 c6;omega,
   by have:=FV.h;have:=y5.h;clear cY cZ c0 c2 c3 c4 c5 c6;omega,
   by have:=Is.h;have:=BV.h;clear cY cZ c0 c2 c3 c4 c5 c6;omega,
   by have:=Is.h;have:=BV.h;clear cY cZ c0 c2 c3 c4 c5 c6;omega,
   by have:=DS.h;have:=BW.h;clear cY cZ c0 c2 c3 c4 c5 c6;omega,
   by have:=DS.h;have:=BW.h;clear cY cZ c0 c2 c3 c4 c5 c6;omega,
   by have:=Li.h;have:=It.h;clear cY cZ c0 c2 c3 c4 c5 c6;omega,
   by have:=Li.h;have:=It.h;clear cY cZ c0 c2 c3 c4 c5 c6;omega,
   by have:=Iu.h;have:=FW.h;clear cY cZ c0 c2 c3 c4 c5 c6;omega,
   by have:=Iu.h;have:=FW.h;clear cY cZ c0 c2 c3 c4 c5 c6;omega,
   by have:=FX.h;clear cY cZ c0 c2 c3 c4 c5 c6;omega,
   by have:=FX.h;clear cY cZ c0 c2 c3 c4 c5 c6;omega,
   by have:=y6.h;clear cY cZ c0 c2 c3 c4 c5 c6;omega,
   by have:=y6.h;clear cY cZ c0 c2 c3 c4 c5 c6;omega,
   by have:=Lj.h;have:=xN.h;clear cY cZ c0 c2 c3 c4 c5 c6;omega,
   by have:=Lj.h;have:=xN.h;clear cY cZ c0 c2 c3 c4 c5 c6;omega,
   by have:=FY.h;have:=y7.h;clear cY cZ c0 c2 c3 c4 c5 c6;omega,
   by have:=FY.h;have:=y7.h;clear cY cZ c0 c2 c3 c4 c5 c6;omega,
   by have:=Lk.h;have:=DT.h;clear cY cZ c0 c2 c3 c4 c5 c6;omega,
   by have:=Lk.h;have:=DT.h;clear cY cZ c0 c2 c3 c4 c5 c6;omega,
   by have:=FZ.h;have:=BX.h;clear cY cZ c0 c2 c3 c4 c5 c6;omega,
   by have:=FZ.h;have:=BX.h;clear cY cZ c0 c2 c3 c4 c5 c6;omega,
   by have:=Iw.h;have:=F0.h;clear cY cZ c0 c2 c3 c4 c5 c6;omega,
   by have:=Iw.h;have:=F0.h;clear cY cZ c0 c2 c3 c4 c5 c6;omega,
   by have:=DU.h;have:=F1.h;clear cY cZ c0 c2 c3 c4 c5 c6;omega,
   by have:=DU.h;have:=F1.h;clear cY cZ c0 c2 c3 c4 c5 c6;omega,
   by have:=Ll.h;clear cY cZ c0 c2 c3 c4 c5 c6;omega,
   by have:=Ll.h;clear cY cZ c0 c2 c3 c4 c5 c6;omega⟩
 ·show nb [((U r0 0 0)+((-256)*z4)),(z5+((-256)*bC)),(aX+((-256)*aK)),(z9+((-256)*a8)),(aL+((-256)*z12)),(aq+((-256)*ax)),(aT+((-256)*bh)),aU,((U r0 1 0)+((-256)*bd)),(bk+((-256)*z20)),(z21+((-256)*z22)),(bA+((-256)*z24)),(bS+((-256)*z26)),(bO+((-256)*z28)),(bX+((-256)*b2)),z31,((U r0 2 0)+((-256)*aS)),(bL+((-256)*bY)),(bB+((-256)*bZ)),(z37+((-256)*cA)),(ct+((-256)*z40)),(cq+((-256)*cw)),(cN+((-256)*dp)),cH,((U r0 3 0)+((-256)*z46)),(cE+((-256)*cQ)),(z49+((-256)*c9)),(z51+((-256)*cx)),(z53+((-256)*df)),(dq+((-256)*dg)),(cu+((-256)*dz)),z59]=ad r0;obtain⟨dx,aj,ah,au,rfl,cY,cZ,c0,c2,c3,c4,c5,c6⟩:=nw i0;simp only[gD,hL]at*;have j8:z4=z5:=by
   have:=ks.h;have:=Iv.h
   omega
  subst j8;have oJ:bC=aX:=by
   have:=ks.h;have:=y8.h;have:=Ix.h
   omega
  subst oJ;have OC:aK=z9:=by
   have:=ks.h;have:=y8.h;have:=xO.h;have:=BY.h
   omega
  subst OC;have aDh:a8=aL:=by
   have:=ks.h;have:=y8.h;have:=xO.h;have:=y2.h;have:=DO.h
   omega
  subst aDh;have aDi:z12=aq:=by
   have:=ks.h;have:=y8.h;have:=xO.h;have:=y2.h;have:=BT.h;have:=DP.h
   omega
  subst aDi;have aDj:ax=aT:=by
   have:=ks.h;have:=y8.h;have:=xO.h;have:=y2.h;have:=BT.h;have:=FP.h;have:=FQ.h
   omega
  subst aDj;have aDk:bh=aU:=by
   have:=ks.h;have:=y8.h;have:=xO.h;have:=y2.h;have:=BT.h;have:=FP.h;have:=Im.h;have:=Io.h
   omega
  subst aDk;have aDl:bd=bk:=by
   have:=vN.h;have:=Ip.h
   omega
  subst aDl;have aDm:z20=z21:=by
   have:=vN.h;have:=y3.h;have:=DQ.h
   omega
  subst aDm;have aDn:z22=bA:=by
   have:=vN.h;have:=y3.h;have:=y4.h;have:=Lf.h
   omega
  subst aDn;have aDo:z24=bS:=by
   have:=vN.h;have:=y3.h;have:=y4.h;have:=DR.h;have:=Iq.h
   omega
  subst aDo;have aDq:z26=bO:=by
   have:=vN.h;have:=y3.h;have:=y4.h;have:=DR.h;have:=BU.h;have:=FR.h
   omega
  subst aDq;have aDs:z28=bX:=by
   have:=vN.h;have:=y3.h;have:=y4.h;have:=DR.h;have:=BU.h;have:=Ir.h;have:=Lg.h
   omega
  subst aDs;have aDu:b2=z31:=by
   have:=vN.h;have:=y3.h;have:=y4.h;have:=DR.h;have:=BU.h;have:=Ir.h;have:=FT.h;have:=FU.h
   omega
  subst aDu;have acg:aS=bL:=by
   have:=vS.h;have:=Lh.h
   omega
  subst acg;have aDx:bY=bB:=by
   have:=vS.h;have:=Aj.h;have:=FV.h
   omega
  subst aDx;have aDy:bZ=z37:=by
   have:=vS.h;have:=Aj.h;have:=y5.h;have:=Is.h
   omega
  subst aDy;have Tf:cA=ct:=by
   have:=vS.h;have:=Aj.h;have:=y5.h;have:=BV.h;have:=DS.h
   omega
  subst Tf;have aDB:z40=cq:=by
   have:=vS.h;have:=Aj.h;have:=y5.h;have:=BV.h;have:=BW.h;have:=Li.h
   omega
  subst aDB;have aDC:cw=cN:=by
   have:=vS.h;have:=Aj.h;have:=y5.h;have:=BV.h;have:=BW.h;have:=It.h;have:=Iu.h
   omega
  subst aDC;have aDE:dp=cH:=by
   have:=vS.h;have:=Aj.h;have:=y5.h;have:=BV.h;have:=BW.h;have:=It.h;have:=FW.h;have:=FX.h
   omega
  subst aDE;have aDG:z46=cE:=by
   have:=y6.h;have:=Lj.h
   omega
  subst aDG;have aDI:cQ=z49:=by
   have:=y6.h;have:=xN.h;have:=FY.h
   omega
  subst aDI;have aDK:c9=z51:=by
   have:=y6.h;have:=xN.h;have:=y7.h;have:=Lk.h
   omega
  subst aDK;have aDM:cx=z53:=by
   have:=y6.h;have:=xN.h;have:=y7.h;have:=DT.h;have:=FZ.h
   omega
  subst aDM;have aDO:df=dq:=by
   have:=y6.h;have:=xN.h;have:=y7.h;have:=DT.h;have:=BX.h;have:=Iw.h
   omega
  subst aDO;have aDQ:dg=cu:=by
   have:=y6.h;have:=xN.h;have:=y7.h;have:=DT.h;have:=BX.h;have:=F0.h;have:=DU.h
   omega
  subst aDQ;have aDS:dz=z59:=by
   have:=y6.h;have:=xN.h;have:=y7.h;have:=DT.h;have:=BX.h;have:=F0.h;have:=F1.h;have:=Ll.h
   omega
  subst aDS
  skip
  simp only[num];omega
def Vy (S:Nat->List (List Int)->List (List Int)->Prop) (K:List (List Int)->List (List Int)->Prop):Prop:=
 K [] [[18446744073709551597,18446744073709551615,18446744073709551615,9223372036854775807]]
theorem aB3 (G):Vy (fr G) (eP l4.res 28):=by
 unfold Vy;refine⟨?_,?_⟩
 ·simp[l4,aY,D.bds,ab,ez,hC,c1,gN,ai]
 ·show ad [18446744073709551597,18446744073709551615,18446744073709551615,9223372036854775807]=57896044618658097711785492504343953926634992332820282019728792003956564819949;decide
def Vu (S:Nat->List (List Int)->List (List Int)->Prop) (K:List (List Int)->List (List Int)->Prop):Prop:=
 ∀r0:List Int,ab (ai 0 bP 4) r0->∀aR:List Int,ab (ai 0 bP 4) aR->
 ((((!(decide ((U r0 3 0)=(U aR 3 0)))))=true->
  K [r0,aR] [[(cond (decide ((U r0 3 0)<(U aR 3 0))) 1 0)]]
 )/\(((!(decide ((U r0 3 0)=(U aR 3 0)))))=false->
  ((((!(decide ((U r0 2 0)=(U aR 2 0)))))=true->
   K [r0,aR] [[(cond (decide ((U r0 2 0)<(U aR 2 0))) 1 0)]]
  )/\(((!(decide ((U r0 2 0)=(U aR 2 0)))))=false->
   ((((!(decide ((U r0 1 0)=(U aR 1 0)))))=true->
    K [r0,aR] [[(cond (decide ((U r0 1 0)<(U aR 1 0))) 1 0)]]
   )/\(((!(decide ((U r0 1 0)=(U aR 1 0)))))=false->
    ((((!(decide ((U r0 0 0)=(U aR 0 0)))))=true->
     K [r0,aR] [[(cond (decide ((U r0 0 0)<(U aR 0 0))) 1 0)]]
    )/\(((!(decide ((U r0 0 0)=(U aR 0 0)))))=false->
     K [r0,aR] [[(cond (false) 1 0)]]
    ))
   ))
  ))
 ))
theorem aBZ (G):Vu (fr G) (eP lK.res 42):=by
 simp(maxSteps:=4000000) only[Vu,bP];intro r0 i0 aR i4;refine⟨λh0=>?_,λh0=>?_⟩
 ·skip
  simp only[cI,dd,cU,dh,decide_eq_true_eq,decide_eq_false_iff_not]at h0;refine⟨?_,?_⟩
  ·simp only[lK,aY,D.bds,jD,gq,oh,tH,ab,and_true];rw[u2];unfold bit;split<;>decide
  ·show(cond (decide ((U r0 3 0)<(U aR 3 0))) 1 0)=bit (ad r0<ad aR);obtain⟨dx,aj,ah,au,rfl,cY,cZ,c0,c2,c3,c4,c5,c6⟩:=nw i0;obtain⟨j1,ar,an,aw,rfl,vL,vM,vO,vP,vQ,vR,vT,vU⟩:=nw i4;simp only[num,gD,hL]at*;rw[u2];unfold bit
   (repeat' split)<;>omega
 ·skip
  simp only[cI,dd,cU,dh,decide_eq_true_eq,decide_eq_false_iff_not]at h0;refine⟨λh1=>?_,λh1=>?_⟩
  ·skip
   simp only[cI,dd,cU,dh,decide_eq_true_eq,decide_eq_false_iff_not]at h1;refine⟨?_,?_⟩
   ·simp only[lK,aY,D.bds,jD,gq,oh,tH,ab,and_true];rw[u2];unfold bit;split<;>decide
   ·show(cond (decide ((U r0 2 0)<(U aR 2 0))) 1 0)=bit (ad r0<ad aR);obtain⟨dx,aj,ah,au,rfl,cY,cZ,c0,c2,c3,c4,c5,c6⟩:=nw i0;obtain⟨j1,ar,an,aw,rfl,vL,vM,vO,vP,vQ,vR,vT,vU⟩:=nw i4;simp only[num,gD,hL]at*;rw[u2];unfold bit
    (repeat' split)<;>omega
  ·skip
   simp only[cI,dd,cU,dh,decide_eq_true_eq,decide_eq_false_iff_not]at h1;refine⟨λh2=>?_,λh2=>?_⟩
   ·skip
    simp only[cI,dd,cU,dh,decide_eq_true_eq,decide_eq_false_iff_not]at h2;refine⟨?_,?_⟩
    ·simp only[lK,aY,D.bds,jD,gq,oh,tH,ab,and_true];rw[u2];unfold bit;split<;>decide
    ·show(cond (decide ((U r0 1 0)<(U aR 1 0))) 1 0)=bit (ad r0<ad aR);obtain⟨dx,aj,ah,au,rfl,cY,cZ,c0,c2,c3,c4,c5,c6⟩:=nw i0;obtain⟨j1,ar,an,aw,rfl,vL,vM,vO,vP,vQ,vR,vT,vU⟩:=nw i4;simp only[num,gD,hL]at*;rw[u2];unfold bit
     (repeat' split)<;>omega
   ·skip
    simp only[cI,dd,cU,dh,decide_eq_true_eq,decide_eq_false_iff_not]at h2;refine⟨λh3=>?_,λh3=>?_⟩
    ·skip
     simp only[cI,dd,cU,dh,decide_eq_true_eq,decide_eq_false_iff_not]at h3;refine⟨?_,?_⟩
     ·simp only[lK,aY,D.bds,jD,gq,oh,tH,ab,and_true];rw[u2];unfold bit;split<;>decide
     ·show(cond (decide ((U r0 0 0)<(U aR 0 0))) 1 0)=bit (ad r0<ad aR);obtain⟨dx,aj,ah,au,rfl,cY,cZ,c0,c2,c3,c4,c5,c6⟩:=nw i0;obtain⟨j1,ar,an,aw,rfl,vL,vM,vO,vP,vQ,vR,vT,vU⟩:=nw i4;simp only[num,gD,hL]at*;rw[u2];unfold bit
      (repeat' split)<;>omega
    ·skip
     simp only[cI,dd,cU,dh,decide_eq_true_eq,decide_eq_false_iff_not]at h3;refine⟨?_,?_⟩
     ·simp only[lK,aY,D.bds,jD,gq,oh,tH,ab,and_true];decide
     ·show(cond (false) 1 0)=bit (ad r0<ad aR);obtain⟨dx,aj,ah,au,rfl,cY,cZ,c0,c2,c3,c4,c5,c6⟩:=nw i0;obtain⟨j1,ar,an,aw,rfl,vL,vM,vO,vP,vQ,vR,vT,vU⟩:=nw i4;simp only[num,gD,hL]at*;unfold bit;simp only[cond_false];split<;>omega
def Vw (S:Nat->List (List Int)->List (List Int)->Prop) (K:List (List Int)->List (List Int)->Prop):Prop:=
 ∀r0:List Int,ab (ai 0 bP 4) r0->∀aR:List Int,ab (ai 0 bP 4) aR->
 aB (-1) 0 ((U r0 0 0)+((-1)*(U aR 0 0))) a1 λaK=>
 aB (-1) 0 ((U r0 1 0)+(((-1)*(U aR 1 0))+aK)) a1 λz9=>
 aB (-1) 0 ((U r0 2 0)+(((-1)*(U aR 2 0))+z9)) a1 λa8=>
 aB (-1) 0 ((U r0 3 0)+(((-1)*(U aR 3 0))+a8)) a1 λaL=>
 K [r0,aR] [[((U r0 0 0)+(((-1)*(U aR 0 0))+(aa*aK))),((U r0 1 0)+(((-1)*(U aR 1 0))+(aK+(aa*z9)))),((U r0 2 0)+(((-1)*(U aR 2 0))+(z9+(aa*a8)))),((U r0 3 0)+(((-1)*(U aR 3 0))+(a8+(aa*aL))))],[((-1)*aL)]]
theorem aB1 (G):Vw (fr G) (eP n4.res 55):=by
 simp(maxSteps:=4000000) only[Vw,aB,aa,a1,bP];intro r0 i0 aR i4 aK jH jJ lX d8 z9 a9 fx j5 d9 a8 iA iq pQ d10 aL eX e1 lW d11;refine⟨?_,?_⟩
 ·obtain⟨dx,aj,ah,au,rfl,cY,cZ,c0,c2,c3,c4,c5,c6⟩:=nw i0;obtain⟨j1,ar,an,aw,rfl,vL,vM,vO,vP,vQ,vR,vT,vU⟩:=nw i4;simp only[n4,aY,D.bds,ez,c1,ai,jD,gq,hK,oh,tH,ab,and_true,gD,hL]at*;omega
 ·show ad [((U r0 0 0)+(((-1)*(U aR 0 0))+((-18446744073709551616)*aK))),((U r0 1 0)+(((-1)*(U aR 1 0))+(aK+((-18446744073709551616)*z9)))),((U r0 2 0)+(((-1)*(U aR 2 0))+(z9+((-18446744073709551616)*a8)))),((U r0 3 0)+(((-1)*(U aR 3 0))+(a8+((-18446744073709551616)*aL))))]=ad r0-ad aR+115792089237316195423570985008687907853269984665640564039457584007913129639936*((-1)*aL);obtain⟨dx,aj,ah,au,rfl,cY,cZ,c0,c2,c3,c4,c5,c6⟩:=nw i0;obtain⟨j1,ar,an,aw,rfl,vL,vM,vO,vP,vQ,vR,vT,vU⟩:=nw i4;simp only[num,gD,hL]at*;omega
def Vz (S:Nat->List (List Int)->List (List Int)->Prop) (K:List (List Int)->List (List Int)->Prop):Prop:=
 ∀r0:List Int,ab (ai 0 bP 4) r0->∀aR:List Int,ab (ai 0 bP 4) aR->
 bz ((U r0 0 0)+(U aR 0 0)) a1 λaK=>
 bz ((U r0 1 0)+((U aR 1 0)+aK)) a1 λz9=>
 bz ((U r0 2 0)+((U aR 2 0)+z9)) a1 λa8=>
 bz ((U r0 3 0)+((U aR 3 0)+a8)) a1 λaL=>
 K [r0,aR] [[((U r0 0 0)+((U aR 0 0)+(aa*aK))),((U r0 1 0)+((U aR 1 0)+(aK+(aa*z9)))),((U r0 2 0)+((U aR 2 0)+(z9+(aa*a8)))),((U r0 3 0)+((U aR 3 0)+(a8+(aa*aL))))],[aL]]
theorem aB4 (G):Vz (fr G) (eP n5.res 56):=by
 simp(maxSteps:=4000000) only[Vz,bz,aa,a1,bP];intro r0 i0 aR i4 aK jH jJ lX d8 z9 a9 fx j5 d9 a8 iA iq pQ d10 aL eX e1 lW d11;refine⟨?_,?_⟩
 ·obtain⟨dx,aj,ah,au,rfl,cY,cZ,c0,c2,c3,c4,c5,c6⟩:=nw i0;obtain⟨j1,ar,an,aw,rfl,vL,vM,vO,vP,vQ,vR,vT,vU⟩:=nw i4;simp only[n5,aY,D.bds,ez,c1,ai,jD,gq,hK,oh,tH,ab,and_true,gD,hL]at*;omega
 ·show ad [((U r0 0 0)+((U aR 0 0)+((-18446744073709551616)*aK))),((U r0 1 0)+((U aR 1 0)+(aK+((-18446744073709551616)*z9)))),((U r0 2 0)+((U aR 2 0)+(z9+((-18446744073709551616)*a8)))),((U r0 3 0)+((U aR 3 0)+(a8+((-18446744073709551616)*aL))))]=ad r0+ad aR-115792089237316195423570985008687907853269984665640564039457584007913129639936*aL;obtain⟨dx,aj,ah,au,rfl,cY,cZ,c0,c2,c3,c4,c5,c6⟩:=nw i0;obtain⟨j1,ar,an,aw,rfl,vL,vM,vO,vP,vQ,vR,vT,vU⟩:=nw i4;simp only[num,gD,hL]at*;omega
def Vl (S:Nat->List (List Int)->List (List Int)->Prop) (K:List (List Int)->List (List Int)->Prop):Prop:=
 ∀r0:List Int,ab (ai 0 bP 4) r0->
 ∀aR:List Int,ab (ai 0 bP 4) aR->S 28 [] [aR]->
 gp λaK=>S 42 [r0,aR] [[aK]]->
 ((((!(decide (aK=1))))=true->
  ∀eU:List Int,ab (ai 0 bP 4) eU->S 28 [] [eU]->
  ∀iu:List Int,ab (ai 0 bP 4) iu->gp λaU=>S 55 [r0,eU] [iu,[aU]]->
  ∀kQ:List Int,ab (ai 0 bP 4) kQ->S 28 [] [kQ]->
  gp λz22=>S 42 [iu,kQ] [[z22]]->
  ((((!(decide (z22=1))))=true->
   ∀ig:List Int,ab (ai 0 bP 4) ig->S 28 [] [ig]->
   ∀sO:List Int,ab (ai 0 bP 4) sO->gp λz31=>S 55 [iu,ig] [sO,[z31]]->
   ∀b8:List Int,ab (ai 0 bP 4) b8->S 28 [] [b8]->
   gp λbZ=>S 42 [sO,b8] [[bZ]]->
   ((((!(decide (bZ=1))))=true->
    ∀gf:List Int,ab (ai 0 bP 4) gf->S 28 [] [gf]->
    ∀HW:List Int,ab (ai 0 bP 4) HW->gp λcH=>S 55 [sO,gf] [HW,[cH]]->
    K [r0] [HW]
   )/\(((!(decide (bZ=1))))=false->
    K [r0] [sO]
   ))
  )/\(((!(decide (z22=1))))=false->
   ∀ig:List Int,ab (ai 0 bP 4) ig->S 28 [] [ig]->
   gp λbO=>S 42 [iu,ig] [[bO]]->
   ((((!(decide (bO=1))))=true->
    ∀jZ:List Int,ab (ai 0 bP 4) jZ->S 28 [] [jZ]->
    ∀b8:List Int,ab (ai 0 bP 4) b8->gp λbZ=>S 55 [iu,jZ] [b8,[bZ]]->
    K [r0] [b8]
   )/\(((!(decide (bO=1))))=false->
    K [r0] [iu]
   ))
  ))
 )/\(((!(decide (aK=1))))=false->
  ∀eU:List Int,ab (ai 0 bP 4) eU->S 28 [] [eU]->
  gp λaq=>S 42 [r0,eU] [[aq]]->
  ((((!(decide (aq=1))))=true->
   ∀l8:List Int,ab (ai 0 bP 4) l8->S 28 [] [l8]->
   ∀kQ:List Int,ab (ai 0 bP 4) kQ->gp λz22=>S 55 [r0,l8] [kQ,[z22]]->
   ∀ig:List Int,ab (ai 0 bP 4) ig->S 28 [] [ig]->
   gp λbO=>S 42 [kQ,ig] [[bO]]->
   ((((!(decide (bO=1))))=true->
    ∀jZ:List Int,ab (ai 0 bP 4) jZ->S 28 [] [jZ]->
    ∀b8:List Int,ab (ai 0 bP 4) b8->gp λbZ=>S 55 [kQ,jZ] [b8,[bZ]]->
    K [r0] [b8]
   )/\(((!(decide (bO=1))))=false->
    K [r0] [kQ]
   ))
  )/\(((!(decide (aq=1))))=false->
   ∀l8:List Int,ab (ai 0 bP 4) l8->S 28 [] [l8]->
   gp λbd=>S 42 [r0,l8] [[bd]]->
   ((((!(decide (bd=1))))=true->
    ∀HV:List Int,ab (ai 0 bP 4) HV->S 28 [] [HV]->
    ∀ig:List Int,ab (ai 0 bP 4) ig->gp λbO=>S 55 [r0,HV] [ig,[bO]]->
    K [r0] [ig]
   )/\(((!(decide (bd=1))))=false->
    K [r0] [r0]
   ))
  ))
 ))
theorem aBR (G):Vl (fr G) (eP rU.res 39):=by
 simp(maxSteps:=4000000) only[Vl,gp,bP];intro r0 i0 aR i4 aH aK jH jJ s1;have aH:ad aR=57896044618658097711785492504343953926634992332820282019728792003956564819949:=aH.1;have s1:aK=bit (ad r0<ad aR):=s1.1;refine⟨λh0=>?_,λh0=>?_⟩
 ·skip
  simp only[cI,dd,cU,dh,decide_eq_true_eq,decide_eq_false_iff_not]at h0;intro eU i9 s2 iu i13 aU fu fJ bn kQ i18 cz z22 a22 fk dO;have s2:ad eU=57896044618658097711785492504343953926634992332820282019728792003956564819949:=s2.1;have bn:ad iu=ad r0-ad eU+115792089237316195423570985008687907853269984665640564039457584007913129639936*aU:=bn.1;have cz:ad kQ=57896044618658097711785492504343953926634992332820282019728792003956564819949:=cz.1;have dO:z22=bit (ad iu<ad kQ):=dO.1;refine⟨λh1=>?_,λh1=>?_⟩
  ·skip
   simp only[cI,dd,cU,dh,decide_eq_true_eq,decide_eq_false_iff_not]at h1;intro ig i23 ec sO i27 z31 a31 gz eK b8 i32 gy bZ eZ eQ gX;have ec:ad ig=57896044618658097711785492504343953926634992332820282019728792003956564819949:=ec.1;have eK:ad sO=ad iu-ad ig+115792089237316195423570985008687907853269984665640564039457584007913129639936*z31:=eK.1;have gy:ad b8=57896044618658097711785492504343953926634992332820282019728792003956564819949:=gy.1;have gX:bZ=bit (ad sO<ad b8):=gX.1;refine⟨λh2=>?_,λh2=>?_⟩
   ·skip
    simp only[cI,dd,cU,dh,decide_eq_true_eq,decide_eq_false_iff_not]at h2;intro gf i37 j0 HW i41 cH lD lS oP;have j0:ad gf=57896044618658097711785492504343953926634992332820282019728792003956564819949:=j0.1;have oP:ad HW=ad sO-ad gf+115792089237316195423570985008687907853269984665640564039457584007913129639936*cH:=oP.1;refine⟨?_,?_⟩
    ·exact kY i41
    ·show ad HW=ad r0% 57896044618658097711785492504343953926634992332820282019728792003956564819949;have gS:=dw i0;have ez:=dw i4;have Dk:=dw i9;have Od:=dw i13;have Kr:=dw i18;have Ks:=dw i23;have azf:=dw i27;have Oe:=dw i32;have aby:=dw i37;have aNP:=dw i41;generalize ad r0=uO at*;generalize ad aR=AL at*;generalize ad eU=Cq at*;generalize ad iu=LZ at*;generalize ad kQ=IT at*;generalize ad ig=IU at*;generalize ad sO=aqR at*;generalize ad b8=Wk at*;generalize ad gf=aqT at*;generalize ad HW=aJ9 at*;unfold bit at*
     (repeat' split at*)<;>simp_all<;>omega
   ·skip
    simp only[cI,dd,cU,dh,decide_eq_true_eq,decide_eq_false_iff_not]at h2;refine⟨?_,?_⟩
    ·exact kY i27
    ·show ad sO=ad r0% 57896044618658097711785492504343953926634992332820282019728792003956564819949;have gS:=dw i0;have ez:=dw i4;have Dk:=dw i9;have Od:=dw i13;have Kr:=dw i18;have Ks:=dw i23;have azf:=dw i27;have Oe:=dw i32;generalize ad r0=uO at*;generalize ad aR=AL at*;generalize ad eU=Cq at*;generalize ad iu=LZ at*;generalize ad kQ=IT at*;generalize ad ig=IU at*;generalize ad sO=aqR at*;generalize ad b8=Wk at*;unfold bit at*
     (repeat' split at*)<;>simp_all<;>omega
  ·skip
   simp only[cI,dd,cU,dh,decide_eq_true_eq,decide_eq_false_iff_not]at h1;intro ig i23 ec bO fH fX eK;have ec:ad ig=57896044618658097711785492504343953926634992332820282019728792003956564819949:=ec.1;have eK:bO=bit (ad iu<ad ig):=eK.1;refine⟨λh3=>?_,λh3=>?_⟩
   ·skip
    simp only[cI,dd,cU,dh,decide_eq_true_eq,decide_eq_false_iff_not]at h3;intro jZ i28 gy b8 i32 bZ eZ eQ gX;have gy:ad jZ=57896044618658097711785492504343953926634992332820282019728792003956564819949:=gy.1;have gX:ad b8=ad iu-ad jZ+115792089237316195423570985008687907853269984665640564039457584007913129639936*bZ:=gX.1;refine⟨?_,?_⟩
    ·exact kY i32
    ·show ad b8=ad r0% 57896044618658097711785492504343953926634992332820282019728792003956564819949;have gS:=dw i0;have ez:=dw i4;have Dk:=dw i9;have Od:=dw i13;have Kr:=dw i18;have Ks:=dw i23;have azg:=dw i28;have Oe:=dw i32;generalize ad r0=uO at*;generalize ad aR=AL at*;generalize ad eU=Cq at*;generalize ad iu=LZ at*;generalize ad kQ=IT at*;generalize ad ig=IU at*;generalize ad jZ=aqS at*;generalize ad b8=Wk at*;unfold bit at*
     (repeat' split at*)<;>simp_all<;>omega
   ·skip
    simp only[cI,dd,cU,dh,decide_eq_true_eq,decide_eq_false_iff_not]at h3;refine⟨?_,?_⟩
    ·exact kY i13
    ·show ad iu=ad r0% 57896044618658097711785492504343953926634992332820282019728792003956564819949;have gS:=dw i0;have ez:=dw i4;have Dk:=dw i9;have Od:=dw i13;have Kr:=dw i18;have Ks:=dw i23;generalize ad r0=uO at*;generalize ad aR=AL at*;generalize ad eU=Cq at*;generalize ad iu=LZ at*;generalize ad kQ=IT at*;generalize ad ig=IU at*;unfold bit at*
     (repeat' split at*)<;>simp_all<;>omega
 ·skip
  simp only[cI,dd,cU,dh,decide_eq_true_eq,decide_eq_false_iff_not]at h0;intro eU i9 s2 aq fF fI bn;have s2:ad eU=57896044618658097711785492504343953926634992332820282019728792003956564819949:=s2.1;have bn:aq=bit (ad r0<ad eU):=bn.1;refine⟨λh4=>?_,λh4=>?_⟩
  ·skip
   simp only[cI,dd,cU,dh,decide_eq_true_eq,decide_eq_false_iff_not]at h4;intro l8 i14 cz kQ i18 z22 a22 fk dO ig i23 ec bO fH fX eK;have cz:ad l8=57896044618658097711785492504343953926634992332820282019728792003956564819949:=cz.1;have dO:ad kQ=ad r0-ad l8+115792089237316195423570985008687907853269984665640564039457584007913129639936*z22:=dO.1;have ec:ad ig=57896044618658097711785492504343953926634992332820282019728792003956564819949:=ec.1;have eK:bO=bit (ad kQ<ad ig):=eK.1;refine⟨λh5=>?_,λh5=>?_⟩
   ·skip
    simp only[cI,dd,cU,dh,decide_eq_true_eq,decide_eq_false_iff_not]at h5;intro jZ i28 gy b8 i32 bZ eZ eQ gX;have gy:ad jZ=57896044618658097711785492504343953926634992332820282019728792003956564819949:=gy.1;have gX:ad b8=ad kQ-ad jZ+115792089237316195423570985008687907853269984665640564039457584007913129639936*bZ:=gX.1;refine⟨?_,?_⟩
    ·exact kY i32
    ·show ad b8=ad r0% 57896044618658097711785492504343953926634992332820282019728792003956564819949;have gS:=dw i0;have ez:=dw i4;have Dk:=dw i9;have n14:=dw i14;have Kr:=dw i18;have Ks:=dw i23;have azg:=dw i28;have Oe:=dw i32;generalize ad r0=uO at*;generalize ad aR=AL at*;generalize ad eU=Cq at*;generalize ad l8=Wj at*;generalize ad kQ=IT at*;generalize ad ig=IU at*;generalize ad jZ=aqS at*;generalize ad b8=Wk at*;unfold bit at*
     (repeat' split at*)<;>simp_all<;>omega
   ·skip
    simp only[cI,dd,cU,dh,decide_eq_true_eq,decide_eq_false_iff_not]at h5;refine⟨?_,?_⟩
    ·exact kY i18
    ·show ad kQ=ad r0% 57896044618658097711785492504343953926634992332820282019728792003956564819949;have gS:=dw i0;have ez:=dw i4;have Dk:=dw i9;have n14:=dw i14;have Kr:=dw i18;have Ks:=dw i23;generalize ad r0=uO at*;generalize ad aR=AL at*;generalize ad eU=Cq at*;generalize ad l8=Wj at*;generalize ad kQ=IT at*;generalize ad ig=IU at*;unfold bit at*
     (repeat' split at*)<;>simp_all<;>omega
  ·skip
   simp only[cI,dd,cU,dh,decide_eq_true_eq,decide_eq_false_iff_not]at h4;intro l8 i14 cz bd fR gi dO;have cz:ad l8=57896044618658097711785492504343953926634992332820282019728792003956564819949:=cz.1;have dO:bd=bit (ad r0<ad l8):=dO.1;refine⟨λh6=>?_,λh6=>?_⟩
   ·skip
    simp only[cI,dd,cU,dh,decide_eq_true_eq,decide_eq_false_iff_not]at h6;intro HV i19 ec ig i23 bO fH fX eK;have ec:ad HV=57896044618658097711785492504343953926634992332820282019728792003956564819949:=ec.1;have eK:ad ig=ad r0-ad HV+115792089237316195423570985008687907853269984665640564039457584007913129639936*bO:=eK.1;refine⟨?_,?_⟩
    ·exact kY i23
    ·show ad ig=ad r0% 57896044618658097711785492504343953926634992332820282019728792003956564819949;have gS:=dw i0;have ez:=dw i4;have Dk:=dw i9;have n14:=dw i14;have aNN:=dw i19;have Ks:=dw i23;generalize ad r0=uO at*;generalize ad aR=AL at*;generalize ad eU=Cq at*;generalize ad l8=Wj at*;generalize ad HV=aJ5 at*;generalize ad ig=IU at*;unfold bit at*
     (repeat' split at*)<;>simp_all<;>omega
   ·skip
    simp only[cI,dd,cU,dh,decide_eq_true_eq,decide_eq_false_iff_not]at h6;refine⟨?_,?_⟩
    ·exact kY i0
    ·show ad r0=ad r0% 57896044618658097711785492504343953926634992332820282019728792003956564819949;have gS:=dw i0;have ez:=dw i4;have Dk:=dw i9;have n14:=dw i14;generalize ad r0=uO at*;generalize ad aR=AL at*;generalize ad eU=Cq at*;generalize ad l8=Wj at*;unfold bit at*
     (repeat' split at*)<;>simp_all<;>omega
def VD (S:Nat->List (List Int)->List (List Int)->Prop) (K:List (List Int)->List (List Int)->Prop):Prop:=
 ∀r0:List Int,ab (ai 0 18446744073709551615 4) r0->∀aR:List Int,ab (ai 0 18446744073709551615 4) aR->
 ∀hV:List Int,ab (ai 0 18446744073709551615 4) hV->∀z12:Int,0<=z12->z12<=1->S 56 [r0,aR] [hV,[z12]]->
 ∀iu:List Int,ab (ai 0 18446744073709551615 4) iu->S 39 [hV] [iu]->
 K [r0,aR] [iu]
theorem aB8 (G):VD (fr G) (eP rW.res 40):=by
 unfold VD;intro r0 i0 aR i4 hV i8 z12 a12 iv aH iu i13 s1;have aH:ad hV=ad r0+ad aR-115792089237316195423570985008687907853269984665640564039457584007913129639936*z12:=aH.1;have s1:ad iu=ad hV% 57896044618658097711785492504343953926634992332820282019728792003956564819949:=s1.1;refine⟨?_,?_⟩
 ·exact kY i13
 ·show ad iu=(ad r0+ad aR)% 115792089237316195423570985008687907853269984665640564039457584007913129639936% 57896044618658097711785492504343953926634992332820282019728792003956564819949;have gS:=dw i0;have ez:=dw i4;have abA:=dw i8;have Od:=dw i13;generalize ad r0=uO at*;generalize ad aR=AL at*;generalize ad hV=aqU at*;generalize ad iu=LZ at*;omega
def Vn (S:Nat->List (List Int)->List (List Int)->Prop) (K:List (List Int)->List (List Int)->Prop):Prop:=
 ∀r0:List Int,ab (ai 0 18446744073709551615 4) r0->∀aR:List Int,ab (ai 0 18446744073709551615 4) aR->
 ∀aK:Int,0<=aK->aK<=1->S 42 [r0,aR] [[aK]]->
 (((decide (aK=1))=true->
  ∀eU:List Int,ab (ai 0 18446744073709551615 4) eU->S 28 [] [eU]->
  ∀iu:List Int,ab (ai 0 18446744073709551615 4) iu->∀aU:Int,0<=aU->aU<=1->S 56 [r0,eU] [iu,[aU]]->
  ∀kQ:List Int,ab (ai 0 18446744073709551615 4) kQ->∀z22:Int,0<=z22->z22<=1->S 55 [iu,aR] [kQ,[z22]]->
  K [r0,aR] [kQ]
 )/\((decide (aK=1))=false->
  ∀eU:List Int,ab (ai 0 18446744073709551615 4) eU->∀aq:Int,0<=aq->aq<=1->S 55 [r0,aR] [eU,[aq]]->
  K [r0,aR] [eU]
 ))
theorem aBT (G):Vn (fr G) (eP oF.res 41):=by
 unfold Vn;intro r0 i0 aR i4 aK jH jJ aH;have aH:aK=bit (ad r0<ad aR):=aH.1;refine⟨λh0=>?_,λh0=>?_⟩
 ·skip
  simp only[cI,dd,cU,dh,decide_eq_true_eq,decide_eq_false_iff_not]at h0;intro eU i9 s1 iu i13 aU fu fJ s2 kQ i18 z22 a22 fk bn;have s1:ad eU=57896044618658097711785492504343953926634992332820282019728792003956564819949:=s1.1;have s2:ad iu=ad r0+ad eU-115792089237316195423570985008687907853269984665640564039457584007913129639936*aU:=s2.1;have bn:ad kQ=ad iu-ad aR+115792089237316195423570985008687907853269984665640564039457584007913129639936*z22:=bn.1;refine⟨?_,?_⟩
  ·exact kY i18
  ·show ad kQ=(ad r0-ad aR+(if ad r0<ad aR then 57896044618658097711785492504343953926634992332820282019728792003956564819949 else 0))% 115792089237316195423570985008687907853269984665640564039457584007913129639936;have gS:=dw i0;have ez:=dw i4;have Dk:=dw i9;have Od:=dw i13;have Kr:=dw i18;generalize ad r0=uO at*;generalize ad aR=AL at*;generalize ad eU=Cq at*;generalize ad iu=LZ at*;generalize ad kQ=IT at*;unfold bit at*
   (repeat' split at*)<;>simp_all<;>omega
 ·skip
  simp only[cI,dd,cU,dh,decide_eq_true_eq,decide_eq_false_iff_not]at h0;intro eU i9 aq fF fI s1;have s1:ad eU=ad r0-ad aR+115792089237316195423570985008687907853269984665640564039457584007913129639936*aq:=s1.1;refine⟨?_,?_⟩
  ·exact kY i9
  ·show ad eU=(ad r0-ad aR+(if ad r0<ad aR then 57896044618658097711785492504343953926634992332820282019728792003956564819949 else 0))% 115792089237316195423570985008687907853269984665640564039457584007913129639936;have gS:=dw i0;have ez:=dw i4;have Dk:=dw i9;generalize ad r0=uO at*;generalize ad aR=AL at*;generalize ad eU=Cq at*;unfold bit at*
   (repeat' split at*)<;>simp_all<;>omega
def Vq (S:Nat->List (List Int)->List (List Int)->Prop) (K:List (List Int)->List (List Int)->Prop):Prop:=
 ∀r0:List Int,ab (ai 0 bP 4) r0->∀aR:List Int,ab (ai 0 bP 4) aR->
 aB 0 37 (38*(U aR 0 0)) a1 λaK=>
 aB 0 37 (38*(U aR 1 0)) a1 λz9=>
 bz ((38*(U aR 1 0))+(aK+(aa*z9))) a1 λa8=>
 aB 0 37 (38*(U aR 2 0)) a1 λaL=>
 bz ((38*(U aR 2 0))+(z9+(a8+(aa*aL)))) a1 λz12=>
 aB 0 37 (38*(U aR 3 0)) a1 λaq=>
 bz ((38*(U aR 3 0))+(aL+(z12+(aa*aq)))) a1 λax=>
 ∀dG:List Int,ab (ai 0 bP 4) dG->gp λbk=>S 56 [r0,[((38*(U aR 0 0))+(aa*aK)),((38*(U aR 1 0))+(aK+((aa*z9)+(aa*a8)))),((38*(U aR 2 0))+(z9+(a8+((aa*aL)+(aa*z12))))),((38*(U aR 3 0))+(aL+(z12+((aa*aq)+(aa*ax)))))]] [dG,[bk]]->
 ∀c8:List Int,ab (ai 0 bP 4) c8->gp λz24=>S 56 [dG,[((38*aq)+((38*ax)+(38*bk))),0,0,0]] [c8,[z24]]->
 (((decide (0<z24))=true->
  ∀dc:List Int,ab (ai 0 bP 4) dc->gp λbX=>S 56 [c8,[38,0,0,0]] [dc,[bX]]->
  ∀na:List Int,ab (ai 0 bP 4) na->S 39 [dc] [na]->
  K [r0,aR] [na]
 )/\((decide (0<z24))=false->
  ∀dc:List Int,ab (ai 0 bP 4) dc->S 39 [c8] [dc]->
  K [r0,aR] [dc]
 ))
theorem aBW (G):Vq (fr G) (eP vc.res 54):=by
 simp(maxSteps:=4000000) only[Vq,gp,aB,bz,aa,a1,bP];intro r0 i0 aR i4 aK jH jJ lX d8 z9 a9 fx j5 d9 a8 iA iq pQ d10 aL eX e1 lW d11 z12 a12 iv nO d12 aq fF fI yh d13 ax iN iO pc d14 dG i15 bk fS fW aH c8 i20 z24 a24 fm s1;have aH:ad dG=ad r0+ad [((38*(U aR 0 0))+((-18446744073709551616)*aK)),((38*(U aR 1 0))+(aK+(((-18446744073709551616)*z9)+((-18446744073709551616)*a8)))),((38*(U aR 2 0))+(z9+(a8+(((-18446744073709551616)*aL)+((-18446744073709551616)*z12))))),((38*(U aR 3 0))+(aL+(z12+(((-18446744073709551616)*aq)+((-18446744073709551616)*ax)))))]-115792089237316195423570985008687907853269984665640564039457584007913129639936*bk:=aH.1;have s1:ad c8=ad dG+ad [((38*aq)+((38*ax)+(38*bk))),0,0,0]-115792089237316195423570985008687907853269984665640564039457584007913129639936*z24:=s1.1;refine⟨λh0=>?_,λh0=>?_⟩
 ·skip
  simp only[cI,dd,cU,dh,decide_eq_true_eq,decide_eq_false_iff_not]at h0;intro dc i25 bX fT fY s2 na i30 bn;have s2:ad dc=ad c8+ad [38,0,0,0]-115792089237316195423570985008687907853269984665640564039457584007913129639936*bX:=s2.1;have bn:ad na=ad dc% 57896044618658097711785492504343953926634992332820282019728792003956564819949:=bn.1;refine⟨?_,?_⟩
  ·exact kY i30
  ·show ad na=(ad r0+115792089237316195423570985008687907853269984665640564039457584007913129639936*ad aR)% 57896044618658097711785492504343953926634992332820282019728792003956564819949;obtain⟨j1,ar,an,aw,rfl,vL,vM,vO,vP,vQ,vR,vT,vU⟩:=nw i4;simp only[gD,hL]at*;rw[abG]at s1;have gS:=dw i0;have n15:=dw i15;have SN:=dw i20;have bu:ad [((38*(j1))+((-18446744073709551616)*aK)),((38*(ar))+(aK+(((-18446744073709551616)*z9)+((-18446744073709551616)*a8)))),((38*(an))+(z9+(a8+(((-18446744073709551616)*aL)+((-18446744073709551616)*z12))))),((38*(aw))+(aL+(z12+(((-18446744073709551616)*aq)+((-18446744073709551616)*ax)))))]+115792089237316195423570985008687907853269984665640564039457584007913129639936*(aq+ax)=38*ad [j1,ar,an,aw]:=by
    clear aH s1;simp only[m5];omega
   generalize ad [((38*(j1))+((-18446744073709551616)*aK)),((38*(ar))+(aK+(((-18446744073709551616)*z9)+((-18446744073709551616)*a8)))),((38*(an))+(z9+(a8+(((-18446744073709551616)*aL)+((-18446744073709551616)*z12))))),((38*(aw))+(aL+(z12+(((-18446744073709551616)*aq)+((-18446744073709551616)*ax)))))]=t at*;rw[show ad [38,0,0,0]=38 by decide]at s2;have alD:=dw i25;have az:z24=1:=by omega
   have aI:bX=0:=by clear bu aH;omega
   rw[bn];have b3:ad c8=ad dG+38*(aq+ax+bk)-115792089237316195423570985008687907853269984665640564039457584007913129639936*z24:=by clear bu aH;omega
   have cy:ad dc=ad c8+38*z24:=by clear bu aH b3 s1;omega
   exact aia bu aH b3 cy
 ·skip
  simp only[cI,dd,cU,dh,decide_eq_true_eq,decide_eq_false_iff_not]at h0;intro dc i25 s2;have s2:ad dc=ad c8% 57896044618658097711785492504343953926634992332820282019728792003956564819949:=s2.1;refine⟨?_,?_⟩
  ·exact kY i25
  ·show ad dc=(ad r0+115792089237316195423570985008687907853269984665640564039457584007913129639936*ad aR)% 57896044618658097711785492504343953926634992332820282019728792003956564819949;obtain⟨j1,ar,an,aw,rfl,vL,vM,vO,vP,vQ,vR,vT,vU⟩:=nw i4;simp only[gD,hL]at*;rw[abG]at s1;have gS:=dw i0;have n15:=dw i15;have SN:=dw i20;have bu:ad [((38*(j1))+((-18446744073709551616)*aK)),((38*(ar))+(aK+(((-18446744073709551616)*z9)+((-18446744073709551616)*a8)))),((38*(an))+(z9+(a8+(((-18446744073709551616)*aL)+((-18446744073709551616)*z12))))),((38*(aw))+(aL+(z12+(((-18446744073709551616)*aq)+((-18446744073709551616)*ax)))))]+115792089237316195423570985008687907853269984665640564039457584007913129639936*(aq+ax)=38*ad [j1,ar,an,aw]:=by
    clear aH s1;simp only[m5];omega
   generalize ad [((38*(j1))+((-18446744073709551616)*aK)),((38*(ar))+(aK+(((-18446744073709551616)*z9)+((-18446744073709551616)*a8)))),((38*(an))+(z9+(a8+(((-18446744073709551616)*aL)+((-18446744073709551616)*z12))))),((38*(aw))+(aL+(z12+(((-18446744073709551616)*aq)+((-18446744073709551616)*ax)))))]=t at*;have az:z24=0:=by omega
   rw[s2];have b3:ad c8=ad dG+38*(aq+ax+bk)-115792089237316195423570985008687907853269984665640564039457584007913129639936*z24:=by clear bu aH;omega
   have cy:ad c8=ad c8+38*z24:=by clear bu aH b3 s1;omega
   exact aia bu aH b3 cy
def VA (S:Nat->List (List Int)->List (List Int)->Prop) (K:List (List Int)->List (List Int)->Prop):Prop:=
 ∀r0:List Int,ab (ai 0 bP 4) r0->∀aR:List Int,ab (ai 0 bP 4) aR->
 dK jX ((U r0 0 0)*(U aR 0 0)) λaK=>
 aB 0 iS aK a1 λz9=>
 dK jX ((U r0 0 0)*(U aR 1 0)) λa8=>
 aB 0 iS a8 a1 λaL=>
 bz (z9+(a8+(aa*aL))) a1 λz12=>
 dK jX ((U r0 0 0)*(U aR 2 0)) λaq=>
 aB 0 iS aq a1 λax=>
 bz (aL+(z12+(aq+(aa*ax)))) a1 λaT=>
 dK jX ((U r0 0 0)*(U aR 3 0)) λbh=>
 aB 0 iS bh a1 λaU=>
 bz (ax+(aT+(bh+(aa*aU)))) a1 λbd=>
 dK jX ((U r0 1 0)*(U aR 0 0)) λbk=>
 aB 0 iS bk a1 λz20=>
 bz (z9+(a8+((aa*aL)+((aa*z12)+(bk+(aa*z20)))))) a1 λz21=>
 dK jX ((U r0 1 0)*(U aR 1 0)) λz22=>
 aB 0 iS z22 a1 λbA=>
 bz (aL+(z12+(aq+((aa*ax)+((aa*aT)+(z22+(aa*bA))))))) a1 λz24=>
 bz (aL+(z12+(aq+((aa*ax)+((aa*aT)+(z20+(z21+(z22+((aa*bA)+(aa*z24)))))))))) a1 λbS=>
 bz (bA+(z24+bS)) a1 λz26=>
 dK jX ((U r0 1 0)*(U aR 2 0)) λbO=>
 aB 0 iS bO a1 λz28=>
 bz (ax+(aT+(bh+((aa*aU)+((aa*bd)+(bO+(aa*z28))))))) a1 λbX=>
 bz (ax+(aT+(bh+((aa*aU)+((aa*bd)+(bA+(z24+(bS+((aa*z26)+(bO+((aa*z28)+(aa*bX)))))))))))) a1 λb2=>
 bz (z28+(bX+b2)) a1 λz31=>
 dK jX ((U r0 1 0)*(U aR 3 0)) λaS=>
 aB 0 iS aS a1 λbL=>
 bz (aU+(bd+(aS+(aa*bL)))) a1 λbY=>
 bz (aU+(bd+(z28+(bX+(b2+((aa*z31)+(aS+((aa*bL)+(aa*bY))))))))) a1 λbB=>
 bz (bL+(bY+bB)) a1 λbZ=>
 dK jX ((U r0 2 0)*(U aR 0 0)) λz37=>
 aB 0 iS z37 a1 λcA=>
 bz (aL+(z12+(aq+((aa*ax)+((aa*aT)+(z20+(z21+(z22+((aa*bA)+((aa*z24)+((aa*bS)+(z37+(aa*cA))))))))))))) a1 λct=>
 dK jX ((U r0 2 0)*(U aR 1 0)) λz40=>
 aB 0 iS z40 a1 λcq=>
 bz (ax+(aT+(bh+((aa*aU)+((aa*bd)+(bA+(z24+(bS+((aa*z26)+(bO+((aa*z28)+((aa*bX)+((aa*b2)+(z40+(aa*cq))))))))))))))) a1 λcw=>
 bz (ax+(aT+(bh+((aa*aU)+((aa*bd)+(bA+(z24+(bS+((aa*z26)+(bO+((aa*z28)+((aa*bX)+((aa*b2)+(cA+(ct+(z40+((aa*cq)+(aa*cw)))))))))))))))))) a1 λcN=>
 bz (cq+(cw+cN)) a1 λdp=>
 dK jX ((U r0 2 0)*(U aR 2 0)) λcH=>
 aB 0 iS cH a1 λz46=>
 bz (aU+(bd+(z28+(bX+(b2+((aa*z31)+(aS+((aa*bL)+((aa*bY)+((aa*bB)+(cH+(aa*z46)))))))))))) a1 λcE=>
 bz (aU+(bd+(z28+(bX+(b2+((aa*z31)+(aS+((aa*bL)+((aa*bY)+((aa*bB)+(cq+(cw+(cN+((aa*dp)+(cH+((aa*z46)+(aa*cE))))))))))))))))) a1 λcQ=>
 bz (z46+(cE+cQ)) a1 λz49=>
 dK jX ((U r0 2 0)*(U aR 3 0)) λc9=>
 aB 0 iS c9 a1 λz51=>
 bz (bL+(bY+(bB+((aa*bZ)+(c9+(aa*z51)))))) a1 λcx=>
 bz (bL+(bY+(bB+((aa*bZ)+(z46+(cE+(cQ+((aa*z49)+(c9+((aa*z51)+(aa*cx))))))))))) a1 λz53=>
 bz (z51+(cx+z53)) a1 λdf=>
 dK jX ((U r0 3 0)*(U aR 0 0)) λdq=>
 aB 0 iS dq a1 λdg=>
 bz (ax+(aT+(bh+((aa*aU)+((aa*bd)+(bA+(z24+(bS+((aa*z26)+(bO+((aa*z28)+((aa*bX)+((aa*b2)+(cA+(ct+(z40+((aa*cq)+((aa*cw)+((aa*cN)+(dq+(aa*dg))))))))))))))))))))) a1 λcu=>
 dK jX ((U r0 3 0)*(U aR 1 0)) λdz=>
 aB 0 iS dz a1 λz59=>
 bz (aU+(bd+(z28+(bX+(b2+((aa*z31)+(aS+((aa*bL)+((aa*bY)+((aa*bB)+(cq+(cw+(cN+((aa*dp)+(cH+((aa*z46)+((aa*cE)+((aa*cQ)+(dz+(aa*z59)))))))))))))))))))) a1 λdJ=>
 bz (aU+(bd+(z28+(bX+(b2+((aa*z31)+(aS+((aa*bL)+((aa*bY)+((aa*bB)+(cq+(cw+(cN+((aa*dp)+(cH+((aa*z46)+((aa*cE)+((aa*cQ)+(dg+(cu+(dz+((aa*z59)+(aa*dJ))))))))))))))))))))))) a1 λdP=>
 bz (z59+(dJ+dP)) a1 λdV=>
 dK jX ((U r0 3 0)*(U aR 2 0)) λdr=>
 aB 0 iS dr a1 λed=>
 bz (bL+(bY+(bB+((aa*bZ)+(z46+(cE+(cQ+((aa*z49)+(c9+((aa*z51)+((aa*cx)+((aa*z53)+(dr+(aa*ed)))))))))))))) a1 λeG=>
 bz (bL+(bY+(bB+((aa*bZ)+(z46+(cE+(cQ+((aa*z49)+(c9+((aa*z51)+((aa*cx)+((aa*z53)+(z59+(dJ+(dP+((aa*dV)+(dr+((aa*ed)+(aa*eG))))))))))))))))))) a1 λeD=>
 bz (ed+(eG+eD)) a1 λeu=>
 dK jX ((U r0 3 0)*(U aR 3 0)) λfb=>
 aB 0 iS fb a1 λek=>
 bz (z51+(cx+(z53+((aa*df)+(fb+(aa*ek)))))) a1 λz70=>
 bz (z51+(cx+(z53+((aa*df)+(ed+(eG+(eD+((aa*eu)+(fb+((aa*ek)+(aa*z70))))))))))) a1 λfc=>
 bz (ek+(z70+fc)) a1 λz72=>
 ∀KO:List Int,ab (ai 0 bP 4) KO->S 54 [[(aK+(aa*z9)),(z9+(a8+((aa*aL)+((aa*z12)+(bk+((aa*z20)+(aa*z21))))))),(aL+(z12+(aq+((aa*ax)+((aa*aT)+(z20+(z21+(z22+((aa*bA)+((aa*z24)+((aa*bS)+(z37+((aa*cA)+(aa*ct)))))))))))))),(ax+(aT+(bh+((aa*aU)+((aa*bd)+(bA+(z24+(bS+((aa*z26)+(bO+((aa*z28)+((aa*bX)+((aa*b2)+(cA+(ct+(z40+((aa*cq)+((aa*cw)+((aa*cN)+(dq+((aa*dg)+(aa*cu))))))))))))))))))))))],[(aU+(bd+(z28+(bX+(b2+((aa*z31)+(aS+((aa*bL)+((aa*bY)+((aa*bB)+(cq+(cw+(cN+((aa*dp)+(cH+((aa*z46)+((aa*cE)+((aa*cQ)+(dg+(cu+(dz+((aa*z59)+((aa*dJ)+(aa*dP)))))))))))))))))))))))),(bL+(bY+(bB+((aa*bZ)+(z46+(cE+(cQ+((aa*z49)+(c9+((aa*z51)+((aa*cx)+((aa*z53)+(z59+(dJ+(dP+((aa*dV)+(dr+((aa*ed)+((aa*eG)+(aa*eD)))))))))))))))))))),(z51+(cx+(z53+((aa*df)+(ed+(eG+(eD+((aa*eu)+(fb+((aa*ek)+((aa*z70)+(aa*fc)))))))))))),(ek+(z70+(fc+(aa*z72))))]] [KO]->
 K [r0,aR] [KO]
theorem aB5 (G):VA (fr G) (eP lv.res 36):=by
 simp(maxSteps:=4000000) only[VA,dK,aB,bz,aa,a1,jX,iS,bP];intro r0 i0 aR i4 aK jH jJ qF z9 a9 fx j5 d9 a8 iA iq pV aL eX e1 lW d11 z12 a12 iv nO d12 aq fF fI s7 ax iN iO pc d14 aT ft fv om d15 bh jm jo nr aU fu fJ oo d17 bd fR gi nP d18 bk fS fW pe z20 a20 fw nQ d20 z21 a21 fj aV d21 z22 a22 fk pW bA fh fl nR d23 z24 a24 fm nS d24 bS fG fK pR d25 z26 a26 fL tO d26 bO fH fX qE z28 a28 gu rn d28 bX fT fY sZ d29 b2 gh fZ sq d30 z31 a31 gz sr d31 aS c7 ga ry bL eY e2 k8 d33 bY fi fo oq d34 bB e7 e9 qA d35 bZ eZ eQ pd d36 z37 a37 fM pX cA e0 fa pS d38 ct e8 fp ot d39 z40 a40 gA sC cq jG jI pT d41 cw jn jq ou d42 cN kx kD ss d43 dp kW kE tP d44 cH lD lS s8 z46 a46 lF rq d46 cE ky kF s0 d47 cQ kz kG su d48 z49 a49 kH sw d49 c9 lE lT pY z51 a51 kZ rr d51 cx kA kI ru d52 z53 a53 k0 tQ d53 df ll k5 sx d54 dq lQ lU rz dg kB k6 sy d56 cu kj j3 qB d57 dz lR mo sD z59 a59 k7 s3 d59 dJ mH mN tR d60 dP mI mO uX d61 dV mJ mq yj d62 dr pa pN nX ed jb mP tS d64 eG mK mQ wI d65 eD mL mR uY d66 eu ng mS uZ d67 fb pb pO rA ek nh nk tT d69 z70 a70 nm tU d70 fc ni nn yk d71 z72 a72 np u0 d72 KO i73 aH
 have aH:ad KO=(ad [(aK+((-18446744073709551616)*z9)),(z9+(a8+(((-18446744073709551616)*aL)+(((-18446744073709551616)*z12)+(bk+(((-18446744073709551616)*z20)+((-18446744073709551616)*z21))))))),(aL+(z12+(aq+(((-18446744073709551616)*ax)+(((-18446744073709551616)*aT)+(z20+(z21+(z22+(((-18446744073709551616)*bA)+(((-18446744073709551616)*z24)+(((-18446744073709551616)*bS)+(z37+(((-18446744073709551616)*cA)+((-18446744073709551616)*ct)))))))))))))),(ax+(aT+(bh+(((-18446744073709551616)*aU)+(((-18446744073709551616)*bd)+(bA+(z24+(bS+(((-18446744073709551616)*z26)+(bO+(((-18446744073709551616)*z28)+(((-18446744073709551616)*bX)+(((-18446744073709551616)*b2)+(cA+(ct+(z40+(((-18446744073709551616)*cq)+(((-18446744073709551616)*cw)+(((-18446744073709551616)*cN)+(dq+(((-18446744073709551616)*dg)+((-18446744073709551616)*cu))))))))))))))))))))))]+115792089237316195423570985008687907853269984665640564039457584007913129639936*ad [(aU+(bd+(z28+(bX+(b2+(((-18446744073709551616)*z31)+(aS+(((-18446744073709551616)*bL)+(((-18446744073709551616)*bY)+(((-18446744073709551616)*bB)+(cq+(cw+(cN+(((-18446744073709551616)*dp)+(cH+(((-18446744073709551616)*z46)+(((-18446744073709551616)*cE)+(((-18446744073709551616)*cQ)+(dg+(cu+(dz+(((-18446744073709551616)*z59)+(((-18446744073709551616)*dJ)+((-18446744073709551616)*dP)))))))))))))))))))))))),(bL+(bY+(bB+(((-18446744073709551616)*bZ)+(z46+(cE+(cQ+(((-18446744073709551616)*z49)+(c9+(((-18446744073709551616)*z51)+(((-18446744073709551616)*cx)+(((-18446744073709551616)*z53)+(z59+(dJ+(dP+(((-18446744073709551616)*dV)+(dr+(((-18446744073709551616)*ed)+(((-18446744073709551616)*eG)+((-18446744073709551616)*eD)))))))))))))))))))),(z51+(cx+(z53+(((-18446744073709551616)*df)+(ed+(eG+(eD+(((-18446744073709551616)*eu)+(fb+(((-18446744073709551616)*ek)+(((-18446744073709551616)*z70)+((-18446744073709551616)*fc)))))))))))),(ek+(z70+(fc+((-18446744073709551616)*z72))))])% 57896044618658097711785492504343953926634992332820282019728792003956564819949:=aH.1;refine⟨?_,?_⟩
 ·exact kY i73
 ·show ad KO=ad r0*ad aR% 57896044618658097711785492504343953926634992332820282019728792003956564819949;have aHY:z26=0:=by
   clear i0 i4 jH jJ qF a9 fx j5 d9 iA iq pV eX e1 lW d11 a12 iv nO d12 fF fI s7 iN iO pc d14 ft fv om jm jo nr fu fJ oo d17 fR gi nP d18 fS fW pe a20 nQ d20 a21 aV d21 a22 pW fh fl nR d23 a24 fm nS d24 fG fK d25 fL d26 fH fX qE a28 gu rn d28 fT fY sZ d29 gh fZ sq d30 a31 gz sr d31 c7 ga ry eY e2 k8 d33 fi fo oq d34 e7 e9 qA d35 eZ eQ pd d36 a37 fM pX e0 fa pS d38 e8 fp ot d39 a40 gA sC jG jI pT d41 jn jq ou d42 kx kD ss d43 kW kE tP d44 lD lS s8 a46 lF rq d46 ky kF s0 d47 kz kG su d48 a49 kH sw d49 lE lT pY a51 kZ rr d51 kA kI ru d52 a53 k0 tQ d53 ll k5 sx d54 lQ lU rz kB k6 sy d56 kj j3 qB d57 lR mo sD a59 k7 s3 d59 mH mN tR d60 mI mO uX d61 mJ mq yj d62 pa pN nX jb mP tS d64 mK mQ wI d65 mL mR uY d66 ng mS uZ d67 pb pO rA nh nk tT d69 a70 nm tU d70 ni nn yk d71 a72 np u0 d72 i73 aH;omega
  have aHZ:z31=0:=by
   clear i0 i4 jH jJ qF a9 fx j5 d9 iA iq pV eX e1 lW d11 a12 iv nO d12 fF fI s7 iN iO pc d14 ft fv om d15 jm jo nr fu fJ oo d17 fR gi nP fS fW pe a20 fw nQ d20 a21 fj aV d21 a22 fk pW fh fl nR d23 a24 fm nS d24 fG fK pR d25 a26 fL tO fH qE a28 gu rn d28 fT fY sZ d29 gh fZ d30 gz d31 c7 ga ry eY e2 k8 d33 fi fo oq d34 e7 e9 qA d35 eZ eQ pd d36 a37 fM pX e0 fa pS d38 e8 fp ot d39 a40 gA sC jG jI pT d41 jn jq ou d42 kx kD ss d43 kW kE tP d44 lD lS s8 a46 lF rq d46 ky kF s0 d47 kz kG su d48 a49 kH sw d49 lE lT pY a51 kZ rr d51 kA kI ru d52 a53 k0 tQ d53 ll k5 sx d54 lQ lU rz kB k6 sy d56 kj j3 qB d57 lR mo sD a59 k7 s3 d59 mH mN tR d60 mI mO uX d61 mJ mq yj d62 pa pN nX jb mP tS d64 mK mQ wI d65 mL mR uY d66 ng mS uZ d67 pb pO rA nh nk tT d69 a70 nm tU d70 ni nn yk d71 a72 np u0 d72 i73 aH;omega
  have aH0:bZ=0:=by
   clear i0 i4 jH jJ qF a9 fx j5 d9 iA iq pV eX e1 lW d11 a12 iv nO d12 fF fI s7 iN iO pc d14 ft fv om d15 jm jo nr fu oo d17 fR nP d18 fS fW pe a20 fw nQ d20 a21 fj aV d21 a22 fk pW fh fl nR d23 a24 fm nS d24 fG fK pR d25 a26 fL tO d26 fH fX qE a28 gu rn d28 fT fY sZ d29 gh fZ sq d30 a31 gz sr c7 ry eY e2 k8 d33 fi fo oq d34 e7 e9 d35 eQ d36 a37 fM pX e0 fa pS d38 e8 fp ot d39 a40 gA sC jG jI pT d41 jn jq ou d42 kx kD ss d43 kW kE tP d44 lD lS s8 a46 lF rq d46 ky kF s0 d47 kz kG su d48 a49 kH sw d49 lE lT pY a51 kZ rr d51 kA kI ru d52 a53 k0 tQ d53 ll k5 sx d54 lQ lU rz kB k6 sy d56 kj j3 qB d57 lR mo sD a59 k7 s3 d59 mH mN tR d60 mI mO uX d61 mJ mq yj d62 pa pN nX jb mP tS d64 mK mQ wI d65 mL mR uY d66 ng mS uZ d67 pb pO rA nh nk tT d69 a70 nm tU d70 ni nn yk d71 a72 np u0 d72 i73 aH;omega
  have aH1:dp=0:=by
   clear i0 i4 jH jJ qF a9 fx j5 d9 iA iq pV eX e1 lW d11 a12 iv nO d12 fF fI s7 iN iO pc d14 ft fv om d15 jm jo nr fu fJ oo d17 fR gi nP d18 fS fW pe a20 fw nQ d20 a21 fj aV d21 a22 fk pW fh fl nR d23 a24 fm nS d24 fG fK pR d25 a26 fL tO d26 fH fX qE a28 gu rn d28 fT fY sZ d29 gh fZ sq a31 gz sr d31 c7 ga ry eY e2 k8 d33 fi fo oq d34 e7 e9 qA d35 eZ eQ pd d36 a37 fM pX e0 pS d38 e8 ot d39 a40 sC jG jI pT d41 jn jq ou d42 kx kD d43 kE d44 lD lS s8 a46 lF rq d46 ky kF s0 d47 kz kG su d48 a49 kH sw d49 lE lT pY a51 kZ rr d51 kA kI ru d52 a53 k0 tQ d53 ll k5 sx d54 lQ lU rz kB k6 sy d56 kj j3 qB d57 lR mo sD a59 k7 s3 d59 mH mN tR d60 mI mO uX d61 mJ mq yj d62 pa pN nX jb mP tS d64 mK mQ wI d65 mL mR uY d66 ng mS uZ d67 pb pO rA nh nk tT d69 a70 nm tU d70 ni nn yk d71 a72 np u0 d72 i73 aH;omega
  have aH2:z49=0:=by
   clear i0 i4 jH jJ qF a9 fx j5 d9 iA iq pV eX e1 lW d11 a12 iv nO d12 fF fI s7 iN iO pc d14 ft fv om d15 jm jo nr fu fJ oo d17 fR gi nP d18 fS fW pe a20 fw nQ d20 a21 fj aV d21 a22 fk pW fh fl nR d23 a24 fm nS d24 fG fK pR d25 a26 fL tO d26 fH fX qE a28 gu rn d28 fT fY sZ d29 gh fZ sq d30 a31 gz sr d31 c7 ga ry eY e2 k8 d33 fi fo oq d34 e7 e9 qA eZ eQ pd d36 a37 fM pX e0 fa pS d38 e8 fp ot d39 a40 gA sC jG jI pT d41 jn jq ou d42 kx kD ss d43 kW kE tP lD s8 a46 lF rq d46 ky kF s0 d47 kz kG d48 kH d49 lE lT pY a51 kZ rr d51 kA kI ru d52 a53 k0 tQ d53 ll k5 sx d54 lQ lU rz kB k6 sy d56 kj j3 qB d57 lR mo sD a59 k7 s3 d59 mH mN tR d60 mI mO uX d61 mJ mq yj d62 pa pN nX jb mP tS d64 mK mQ wI d65 mL mR uY d66 ng mS uZ d67 pb pO rA nh nk tT d69 a70 nm tU d70 ni nn yk d71 a72 np u0 d72 i73 aH;omega
  have aH3:df=0:=by
   clear i0 i4 jH jJ qF a9 fx j5 d9 iA iq pV eX e1 lW d11 a12 iv nO d12 fF fI s7 iN iO pc d14 ft fv om d15 jm jo nr fu fJ oo d17 fR gi nP d18 fS fW pe a20 fw nQ d20 a21 fj aV d21 a22 fk pW fh fl nR d23 a24 fm nS d24 fG fK pR d25 a26 fL tO d26 fH fX qE a28 gu rn d28 fT fY sZ d29 gh fZ sq d30 a31 gz sr d31 c7 ga ry eY e2 k8 d33 fi fo oq d34 e7 e9 qA d35 eZ eQ pd a37 fM pX e0 fa pS d38 e8 fp ot d39 a40 gA sC jG jI pT d41 jn jq ou d42 kx kD ss d43 kW kE tP d44 lD lS s8 a46 lF rq d46 ky kF s0 d47 kz kG su d48 a49 kH sw lE pY a51 kZ rr d51 kA kI ru d52 a53 k0 d53 k5 d54 lQ lU rz kB k6 sy d56 kj j3 qB d57 lR mo sD a59 k7 s3 d59 mH mN tR d60 mI mO uX d61 mJ mq yj d62 pa pN nX jb mP tS d64 mK mQ wI d65 mL mR uY d66 ng mS uZ d67 pb pO rA nh nk tT d69 a70 nm tU d70 ni nn yk d71 a72 np u0 d72 i73 aH;omega
  have aH4:dV=0:=by
   clear i0 i4 jH jJ qF a9 fx j5 d9 iA iq pV eX e1 lW d11 a12 iv nO d12 fF fI s7 iN iO pc d14 ft fv om d15 jm jo nr fu fJ oo d17 fR gi nP d18 fS fW pe a20 fw nQ d20 a21 fj aV d21 a22 fk pW fh fl nR d23 a24 fm nS d24 fG fK pR d25 a26 fL tO d26 fH fX qE a28 gu rn d28 fT fY sZ d29 gh fZ sq d30 a31 gz sr d31 c7 ga ry eY e2 k8 d33 fi fo oq d34 e7 e9 qA d35 eZ eQ pd d36 a37 fM pX e0 fa pS d38 e8 fp ot d39 a40 gA sC jG jI pT d41 jn jq ou d42 kx kD ss d43 kW kE tP d44 lD lS s8 a46 lF rq d46 ky kF s0 d47 kz kG su a49 kH sw d49 lE lT pY a51 kZ rr d51 kA kI ru d52 a53 k0 tQ d53 ll k5 sx d54 lQ lU rz kB sy d56 kj qB d57 lR sD a59 k7 s3 d59 mH mN tR d60 mI mO d61 mq d62 pa pN nX jb mP tS d64 mK mQ wI d65 mL mR uY d66 ng mS uZ d67 pb pO rA nh nk tT d69 a70 nm tU d70 ni nn yk d71 a72 np u0 d72 i73 aH;omega
  have aH5:eu=0:=by
   clear i0 i4 jH jJ qF a9 fx j5 d9 iA iq pV eX e1 lW d11 a12 iv nO d12 fF fI s7 iN iO pc d14 ft fv om d15 jm jo nr fu fJ oo d17 fR gi nP d18 fS fW pe a20 fw nQ d20 a21 fj aV d21 a22 fk pW fh fl nR d23 a24 fm nS d24 fG fK pR d25 a26 fL tO d26 fH fX qE a28 gu rn d28 fT fY sZ d29 gh fZ sq d30 a31 gz sr d31 c7 ga ry eY e2 k8 d33 fi fo oq d34 e7 e9 qA d35 eZ eQ pd d36 a37 fM pX e0 fa pS d38 e8 fp ot d39 a40 gA sC jG jI pT d41 jn jq ou d42 kx kD ss d43 kW kE tP d44 lD lS s8 a46 lF rq d46 ky kF s0 d47 kz kG su d48 a49 kH sw d49 lE lT pY a51 kZ rr d51 kA kI ru d52 a53 k0 tQ ll k5 sx d54 lQ lU rz kB k6 sy d56 kj j3 qB d57 lR mo sD a59 k7 s3 d59 mH mN tR d60 mI mO uX d61 mJ mq yj pa nX jb mP tS d64 mK mQ wI d65 mL mR d66 mS d67 pb pO rA nh nk tT d69 a70 nm tU d70 ni nn yk d71 a72 np u0 d72 i73 aH;omega
  have aH6:z72=0:=by
   clear i0 i4 jH jJ qF a9 fx j5 d9 iA iq pV eX e1 lW d11 a12 iv nO d12 fF fI s7 iN iO pc d14 ft fv om d15 jm jo nr fu fJ oo d17 fR gi nP d18 fS fW pe a20 fw nQ d20 a21 fj aV d21 a22 fk pW fh fl nR d23 a24 fm nS d24 fG fK pR d25 a26 fL tO d26 fH fX qE a28 gu rn d28 fT fY sZ d29 gh fZ sq d30 a31 gz sr d31 c7 ga ry eY e2 k8 d33 fi fo oq d34 e7 e9 qA d35 eZ eQ pd d36 a37 fM pX e0 fa pS d38 e8 fp ot d39 a40 gA sC jG jI pT d41 jn jq ou d42 kx kD ss d43 kW kE tP d44 lD lS s8 a46 lF rq d46 ky kF s0 d47 kz kG su d48 a49 kH sw d49 lE lT pY a51 kZ rr d51 kA kI ru d52 a53 k0 tQ d53 ll k5 sx lQ lU rz kB k6 sy d56 kj j3 qB d57 lR mo sD a59 k7 s3 d59 mH mN tR d60 mI mO uX d61 mJ mq yj d62 pa pN nX jb mP tS d64 mK mQ wI d65 mL mR uY d66 ng mS uZ pb rA nh nk tT d69 a70 nm tU d70 ni nn d71 np d72 i73 aH;omega
  have Be:ad [(aK+((-18446744073709551616)*z9)),(z9+(a8+(((-18446744073709551616)*aL)+(((-18446744073709551616)*z12)+(bk+(((-18446744073709551616)*z20)+((-18446744073709551616)*z21))))))),(aL+(z12+(aq+(((-18446744073709551616)*ax)+(((-18446744073709551616)*aT)+(z20+(z21+(z22+(((-18446744073709551616)*bA)+(((-18446744073709551616)*z24)+(((-18446744073709551616)*bS)+(z37+(((-18446744073709551616)*cA)+((-18446744073709551616)*ct)))))))))))))),(ax+(aT+(bh+(((-18446744073709551616)*aU)+(((-18446744073709551616)*bd)+(bA+(z24+(bS+(((-18446744073709551616)*z26)+(bO+(((-18446744073709551616)*z28)+(((-18446744073709551616)*bX)+(((-18446744073709551616)*b2)+(cA+(ct+(z40+(((-18446744073709551616)*cq)+(((-18446744073709551616)*cw)+(((-18446744073709551616)*cN)+(dq+(((-18446744073709551616)*dg)+((-18446744073709551616)*cu))))))))))))))))))))))]+115792089237316195423570985008687907853269984665640564039457584007913129639936*ad [(aU+(bd+(z28+(bX+(b2+(((-18446744073709551616)*z31)+(aS+(((-18446744073709551616)*bL)+(((-18446744073709551616)*bY)+(((-18446744073709551616)*bB)+(cq+(cw+(cN+(((-18446744073709551616)*dp)+(cH+(((-18446744073709551616)*z46)+(((-18446744073709551616)*cE)+(((-18446744073709551616)*cQ)+(dg+(cu+(dz+(((-18446744073709551616)*z59)+(((-18446744073709551616)*dJ)+((-18446744073709551616)*dP)))))))))))))))))))))))),(bL+(bY+(bB+(((-18446744073709551616)*bZ)+(z46+(cE+(cQ+(((-18446744073709551616)*z49)+(c9+(((-18446744073709551616)*z51)+(((-18446744073709551616)*cx)+(((-18446744073709551616)*z53)+(z59+(dJ+(dP+(((-18446744073709551616)*dV)+(dr+(((-18446744073709551616)*ed)+(((-18446744073709551616)*eG)+((-18446744073709551616)*eD)))))))))))))))))))),(z51+(cx+(z53+(((-18446744073709551616)*df)+(ed+(eG+(eD+(((-18446744073709551616)*eu)+(fb+(((-18446744073709551616)*ek)+(((-18446744073709551616)*z70)+((-18446744073709551616)*fc)))))))))))),(ek+(z70+(fc+((-18446744073709551616)*z72))))]=aK+18446744073709551616*a8+340282366920938463463374607431768211456*aq+6277101735386680763835789423207666416102355444464034512896*bh+18446744073709551616*bk+340282366920938463463374607431768211456*z22+6277101735386680763835789423207666416102355444464034512896*bO+115792089237316195423570985008687907853269984665640564039457584007913129639936*aS+340282366920938463463374607431768211456*z37+6277101735386680763835789423207666416102355444464034512896*z40+115792089237316195423570985008687907853269984665640564039457584007913129639936*cH+2135987035920910082395021706169552114602704522356652769947041607822219725780640550022962086936576*c9+6277101735386680763835789423207666416102355444464034512896*dq+115792089237316195423570985008687907853269984665640564039457584007913129639936*dz+2135987035920910082395021706169552114602704522356652769947041607822219725780640550022962086936576*dr+39402006196394479212279040100143613805079739270465446667948293404245721771497210611414266254884915640806627990306816*fb:=by
   clear i0 i4 jH jJ qF a9 fx j5 d9 iA iq pV eX e1 lW d11 a12 iv nO d12 fF fI s7 iN iO pc d14 ft fv om d15 jm jo nr fu fJ oo d17 fR gi nP d18 fS fW pe a20 fw nQ d20 a21 fj aV d21 a22 fk pW fh fl nR d23 a24 fm nS d24 fG fK pR d25 a26 fL tO d26 fH fX qE a28 gu rn d28 fT fY sZ d29 gh fZ sq d30 a31 gz sr d31 c7 ga ry eY e2 k8 d33 fi fo oq d34 e7 e9 qA d35 eZ eQ pd d36 a37 fM pX e0 fa pS d38 e8 fp ot d39 a40 gA sC jG jI pT d41 jn jq ou d42 kx kD ss d43 kW kE tP d44 lD lS s8 a46 lF rq d46 ky kF s0 d47 kz kG su d48 a49 kH sw d49 lE lT pY a51 kZ rr d51 kA kI ru d52 a53 k0 tQ d53 ll k5 sx d54 lQ lU rz kB k6 sy d56 kj j3 qB d57 lR mo sD a59 k7 s3 d59 mH mN tR d60 mI mO uX d61 mJ mq yj d62 pa pN nX jb mP tS d64 mK mQ wI d65 mL mR uY d66 ng mS uZ d67 pb pO rA nh nk tT d69 a70 nm tU d70 ni nn yk d71 a72 np u0 d72 i73 aH;simp only[m5];omega
  rw[aH,Be];clear Be aH aHY aHZ aH0 aH1 aH2 aH3 aH4 aH5 aH6;obtain⟨dx,aj,ah,au,rfl,cY,cZ,c0,c2,c3,c4,c5,c6⟩:=nw i0;obtain⟨j1,ar,an,aw,rfl,vL,vM,vO,vP,vQ,vR,vT,vU⟩:=nw i4;simp only[gD,hL]at*;rw[qF,pV,s7,nr,pe,pW,qE,ry,pX,sC,s8,pY,rz,sD,nX,rA];rw[m5,m5,ab7]
end Go.Fd
namespace Go.Fd
open Go.b9
def VE (S:Nat->List (List Int)->List (List Int)->Prop) (K:List (List Int)->List (List Int)->Prop):Prop:=
 ∀r0:List Int,ab (ai 0 bP 4) r0->∀aR:List Int,ab (ai 0 bP 4) aR->
 ∃(PK:List (List Int)->Prop) (UR:List (List Int)->Nat),PK [[255],[1,0,0,0]]/\(oL (-1) 255 λz9=>∀cd:List Int,ab (ai 0 bP 4) cd->PK [[z9],cd]->
  (((decide (0<=z9))=true->
   ∀l8:List Int,ab (ai 0 bP 4) l8->S 36 [cd,cd] [l8]->
   aB 0 3 z9 64 λbd=>
   dK bP (U aR (bd).toNat 0) λbk=>
   aB 0 3 z9 64 λz20=>
   dK bP (bk/2^((z9+((-64)*z20))).toNat) λz21=>
   aB 0 zW z21 2 λz22=>
   (((decide ((z21+((-2)*z22))=1))=true->
    ∀ig:List Int,ab (ai 0 bP 4) ig->S 36 [l8,r0] [ig]->
    (PK [[(z9+(-1))],ig]/\UR [[(z9+(-1))],ig]<UR [[z9],cd])
   )/\((decide ((z21+((-2)*z22))=1))=false->
    (PK [[(z9+(-1))],l8]/\UR [[(z9+(-1))],l8]<UR [[z9],cd])
   ))
  )/\((decide (0<=z9))=false->
   K [r0,aR] [cd]
  ))
 )
theorem aB9 (G):VE (fr G) (eP rX.res 44):=by
 simp(maxSteps:=4000000) only[VE,dK,oL,aB,zW,bP];intro r0 i0 aR i4;refine⟨λl=>match l with|[[i],r]=>ad r=cr (ad r0) ((ad aR).toNat/2^(i+1).toNat)|_=>False,λl=>match l with|[[i],_]=>(i+1).toNat|_=>0,?_,?_⟩
 ·show ad [1,0,0,0]=cr (ad r0) ((ad aR).toNat/2^(255+1:Int).toNat);rw[anD i4,BF];decide
 ·intro z9 a9 fx cd i10 eg;have eg:ad cd=cr (ad r0) ((ad aR).toNat/2^(z9+1).toNat):=eg;refine⟨λh0=>?_,λh0=>?_⟩
  ·skip
   simp only[cI,dd,cU,dh,decide_eq_true_eq,decide_eq_false_iff_not]at h0;intro l8 i14 aH bd fR gi nP d18 bk fS fW pe z20 a20 fw nQ d20 z21 a21 fj GJ z22 a22 fk uW d22;have aH:ad l8=ad cd*ad cd% 57896044618658097711785492504343953926634992332820282019728792003956564819949:=aH.1;refine⟨λh1=>?_,λh1=>?_⟩
   ·skip
    simp only[cI,dd,cU,dh,decide_eq_true_eq,decide_eq_false_iff_not]at h1;intro ig i23 s1;have s1:ad ig=ad l8*ad r0% 57896044618658097711785492504343953926634992332820282019728792003956564819949:=s1.1;obtain⟨i,rfl⟩:=oY h0;have hb:=Qb i4 fx nP d18 pe nQ d20 GJ uW d22;have nY:((i:Int)+1).toNat=i+1:=by omega
    have tV:((i:Int)+(-1)+1).toNat=i:=by omega
    rw[nY]at eg;refine⟨?_,?_⟩
    ·show ad ig=cr (ad r0) ((ad aR).toNat/2^((i:Int)+(-1)+1).toNat);rw[tV,amj (by omega),s1,aH,eg]
    ·show((i:Int)+(-1)+1).toNat<((i:Int)+1).toNat;omega
   ·skip
    simp only[cI,dd,cU,dh,decide_eq_true_eq,decide_eq_false_iff_not]at h1;obtain⟨i,rfl⟩:=oY h0;have hb:=Qb i4 fx nP d18 pe nQ d20 GJ uW d22;have nY:((i:Int)+1).toNat=i+1:=by omega
    have tV:((i:Int)+(-1)+1).toNat=i:=by omega
    rw[nY]at eg;refine⟨?_,?_⟩
    ·show ad l8=cr (ad r0) ((ad aR).toNat/2^((i:Int)+(-1)+1).toNat);rw[tV,ami (by omega),aH,eg]
    ·show((i:Int)+(-1)+1).toNat<((i:Int)+1).toNat;omega
  ·skip
   simp only[cI,dd,cU,dh,decide_eq_true_eq,decide_eq_false_iff_not]at h0;refine⟨?_,?_⟩
   ·exact kY i10
   ·show ad cd=cr (ad r0) (ad aR).toNat;have nY:(z9+1).toNat=0:=by omega
    rw[nY]at eg;simpa using eg
def Vs (S:Nat->List (List Int)->List (List Int)->Prop) (K:List (List Int)->List (List Int)->Prop):Prop:=
 ∀r0:List Int,ab (ai 0 18446744073709551615 4) r0->
 ∀aR:List Int,ab (ai 0 18446744073709551615 4) aR->S 28 [] [aR]->
 ∀hV:List Int,ab (ai 0 18446744073709551615 4) hV->∀z12:Int,0<=z12->z12<=1->S 55 [aR,[2,0,0,0]] [hV,[z12]]->
 ∀iu:List Int,ab (ai 0 18446744073709551615 4) iu->S 44 [r0,hV] [iu]->
 K [r0] [iu]
theorem aBX (G):Vs (fr G) (eP rV.res 45):=by
 unfold Vs;intro r0 i0 aR i4 aH hV i8 z12 a12 iv s1 iu i13 s2;have aH:ad aR=57896044618658097711785492504343953926634992332820282019728792003956564819949:=aH.1;have s1:ad hV=ad aR-ad [2,0,0,0]+115792089237316195423570985008687907853269984665640564039457584007913129639936*z12:=s1.1;have s2:ad iu=cr (ad r0) (ad hV).toNat:=s2.1;refine⟨?_,?_⟩
 ·exact kY i13
 ·show ad iu=cr (ad r0) s9;have ez:=dw i4;have abA:=dw i8;rw[show ad [2,0,0,0]=2 by decide]at s1;have e:ad hV=57896044618658097711785492504343953926634992332820282019728792003956564819947:=by omega
  rw[s2,e];rfl
def VC (S:Nat->List (List Int)->List (List Int)->Prop) (K:List (List Int)->List (List Int)->Prop):Prop:=
 ∀r0:List Int,ab (ai 0 bP 4) r0->
 ∀aR:List Int,ab (ai 0 bP 4) aR->S 44 [r0,[iS,bP,bP,R3]] [aR]->
 ∀hV:List Int,ab (ai 0 bP 4) hV->S 36 [aR,aR] [hV]->
 ((((!(decide (hV=r0))))=true->
  ∀j9:List Int,ab (ai 0 bP 4) j9->S 44 [[2,0,0,0],[akw,bP,bP,akx]] [j9]->
  ∀dt:List Int,ab (ai 0 bP 4) dt->S 36 [aR,j9] [dt]->
  ∀c8:List Int,ab (ai 0 bP 4) c8->S 36 [dt,dt] [c8]->
  ((((!(decide (c8=r0))))=true->
   K [r0] [[0,0,0,0],[(cond (false) 1 0)]]
  )/\(((!(decide (c8=r0))))=false->
   aB 0 zW (U dt 0 0) 2 λz24=>
   (((decide (((U dt 0 0)+((-2)*z24))=1))=true->
    ∀dc:List Int,ab (ai 0 bP 4) dc->S 41 [[0,0,0,0],dt] [dc]->
    K [r0] [dc,[(cond (true) 1 0)]]
   )/\((decide (((U dt 0 0)+((-2)*z24))=1))=false->
    K [r0] [dt,[(cond (true) 1 0)]]
   ))
  ))
 )/\(((!(decide (hV=r0))))=false->
  ∀j9:List Int,ab (ai 0 bP 4) j9->S 36 [aR,aR] [j9]->
  ((((!(decide (j9=r0))))=true->
   K [r0] [[0,0,0,0],[(cond (false) 1 0)]]
  )/\(((!(decide (j9=r0))))=false->
   aB 0 zW (U aR 0 0) 2 λbh=>
   (((decide (((U aR 0 0)+((-2)*bh))=1))=true->
    ∀xj:List Int,ab (ai 0 bP 4) xj->S 41 [[0,0,0,0],aR] [xj]->
    K [r0] [xj,[(cond (true) 1 0)]]
   )/\((decide (((U aR 0 0)+((-2)*bh))=1))=false->
    K [r0] [aR,[(cond (true) 1 0)]]
   ))
  ))
 ))
theorem aB7 (G):VC (fr G) (eP tr.res 38):=by
 simp(maxSteps:=4000000) only[VC,aB,iS,zW,bP,R3,akw,akx];intro r0 i0 aR i4 aH hV i8 s1;have aH:ad aR=cr (ad r0) (ad [18446744073709551614,18446744073709551615,18446744073709551615,1152921504606846975]).toNat:=aH.1;have s1:ad hV=ad aR*ad aR% 57896044618658097711785492504343953926634992332820282019728792003956564819949:=s1.1;refine⟨λh0=>?_,λh0=>?_⟩
 ·skip
  simp only[cI,dd,cU,dh,decide_eq_true_eq,decide_eq_false_iff_not]at h0;intro j9 i12 s2 dt i16 bn c8 i20 cz;have s2:ad j9=cr (ad [2,0,0,0]) (ad [18446744073709551611,18446744073709551615,18446744073709551615,2305843009213693951]).toNat:=s2.1;have bn:ad dt=ad aR*ad j9% 57896044618658097711785492504343953926634992332820282019728792003956564819949:=bn.1;have cz:ad c8=ad dt*ad dt% 57896044618658097711785492504343953926634992332820282019728792003956564819949:=cz.1;refine⟨λh1=>?_,λh1=>?_⟩
  ·skip
   simp only[cI,dd,cU,dh,decide_eq_true_eq,decide_eq_false_iff_not]at h1;refine⟨?_,?_⟩
   ·simp[tr,aY,D.bds,ez,ai,ab]
   ·show(ad [0,0,0,0],(cond (false) 1 0))=qi (ad r0);rw[zz]at aH;have sN:¬ad hV=ad r0:=λe=>h0 (vi i8 i0 e);have FA:¬ad c8=ad r0:=λe=>h1 (vi i20 i0 e);rw[s1]at sN;unfold qi;rw[<-aH];simp only;rw[ac7]at s2;rw[s2]at bn;rw[cz]at FA;rw[if_neg sN,<-bn];rw[if_neg FA];decide
  ·skip
   simp only[cI,dd,cU,dh,decide_eq_true_eq,decide_eq_false_iff_not]at h1;intro z24 a24 fm nS d24;refine⟨λh2=>?_,λh2=>?_⟩
   ·skip
    simp only[cI,dd,cU,dh,decide_eq_true_eq,decide_eq_false_iff_not]at h2;intro dc i25 dO;have dO:ad dc=(ad [0,0,0,0]-ad dt+(if ad [0,0,0,0]<ad dt then 57896044618658097711785492504343953926634992332820282019728792003956564819949 else 0))% 115792089237316195423570985008687907853269984665640564039457584007913129639936:=dO.1;refine⟨?_,?_⟩
    ·exact Bl i25 ⟨by decide,by decide,trivial⟩
    ·show(ad dc,(cond (true) 1 0))=qi (ad r0);rw[zz]at aH;have sN:¬ad hV=ad r0:=λe=>h0 (vi i8 i0 e);have FA:ad c8=ad r0:=by rw[h1]
     rw[s1]at sN;unfold qi;rw[<-aH];simp only;rw[ac7]at s2;rw[s2]at bn;rw[cz]at FA;rw[if_neg sN,<-bn];rw[if_pos FA];have hp:=Oh dt;have hr:0<=ad dt/\ad dt<57896044618658097711785492504343953926634992332820282019728792003956564819949:=by rw[bn];exact⟨sV _ (by decide),wg _ (by decide)⟩
     rw[if_pos (by omega)];rw[show ad [0,0,0,0]=0 by decide]at dO;rw[dO,if_pos (by omega:0<ad dt)];simp only[eO];refine⟨?_,rfl⟩;rw[SR (by omega) (by omega)];omega
   ·skip
    simp only[cI,dd,cU,dh,decide_eq_true_eq,decide_eq_false_iff_not]at h2;refine⟨?_,?_⟩
    ·exact Bl i16 ⟨by decide,by decide,trivial⟩
    ·show(ad dt,(cond (true) 1 0))=qi (ad r0);rw[zz]at aH;have sN:¬ad hV=ad r0:=λe=>h0 (vi i8 i0 e);have FA:ad c8=ad r0:=by rw[h1]
     rw[s1]at sN;unfold qi;rw[<-aH];simp only;rw[ac7]at s2;rw[s2]at bn;rw[cz]at FA;rw[if_neg sN,<-bn];rw[if_pos FA];have hp:=Oh dt;have hr:0<=ad dt/\ad dt<57896044618658097711785492504343953926634992332820282019728792003956564819949:=by rw[bn];exact⟨sV _ (by decide),wg _ (by decide)⟩
     rw[if_neg (by omega)];rfl
 ·skip
  simp only[cI,dd,cU,dh,decide_eq_true_eq,decide_eq_false_iff_not]at h0;intro j9 i12 s2;have s2:ad j9=ad aR*ad aR% 57896044618658097711785492504343953926634992332820282019728792003956564819949:=s2.1;refine⟨λh3=>?_,λh3=>?_⟩
  ·skip
   simp only[cI,dd,cU,dh,decide_eq_true_eq,decide_eq_false_iff_not]at h3;refine⟨?_,?_⟩
   ·simp[tr,aY,D.bds,ez,ai,ab]
   ·show(ad [0,0,0,0],(cond (false) 1 0))=qi (ad r0);rw[zz]at aH;have sN:ad hV=ad r0:=by rw[h0]
    have FB:¬ad j9=ad r0:=λe=>h3 (vi i12 i0 e);rw[s1]at sN;unfold qi;rw[<-aH];simp only;rw[if_pos sN];rw[s2]at FB;rw[if_neg FB];decide
  ·skip
   simp only[cI,dd,cU,dh,decide_eq_true_eq,decide_eq_false_iff_not]at h3;intro bh jm jo AY d16;refine⟨λh4=>?_,λh4=>?_⟩
   ·skip
    simp only[cI,dd,cU,dh,decide_eq_true_eq,decide_eq_false_iff_not]at h4;intro xj i17 bn;have bn:ad xj=(ad [0,0,0,0]-ad aR+(if ad [0,0,0,0]<ad aR then 57896044618658097711785492504343953926634992332820282019728792003956564819949 else 0))% 115792089237316195423570985008687907853269984665640564039457584007913129639936:=bn.1;refine⟨?_,?_⟩
    ·exact Bl i17 ⟨by decide,by decide,trivial⟩
    ·show(ad xj,(cond (true) 1 0))=qi (ad r0);rw[zz]at aH;have sN:ad hV=ad r0:=by rw[h0]
     have FB:ad j9=ad r0:=by rw[h3]
     rw[s1]at sN;unfold qi;rw[<-aH];simp only;rw[if_pos sN];rw[s2]at FB;rw[if_pos FB];have hp:=Oh aR;have hr:0<=ad aR/\ad aR<57896044618658097711785492504343953926634992332820282019728792003956564819949:=by rw[aH];exact KE _ _
     rw[if_pos (by omega)];rw[show ad [0,0,0,0]=0 by decide]at bn;rw[bn,if_pos (by omega:0<ad aR)];simp only[eO];refine⟨?_,rfl⟩;rw[SR (by omega) (by omega)];omega
   ·skip
    simp only[cI,dd,cU,dh,decide_eq_true_eq,decide_eq_false_iff_not]at h4;refine⟨?_,?_⟩
    ·exact Bl i4 ⟨by decide,by decide,trivial⟩
    ·show(ad aR,(cond (true) 1 0))=qi (ad r0);rw[zz]at aH;have sN:ad hV=ad r0:=by rw[h0]
     have FB:ad j9=ad r0:=by rw[h3]
     rw[s1]at sN;unfold qi;rw[<-aH];simp only;rw[if_pos sN];rw[s2]at FB;rw[if_pos FB];have hp:=Oh aR;have hr:0<=ad aR/\ad aR<57896044618658097711785492504343953926634992332820282019728792003956564819949:=by rw[aH];exact KE _ _
     rw[if_neg (by omega)];rfl
end Go.Fd
set_option maxRecDepth 100000
namespace Go.gg
open Go Go.b9
def bw:dL->Nat->Option hN:=λ_ _=>none
def ck:Nat->List Nat:=λ_=>[]
def Kj:bJ:=⟨93,440,[Jh,Jh],[Jh]⟩
def C5:bJ:=⟨64,448,[u3],[u3]⟩
def C6:bJ:=⟨66,449,[u3],[u3]⟩
def C7:bJ:=⟨67,450,[u3],[u3]⟩
def C8:bJ:=⟨68,451,[u3],[u3]⟩
def w1:gK:=⟨70,443,[l5,.d ayj],[S7],71⟩
def ayL:dL->Nat->Option hN:=λf r=>match f,r with
 |70,6=>some ⟨[0,1,5],[(6,0,18446744073709551615),(7,-1,9223372036854775807)],[(1,0,0,0)],[],[],[],[]⟩
 |_,_=>none
def ayY:Nat->List Nat:=λn=>[1,1,1]
def ayn:gK:=⟨71,461,[l5],[l5],71⟩
def Om:kV:=⟨ayn,23,true⟩
def R7:gK:=⟨71,472,[l5,l5],[l5],75⟩
def HO:kV:=⟨R7,23,true⟩
def R8:gK:=⟨71,469,[l5,l5,l5],[l5],75⟩
def HP:kV:=⟨R8,23,true⟩
def C9:bJ:=⟨63,467,[asV],[u3]⟩
def Hz:gK:=⟨98,463,[ay1],[S6],66⟩
def R4:gK:=⟨69,465,[l5],[S7],73⟩
def xw:qw:=⟨R4,[.int .u64 7640891576956012808,.int .u64 13503953896175478587,.int .u64 4354685564936845355,.int .u64 11912009170470909681,.int .u64 5840696475078001361,.int .u64 11170449401992604703,.int .u64 2270897969802886507,.int .u64 6620516959819538809,.int .i64 80,.fn 63,.fn 64,.fn 66,.fn 67,.fn 68],103,[.int .i64 8]⟩
def SH:dL->Nat->Option hN:=λf r=>match f,r with
 |92,3=>some ⟨[0],[(5,16,9223372036854775807)],[],[],[(4,[.int .u64 0 18446744073709551615],32)],[],[]⟩
 |92,8=>some ⟨[0,106,107],[(108,0,9223372036854775807),(6,0,18446744073709551615),(7,0,18446744073709551615),(8,0,18446744073709551615),(9,0,18446744073709551615),(10,0,18446744073709551615),(11,0,18446744073709551615),(12,0,18446744073709551615),(13,0,18446744073709551615)],[],[],[],[],[]⟩
 |69,15=>some ⟨[3,5,13,47,48],[(14,-1,7)],[],[],[(11,[.int .u8 0 255],5)],[],[]⟩
 |_,_=>none
def ak2:Nat->List Nat:=λn=>cond (aP n 4) [8,1] (cond (aP n 166) [8,1] [1,1,1,1])
def R9:gK:=⟨36,453,[l5],[.d jb],71⟩
def Fv:kV:=⟨R9,23,false⟩
def Sa:gK:=⟨36,473,[l5,l5],[.d jb],75⟩
def HQ:kV:=⟨Sa,23,false⟩
def Sb:gK:=⟨36,471,[l5,l5,l5],[.d jb],75⟩
def HR:kV:=⟨Sb,23,false⟩
def N5:bJ:=⟨15,112,[c7],[c7,Ya]⟩
def HD:bJ:=⟨18,114,[c7],[c7]⟩
def N4:bJ:=⟨16,115,[c7,c7,c7],[c7,Ya]⟩
def N3:bJ:=⟨14,151,[c7],[.bool]⟩
def Dd:bJ:=⟨35,152,[jb],[c7]⟩
def N2:bJ:=⟨20,153,[c7,c7,c7],[c7]⟩
def HC:bJ:=⟨38,154,[c7],[c7]⟩
def R5:gK:=⟨17,674,[l5,l5],[.d c7],75⟩
def KA:kV:=⟨R5,23,false⟩
def R6:gK:=⟨17,675,[l5,l5,l5],[.d c7],75⟩
def Fu:kV:=⟨R6,23,false⟩
def C2:gK:=⟨8,680,[.d c7],[.d c7],0⟩
def C3:gK:=⟨9,681,[.d c7,l5],[.d jb],75⟩
def Ki:gK:=⟨7,682,[.d c7,l5,.d jb],[.d .bool],75⟩
def HB:gK:=⟨6,683,[],[.d .bool],0⟩
def Kg:bJ:=⟨10,690,[ez],[c7]⟩
def Fc:bJ:=⟨11,691,[],[ez]⟩
def Kh:bJ:=⟨12,692,[c7,c7],[c7,Ya]⟩
def N0:bJ:=⟨25,693,[c7],[ez]⟩
def NZ:bJ:=⟨24,694,[ez,ez],[.bool]⟩
def HA:gK:=⟨13,695,[.d c7],[.d .bool],0⟩
def N1:gK:=⟨5,696,[.d c7,l5],[.d .bool],0⟩
def sh:Nat->List Nat×List Nat
 |440=>([1,1],[1])
 |448=>([1],[1])
 |449=>([1],[1])
 |450=>([1],[1])
 |451=>([1],[1])
 |443=>([1],[1])
 |461=>([1],[1])
 |472=>([1,1],[1])
 |469=>([1,1,1],[1])
 |467=>([1],[1])
 |463=>([1],[1])
 |465=>([1],[1])
 |453=>([1],[64])
 |473=>([1,1],[64])
 |471=>([1,1,1],[64])
 |112=>([32],[32,1])
 |114=>([32],[32])
 |115=>([32,32,32],[32,1])
 |151=>([32],[1])
 |152=>([64],[32])
 |153=>([32,32,32],[32])
 |154=>([32],[32])
 |674=>([1,1],[32])
 |675=>([1,1,1],[32])
 |680=>([32],[32])
 |681=>([32,1],[64])
 |682=>([32,1,64],[1])
 |683=>([],[1])
 |690=>([4],[32])
 |691=>([],[4])
 |692=>([32,32],[32,1])
 |693=>([32],[4])
 |694=>([4,4],[1])
 |695=>([32],[1])
 |696=>([32,1],[1])
 |_=>([],[])
abbrev IQ (P:Program) (gl:fP) (c:bJ) (cal:gL) (li:dL->Nat->Option hN) (lsh:Nat->List Nat) (lens:List Nat) (B:(Nat->List (List Int)->List (List Int)->Prop)->(List (List Int)->List (List Int)->Prop)->Prop):Prop:=∀S K,fg sh lsh S K lens (aY c.args) c.res (c.tree P gl cal li 600 6)=B S K
end Go.gg
namespace Go.gg
open Go Go.b9 Go.Proofs
theorem aHw:IQ Tryd.prog h9 Kj (jR [] []) bw ck [1,1] aeO:=λ_ _=>by kernel_rfl
theorem aGP:IQ Tryd.prog h9 C5 (jR [] []) bw ck [1] aeF:=λ_ _=>by kernel_rfl
theorem aGQ:IQ Tryd.prog h9 C6 (jR [] []) bw ck [1] aeG:=λ_ _=>by kernel_rfl
theorem aGR:IQ Tryd.prog h9 C7 (jR [] []) bw ck [1] aeH:=λ_ _=>by kernel_rfl
theorem aGS:IQ Tryd.prog h9 C8 (jR [] []) bw ck [1] aeI:=λ_ _=>by kernel_rfl
theorem aHx (S K):o9 sh ayY S K [1] (dU w1.args) w1.res (w1.tree (lV []) Tryd.prog h9 (jR [] [Kj]) ayL 600 6)=aeP S K:=by kernel_rfl
theorem aGT:IQ Tryd.prog h9 C9 (jR [] []) bw ck [1] aeJ:=λ_ _=>by kernel_rfl
theorem aGA (S K):o9 sh ck S K [1] (dU Hz.args) Hz.res (Hz.tree (lV []) Tryd.prog h9 (jR [] []) bw 600 6)=aey S K:=by kernel_rfl
theorem aHz (S K):o9 sh ck S K [1] (dU R9.args) R9.res (Fv.tree (DE [xw] (q0 [Om] (lV [w1]))) Tryd.prog h9 (jR [] []) bw 600 6)=aeQ S K:=by kernel_rfl
end Go.gg
namespace Go.gg
open Go Go.b9 Go.Proofs
theorem aGu (S K):o9 sh ak2 S K [1] (dU R4.args) R4.res (xw.tree (Qd Tryd.prog h9 (jR [] [C9,C5,C6,C7,C8]) (I9 (lV [Hz]) Tryd.prog h9 (jR [] [C9,C5,C6,C7,C8]) SH 600 6) SH 600 [(1,0,0,18446744073709551615),(1,1,0,18446744073709551615),(1,2,0,18446744073709551615),(1,3,0,18446744073709551615),(1,4,0,18446744073709551615),(1,5,0,18446744073709551615),(1,6,0,18446744073709551615),(1,7,0,18446744073709551615)] 97))=aex S K:=by kernel_rfl
end Go.gg
namespace Go.gg
open Go Go.b9 Go.Proofs
theorem aHu (S K):o9 sh ck S K [1,1] (dU R7.args) R7.res (HO.tree (lV []) Tryd.prog h9 (jR [] []) bw 600 6)=aeM S K:=by kernel_rfl
theorem aHv (S K):o9 sh ck S K [1,1,1] (dU R8.args) R8.res (HP.tree (lV []) Tryd.prog h9 (jR [] []) bw 600 6)=aeN S K:=by kernel_rfl
theorem aHA (S K):o9 sh ck S K [1,1] (dU Sa.args) Sa.res (HQ.tree (DE [xw] (q0 [HO] (lV [w1]))) Tryd.prog h9 (jR [] []) bw 600 6)=aeR S K:=by kernel_rfl
theorem aHB (S K):o9 sh ck S K [1,1,1] (dU Sb.args) Sb.res (HR.tree (DE [xw] (q0 [HP] (lV [w1]))) Tryd.prog h9 (jR [] []) bw 600 6)=aeS S K:=by kernel_rfl
end Go.gg
namespace Go.gg
open Go Go.b9 Go.Proofs
theorem aGZ (S K):o9 sh ck S K [1,1] (dU R5.args) R5.res (KA.tree (q0 [HQ] (lV [])) Tryd.prog h9 (jR [] [Dd]) bw 600 6)=aeK S K:=by kernel_rfl
theorem aG0 (S K):o9 sh ck S K [1,1,1] (dU R6.args) R6.res (Fu.tree (q0 [HR] (lV [])) Tryd.prog h9 (jR [] [Dd]) bw 600 6)=aeL S K:=by kernel_rfl
theorem aGK (S K):o9 sh ck S K [32] (dU C2.args) C2.res (C2.tree (q0 [Fv] (lV [])) Tryd.prog h9 (jR [] [HC,HD]) bw 600 6)=aeC S K:=by kernel_rfl
theorem aGL (S K):o9 sh ck S K [32,1] (dU C3.args) C3.res (C3.tree (q0 [Fv,KA,Fu] (lV [])) Tryd.prog h9 (jR [] [HC,HD,N2]) bw 600 6)=aeD S K:=by kernel_rfl
theorem aGM (S K):o9 sh ck S K [32,1,64] (dU Ki.args) Ki.res (Ki.tree (q0 [Fu] (lV [])) Tryd.prog h9 (jR [] [N3,N5,N4]) bw 600 6)=aeE S K:=by kernel_rfl
theorem aGI (S K):o9 sh ck S K [] (dU HB.args) HB.res (HB.tree (lV [C2,C3,Ki]) Tryd.prog h9 (jR [] []) bw 600 6)=aeA S K:=by kernel_rfl
end Go.gg
namespace Go.gg
open Go Go.b9 Go.Proofs
theorem aGH (S K):o9 sh ck S K [32] (dU HA.args) HA.res (HA.tree (lV []) Tryd.prog h9 (jR [] [Fc,N0,NZ]) bw 600 6)=aez S K:=by kernel_rfl
theorem aGJ (S K):o9 sh ck S K [32,1] (dU N1.args) N1.res (N1.tree (lV [HB,C2,C3,HA]) Tryd.prog h9 (jR [] [Kg,Fc,Kh]) bw 600 6)=aeB S K:=by kernel_rfl
end Go.gg
namespace Go.nN
open Go Go.b9 Go.Proofs
theorem aFZ (S K):(kC lg.bds λzs=>(lg.tree Tryd.prog gl (bo [] [] 75 76 53) lL 600 6).holds S (ki lg.res (K zs)) (λ_ _=>False) (bR (λ_=>0) 0 zs))=Wq S K:=by kernel_rfl
theorem aF0 (S K):(kC Bq.bds λzs=>(Bq.tree Tryd.prog gl (bo [] [] 75 76 53) lL 600 6).holds S (ki Bq.res (K zs)) (λ_ _=>False) (bR (λ_=>0) 0 zs))=Wr S K:=by kernel_rfl
theorem aF1 (S K):(kC Db.bds λzs=>(Db.tree Tryd.prog gl (bo [] [] 75 76 53) lL 600 6).holds S (ki Db.res (K zs)) (λ_ _=>False) (bR (λ_=>0) 0 zs))=Ws S K:=by kernel_rfl
theorem aF2 (S K):(kC (aY iU.args) λzs=>(iU.tree Tryd.prog gl (bo [] [] 75 76 53) lL 600 6).holds S (ki iU.res (K zs)) (λ_ _=>False) (bR (λ_=>0) 0 zs))=Wt S K:=by kernel_rfl
theorem aF4 (S K):(kC (aY iV.args) λzs=>(iV.tree Tryd.prog gl (bo [] [] 75 76 53) lL 600 6).holds S (ki iV.res (K zs)) (λ_ _=>False) (bR (λ_=>0) 0 zs))=Wv S K:=by kernel_rfl
theorem aFV (S K):(kC (aY iJ.args) λzs=>(iJ.tree Tryd.prog gl (bo [] [] 75 76 53) lL 600 6).holds S (ki iJ.res (K zs)) (λ_ _=>False) (bR (λ_=>0) 0 zs))=Wm S K:=by kernel_rfl
theorem aF5 (S K):(kC (aY Dc.args) λzs=>(Dc.tree Tryd.prog gl (bo [] [] 75 76 53) lL 600 6).holds S (ki Dc.res (K zs)) (λ_ _=>False) (bR (λ_=>0) 0 zs))=Ww S K:=by kernel_rfl
theorem aFX (S K):(kC (aY C4.args) λzs=>(C4.tree Tryd.prog gl (bo [] [] 75 76 53) lL 600 6).holds S (ki C4.res (K zs)) (λ_ _=>False) (bR (λ_=>0) 0 zs))=Wo S K:=by kernel_rfl
theorem aF7 (S K):(kC (aY wZ.args) λzs=>(wZ.tree Tryd.prog gl (bo [] [C4,iV,iU] 75 76 53) lL 600 6).holds S (ki wZ.res (K zs)) (λ_ _=>False) (bR (λ_=>0) 0 zs))=Wy S K:=by kernel_rfl
theorem aFY (S K):(kC (aY Da.args) λzs=>(Da.tree Tryd.prog gl (bo [] [wZ] 75 76 53) lL 600 6).holds S (ki Da.res (K zs)) (λ_ _=>False) (bR (λ_=>0) 0 zs))=Wp S K:=by kernel_rfl
theorem aF8 (S K):(kC (aY nz.args) λzs=>(nz.tree Tryd.prog gl (bo [lg] [iU] 75 76 53) lL 600 6).holds S (ki nz.res (K zs)) (λ_ _=>False) (bR (λ_=>0) 0 zs))=Wz S K:=by kernel_rfl
theorem aF6 (S K):(kC (aY n3.args) λzs=>(n3.tree Tryd.prog gl (bo [Bq,Db] [wZ,iJ] 75 76 53) lL 600 6).holds S (ki n3.res (K zs)) (λ_ _=>False) (bR (λ_=>0) 0 zs))=Wx S K:=by kernel_rfl
theorem aF3 (S K):(kC (aY Fe.args) λzs=>(Fe.tree Tryd.prog gl (bo [lg] [Dc,wZ,Da,iV,iJ] 75 76 53) lL 600 6).holds S (ki Fe.res (K zs)) (λ_ _=>False) (bR (λ_=>0) 0 zs))=Wu S K:=by kernel_rfl
theorem aFW (S K):(kC (aY Fb.args) λzs=>(Fb.tree Tryd.prog gl (bo [] [] 75 76 53) lL 600 6).holds S (ki Fb.res (K zs)) (λ_ _=>False) (bR (λ_=>0) 0 zs))=Wn S K:=by kernel_rfl
end Go.nN
namespace Go.nN
open Go Go.b9 Go.Proofs
theorem bb {α:Type} {p:α->Prop}:∀x∈([]:List α),p x:=λ_ h=>by cases h
theorem gx:Tryd.prog.follows .mixedOrders=true:=by kernel_rfl
theorem ev:IL Tryd.prog 76:=afE Tryd.func76 (by kernel_rfl) (by kernel_rfl) (by kernel_rfl) (by kernel_rfl)
theorem eA:IV Tryd.prog 53:=ant Tryd.func53 (by kernel_rfl) (by kernel_rfl) (by kernel_rfl) (by kernel_rfl)
theorem ey:IS Tryd.prog 75:=alz gx (enters (by kernel_rfl)) (λK=>by kernel_rfl)
theorem vi {n:Nat} {l l':List Int} (h:ab (ai 0 18446744073709551615 n) l) (bm:ab (ai 0 18446744073709551615 n) l') (e:ad l=ad l'):l=l':=Og (b:=18446744073709551616) (by decide) h bm e
theorem w6 {n:Nat} {l l':List Int} (h:ab (ai 0 255 n) l) (bm:ab (ai 0 255 n) l') (e:nb l=nb l'):l=l':=Og (b:=256) (by decide) h bm e
theorem NK {X:Int} {rs cX:List Int} (h:ab (aY [ch]) rs) (bm:ab (aY [ch]) cX) (e:ad rs=X) (cW:ad cX=X):rs=cX:=vi (n:=4) h bm (e.trans cW.symm)
theorem aw8 {X:Int} {rs cX:List Int} (h:ab (aY [y1]) rs) (bm:ab (aY [y1]) cX) (e:ad rs=X) (cW:ad cX=X):rs=cX:=vi (n:=8) h bm (e.trans cW.symm)
theorem ZQ {X:Int} {rs cX:List Int} (h:ab (aY [gN]) rs) (bm:ab (aY [gN]) cX) (e:nb rs=X) (cW:nb cX=X):rs=cX:=w6 (n:=32) h bm (e.trans cW.symm)
theorem ajQ {X:List Int} {rs cX:List Int} (e:rs=X) (cW:cX=X):rs=cX:=e.trans cW.symm
theorem RH {rs:List Int} (h:ab (aY [ch,c1]) rs):∃a b c d x,rs=[a,b,c,d,x]/\0<=x/\x<=1/\ab (ai 0 18446744073709551615 4) [a,b,c,d]/\0<=ad [a,b,c,d]/\ad [a,b,c,d]<115792089237316195423570985008687907853269984665640564039457584007913129639936:=by
 match rs,h with
 |[a,b,c,d,x],h=>
  obtain⟨a0,b7,fV,ca,e4,c1,d0,d1,dx,aj,_⟩:=h;exact⟨a,b,c,d,x,rfl,dx,aj,⟨a0,b7,fV,ca,e4,c1,d0,d1,trivial⟩,m5 a0 b7 fV ca e4 c1 d0 d1⟩
theorem aw6 {zs rs cX:List Int} (h:ab (aY [ch,c1]) rs) (bm:ab (aY [ch,c1]) cX) (e:r5 zs rs) (cW:r5 zs cX):rs=cX:=by
 obtain⟨a,b,c,d,x,rfl,dx,aj,hb,h0,h1⟩:=RH h;obtain⟨dT,b',e3,GF,hI,rfl,aIb,aIc,oy,auN,ER⟩:=RH bm;simp only[r5,nL,qp,hL,gD]at e cW;have ex:x=hI:=by omega
 subst ex;have:=vi hb oy (by omega);simp only[qn,and_true]at this;simp[this]
theorem aw7 {zs rs cX:List Int} (h:ab (aY [ch,c1]) rs) (bm:ab (aY [ch,c1]) cX) (e:r6 zs rs) (cW:r6 zs cX):rs=cX:=by
 obtain⟨a,b,c,d,x,rfl,dx,aj,hb,h0,h1⟩:=RH h;obtain⟨dT,b',e3,GF,hI,rfl,aIb,aIc,oy,auN,ER⟩:=RH bm;simp only[r6,nL,qp,hL,gD]at e cW;have ex:x=hI:=by omega
 subst ex;have:=vi hb oy (by omega);simp only[qn,and_true]at this;simp[this]
theorem aw5 {zs rs cX:List Int} (h:ab (aY [ch,y1]) rs) (bm:ab (aY [ch,y1]) cX) (e:vm zs rs) (cW:vm zs cX):rs=cX:=by
 obtain⟨h1,h2⟩:=Bm (b:=ch.bds) (b':=y1.bds++[]) h;obtain⟨ER,GY⟩:=Bm (b:=ch.bds) (b':=y1.bds++[]) bm;have az:=vi (n:=4) h1 ER (e.1.trans cW.1.symm);have aI:=vi (n:=8) (l:=rs.drop 4) (l':=cX.drop 4) h2 GY (e.2.trans cW.2.symm);rw[<-oi 4 rs,<-oi 4 cX,aI]
 congr 1
theorem Zc {X:Int} (h0:0<=X) (h1:X<115792089237316195423570985008687907853269984665640564039457584007913129639936):∃rs,ab (aY [ch]) rs/\ad rs=X:=
 ⟨Jg 18446744073709551616 4 X,by have:=ahA (b:=18446744073709551616) (by decide) 4 X;exact this,alT (b:=18446744073709551616) (by decide) 4 X h0 h1⟩
theorem Kt {l:List Int} (h:ab (ai 0 255 32) l):0<=nb l/\nb l<115792089237316195423570985008687907853269984665640564039457584007913129639936:=alJ h
section
variable {wb:World} (hg:gM gl ⟨wb,wb,λ_=>False,λ_=>False,[]⟩)
include hg
theorem SX:lg.bD Tryd.prog wb (cJ 22):=by
 refine lk.ps (S:=cJ) (c:=lg) (cal:=(bo [] [] 75 76 53)) (spec:=cJ 22) (li:=lL) (rounds:=600) (d:=6) gx (λr ex ro=>eB ey ev eA bb bb) hg (enters (by kernel_rfl)) (λzs rs cX hz h bm e cW=>NK h bm e cW) (λzs hz=>Zc (Kt (by simpa [lk.bds,lg,aY]using hz)).1 (Kt (by simpa [lk.bds,lg,aY]using hz)).2) ?_;rw[aFZ];exact abZ
omit hg in
theorem Rb {zs:List Int} (h:ab Bq.bds zs):ab (ai 0 255 32) (zs.take 32)/\ab (ai 0 255 32) (zs.drop 32):=by
 have bm:ab (ai 0 255 32++ai 0 255 32) zs:=h;exact Bm bm
theorem az8:Bq.bD Tryd.prog wb (cJ 122):=by
 refine lk.ps (S:=cJ) (c:=Bq) (cal:=(bo [] [] 75 76 53)) (spec:=cJ 122) (li:=lL) (rounds:=600) (d:=6) gx (λr ex ro=>eB ey ev eA bb bb) hg (enters (by kernel_rfl)) (λzs rs cX hz h bm e cW=>NK h bm e cW) (λzs hz=>Zc (Kt (Rb hz).1).1 (Kt (Rb hz).1).2) ?_;rw[aF0];exact aBD
theorem az9:Db.bD Tryd.prog wb (cJ 222):=by
 refine lk.ps (S:=cJ) (c:=Db) (cal:=(bo [] [] 75 76 53)) (spec:=cJ 222) (li:=lL) (rounds:=600) (d:=6) gx (λr ex ro=>eB ey ev eA bb bb) hg (enters (by kernel_rfl)) (λzs rs cX hz h bm e cW=>NK h bm e cW) (λzs hz=>Zc (Kt (Rb hz).2).1 (Kt (Rb hz).2).2) ?_;rw[aF1];exact aBE
theorem SY:iU.bD Tryd.prog wb (cJ 29):=by
 refine bJ.ps (S:=cJ) (c:=iU) (cal:=(bo [] [] 75 76 53)) (spec:=cJ 29) (li:=lL) (rounds:=600) (d:=6) gx (λr ex ro=>eB ey ev eA bb bb) hg (enters (by kernel_rfl)) (λzs rs cX hz h bm e cW=>aw6 h bm e cW) ?_;rw[aF2];exact ab0
theorem SZ:iV.bD Tryd.prog wb (cJ 24):=by
 refine bJ.ps (S:=cJ) (c:=iV) (cal:=(bo [] [] 75 76 53)) (spec:=cJ 24) (li:=lL) (rounds:=600) (d:=6) gx (λr ex ro=>eB ey ev eA bb bb) hg (enters (by kernel_rfl)) (λzs rs cX hz h bm e cW=>aw7 h bm e cW) ?_;rw[aF4];exact ab1
theorem SW:iJ.bD Tryd.prog wb (cJ 26):=by
 refine bJ.ps (S:=cJ) (c:=iJ) (cal:=(bo [] [] 75 76 53)) (spec:=cJ 26) (li:=lL) (rounds:=600) (d:=6) gx (λr ex ro=>eB ey ev eA bb bb) hg (enters (by kernel_rfl)) (λzs rs cX hz h bm e cW=>ZQ h bm e cW) ?_;rw[aFV];exact abY
theorem aAg:Dc.bD Tryd.prog wb (cJ 21):=by
 refine bJ.ps (S:=cJ) (c:=Dc) (cal:=(bo [] [] 75 76 53)) (spec:=cJ 21) (li:=lL) (rounds:=600) (d:=6) gx (λr ex ro=>eB ey ev eA bb bb) hg (enters (by kernel_rfl)) (λzs rs cX hz h bm e cW=>aw8 h bm e cW) ?_;rw[aF5];exact aBL
theorem azZ:C4.bD Tryd.prog wb (cJ 35):=by
 refine bJ.ps (S:=cJ) (c:=C4) (cal:=(bo [] [] 75 76 53)) (spec:=cJ 35) (li:=lL) (rounds:=600) (d:=6) gx (λr ex ro=>eB ey ev eA bb bb) hg (enters (by kernel_rfl)) (λzs rs cX hz h bm e cW=>aw5 h bm e cW) ?_;rw[aFX];exact aBu
theorem abK:wZ.bD Tryd.prog wb (cJ 23):=by
 refine bJ.ps (S:=cJ) (c:=wZ) (cal:=(bo [] [C4,iV,iU] 75 76 53)) (spec:=cJ 23) (li:=lL) (rounds:=600) (d:=6) gx (λr ex ro=>eB ey ev eA bb (List.forall_mem_cons.2 ⟨(azZ hg).f,(List.forall_mem_cons.2 ⟨(SZ hg).f,(List.forall_mem_cons.2 ⟨(SY hg).f,bb⟩)⟩)⟩)) hg (enters (by kernel_rfl)) (λzs rs cX hz h bm e cW=>NK h bm e cW) ?_;rw[aF7];exact aBV
theorem az7:Da.bD Tryd.prog wb (cJ 25):=by
 refine bJ.ps (S:=cJ) (c:=Da) (cal:=(bo [] [wZ] 75 76 53)) (spec:=cJ 25) (li:=lL) (rounds:=600) (d:=6) gx (λr ex ro=>eB ey ev eA bb (List.forall_mem_cons.2 ⟨(abK hg).f,bb⟩)) hg (enters (by kernel_rfl)) (λzs rs cX hz h bm e cW=>NK h bm e cW) ?_;rw[aFY];exact aBC
theorem abL:nz.bD Tryd.prog wb (cJ 13):=by
 refine bJ.ps (S:=cJ) (c:=nz) (cal:=(bo [lg] [iU] 75 76 53)) (spec:=cJ 13) (li:=lL) (rounds:=600) (d:=6) gx (λr ex ro=>eB ey ev eA (List.forall_mem_cons.2 ⟨SX hg,bb⟩) (List.forall_mem_cons.2 ⟨(SY hg).f,bb⟩)) hg (enters (by kernel_rfl)) (λzs rs cX hz h bm e cW=>ajQ e cW) ?_;rw[aF8];exact ab3
theorem abJ:n3.bD Tryd.prog wb (cJ 11):=by
 refine bJ.ps (S:=cJ) (c:=n3) (cal:=(bo [Bq,Db] [wZ,iJ] 75 76 53)) (spec:=cJ 11) (li:=lL) (rounds:=600) (d:=6) gx (λr ex ro=>eB ey ev eA (List.forall_mem_cons.2 ⟨az8 hg,(List.forall_mem_cons.2 ⟨az9 hg,bb⟩)⟩) (List.forall_mem_cons.2 ⟨(abK hg).f,(List.forall_mem_cons.2 ⟨(SW hg).f,bb⟩)⟩)) hg (enters (by kernel_rfl)) (λzs rs cX hz h bm e cW=>ZQ h bm e cW) ?_;rw[aF6];exact ab2
theorem aAb:Fe.bD Tryd.prog wb (cJ 8):=by
 refine bJ.ps (S:=cJ) (c:=Fe) (cal:=(bo [lg] [Dc,wZ,Da,iV,iJ] 75 76 53)) (spec:=cJ 8) (li:=lL) (rounds:=600) (d:=6) gx (λr ex ro=>eB ey ev eA (List.forall_mem_cons.2 ⟨SX hg,bb⟩) (List.forall_mem_cons.2 ⟨(aAg hg).f,(List.forall_mem_cons.2 ⟨(abK hg).f,(List.forall_mem_cons.2 ⟨(az7 hg).f,(List.forall_mem_cons.2 ⟨(SZ hg).f,(List.forall_mem_cons.2 ⟨(SW hg).f,bb⟩)⟩)⟩)⟩)⟩)) hg (enters (by kernel_rfl)) (λzs rs cX hz h bm e cW=>ZQ h bm e cW) ?_;rw[aF3];exact aBG
theorem azG:Fb.bD Tryd.prog wb (cJ 14):=by
 refine bJ.ps (S:=cJ) (c:=Fb) (cal:=(bo [] [] 75 76 53)) (spec:=cJ 14) (li:=lL) (rounds:=600) (d:=6) gx (λr ex ro=>eB ey ev eA bb bb) hg (enters (by kernel_rfl)) (λzs rs cX hz h bm e cW=>ajQ e cW) ?_;rw[aFW];exact aBg
end
end Go.nN
namespace Go.Fd
open Go Go.b9 Go.Proofs
theorem aGV (S K):fg sh ck S K [32] (aY lg.args) lg.res (lg.tree Tryd.prog gl (bo [] [] 75 76 53) bw 600 6)=Va S K:=by kernel_rfl
theorem aCA:(lg.tree Tryd.prog gl (bo [] [] 75 76 53) bw 600 6).plain=true:=by kernel_rfl
theorem aG4 (S K):fg sh ck S K [4] (aY tp.args) tp.res (tp.tree Tryd.prog gl (bo [] [] 75 76 53) bw 600 6)=Vh S K:=by kernel_rfl
theorem aCF:(tp.tree Tryd.prog gl (bo [] [] 75 76 53) bw 600 6).plain=true:=by kernel_rfl
theorem aHl (S K):fg sh ck S K [] (aY l4.args) l4.res (l4.tree Tryd.prog gl (bo [] [] 75 76 53) bw 600 6)=Vy S K:=by kernel_rfl
theorem aCV:(l4.tree Tryd.prog gl (bo [] [] 75 76 53) bw 600 6).plain=true:=by kernel_rfl
theorem aHh (S K):fg sh ck S K [4,4] (aY lK.args) lK.res (lK.tree Tryd.prog gl (bo [] [] 75 76 53) bw 600 6)=Vu S K:=by kernel_rfl
theorem aCS:(lK.tree Tryd.prog gl (bo [] [] 75 76 53) bw 600 6).plain=true:=by kernel_rfl
theorem aHj (S K):fg sh ck S K [4,4] (aY n4.args) n4.res (n4.tree Tryd.prog gl (bo [] [] 75 76 53) bw 600 6)=Vw S K:=by kernel_rfl
theorem aCT:(n4.tree Tryd.prog gl (bo [] [] 75 76 53) bw 600 6).plain=true:=by kernel_rfl
theorem aHm (S K):fg sh ck S K [4,4] (aY n5.args) n5.res (n5.tree Tryd.prog gl (bo [] [] 75 76 53) bw 600 6)=Vz S K:=by kernel_rfl
theorem aCW:(n5.tree Tryd.prog gl (bo [] [] 75 76 53) bw 600 6).plain=true:=by kernel_rfl
theorem aG8 (S K):fg sh ck S K [4] (aY rU.args) rU.res (rU.tree Tryd.prog gl (bo [] [lK,l4,n4] 75 76 53) bw 600 6)=Vl S K:=by kernel_rfl
theorem aCJ:(rU.tree Tryd.prog gl (bo [] [lK,l4,n4] 75 76 53) bw 600 6).plain=true:=by kernel_rfl
theorem aHq (S K):fg sh ck S K [4,4] (aY rW.args) rW.res (rW.tree Tryd.prog gl (bo [] [n5,rU] 75 76 53) bw 600 6)=VD S K:=by kernel_rfl
theorem aC0:(rW.tree Tryd.prog gl (bo [] [n5,rU] 75 76 53) bw 600 6).plain=true:=by kernel_rfl
theorem aHa (S K):fg sh ck S K [4,4] (aY oF.args) oF.res (oF.tree Tryd.prog gl (bo [] [lK,n5,l4,n4] 75 76 53) bw 600 6)=Vn S K:=by kernel_rfl
theorem aCL:(oF.tree Tryd.prog gl (bo [] [lK,n5,l4,n4] 75 76 53) bw 600 6).plain=true:=by kernel_rfl
theorem aHd (S K):fg sh ck S K [4,4] (aY vc.args) vc.res (vc.tree Tryd.prog gl (bo [] [n5,rU] 75 76 53) bw 600 6)=Vq S K:=by kernel_rfl
theorem aCO:(vc.tree Tryd.prog gl (bo [] [n5,rU] 75 76 53) bw 600 6).plain=true:=by kernel_rfl
theorem aHn (S K):fg sh ck S K [4,4] (aY lv.args) lv.res (lv.tree Tryd.prog gl (bo [] [vc] 75 76 53) bw 600 6)=VA S K:=by kernel_rfl
theorem aCX:(lv.tree Tryd.prog gl (bo [] [vc] 75 76 53) bw 600 6).plain=true:=by kernel_rfl
end Go.Fd
namespace Go.Fd
open Go Go.b9 Go.Proofs
theorem aHr (S K):fg sh ayX S K [4,4] (aY rX.args) rX.res (rX.tree Tryd.prog gl (bo [] [lv] 75 76 53) akW 600 6)=VE S K:=by kernel_rfl
theorem aHf (S K):fg sh ck S K [4] (aY rV.args) rV.res (rV.tree Tryd.prog gl (bo [] [n4,l4,rX] 75 76 53) bw 600 6)=Vs S K:=by kernel_rfl
theorem aCQ:(rV.tree Tryd.prog gl (bo [] [n4,l4,rX] 75 76 53) bw 600 6).plain=true:=by kernel_rfl
theorem aHp (S K):fg sh ck S K [4] (aY tr.args) tr.res (tr.tree Tryd.prog gl (bo [] [rX,lv,oF] 75 76 53) bw 600 6)=VC S K:=by kernel_rfl
theorem aCZ:(tr.tree Tryd.prog gl (bo [] [rX,lv,oF] 75 76 53) bw 600 6).plain=true:=by kernel_rfl
end Go.Fd
namespace Go.Fd
open Go Go.b9 Go.Proofs
theorem aGx (S K):fg sh ck S K [5] (aY kO.args) kO.res (kO.tree Tryd.prog gl (bo [] [] 75 76 53) bw 600 6)=UY S K:=by kernel_rfl
theorem aCq:(kO.tree Tryd.prog gl (bo [] [] 75 76 53) bw 600 6).plain=true:=by kernel_rfl
theorem aGO (S K):fg sh ck S K [32] (aY rS.args) rS.res (rS.tree Tryd.prog gl (bo [] [kO] 75 76 53) bw 600 6)=U8 S K:=by kernel_rfl
theorem aCy:(rS.tree Tryd.prog gl (bo [] [kO] 75 76 53) bw 600 6).plain=true:=by kernel_rfl
theorem aGw (S K):fg sh ck S K [5] (aY iJ.args) iJ.res (iJ.tree Tryd.prog gl (bo [] [kO] 75 76 53) bw 600 6)=UX S K:=by kernel_rfl
theorem aCp:(iJ.tree Tryd.prog gl (bo [] [kO] 75 76 53) bw 600 6).plain=true:=by kernel_rfl
theorem aG2 (S K):fg sh ck S K [5,5] (aY iV.args) iV.res (iV.tree Tryd.prog gl (bo [] [kO] 75 76 53) bw 600 6)=Vf S K:=by kernel_rfl
theorem aCE:(iV.tree Tryd.prog gl (bo [] [kO] 75 76 53) bw 600 6).plain=true:=by kernel_rfl
theorem aGX (S K):fg sh ck S K [5,5] (aY iU.args) iU.res (iU.tree Tryd.prog gl (bo [] [kO] 75 76 53) bw 600 6)=Vc S K:=by kernel_rfl
theorem aCB:(iU.tree Tryd.prog gl (bo [] [kO] 75 76 53) bw 600 6).plain=true:=by kernel_rfl
theorem aHC (S K):fg sh ck S K [5,5] (aY ic.args) ic.res (ic.tree Tryd.prog gl (bo [] [kO] 75 76 53) bw 600 6)=VI S K:=by kernel_rfl
theorem aC4:(ic.tree Tryd.prog gl (bo [] [kO] 75 76 53) bw 600 6).plain=true:=by kernel_rfl
end Go.Fd
namespace Go.Fd
open Go Go.b9 Go.Proofs
theorem aHy (S K):fg sh ck S K [5] (aY mx.args) mx.res (mx.tree Tryd.prog gl (bo [] [ic] 75 76 53) bw 600 6)=VH S K:=by kernel_rfl
theorem aC3:(mx.tree Tryd.prog gl (bo [] [ic] 75 76 53) bw 600 6).plain=true:=by kernel_rfl
theorem aGY (S K):fg sh ck S K [5] (aY po.args) po.res (po.tree Tryd.prog gl (bo [] [iU] 75 76 53) bw 600 6)=Vd S K:=by kernel_rfl
theorem aCC:(po.tree Tryd.prog gl (bo [] [iU] 75 76 53) bw 600 6).plain=true:=by kernel_rfl
theorem aG3 (S K):fg sh ak4 S K [5,4] (aY qU.args) qU.res (qU.tree Tryd.prog gl (bo [] [mx,ic] 75 76 53) abg 600 6)=Vg S K:=by kernel_rfl
theorem aGU (S K):fg sh ck S K [5] (aY rT.args) rT.res (rT.tree Tryd.prog gl (bo [] [qU] 75 76 53) bw 600 6)=U9 S K:=by kernel_rfl
theorem aCz:(rT.tree Tryd.prog gl (bo [] [qU] 75 76 53) bw 600 6).plain=true:=by kernel_rfl
theorem aHt (S K):fg sh ck S K [5,5] (aY qX.args) qX.res (qX.tree Tryd.prog gl (bo [] [iJ] 75 76 53) bw 600 6)=VG S K:=by kernel_rfl
theorem aC2:(qX.tree Tryd.prog gl (bo [] [iJ] 75 76 53) bw 600 6).plain=true:=by kernel_rfl
theorem aG1 (S K):fg sh ck S K [5] (aY qT.args) qT.res (qT.tree Tryd.prog gl (bo [] [iJ] 75 76 53) bw 600 6)=Ve S K:=by kernel_rfl
theorem aCD:(qT.tree Tryd.prog gl (bo [] [iJ] 75 76 53) bw 600 6).plain=true:=by kernel_rfl
theorem aHk (S K):fg sh ck S K [5] (aY uo.args) uo.res (uo.tree Tryd.prog gl (bo [] [qU,mx,qX,qT,po,ic] 75 76 53) bw 600 6)=Vx S K:=by kernel_rfl
theorem aCU:(uo.tree Tryd.prog gl (bo [] [qU,mx,qX,qT,po,ic] 75 76 53) bw 600 6).plain=true:=by kernel_rfl
theorem aHc (S K):fg sh ck S K [32] (aY n3.args) n3.res (n3.tree Tryd.prog gl (bo [] [rS,iJ] 75 76 53) bw 600 6)=Vp S K:=by kernel_rfl
theorem aCN:(n3.tree Tryd.prog gl (bo [] [rS,iJ] 75 76 53) bw 600 6).plain=true:=by kernel_rfl
theorem aHe (S K):fg sh ck S K [32] (aY nz.args) nz.res (nz.tree Tryd.prog gl (bo [] [n3] 75 76 53) bw 600 6)=Vr S K:=by kernel_rfl
theorem aCP:(nz.tree Tryd.prog gl (bo [] [n3] 75 76 53) bw 600 6).plain=true:=by kernel_rfl
end Go.Fd
namespace Go.Fd
open Go Go.b9 Go.Proofs
theorem aHD (S K):fg sh ck S K [] (aY vf.args) vf.res (vf.tree Tryd.prog gl (bo [] [iV] 75 76 53) bw 600 6)=VJ S K:=by kernel_rfl
theorem aC5:(vf.tree Tryd.prog gl (bo [] [iV] 75 76 53) bw 600 6).plain=true:=by kernel_rfl
theorem aGN (S K):fg sh ck S K [5,5] (aY oD.args) oD.res (oD.tree Tryd.prog gl (bo [] [ic] 75 76 53) bw 600 6)=U7 S K:=by kernel_rfl
theorem aCx:(oD.tree Tryd.prog gl (bo [] [ic] 75 76 53) bw 600 6).plain=true:=by kernel_rfl
theorem aGy (S K):fg sh ck S K [] (aY sH.args) sH.res (sH.tree Tryd.prog gl (bo [] [oD] 75 76 53) bw 600 6)=UZ S K:=by kernel_rfl
theorem aCr:(sH.tree Tryd.prog gl (bo [] [oD] 75 76 53) bw 600 6).plain=true:=by kernel_rfl
theorem aGF (S K):fg sh ck S K [] (aY u7.args) u7.res (u7.tree Tryd.prog gl (bo [] [oD] 75 76 53) bw 600 6)=U5 S K:=by kernel_rfl
theorem aCv:(u7.tree Tryd.prog gl (bo [] [oD] 75 76 53) bw 600 6).plain=true:=by kernel_rfl
theorem aGD (S K):fg sh ck S K [5,5,5,5] (aY rR.args) rR.res (rR.tree Tryd.prog gl (bo [] [ic] 75 76 53) bw 600 6)=U3 S K:=by kernel_rfl
theorem aCt:(rR.tree Tryd.prog gl (bo [] [ic] 75 76 53) bw 600 6).plain=true:=by kernel_rfl
theorem aGE (S K):fg sh ck S K [5,5,5,5,5,5,5,5] (aY sI.args) sI.res (sI.tree Tryd.prog gl (bo [] [iU,ic,iV,vf,rR] 75 76 53) bw 600 6)=U4 S K:=by kernel_rfl
theorem aCu:(sI.tree Tryd.prog gl (bo [] [iU,ic,iV,vf,rR] 75 76 53) bw 600 6).plain=true:=by kernel_rfl
theorem aGG (S K):fg sh ck S K [5,5,5] (aY u9.args) u9.res (u9.tree Tryd.prog gl (bo [] [mx,iV,iU,rR] 75 76 53) bw 600 6)=U6 S K:=by kernel_rfl
theorem aCw:(u9.tree Tryd.prog gl (bo [] [mx,iV,iU,rR] 75 76 53) bw 600 6).plain=true:=by kernel_rfl
theorem aGW (S K):fg sh ak3 S K [5,5,5,5,32] (aY oE.args) oE.res (oE.tree Tryd.prog gl (bo [] [u7,u9,sI] 75 76 53) abf 600 6)=Vb S K:=by kernel_rfl
theorem aGz (S K):fg sh ck S K [5,5,5] (aY qa.args) qa.res (qa.tree Tryd.prog gl (bo [] [rT,ic,iJ,qT] 75 76 53) bw 600 6)=U0 S K:=by kernel_rfl
theorem aCs:(qa.tree Tryd.prog gl (bo [] [rT,ic,iJ,qT] 75 76 53) bw 600 6).plain=true:=by kernel_rfl
theorem aHb (S K):fg sh ck S K [32] (aY tq.args) tq.res (tq.tree Tryd.prog gl (bo [] [nz,rS,mx,iU,ic,iV,rT,uo,qX,po,oD] 75 76 53) bw 600 6)=Vo S K:=by kernel_rfl
theorem aCM:(tq.tree Tryd.prog gl (bo [] [nz,rS,mx,iU,ic,iV,rT,uo,qX,po,oD] 75 76 53) bw 600 6).plain=true:=by kernel_rfl
theorem aGC (S K):fg sh ck S K [32] (aY z7.args) z7.res (z7.tree Tryd.prog gl (bo [] [tq,po,qa] 75 76 53) bw 600 6)=U2 S K:=by kernel_rfl
theorem aGv (S K):fg sh ck S K [32] (aY z1.args) z1.res (z1.tree Tryd.prog gl (bo [] [sH,oE,qa] 75 76 53) bw 600 6)=UW S K:=by kernel_rfl
theorem aCo:(z1.tree Tryd.prog gl (bo [] [sH,oE,qa] 75 76 53) bw 600 6).plain=true:=by kernel_rfl
theorem aGB (S K):fg sh ck S K [32,32,32] (aY z6.args) z6.res (z6.tree Tryd.prog gl (bo [] [tq,oE,sH,sI,qa] 75 76 53) bw 600 6)=U1 S K:=by kernel_rfl
end Go.Fd
namespace Go.Fd
open Go Go.b9 Go.Proofs
theorem aG9 (S K):fg sh ck S K [] (aY qV.args) qV.res (qV.tree Tryd.prog gl (bo [] [] 75 76 53) bw 600 6)=Vm S K:=by kernel_rfl
theorem aCK:(qV.tree Tryd.prog gl (bo [] [] 75 76 53) bw 600 6).plain=true:=by kernel_rfl
theorem aHs (S K):fg sh ck S K [] (aY ve.args) ve.res (ve.tree Tryd.prog gl (bo [] [] 75 76 53) bw 600 6)=VF S K:=by kernel_rfl
theorem aC1:(ve.tree Tryd.prog gl (bo [] [] 75 76 53) bw 600 6).plain=true:=by kernel_rfl
theorem aG6 (S K):fg sh ck S K [4,4,4,4,4,4] (aY vb.args) vb.res (vb.tree Tryd.prog gl (bo [] [lv,qV,oF,rW] 75 76 53) bw 600 6)=Vj S K:=by kernel_rfl
theorem aCH:(vb.tree Tryd.prog gl (bo [] [lv,qV,oF,rW] 75 76 53) bw 600 6).plain=true:=by kernel_rfl
theorem aHi (S K):fg sh ak5 S K [32,4,4,4] (aY qW.args) qW.res (qW.tree Tryd.prog gl (bo [] [ve,vb] 75 76 53) abh 600 6)=Vv S K:=by kernel_rfl
theorem aG5 (S K):fg sh ck S K [4,4,4] (aY va.args) va.res (va.tree Tryd.prog gl (bo [] [rV,lv,tp] 75 76 53) bw 600 6)=Vi S K:=by kernel_rfl
theorem aCG:(va.tree Tryd.prog gl (bo [] [rV,lv,tp] 75 76 53) bw 600 6).plain=true:=by kernel_rfl
theorem aHo (S K):fg sh ck S K [32] (aY vd.args) vd.res (vd.tree Tryd.prog gl (bo [] [lg,lK,l4,lv,qV,rW,rV,tr,oF] 75 76 53) bw 600 6)=VB S K:=by kernel_rfl
theorem aCY:(vd.tree Tryd.prog gl (bo [] [lg,lK,l4,lv,qV,rW,rV,tr,oF] 75 76 53) bw 600 6).plain=true:=by kernel_rfl
theorem aG7 (S K):fg sh ck S K [32,32] (aY z8.args) z8.res (z8.tree Tryd.prog gl (bo [] [vd,qW,va] 75 76 53) bw 600 6)=Vk S K:=by kernel_rfl
theorem aCI:(z8.tree Tryd.prog gl (bo [] [vd,qW,va] 75 76 53) bw 600 6).plain=true:=by kernel_rfl
theorem aHg (S K):fg sh ck S K [] (aY yC.args) yC.res (yC.tree Tryd.prog gl (bo [] [] 75 76 53) bw 600 6)=Vt S K:=by kernel_rfl
theorem aCR:(yC.tree Tryd.prog gl (bo [] [] 75 76 53) bw 600 6).plain=true:=by kernel_rfl
end Go.Fd
