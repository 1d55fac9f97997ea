/- CvVcA: a part of the proof of statements of this seat. -/
import Derived.Test.YtacpildnjohidaaDoorPad
import Derived.Test.YtacpildnjohidaaDoorPac
import Derived.Test.YtacpildnjohidaaDoorProg
import Derived.KernelRfl
open And renaming intro->CG
open Bool renaming not_eq_true'->gn,not_true->je,not_eq_false'->kj,not_false->kT
open Go renaming FuncId->dt
open Go.IntKind renaming max->pF
open Int renaming emod_eq_of_lt->p9,eq_ofNat_of_zero_le->sn,mul_emod->sS,emod_nonneg->ud,add_zero->wH,one_mul->wI,add_mul_emod_self_left->zx,zero_add->A8,emod_emod->CE
open List renaming getD->U,nil_append->gp,append_nil->gZ,getD_cons_zero->jH,getD_cons_succ->kS,cons_append->mY,take_succ_cons->o4,drop_zero->qe,take_zero->qN,drop_succ_cons->tz,flatten_cons->uT,flatten_nil->G4
open List.cons renaming injEq->qK
open Nat renaming beq->aM
set_option linter.unusedVariables false
set_option linter.unusedSimpArgs false
set_option maxRecDepth 20000
namespace Go.Fd
open Go.ch
def Sy (S:Nat->List (List Int)->List (List Int)->Prop) (K:List (List Int)->List (List Int)->Prop):Prop:=
 ∀r0:List Int,af (au 0 4503599627370495 5) r0->S 34 [[929955233495203,466365720129213,1662059464998953,2033849074728123,1442794654840575],[929955233495203,466365720129213,1662059464998953,2033849074728123,1442794654840575]] [r0]->
 K [] [r0]
theorem auI (G):Sy (jI G) (ji uA.res 100):=by
 unfold Sy
 intro r0 i0 aT
 have aT:v5 r0% 57896044618658097711785492504343953926634992332820282019728792003956564819949=(v5 [929955233495203,466365720129213,1662059464998953,2033849074728123,1442794654840575]+v5 [929955233495203,466365720129213,1662059464998953,2033849074728123,1442794654840575])% 57896044618658097711785492504343953926634992332820282019728792003956564819949:=aT.1
 refine⟨va i0,?_⟩
 show v5 r0% 57896044618658097711785492504343953926634992332820282019728792003956564819949=2*di% 57896044618658097711785492504343953926634992332820282019728792003956564819949
 rw[aT,agI,<-Int.two_mul]
def Si (S:Nat->List (List Int)->List (List Int)->Prop) (K:List (List Int)->List (List Int)->Prop):Prop:=
 ∀r0:List Int,af (au 0 4503599627370495 5) r0->∀av:List Int,af (au 0 4503599627370495 5) av->
 ∀ck:List Int,af (au 0 4503599627370495 5) ck->S 33 [r0,av] [ck]->
 K [r0,av] [r0,av,[1,0,0,0,0],ck]
theorem at7 (G):Si (jI G) (ji pj.res 101):=by
 unfold Si
 intro r0 i0 av i5 ck i10 aT
 have aT:v5 ck% 57896044618658097711785492504343953926634992332820282019728792003956564819949=v5 r0*v5 av% 57896044618658097711785492504343953926634992332820282019728792003956564819949:=aT.1
 exact⟨Gh i0 i5 aqY i10,rfl,rfl,by decide,aT⟩
def Sa (S:Nat->List (List Int)->List (List Int)->Prop) (K:List (List Int)->List (List Int)->Prop):Prop:=
 ∀r0:List Int,af (au 0 4503599627370495 5) r0->∀av:List Int,af (au 0 4503599627370495 5) av->∀ck:List Int,af (au 0 4503599627370495 5) ck->∀ed:List Int,af (au 0 4503599627370495 5) ed->S 101 [[1738742601995546,1146398526822698,2070867633025821,562264141797630,587772402128613],[1801439850948184,1351079888211148,450359962737049,900719925474099,1801439850948198]] [r0,av,ck,ed]->
 K [] [r0,av,ck,ed]
theorem atS (G):Sa (jI G) (ji sJ.res 102):=by
 unfold Sa
 intro r0 i0 av i5 ck i10 ed i15 aT
 have aT:MV [[1738742601995546,1146398526822698,2070867633025821,562264141797630,587772402128613],[1801439850948184,1351079888211148,450359962737049,900719925474099,1801439850948198]] [r0,av,ck,ed]:=aT.1
 exact⟨Gh i0 i5 i10 i15,aT.1.trans (by decide),aT.2.1.trans (by decide),aT.2.2.1,aT.2.2.2.trans (by decide)⟩
def Sg (S:Nat->List (List Int)->List (List Int)->Prop) (K:List (List Int)->List (List Int)->Prop):Prop:=
 ∀r0:List Int,af (au 0 4503599627370495 5) r0->∀av:List Int,af (au 0 4503599627370495 5) av->∀ck:List Int,af (au 0 4503599627370495 5) ck->∀ed:List Int,af (au 0 4503599627370495 5) ed->S 101 [[0,0,0,0,0],[1,0,0,0,0]] [r0,av,ck,ed]->
 K [] [r0,av,ck,ed]
theorem at0 (G):Sg (jI G) (ji uy.res 103):=by
 unfold Sg
 intro r0 i0 av i5 ck i10 ed i15 aT
 have aT:MV [[0,0,0,0,0],[1,0,0,0,0]] [r0,av,ck,ed]:=aT.1
 exact⟨Gh i0 i5 i10 i15,aT.1.trans (by decide),aT.2.1.trans (by decide),aT.2.2.1,aT.2.2.2.trans (by decide)⟩
def Se (S:Nat->List (List Int)->List (List Int)->Prop) (K:List (List Int)->List (List Int)->Prop):Prop:=
 ∀r0:List Int,af (au 0 4503599627370495 5) r0->∀av:List Int,af (au 0 4503599627370495 5) av->∀ck:List Int,af (au 0 4503599627370495 5) ck->∀ed:List Int,af (au 0 4503599627370495 5) ed->
 ∀fu:List Int,af (au 0 4503599627370495 5) fu->S 33 [r0,av] [fu]->
 ∀ez:List Int,af (au 0 4503599627370495 5) ez->S 33 [ck,ed] [ez]->
 ∀r8:List Int,af (au 0 4503599627370495 5) r8->S 33 [av,ck] [r8]->
 ∀j1:List Int,af (au 0 4503599627370495 5) j1->S 33 [r0,ed] [j1]->
 K [r0,av,ck,ed] [fu,ez,r8,j1]
theorem atY (G):Se (jI G) (ji rW.res 104):=by
 unfold Se
 intro r0 i0 av i5 ck i10 ed i15 fu i20 aT ez i25 s1 r8 i30 s2 j1 i35 bS
 have aT:v5 fu% 57896044618658097711785492504343953926634992332820282019728792003956564819949=v5 r0*v5 av% 57896044618658097711785492504343953926634992332820282019728792003956564819949:=aT.1
 have s1:v5 ez% 57896044618658097711785492504343953926634992332820282019728792003956564819949=v5 ck*v5 ed% 57896044618658097711785492504343953926634992332820282019728792003956564819949:=s1.1
 have s2:v5 r8% 57896044618658097711785492504343953926634992332820282019728792003956564819949=v5 av*v5 ck% 57896044618658097711785492504343953926634992332820282019728792003956564819949:=s2.1
 have bS:v5 j1% 57896044618658097711785492504343953926634992332820282019728792003956564819949=v5 r0*v5 ed% 57896044618658097711785492504343953926634992332820282019728792003956564819949:=bS.1
 exact⟨Gh i20 i25 i30 i35,aT,s1,s2,bS⟩
def Sf (S:Nat->List (List Int)->List (List Int)->Prop) (K:List (List Int)->List (List Int)->Prop):Prop:=
 ∀r0:List Int,af (au 0 4503599627370495 5) r0->∀av:List Int,af (au 0 4503599627370495 5) av->∀ck:List Int,af (au 0 4503599627370495 5) ck->∀ed:List Int,af (au 0 4503599627370495 5) ed->∀fu:List Int,af (au 0 4503599627370495 5) fu->∀ez:List Int,af (au 0 4503599627370495 5) ez->∀r8:List Int,af (au 0 4503599627370495 5) r8->∀j1:List Int,af (au 0 4503599627370495 5) j1->
 ∀oU:List Int,af (au 0 4503599627370495 5) oU->S 32 [av,r0] [oU]->
 ∀qA:List Int,af (au 0 4503599627370495 5) qA->S 32 [ez,fu] [qA]->
 ∀ps:List Int,af (au 0 4503599627370495 5) ps->S 33 [oU,qA] [ps]->
 ∀pt:List Int,af (au 0 4503599627370495 5) pt->S 34 [av,r0] [pt]->
 ∀qB:List Int,af (au 0 4503599627370495 5) qB->S 34 [ez,fu] [qB]->
 ∀pZ:List Int,af (au 0 4503599627370495 5) pZ->S 33 [pt,qB] [pZ]->
 ∀jE:List Int,af (au 0 4503599627370495 5) jE->S 33 [ed,j1] [jE]->
 ∀xG:List Int,af (au 0 4503599627370495 5) xG->S 100 [] [xG]->
 ∀uI:List Int,af (au 0 4503599627370495 5) uI->S 33 [jE,xG] [uI]->
 ∀Ep:List Int,af (au 0 4503599627370495 5) Ep->S 33 [ck,r8] [Ep]->
 ∀Es:List Int,af (au 0 4503599627370495 5) Es->S 34 [Ep,Ep] [Es]->
 ∀Jj:List Int,af (au 0 4503599627370495 5) Jj->S 32 [pZ,ps] [Jj]->
 ∀I8:List Int,af (au 0 4503599627370495 5) I8->S 32 [Es,uI] [I8]->
 ∀I9:List Int,af (au 0 4503599627370495 5) I9->S 34 [Es,uI] [I9]->
 ∀Ja:List Int,af (au 0 4503599627370495 5) Ja->S 34 [pZ,ps] [Ja]->
 ∀MA:List Int,af (au 0 4503599627370495 5) MA->∀MB:List Int,af (au 0 4503599627370495 5) MB->∀MC:List Int,af (au 0 4503599627370495 5) MC->∀MD:List Int,af (au 0 4503599627370495 5) MD->S 104 [Jj,I8,I9,Ja] [MA,MB,MC,MD]->
 K [r0,av,ck,ed,fu,ez,r8,j1] [MA,MB,MC,MD]
theorem atZ (G):Sf (jI G) (ji sK.res 105):=by
 unfold Sf
 intro r0 i0 av i5 ck i10 ed i15 fu i20 ez i25 r8 i30 j1 i35 oU i40 aT qA i45 s1 ps i50 s2 pt i55 bS qB i60 dg pZ i65 gz jE i70 hM xG i75 ju uI i80 ks Ep i85 oy Es i90 uJ Jj i95 zb I8 i100 Yl I9 i105 Ym Ja i110 Yn MA i115 MB i120 MC i125 MD i130 Jp
 have aT:v5 oU% 57896044618658097711785492504343953926634992332820282019728792003956564819949=(v5 av-v5 r0)% 57896044618658097711785492504343953926634992332820282019728792003956564819949:=aT.1
 have s1:v5 qA% 57896044618658097711785492504343953926634992332820282019728792003956564819949=(v5 ez-v5 fu)% 57896044618658097711785492504343953926634992332820282019728792003956564819949:=s1.1
 have s2:v5 ps% 57896044618658097711785492504343953926634992332820282019728792003956564819949=v5 oU*v5 qA% 57896044618658097711785492504343953926634992332820282019728792003956564819949:=s2.1
 have bS:v5 pt% 57896044618658097711785492504343953926634992332820282019728792003956564819949=(v5 av+v5 r0)% 57896044618658097711785492504343953926634992332820282019728792003956564819949:=bS.1
 have dg:v5 qB% 57896044618658097711785492504343953926634992332820282019728792003956564819949=(v5 ez+v5 fu)% 57896044618658097711785492504343953926634992332820282019728792003956564819949:=dg.1
 have gz:v5 pZ% 57896044618658097711785492504343953926634992332820282019728792003956564819949=v5 pt*v5 qB% 57896044618658097711785492504343953926634992332820282019728792003956564819949:=gz.1
 have hM:v5 jE% 57896044618658097711785492504343953926634992332820282019728792003956564819949=v5 ed*v5 j1% 57896044618658097711785492504343953926634992332820282019728792003956564819949:=hM.1
 have ju:ahM [] [xG]:=ju.1
 have ks:v5 uI% 57896044618658097711785492504343953926634992332820282019728792003956564819949=v5 jE*v5 xG% 57896044618658097711785492504343953926634992332820282019728792003956564819949:=ks.1
 have oy:v5 Ep% 57896044618658097711785492504343953926634992332820282019728792003956564819949=v5 ck*v5 r8% 57896044618658097711785492504343953926634992332820282019728792003956564819949:=oy.1
 have uJ:v5 Es% 57896044618658097711785492504343953926634992332820282019728792003956564819949=(v5 Ep+v5 Ep)% 57896044618658097711785492504343953926634992332820282019728792003956564819949:=uJ.1
 have zb:v5 Jj% 57896044618658097711785492504343953926634992332820282019728792003956564819949=(v5 pZ-v5 ps)% 57896044618658097711785492504343953926634992332820282019728792003956564819949:=zb.1
 have Yl:v5 I8% 57896044618658097711785492504343953926634992332820282019728792003956564819949=(v5 Es-v5 uI)% 57896044618658097711785492504343953926634992332820282019728792003956564819949:=Yl.1
 have Ym:v5 I9% 57896044618658097711785492504343953926634992332820282019728792003956564819949=(v5 Es+v5 uI)% 57896044618658097711785492504343953926634992332820282019728792003956564819949:=Ym.1
 have Yn:v5 Ja% 57896044618658097711785492504343953926634992332820282019728792003956564819949=(v5 pZ+v5 ps)% 57896044618658097711785492504343953926634992332820282019728792003956564819949:=Yn.1
 have Jp:Yr [Jj,I8,I9,Ja] [MA,MB,MC,MD]:=Jp.1
 refine⟨Gh i115 i120 i125 i130,?_⟩
 intro A B aU ea bm cb
 exact av9 aU ea bm cb aT s1 s2 bS dg gz hM ju ks oy uJ zb Yl Ym Yn Jp.1 Jp.2.1 Jp.2.2.1 Jp.2.2.2
def Sh (S:Nat->List (List Int)->List (List Int)->Prop) (K:List (List Int)->List (List Int)->Prop):Prop:=
 ∀r0:List Int,af (au 0 4503599627370495 5) r0->∀av:List Int,af (au 0 4503599627370495 5) av->∀ck:List Int,af (au 0 4503599627370495 5) ck->
 ∀ed:List Int,af (au 0 4503599627370495 5) ed->S 47 [r0] [ed]->
 ∀fu:List Int,af (au 0 4503599627370495 5) fu->S 47 [av] [fu]->
 ∀ez:List Int,af (au 0 4503599627370495 5) ez->S 47 [ck] [ez]->
 ∀r8:List Int,af (au 0 4503599627370495 5) r8->S 34 [ez,ez] [r8]->
 ∀j1:List Int,af (au 0 4503599627370495 5) j1->S 34 [ed,fu] [j1]->
 ∀oU:List Int,af (au 0 4503599627370495 5) oU->S 34 [r0,av] [oU]->
 ∀qA:List Int,af (au 0 4503599627370495 5) qA->S 47 [oU] [qA]->
 ∀ps:List Int,af (au 0 4503599627370495 5) ps->S 32 [j1,qA] [ps]->
 ∀pt:List Int,af (au 0 4503599627370495 5) pt->S 32 [ed,fu] [pt]->
 ∀qB:List Int,af (au 0 4503599627370495 5) qB->S 34 [r8,pt] [qB]->
 ∀pZ:List Int,af (au 0 4503599627370495 5) pZ->∀jE:List Int,af (au 0 4503599627370495 5) jE->∀xG:List Int,af (au 0 4503599627370495 5) xG->∀uI:List Int,af (au 0 4503599627370495 5) uI->S 104 [ps,qB,pt,j1] [pZ,jE,xG,uI]->
 K [r0,av,ck] [pZ,jE,xG,uI]
theorem at1 (G):Sh (jI G) (ji uz.res 106):=by
 unfold Sh
 intro r0 i0 av i5 ck i10 ed i15 aT fu i20 s1 ez i25 s2 r8 i30 bS j1 i35 dg oU i40 gz qA i45 hM ps i50 ju pt i55 ks qB i60 oy pZ i65 jE i70 xG i75 uI i80 uJ
 have aT:v5 ed% 57896044618658097711785492504343953926634992332820282019728792003956564819949=v5 r0*v5 r0% 57896044618658097711785492504343953926634992332820282019728792003956564819949:=aT.1
 have s1:v5 fu% 57896044618658097711785492504343953926634992332820282019728792003956564819949=v5 av*v5 av% 57896044618658097711785492504343953926634992332820282019728792003956564819949:=s1.1
 have s2:v5 ez% 57896044618658097711785492504343953926634992332820282019728792003956564819949=v5 ck*v5 ck% 57896044618658097711785492504343953926634992332820282019728792003956564819949:=s2.1
 have bS:v5 r8% 57896044618658097711785492504343953926634992332820282019728792003956564819949=(v5 ez+v5 ez)% 57896044618658097711785492504343953926634992332820282019728792003956564819949:=bS.1
 have dg:v5 j1% 57896044618658097711785492504343953926634992332820282019728792003956564819949=(v5 ed+v5 fu)% 57896044618658097711785492504343953926634992332820282019728792003956564819949:=dg.1
 have gz:v5 oU% 57896044618658097711785492504343953926634992332820282019728792003956564819949=(v5 r0+v5 av)% 57896044618658097711785492504343953926634992332820282019728792003956564819949:=gz.1
 have hM:v5 qA% 57896044618658097711785492504343953926634992332820282019728792003956564819949=v5 oU*v5 oU% 57896044618658097711785492504343953926634992332820282019728792003956564819949:=hM.1
 have ju:v5 ps% 57896044618658097711785492504343953926634992332820282019728792003956564819949=(v5 j1-v5 qA)% 57896044618658097711785492504343953926634992332820282019728792003956564819949:=ju.1
 have ks:v5 pt% 57896044618658097711785492504343953926634992332820282019728792003956564819949=(v5 ed-v5 fu)% 57896044618658097711785492504343953926634992332820282019728792003956564819949:=ks.1
 have oy:v5 qB% 57896044618658097711785492504343953926634992332820282019728792003956564819949=(v5 r8+v5 pt)% 57896044618658097711785492504343953926634992332820282019728792003956564819949:=oy.1
 have uJ:Yr [ps,qB,pt,j1] [pZ,jE,xG,uI]:=uJ.1
 refine⟨Gh i65 i70 i75 i80,?_⟩
 intro A aU bm
 exact av6 aU bm aT s1 s2 bS dg gz hM ju ks oy uJ.1 uJ.2.1 uJ.2.2.1 uJ.2.2.2
def Sl (S:Nat->List (List Int)->List (List Int)->Prop) (K:List (List Int)->List (List Int)->Prop):Prop:=
 ∀r0:List Int,af (au 0 4503599627370495 5) r0->∀av:List Int,af (au 0 4503599627370495 5) av->∀ck:List Int,af (au 0 4503599627370495 5) ck->∀ed:List Int,af (au 0 4503599627370495 5) ed->∀fu:List Int,af (au 0 255 32) fu->
 ∀uG:List Int,af (au 0 4503599627370495 5) uG->∀oV:List Int,af (au 0 4503599627370495 5) oV->∀uH:List Int,af (au 0 4503599627370495 5) uH->∀xF:List Int,af (au 0 4503599627370495 5) xF->S 103 [] [uG,oV,uH,xF]->
 ∃(NG:List (List Int)->Prop) (R3:List (List Int)->Nat),NG [[255],uG,oV,uH,xF]/\(∀cQ:Int,(-1)<=cQ->cQ<=255->∀rn:List Int,af (au 0 4503599627370495 5) rn->∀rp:List Int,af (au 0 4503599627370495 5) rp->∀xH:List Int,af (au 0 4503599627370495 5) xH->∀Er:List Int,af (au 0 4503599627370495 5) Er->NG [[cQ],rn,rp,xH,Er]->
  (((decide (0<=cQ))=true->
   ∀vV:List Int,af (au 0 4503599627370495 5) vV->∀vX:List Int,af (au 0 4503599627370495 5) vX->∀vF:List Int,af (au 0 4503599627370495 5) vF->∀vG:List Int,af (au 0 4503599627370495 5) vG->S 106 [rn,rp,xH] [vV,vX,vF,vG]->
   ∀qG:Int,0<=qG->qG<=31->0<=cQ-8*qG->cQ-8*qG<8->
   ∀rr:Int,0<=rr->rr<=255->rr=U fu (qG).toNat 0->
   ∀z116:Int,0<=z116->z116<=31->0<=cQ-8*z116->cQ-8*z116<8->
   ∀z117:Int,0<=z117->z117<=255->z117=rr/2^((cQ+((-8)*z116))).toNat->
   ∀qH:Int,0<=qH->qH<=127->0<=z117-2*qH->z117-2*qH<2->
   (((decide ((z117+((-2)*qH))=1))=true->
    ∀Cl:List Int,af (au 0 4503599627370495 5) Cl->∀Cm:List Int,af (au 0 4503599627370495 5) Cm->∀Cn:List Int,af (au 0 4503599627370495 5) Cn->∀Co:List Int,af (au 0 4503599627370495 5) Co->S 105 [vV,vX,vF,vG,r0,av,ck,ed] [Cl,Cm,Cn,Co]->
    (NG [[(cQ+(-1))],Cl,Cm,Cn,Co]/\R3 [[(cQ+(-1))],Cl,Cm,Cn,Co]<R3 [[cQ],rn,rp,xH,Er])
   )/\((decide ((z117+((-2)*qH))=1))=false->
    (NG [[(cQ+(-1))],vV,vX,vF,vG]/\R3 [[(cQ+(-1))],vV,vX,vF,vG]<R3 [[cQ],rn,rp,xH,Er])
   ))
  )/\((decide (0<=cQ))=false->
   K [r0,av,ck,ed,fu] [rn,rp,xH,Er]
  ))
 )
theorem aum (G):Sl (jI G) (SY G):=by
 unfold Sl
 intro r0 i0 av i5 ck i10 ed i15 fu i20 uG i52 oV i57 uH i62 xF i67 aT
 have Q7:=aT.2
 have aT:Ys [] [uG,oV,uH,xF]:=aT.1
 refine⟨λl=>match l with|[[i],x,y,z,t]=>(∀A,on A->nK (v5 r0) (v5 av) (v5 ck) (v5 ed) A->nK (v5 x) (v5 y) (v5 z) (v5 t) (eO ((nb fu).toNat/2^(i+1).toNat) A))/\[x,y,z,t].flatten=vC G [r0,av,ck,ed].flatten (nb fu).toNat (255-i).toNat|_=>False,λl=>match l with|[[i],_,_,_,_]=>(i+1).toNat|_=>0,?_,?_⟩
 ·show(∀A,on A->nK (v5 r0) (v5 av) (v5 ck) (v5 ed) A->nK (v5 uG) (v5 oV) (v5 uH) (v5 xF) (eO ((nb fu).toNat/2^(255+1:Int).toNat) A))/\[uG,oV,uH,xF].flatten=vC G [r0,av,ck,ed].flatten (nb fu).toNat (255-255:Int).toNat
  refine⟨λA aU ah=>?_,Q7⟩
  rw[ax5 i20]
  exact aAV aT
 ·intro cQ yw vf rn i74 rp i79 xH i84 Er i89 gU
  have gU:(∀A,on A->nK (v5 r0) (v5 av) (v5 ck) (v5 ed) A->nK (v5 rn) (v5 rp) (v5 xH) (v5 Er) (eO ((nb fu).toNat/2^(cQ+1).toNat) A))/\[rn,rp,xH,Er].flatten=vC G [r0,av,ck,ed].flatten (nb fu).toNat (255-cQ).toNat:=gU
  refine⟨λh0=>?_,λh0=>?_⟩
  ·skip
   simp only[gn,kj,je,kT,decide_eq_true_eq,decide_eq_false_iff_not]at h0
   intro vV i94 vX i99 vF i104 vG i109 s1 qG Tw TX acg d114 rr Tx TY ac4 z116 a116 TZ ach d116 z117 a117 abf ac5 qH aau abg aci d118
   have Q8:=s1.2
   have s1:ahH [rn,rp,xH] [vV,vX,vF,vG]:=s1.1
   refine⟨λh1=>?_,λh1=>?_⟩
   ·skip
    simp only[gn,kj,je,kT,decide_eq_true_eq,decide_eq_false_iff_not]at h1
    intro Cl i119 Cm i124 Cn i129 Co i134 s2
    have awo:=s2.2
    have s2:Q9 [vV,vX,vF,vG,r0,av,ck,ed] [Cl,Cm,Cn,Co]:=s2.1
    obtain⟨i,rfl⟩:=sn h0
    have hb:=ab1 i20 vf acg d114 ac4 ach d116 ac5 aci d118
    have yI:((i:Int)+1).toNat=i+1:=by omega
    have Fy:((i:Int)+(-1)+1).toNat=i:=by omega
    obtain⟨gU,hF⟩:=gU
    rw[yI]at gU
    have yJ:(255-(i:Int)).toNat=255-i:=by omega
    have Fz:(255-((i:Int)+(-1))).toNat=(255-i)+1:=by omega
    have FA:255-(255-i)=i:=by omega
    rw[yJ]at hF
    have g0:[vV,vX,vF,vG].flatten=G 106 [rn,rp,xH].flatten:=Q8
    rw[<-aic i74 i79 i84 i89,hF]at g0
    have g1:[Cl,Cm,Cn,Co].flatten=G 105 [vV,vX,vF,vG,r0,av,ck,ed].flatten:=awo
    rw[amH,g0]at g1
    have cT:(nb fu).toNat/2^i% 2=1:=by omega
    refine⟨⟨λA aU ah=>?_,?_⟩,?_⟩
    ·show nK (v5 Cl) (v5 Cm) (v5 Cn) (v5 Co) (eO ((nb fu).toNat/2^((i:Int)+(-1)+1).toNat) A)
     rw[Fy,asf aU cT]
     have k1:=s1 _ (kN aU _) (gU A aU ah).j
     exact s2 _ _ (wY (kN aU _) (kN aU _)) aU k1 ah
    ·show [Cl,Cm,Cn,Co].flatten=vC G [r0,av,ck,ed].flatten (nb fu).toNat (255-((i:Int)+(-1))).toNat
     rw[Fz,vC,FA]
     have:((nb fu).toNat/2^i% 2==1)=true:=by simpa using cT
     rw[this,cond_true]
     exact g1
    ·show((i:Int)+(-1)+1).toNat<((i:Int)+1).toNat
     omega
   ·skip
    simp only[gn,kj,je,kT,decide_eq_true_eq,decide_eq_false_iff_not]at h1
    obtain⟨i,rfl⟩:=sn h0
    have hb:=ab1 i20 vf acg d114 ac4 ach d116 ac5 aci d118
    have yI:((i:Int)+1).toNat=i+1:=by omega
    have Fy:((i:Int)+(-1)+1).toNat=i:=by omega
    obtain⟨gU,hF⟩:=gU
    rw[yI]at gU
    have yJ:(255-(i:Int)).toNat=255-i:=by omega
    have Fz:(255-((i:Int)+(-1))).toNat=(255-i)+1:=by omega
    have FA:255-(255-i)=i:=by omega
    rw[yJ]at hF
    have g0:[vV,vX,vF,vG].flatten=G 106 [rn,rp,xH].flatten:=Q8
    rw[<-aic i74 i79 i84 i89,hF]at g0
    have cT:(nb fu).toNat/2^i% 2≠1:=by omega
    refine⟨⟨λA aU ah=>?_,?_⟩,?_⟩
    ·show nK (v5 vV) (v5 vX) (v5 vF) (v5 vG) (eO ((nb fu).toNat/2^((i:Int)+(-1)+1).toNat) A)
     rw[Fy,ase aU cT]
     exact s1 _ (kN aU _) (gU A aU ah).j
    ·show [vV,vX,vF,vG].flatten=vC G [r0,av,ck,ed].flatten (nb fu).toNat (255-((i:Int)+(-1))).toNat
     rw[Fz,vC,FA]
     have:((nb fu).toNat/2^i% 2==1)=false:=by simpa using cT
     rw[this,cond_false]
     exact g0
    ·show((i:Int)+(-1)+1).toNat<((i:Int)+1).toNat
     omega
  ·skip
   simp only[gn,kj,je,kT,decide_eq_true_eq,decide_eq_false_iff_not]at h0
   obtain⟨gU,hF⟩:=gU
   have yI:(cQ+1).toNat=0:=by omega
   have yJ:(255-cQ).toNat=256:=by omega
   rw[yI]at gU
   rw[yJ]at hF
   refine⟨⟨Gh i74 i79 i84 i89,?_⟩,hF⟩
   intro A aU ah
   have gU:=gU A aU ah
   rwa [Nat.pow_zero,Nat.div_one]at gU
def Sb (S:Nat->List (List Int)->List (List Int)->Prop) (K:List (List Int)->List (List Int)->Prop):Prop:=
 ∀r0:List Int,af (au 0 4503599627370495 5) r0->∀av:List Int,af (au 0 4503599627370495 5) av->∀ck:List Int,af (au 0 4503599627370495 5) ck->
 ∀ed:List Int,af (au 0 4503599627370495 5) ed->S 35 [ck] [ed]->
 ∀fu:List Int,af (au 0 4503599627370495 5) fu->S 33 [av,ed] [fu]->
 ∀ez:List Int,af (au 0 255 32) ez->S 31 [fu] [ez]->
 ∀oV:List Int,af (au 0 4503599627370495 5) oV->S 33 [r0,ed] [oV]->
 ∀cH:Int,0<=cH->cH<=1->S 49 [oV] [[cH]]->
 (((decide (cH=1))=true->
  ∀cq:Int,0<=cq->cq<=pF .u8->cq=eL .or .u8 (U ez 31 0) 128->
  K [r0,av,ck] [[(U ez 0 0),(U ez 1 0),(U ez 2 0),(U ez 3 0),(U ez 4 0),(U ez 5 0),(U ez 6 0),(U ez 7 0),(U ez 8 0),(U ez 9 0),(U ez 10 0),(U ez 11 0),(U ez 12 0),(U ez 13 0),(U ez 14 0),(U ez 15 0),(U ez 16 0),(U ez 17 0),(U ez 18 0),(U ez 19 0),(U ez 20 0),(U ez 21 0),(U ez 22 0),(U ez 23 0),(U ez 24 0),(U ez 25 0),(U ez 26 0),(U ez 27 0),(U ez 28 0),(U ez 29 0),(U ez 30 0),cq]]
 )/\((decide (cH=1))=false->
  K [r0,av,ck] [ez]
 ))
theorem atT (G):Sb (jI G) (ji qv.res 108):=by
 unfold Sb
 intro r0 i0 av i5 ck i10 ed i15 aT fu i20 s1 ez i25 s2 oV i57 bS cH ig iw dg
 have aT:v5 ed% 57896044618658097711785492504343953926634992332820282019728792003956564819949=cO (v5 ck) xg:=aT.1
 have s1:v5 fu% 57896044618658097711785492504343953926634992332820282019728792003956564819949=v5 av*v5 ed% 57896044618658097711785492504343953926634992332820282019728792003956564819949:=s1.1
 have s2:nb ez=v5 fu% 57896044618658097711785492504343953926634992332820282019728792003956564819949:=s2.1
 have bS:v5 oV% 57896044618658097711785492504343953926634992332820282019728792003956564819949=v5 r0*v5 ed% 57896044618658097711785492504343953926634992332820282019728792003956564819949:=bS.1
 have dg:cH=v5 oV% 57896044618658097711785492504343953926634992332820282019728792003956564819949% 2:=dg.1
 refine⟨λh0=>?_,λh0=>?_⟩
 ·skip
  simp only[gn,kj,je,kT,decide_eq_true_eq,decide_eq_false_iff_not]at h0
  intro cq zR zY yH
  have e4:v5 fu% 57896044618658097711785492504343953926634992332820282019728792003956564819949=v5 av*m7 (v5 ck)% 57896044618658097711785492504343953926634992332820282019728792003956564819949:=s1.trans (fi rfl (aT.trans (Mj _ _).symm))
  have bm:v5 oV% 57896044618658097711785492504343953926634992332820282019728792003956564819949=v5 r0*m7 (v5 ck)% 57896044618658097711785492504343953926634992332820282019728792003956564819949:=bS.trans (fi rfl (aT.trans (Mj _ _).symm))
  rw[e4]at s2
  rw[bm]at dg
  have hlt:nb ez<e0:=by rw[s2];exact Int.lt_trans (AH _).2 (by decide)
  have aA:=ax3 i25 hlt
  have hg:=anG i25
  rw[atI hg.1 aA]at yH
  subst yH
  refine⟨aqZ i25 (by omega) (by omega),?_⟩
  show nb _=DF (v5 r0) (v5 av) (v5 ck)
  rw[agq i25]
  unfold DF
  rw[<-dg,s2,h0]
  unfold e0
  omega
 ·skip
  simp only[gn,kj,je,kT,decide_eq_true_eq,decide_eq_false_iff_not]at h0
  have e4:v5 fu% 57896044618658097711785492504343953926634992332820282019728792003956564819949=v5 av*m7 (v5 ck)% 57896044618658097711785492504343953926634992332820282019728792003956564819949:=s1.trans (fi rfl (aT.trans (Mj _ _).symm))
  have bm:v5 oV% 57896044618658097711785492504343953926634992332820282019728792003956564819949=v5 r0*m7 (v5 ck)% 57896044618658097711785492504343953926634992332820282019728792003956564819949:=bS.trans (fi rfl (aT.trans (Mj _ _).symm))
  rw[e4]at s2
  rw[bm]at dg
  have hlt:nb ez<e0:=by rw[s2];exact Int.lt_trans (AH _).2 (by decide)
  refine⟨va i25,?_⟩
  show nb ez=DF (v5 r0) (v5 av) (v5 ck)
  unfold DF
  rw[<-dg,s2,show cH=0 by clear s2 dg e4 bm hlt;omega,Int.mul_zero,wH]
def Sr (S:Nat->List (List Int)->List (List Int)->Prop) (K:List (List Int)->List (List Int)->Prop):Prop:=
 ∀r0:List Int,af (au 0 255 32) r0->
 ∀aL:Int,0<=aL->aL<=1->0<=(U r0 31 0)-128*aL->(U r0 31 0)-128*aL<128->
 ∀a8:Int,0<=a8->a8<=1->0<=(U r0 31 0)-128*a8->(U r0 31 0)-128*a8<128->
 ∀bn:Int,0<=bn->bn<=1->S 22 [[(U r0 0 0),(U r0 1 0),(U r0 2 0),(U r0 3 0),(U r0 4 0),(U r0 5 0),(U r0 6 0),(U r0 7 0),(U r0 8 0),(U r0 9 0),(U r0 10 0),(U r0 11 0),(U r0 12 0),(U r0 13 0),(U r0 14 0),(U r0 15 0),(U r0 16 0),(U r0 17 0),(U r0 18 0),(U r0 19 0),(U r0 20 0),(U r0 21 0),(U r0 22 0),(U r0 23 0),(U r0 24 0),(U r0 25 0),(U r0 26 0),(U r0 27 0),(U r0 28 0),(U r0 29 0),(U r0 30 0),((U r0 31 0)+((-128)*a8))]] [[bn]]->
 ((((!(decide (bn=1))))=true->
  K [r0] [[0,0,0,0,0],[0,0,0,0,0],[0,0,0,0,0],[0,0,0,0,0],[(cond (false) 1 0)]]
 )/\(((!(decide (bn=1))))=false->
  ∀j1:List Int,af (au 0 4503599627370495 5) j1->S 29 [[(U r0 0 0),(U r0 1 0),(U r0 2 0),(U r0 3 0),(U r0 4 0),(U r0 5 0),(U r0 6 0),(U r0 7 0),(U r0 8 0),(U r0 9 0),(U r0 10 0),(U r0 11 0),(U r0 12 0),(U r0 13 0),(U r0 14 0),(U r0 15 0),(U r0 16 0),(U r0 17 0),(U r0 18 0),(U r0 19 0),(U r0 20 0),(U r0 21 0),(U r0 22 0),(U r0 23 0),(U r0 24 0),(U r0 25 0),(U r0 26 0),(U r0 27 0),(U r0 28 0),(U r0 29 0),(U r0 30 0),((U r0 31 0)+((-128)*a8))]] [j1]->
  ∀oU:List Int,af (au 0 4503599627370495 5) oU->S 47 [j1] [oU]->
  ∀qA:List Int,af (au 0 4503599627370495 5) qA->S 32 [oU,[1,0,0,0,0]] [qA]->
  ∀ps:List Int,af (au 0 4503599627370495 5) ps->S 33 [oU,[929955233495203,466365720129213,1662059464998953,2033849074728123,1442794654840575]] [ps]->
  ∀pt:List Int,af (au 0 4503599627370495 5) pt->S 34 [ps,[1,0,0,0,0]] [pt]->
  ∀qB:List Int,af (au 0 4503599627370495 5) qB->S 35 [pt] [qB]->
  ∀pZ:List Int,af (au 0 4503599627370495 5) pZ->S 33 [qA,qB] [pZ]->
  ∀jE:List Int,af (au 0 4503599627370495 5) jE->∀z75:Int,0<=z75->z75<=1->S 30 [pZ] [jE,[z75]]->
  ((((!(decide (z75=1))))=true->
   K [r0] [[0,0,0,0,0],[0,0,0,0,0],[0,0,0,0,0],[0,0,0,0,0],[(cond (false) 1 0)]]
  )/\(((!(decide (z75=1))))=false->
   ((((!(decide ((128*aL)=0))))=true->
    ∀z76:Int,0<=z76->z76<=1->S 48 [jE,[0,0,0,0,0]] [[z76]]->
    (((decide (z76=1))=true->
     K [r0] [[0,0,0,0,0],[0,0,0,0,0],[0,0,0,0,0],[0,0,0,0,0],[(cond (false) 1 0)]]
    )/\((decide (z76=1))=false->
     ∀Jf:List Int,af (au 0 4503599627370495 5) Jf->S 50 [jE] [Jf]->
     ∀Jh:List Int,af (au 0 4503599627370495 5) Jh->∀Ji:List Int,af (au 0 4503599627370495 5) Ji->∀MI:List Int,af (au 0 4503599627370495 5) MI->∀vW:List Int,af (au 0 4503599627370495 5) vW->S 101 [Jf,j1] [Jh,Ji,MI,vW]->
     K [r0] [Jh,Ji,MI,vW,[(cond (true) 1 0)]]
    ))
   )/\(((!(decide ((128*aL)=0))))=false->
    ∀MF:List Int,af (au 0 4503599627370495 5) MF->∀Jg:List Int,af (au 0 4503599627370495 5) Jg->∀MG:List Int,af (au 0 4503599627370495 5) MG->∀MH:List Int,af (au 0 4503599627370495 5) MH->S 101 [jE,j1] [MF,Jg,MG,MH]->
    K [r0] [MF,Jg,MG,MH,[(cond (true) 1 0)]]
   ))
  ))
 ))
theorem auu (G):Sr (jI G) (ji tj.res 109):=by
 unfold Sr
 intro r0 i0 aL dD ht Bt d32 a8 dv dx s3 d33 bn dE dH aT
 have aT:bn=bit (nb [(U r0 0 0),(U r0 1 0),(U r0 2 0),(U r0 3 0),(U r0 4 0),(U r0 5 0),(U r0 6 0),(U r0 7 0),(U r0 8 0),(U r0 9 0),(U r0 10 0),(U r0 11 0),(U r0 12 0),(U r0 13 0),(U r0 14 0),(U r0 15 0),(U r0 16 0),(U r0 17 0),(U r0 18 0),(U r0 19 0),(U r0 20 0),(U r0 21 0),(U r0 22 0),(U r0 23 0),(U r0 24 0),(U r0 25 0),(U r0 26 0),(U r0 27 0),(U r0 28 0),(U r0 29 0),(U r0 30 0),((U r0 31 0)+((-128)*a8))]<57896044618658097711785492504343953926634992332820282019728792003956564819949):=aT.1
 refine⟨λh0=>?_,λh0=>?_⟩
 ·skip
  simp only[gn,kj,je,kT,decide_eq_true_eq,decide_eq_false_iff_not]at h0
  have hm:=L5 i0 s3 d33
  have hz:aL=a8:=by clear aT;omega
  rw[hm.1]at aT
  refine⟨LW xu xu xu xu (by decide),?_⟩
  rw[aT]at h0
  show EX (dec (nb r0)) _ _ _ _ _
  rw[alX (Hy h0)]
  rfl
 ·skip
  simp only[gn,kj,je,kT,decide_eq_true_eq,decide_eq_false_iff_not]at h0
  intro j1 i35 s1 oU i40 s2 qA i45 bS ps i50 dg pt i55 gz qB i60 hM pZ i65 ju jE i70 z75 a75 yD ks
  have s1:v5 j1% 57896044618658097711785492504343953926634992332820282019728792003956564819949=nb [(U r0 0 0),(U r0 1 0),(U r0 2 0),(U r0 3 0),(U r0 4 0),(U r0 5 0),(U r0 6 0),(U r0 7 0),(U r0 8 0),(U r0 9 0),(U r0 10 0),(U r0 11 0),(U r0 12 0),(U r0 13 0),(U r0 14 0),(U r0 15 0),(U r0 16 0),(U r0 17 0),(U r0 18 0),(U r0 19 0),(U r0 20 0),(U r0 21 0),(U r0 22 0),(U r0 23 0),(U r0 24 0),(U r0 25 0),(U r0 26 0),(U r0 27 0),(U r0 28 0),(U r0 29 0),(U r0 30 0),((U r0 31 0)+((-128)*a8))]% 57896044618658097711785492504343953926634992332820282019728792003956564819949:=s1.1
  have s2:v5 oU% 57896044618658097711785492504343953926634992332820282019728792003956564819949=v5 j1*v5 j1% 57896044618658097711785492504343953926634992332820282019728792003956564819949:=s2.1
  have bS:v5 qA% 57896044618658097711785492504343953926634992332820282019728792003956564819949=(v5 oU-v5 [1,0,0,0,0])% 57896044618658097711785492504343953926634992332820282019728792003956564819949:=bS.1
  have dg:v5 ps% 57896044618658097711785492504343953926634992332820282019728792003956564819949=v5 oU*v5 [929955233495203,466365720129213,1662059464998953,2033849074728123,1442794654840575]% 57896044618658097711785492504343953926634992332820282019728792003956564819949:=dg.1
  have gz:v5 pt% 57896044618658097711785492504343953926634992332820282019728792003956564819949=(v5 ps+v5 [1,0,0,0,0])% 57896044618658097711785492504343953926634992332820282019728792003956564819949:=gz.1
  have hM:v5 qB% 57896044618658097711785492504343953926634992332820282019728792003956564819949=cO (v5 pt) xg:=hM.1
  have ju:v5 pZ% 57896044618658097711785492504343953926634992332820282019728792003956564819949=v5 qA*v5 qB% 57896044618658097711785492504343953926634992332820282019728792003956564819949:=ju.1
  have ks:(v5 jE% 57896044618658097711785492504343953926634992332820282019728792003956564819949,z75)=n3 (v5 pZ% 57896044618658097711785492504343953926634992332820282019728792003956564819949):=ks.1
  refine⟨λh1=>?_,λh1=>?_⟩
  ·skip
   simp only[gn,kj,je,kT,decide_eq_true_eq,decide_eq_false_iff_not]at h1
   have hm:=L5 i0 s3 d33
   have hz:aL=a8:=by clear aT;omega
   rw[hm.1]at aT
   have hy:nb r0% e0<57896044618658097711785492504343953926634992332820282019728792003956564819949:=Bq (by rw[<-aT];exact h0)
   rw[hm.1]at s1
   have q:=QZ s1 s2 bS dg gz hM ju
   rw[q]at ks
   have ab:z75=0:=by omega
   refine⟨LW xu xu xu xu (by decide),?_⟩
   show EX (dec (nb r0)) _ _ _ _ _
   rw[al0 hy ks ab]
   rfl
  ·skip
   simp only[gn,kj,je,kT,decide_eq_true_eq,decide_eq_false_iff_not]at h1
   refine⟨λh2=>?_,λh2=>?_⟩
   ·skip
    simp only[gn,kj,je,kT,decide_eq_true_eq,decide_eq_false_iff_not]at h2
    intro z76 a76 vg oy
    have oy:z76=bit (v5 jE% 57896044618658097711785492504343953926634992332820282019728792003956564819949=v5 [0,0,0,0,0]% 57896044618658097711785492504343953926634992332820282019728792003956564819949):=oy.1
    refine⟨λh3=>?_,λh3=>?_⟩
    ·skip
     simp only[gn,kj,je,kT,decide_eq_true_eq,decide_eq_false_iff_not]at h3
     have hm:=L5 i0 s3 d33
     have hz:aL=a8:=by clear aT;omega
     rw[hm.1]at aT
     have hy:nb r0% e0<57896044618658097711785492504343953926634992332820282019728792003956564819949:=Bq (by rw[<-aT];exact h0)
     rw[hm.1]at s1
     have q:=QZ s1 s2 bS dg gz hM ju
     rw[q]at ks
     have ab:z75≠0:=by omega
     have ax:nb r0/e0=1:=by rw[<-hm.2];omega
     rw[oy]at h3
     have ah:=Bq h3
     have ah:v5 jE% 57896044618658097711785492504343953926634992332820282019728792003956564819949=0:=ah
     refine⟨LW xu xu xu xu (by decide),?_⟩
     show EX (dec (nb r0)) _ _ _ _ _
     rw[al2 hy ks ab ax ah]
     rfl
    ·skip
     simp only[gn,kj,je,kT,decide_eq_true_eq,decide_eq_false_iff_not]at h3
     intro Jf i77 uJ Jh i82 Ji i87 MI i92 vW i97 zb
     have uJ:v5 Jf% 57896044618658097711785492504343953926634992332820282019728792003956564819949=(0-v5 jE)% 57896044618658097711785492504343953926634992332820282019728792003956564819949:=uJ.1
     have zb:MV [Jf,j1] [Jh,Ji,MI,vW]:=zb.1
     have hm:=L5 i0 s3 d33
     have hz:aL=a8:=by clear aT;omega
     rw[hm.1]at aT
     have hy:nb r0% e0<57896044618658097711785492504343953926634992332820282019728792003956564819949:=Bq (by rw[<-aT];exact h0)
     rw[hm.1]at s1
     have q:=QZ s1 s2 bS dg gz hM ju
     rw[q]at ks
     have ab:z75≠0:=by omega
     have ax:nb r0/e0=1:=by rw[<-hm.2];omega
     rw[oy]at h3
     have ah:=Hy h3
     have ah:v5 jE% 57896044618658097711785492504343953926634992332820282019728792003956564819949≠0:=ah
     refine⟨LW i82 i87 i92 i97 (by decide),?_⟩
     show EX (dec (nb r0)) _ _ _ _ _
     rw[al1 hy ks ab ax ah]
     have qD:v5 Jh% 57896044618658097711785492504343953926634992332820282019728792003956564819949=(0-v5 jE% 57896044618658097711785492504343953926634992332820282019728792003956564819949)% 57896044618658097711785492504343953926634992332820282019728792003956564819949:=zb.1.trans (uJ.trans (Ab rfl (CE _ _).symm))
     have sQ:v5 Ji% 57896044618658097711785492504343953926634992332820282019728792003956564819949=nb r0% e0:=zb.2.1.trans (s1.trans (p9 (ud _ (by decide)) hy))
     exact⟨rfl,qD,sQ,zb.2.2.1,zb.2.2.2.trans (fi (zb.1.symm.trans (qD.trans (CE _ _).symm)) s1)⟩
   ·skip
    simp only[gn,kj,je,kT,decide_eq_true_eq,decide_eq_false_iff_not]at h2
    intro MF i76 Jg i81 MG i86 MH i91 oy
    have oy:MV [jE,j1] [MF,Jg,MG,MH]:=oy.1
    have hm:=L5 i0 s3 d33
    have hz:aL=a8:=by clear aT;omega
    rw[hm.1]at aT
    have hy:nb r0% e0<57896044618658097711785492504343953926634992332820282019728792003956564819949:=Bq (by rw[<-aT];exact h0)
    rw[hm.1]at s1
    have q:=QZ s1 s2 bS dg gz hM ju
    rw[q]at ks
    have ab:z75≠0:=by omega
    have ax:¬nb r0/e0=1:=by rw[<-hm.2];omega
    refine⟨LW i76 i81 i86 i91 (by decide),?_⟩
    show EX (dec (nb r0)) _ _ _ _ _
    rw[alZ hy ks ab ax]
    have sQ:v5 Jg% 57896044618658097711785492504343953926634992332820282019728792003956564819949=nb r0% e0:=oy.2.1.trans (s1.trans (p9 (ud _ (by decide)) hy))
    exact⟨rfl,oy.1,sQ,oy.2.2.1,oy.2.2.2.trans (fi (CE _ _).symm s1)⟩
def Sd (S:Nat->List (List Int)->List (List Int)->Prop) (K:List (List Int)->List (List Int)->Prop):Prop:=
 ∀r0:List Int,af (au 0 255 32) r0->
 ∀a6:List Int,af (au 0 4503599627370495 5) a6->∀kr:List Int,af (au 0 4503599627370495 5) kr->∀pr:List Int,af (au 0 4503599627370495 5) pr->∀y9:List Int,af (au 0 4503599627370495 5) y9->∀bX:Int,0<=bX->bX<=1->S 109 [r0] [a6,kr,pr,y9,[bX]]->
 ((((!(decide (bX=1))))=true->
  K [r0] [[0,0,0,0,0,0,0,0,0,0,0,0,0,0,0,0,0,0,0,0,0,0,0,0,0,0,0,0,0,0,0,0],[1]]
 )/\(((!(decide (bX=1))))=false->
  ((
   ∀vU:List Int,af (au 0 4503599627370495 5) vU->S 50 [a6] [vU]->
   ∀za:List Int,af (au 0 255 32) za->S 108 [vU,kr,pr] [za]->
   K [r0] [za,[0]]
  )/\(
   ∀vU:List Int,af (au 0 4503599627370495 5) vU->S 50 [a6] [vU]->
   ∀za:List Int,af (au 0 255 32) za->S 108 [vU,kr,pr] [za]->
   K [r0] [za,[0]]
  ))
 ))
theorem atX (G):Sd (jI G) (ji y5.res 112):=by
 unfold Sd
 intro r0 i0 a6 i32 kr i37 pr i42 y9 i47 bX gN gR aT
 have aT:MW [r0] [a6,kr,pr,y9,[bX]]:=aT.1
 refine⟨λh0=>?_,λh0=>?_⟩
 ·skip
  simp only[gn,kj,je,kT,decide_eq_true_eq,decide_eq_false_iff_not]at h0
  have e:=ahb aT h0
  refine⟨IK afB (by decide),?_⟩
  show tA _ _ _
  rw[e]
  exact⟨rfl,by decide⟩
 ·skip
  simp only[gn,kj,je,kT,decide_eq_true_eq,decide_eq_false_iff_not]at h0
  refine⟨?_,?_⟩
  ·skip
   intro vU i53 s1 za i58 s2
   have s1:v5 vU% 57896044618658097711785492504343953926634992332820282019728792003956564819949=(0-v5 a6)% 57896044618658097711785492504343953926634992332820282019728792003956564819949:=s1.1
   have s2:Jq [vU,kr,pr] [za]:=s2.1
   obtain⟨Bg,aw,bm⟩:=rd_some aT h0
   have o1:=Kw aw
   refine⟨IK i58 (by decide),?_⟩
   show tA _ _ _
   rw[aw]
   exact⟨rfl,s2.trans (MM (Ea o1) (agt (s1) bm.j))⟩
  ·skip
   intro vU i53 s1 za i58 s2
   have s1:v5 vU% 57896044618658097711785492504343953926634992332820282019728792003956564819949=(0-v5 a6)% 57896044618658097711785492504343953926634992332820282019728792003956564819949:=s1.1
   have s2:Jq [vU,kr,pr] [za]:=s2.1
   obtain⟨Bg,aw,bm⟩:=rd_some aT h0
   have o1:=Kw aw
   refine⟨IK i58 (by decide),?_⟩
   show tA _ _ _
   rw[aw]
   exact⟨rfl,s2.trans (MM (Ea o1) (agt (s1) bm.j))⟩
def R7 (S:Nat->List (List Int)->List (List Int)->Prop) (K:List (List Int)->List (List Int)->Prop):Prop:=
 ∀r0:List Int,af (au 0 255 32) r0->
 ∀a6:List Int,af (au 0 4503599627370495 5) a6->∀kr:List Int,af (au 0 4503599627370495 5) kr->∀pr:List Int,af (au 0 4503599627370495 5) pr->∀y9:List Int,af (au 0 4503599627370495 5) y9->S 102 [] [a6,kr,pr,y9]->
 ∀uG:List Int,af (au 0 4503599627370495 5) uG->∀oV:List Int,af (au 0 4503599627370495 5) oV->∀uH:List Int,af (au 0 4503599627370495 5) uH->∀xF:List Int,af (au 0 4503599627370495 5) xF->S 107 [a6,kr,pr,y9,r0] [uG,oV,uH,xF]->
 ∀ME:List Int,af (au 0 255 32) ME->S 108 [uG,oV,uH] [ME]->
 K [r0] [ME]
theorem atP (G):R7 (jI G) (ji y3.res 114):=by
 unfold R7
 intro r0 i0 a6 i32 kr i37 pr i42 y9 i47 aT uG i52 oV i57 uH i62 xF i67 s1 ME i72 s2
 have aT:MU [] [a6,kr,pr,y9]:=aT.1
 have s1:Jr [a6,kr,pr,y9,r0] [uG,oV,uH,xF]:=s1.1
 have s2:Jq [uG,oV,uH] [ME]:=s2.1
 exact⟨va i72,s2.trans (MM (kN oJ _) (s1 _ oJ (T3 aT)).j)⟩
def Sc (S:Nat->List (List Int)->List (List Int)->Prop) (K:List (List Int)->List (List Int)->Prop):Prop:=
 ∀r0:List Int,af (au 0 255 32) r0->∀a6:List Int,af (au 0 255 32) a6->∀r9:List Int,af (au 0 255 32) r9->
 ∀Et:List Int,af (au 0 4503599627370495 5) Et->∀pX:List Int,af (au 0 4503599627370495 5) pX->∀En:List Int,af (au 0 4503599627370495 5) En->∀Eo:List Int,af (au 0 4503599627370495 5) Eo->∀z116:Int,0<=z116->z116<=1->S 109 [a6] [Et,pX,En,Eo,[z116]]->
 ((((!(decide (z116=1))))=true->
  K [r0,a6,r9] [[0,0,0,0,0,0,0,0,0,0,0,0,0,0,0,0,0,0,0,0,0,0,0,0,0,0,0,0,0,0,0,0],[1]]
 )/\(((!(decide (z116=1))))=false->
  ((
   ∀vH:List Int,af (au 0 4503599627370495 5) vH->∀vI:List Int,af (au 0 4503599627370495 5) vI->∀vJ:List Int,af (au 0 4503599627370495 5) vJ->∀mA:List Int,af (au 0 4503599627370495 5) mA->S 107 [Et,pX,En,Eo,r0] [vH,vI,vJ,mA]->
   ∀vK:List Int,af (au 0 4503599627370495 5) vK->∀vL:List Int,af (au 0 4503599627370495 5) vL->∀vM:List Int,af (au 0 4503599627370495 5) vM->∀vN:List Int,af (au 0 4503599627370495 5) vN->S 102 [] [vK,vL,vM,vN]->
   ∀vO:List Int,af (au 0 4503599627370495 5) vO->∀vP:List Int,af (au 0 4503599627370495 5) vP->∀c0:List Int,af (au 0 4503599627370495 5) c0->∀vQ:List Int,af (au 0 4503599627370495 5) vQ->S 107 [vK,vL,vM,vN,r9] [vO,vP,c0,vQ]->
   ∀vR:List Int,af (au 0 4503599627370495 5) vR->∀vS:List Int,af (au 0 4503599627370495 5) vS->∀vT:List Int,af (au 0 4503599627370495 5) vT->∀Cp:List Int,af (au 0 4503599627370495 5) Cp->S 105 [vH,vI,vJ,mA,vO,vP,c0,vQ] [vR,vS,vT,Cp]->
   ∀n1:List Int,af (au 0 255 32) n1->S 108 [vR,vS,vT] [n1]->
   K [r0,a6,r9] [n1,[0]]
  )/\(
   ∀vH:List Int,af (au 0 4503599627370495 5) vH->∀vI:List Int,af (au 0 4503599627370495 5) vI->∀vJ:List Int,af (au 0 4503599627370495 5) vJ->∀mA:List Int,af (au 0 4503599627370495 5) mA->S 107 [Et,pX,En,Eo,r0] [vH,vI,vJ,mA]->
   ∀vK:List Int,af (au 0 4503599627370495 5) vK->∀vL:List Int,af (au 0 4503599627370495 5) vL->∀vM:List Int,af (au 0 4503599627370495 5) vM->∀vN:List Int,af (au 0 4503599627370495 5) vN->S 102 [] [vK,vL,vM,vN]->
   ∀vO:List Int,af (au 0 4503599627370495 5) vO->∀vP:List Int,af (au 0 4503599627370495 5) vP->∀c0:List Int,af (au 0 4503599627370495 5) c0->∀vQ:List Int,af (au 0 4503599627370495 5) vQ->S 107 [vK,vL,vM,vN,r9] [vO,vP,c0,vQ]->
   ∀vR:List Int,af (au 0 4503599627370495 5) vR->∀vS:List Int,af (au 0 4503599627370495 5) vS->∀vT:List Int,af (au 0 4503599627370495 5) vT->∀Cp:List Int,af (au 0 4503599627370495 5) Cp->S 105 [vH,vI,vJ,mA,vO,vP,c0,vQ] [vR,vS,vT,Cp]->
   ∀n1:List Int,af (au 0 255 32) n1->S 108 [vR,vS,vT] [n1]->
   K [r0,a6,r9] [n1,[0]]
  ))
 ))
theorem atW (G):Sc (jI G) (ji y4.res 115):=by
 unfold Sc
 intro r0 i0 a6 i32 r9 i64 Et i96 pX i101 En i106 Eo i111 z116 a116 TZ aT
 have aT:MW [a6] [Et,pX,En,Eo,[z116]]:=aT.1
 refine⟨λh0=>?_,λh0=>?_⟩
 ·skip
  simp only[gn,kj,je,kT,decide_eq_true_eq,decide_eq_false_iff_not]at h0
  have e:=ahb aT h0
  refine⟨IK afB (by decide),?_⟩
  show tA _ _ _
  rw[e]
  exact⟨rfl,by decide⟩
 ·skip
  simp only[gn,kj,je,kT,decide_eq_true_eq,decide_eq_false_iff_not]at h0
  refine⟨?_,?_⟩
  ·skip
   intro vH i117 vI i122 vJ i127 mA i132 s1 vK i137 vL i142 vM i147 vN aqv s2 vO aqw vP aqy c0 aqz vQ aqA bS vR aqB vS aqC vT aqD Cp aqE dg n1 P6 gz
   have s1:Jr [Et,pX,En,Eo,r0] [vH,vI,vJ,mA]:=s1.1
   have s2:MU [] [vK,vL,vM,vN]:=s2.1
   have bS:Jr [vK,vL,vM,vN,r9] [vO,vP,c0,vQ]:=bS.1
   have dg:Q9 [vH,vI,vJ,mA,vO,vP,c0,vQ] [vR,vS,vT,Cp]:=dg.1
   have gz:Jq [vR,vS,vT] [n1]:=gz.1
   obtain⟨Bg,aw,bm⟩:=rd_some aT h0
   have o1:=Kw aw
   refine⟨IK P6 (by decide),?_⟩
   show tA _ _ _
   rw[aw]
   have k1:=s1 _ o1 bm
   have k2:=bS _ oJ (T3 s2)
   exact⟨rfl,gz.trans (MM (wY (kN o1 _) (kN oJ _)) (dg _ _ (kN o1 _) (kN oJ _) k1 k2).j)⟩
  ·skip
   intro vH i117 vI i122 vJ i127 mA i132 s1 vK i137 vL i142 vM i147 vN aqv s2 vO aqw vP aqy c0 aqz vQ aqA bS vR aqB vS aqC vT aqD Cp aqE dg n1 P6 gz
   have s1:Jr [Et,pX,En,Eo,r0] [vH,vI,vJ,mA]:=s1.1
   have s2:MU [] [vK,vL,vM,vN]:=s2.1
   have bS:Jr [vK,vL,vM,vN,r9] [vO,vP,c0,vQ]:=bS.1
   have dg:Q9 [vH,vI,vJ,mA,vO,vP,c0,vQ] [vR,vS,vT,Cp]:=dg.1
   have gz:Jq [vR,vS,vT] [n1]:=gz.1
   obtain⟨Bg,aw,bm⟩:=rd_some aT h0
   have o1:=Kw aw
   refine⟨IK P6 (by decide),?_⟩
   show tA _ _ _
   rw[aw]
   have k1:=s1 _ o1 bm
   have k2:=bS _ oJ (T3 s2)
   exact⟨rfl,gz.trans (MM (wY (kN o1 _) (kN oJ _)) (dg _ _ (kN o1 _) (kN oJ _) k1 k2).j)⟩
end Go.Fd
namespace Go.oF
open Go.ch
def Tf (S:Nat->List Int->List Int->Prop) (K:List Int->List Int->Prop):Prop:=
 ∀z0:Int,0<=z0->z0<=255->
 ∀aB:Int,0<=aB->aB<=255->
 ∀z2:Int,0<=z2->z2<=255->
 ∀z3:Int,0<=z3->z3<=255->
 ∀z4:Int,0<=z4->z4<=255->
 ∀z5:Int,0<=z5->z5<=255->
 ∀a7:Int,0<=a7->a7<=255->
 ∀aJ:Int,0<=aJ->aJ<=255->
 ∀aI:Int,0<=aI->aI<=255->
 ∀z9:Int,0<=z9->z9<=255->
 ∀aP:Int,0<=aP->aP<=255->
 ∀aG:Int,0<=aG->aG<=255->
 ∀z12:Int,0<=z12->z12<=255->
 ∀ai:Int,0<=ai->ai<=255->
 ∀aq:Int,0<=aq->aq<=255->
 ∀aF:Int,0<=aF->aF<=255->
 ∀aO:Int,0<=aO->aO<=255->
 ∀aH:Int,0<=aH->aH<=255->
 ∀aR:Int,0<=aR->aR<=255->
 ∀aS:Int,0<=aS->aS<=255->
 ∀z20:Int,0<=z20->z20<=255->
 ∀z21:Int,0<=z21->z21<=255->
 ∀z22:Int,0<=z22->z22<=255->
 ∀aY:Int,0<=aY->aY<=255->
 ∀z24:Int,0<=z24->z24<=255->
 ∀bh:Int,0<=bh->bh<=255->
 ∀z26:Int,0<=z26->z26<=255->
 ∀bo:Int,0<=bo->bo<=255->
 ∀z28:Int,0<=z28->z28<=255->
 ∀bu:Int,0<=bu->bu<=255->
 ∀bt:Int,0<=bt->bt<=255->
 ∀z31:Int,0<=z31->z31<=255->
 K [z0,aB,z2,z3,z4,z5,a7,aJ,aI,z9,aP,aG,z12,ai,aq,aF,aO,aH,aR,aS,z20,z21,z22,aY,z24,bh,z26,bo,z28,bu,bt,z31] [((1*z0+(256*aB+(65536*z2+(16777216*z3+(4294967296*z4+(1099511627776*z5+(281474976710656*a7+(72057594037927936*aJ+0))))))))+0),((1*aI+(256*z9+(65536*aP+(16777216*aG+(4294967296*z12+(1099511627776*ai+(281474976710656*aq+(72057594037927936*aF+0))))))))+0),((1*aO+(256*aH+(65536*aR+(16777216*aS+(4294967296*z20+(1099511627776*z21+(281474976710656*z22+(72057594037927936*aY+0))))))))+0),((1*z24+(256*bh+(65536*z26+(16777216*bo+(4294967296*z28+(1099511627776*bu+(281474976710656*bt+(72057594037927936*z31+0))))))))+0)]
theorem auj:Tf cB λzs rs=>af (bk vy.res) rs/\cB 22 zs rs:=by
 unfold Tf
 intros
 simp only[vy,bk,b4,D.bds,au,mY,gp,gZ,af,and_true,cB,tY,num]
 omega
def Tg (S:Nat->List Int->List Int->Prop) (K:List Int->List Int->Prop):Prop:=
 ∀z0:Int,0<=z0->z0<=255->
 ∀aB:Int,0<=aB->aB<=255->
 ∀z2:Int,0<=z2->z2<=255->
 ∀z3:Int,0<=z3->z3<=255->
 ∀z4:Int,0<=z4->z4<=255->
 ∀z5:Int,0<=z5->z5<=255->
 ∀a7:Int,0<=a7->a7<=255->
 ∀aJ:Int,0<=aJ->aJ<=255->
 ∀aI:Int,0<=aI->aI<=255->
 ∀z9:Int,0<=z9->z9<=255->
 ∀aP:Int,0<=aP->aP<=255->
 ∀aG:Int,0<=aG->aG<=255->
 ∀z12:Int,0<=z12->z12<=255->
 ∀ai:Int,0<=ai->ai<=255->
 ∀aq:Int,0<=aq->aq<=255->
 ∀aF:Int,0<=aF->aF<=255->
 ∀aO:Int,0<=aO->aO<=255->
 ∀aH:Int,0<=aH->aH<=255->
 ∀aR:Int,0<=aR->aR<=255->
 ∀aS:Int,0<=aS->aS<=255->
 ∀z20:Int,0<=z20->z20<=255->
 ∀z21:Int,0<=z21->z21<=255->
 ∀z22:Int,0<=z22->z22<=255->
 ∀aY:Int,0<=aY->aY<=255->
 ∀z24:Int,0<=z24->z24<=255->
 ∀bh:Int,0<=bh->bh<=255->
 ∀z26:Int,0<=z26->z26<=255->
 ∀bo:Int,0<=bo->bo<=255->
 ∀z28:Int,0<=z28->z28<=255->
 ∀bu:Int,0<=bu->bu<=255->
 ∀bt:Int,0<=bt->bt<=255->
 ∀z31:Int,0<=z31->z31<=255->
 ∀aL:Int,0<=aL->aL<=255->
 ∀a8:Int,0<=a8->a8<=255->
 ∀bn:Int,0<=bn->bn<=255->
 ∀bg:Int,0<=bg->bg<=255->
 ∀bB:Int,0<=bB->bB<=255->
 ∀z37:Int,0<=z37->z37<=255->
 ∀bP:Int,0<=bP->bP<=255->
 ∀bI:Int,0<=bI->bI<=255->
 ∀z40:Int,0<=z40->z40<=255->
 ∀bY:Int,0<=bY->bY<=255->
 ∀bT:Int,0<=bT->bT<=255->
 ∀cf:Int,0<=cf->cf<=255->
 ∀ct:Int,0<=ct->ct<=255->
 ∀b7:Int,0<=b7->b7<=255->
 ∀z46:Int,0<=z46->z46<=255->
 ∀b6:Int,0<=b6->b6<=255->
 ∀cd:Int,0<=cd->cd<=255->
 ∀z49:Int,0<=z49->z49<=255->
 ∀cm:Int,0<=cm->cm<=255->
 ∀z51:Int,0<=z51->z51<=255->
 ∀bX:Int,0<=bX->bX<=255->
 ∀z53:Int,0<=z53->z53<=255->
 ∀cn:Int,0<=cn->cn<=255->
 ∀cv:Int,0<=cv->cv<=255->
 ∀cA:Int,0<=cA->cA<=255->
 ∀cp:Int,0<=cp->cp<=255->
 ∀cx:Int,0<=cx->cx<=255->
 ∀z59:Int,0<=z59->z59<=255->
 ∀cE:Int,0<=cE->cE<=255->
 ∀cG:Int,0<=cG->cG<=255->
 ∀cH:Int,0<=cH->cH<=255->
 ∀cq:Int,0<=cq->cq<=255->
 K [z0,aB,z2,z3,z4,z5,a7,aJ,aI,z9,aP,aG,z12,ai,aq,aF,aO,aH,aR,aS,z20,z21,z22,aY,z24,bh,z26,bo,z28,bu,bt,z31,aL,a8,bn,bg,bB,z37,bP,bI,z40,bY,bT,cf,ct,b7,z46,b6,cd,z49,cm,z51,bX,z53,cn,cv,cA,cp,cx,z59,cE,cG,cH,cq] [((1*z0+(256*aB+(65536*z2+(16777216*z3+(4294967296*z4+(1099511627776*z5+(281474976710656*a7+(72057594037927936*aJ+0))))))))+0),((1*aI+(256*z9+(65536*aP+(16777216*aG+(4294967296*z12+(1099511627776*ai+(281474976710656*aq+(72057594037927936*aF+0))))))))+0),((1*aO+(256*aH+(65536*aR+(16777216*aS+(4294967296*z20+(1099511627776*z21+(281474976710656*z22+(72057594037927936*aY+0))))))))+0),((1*z24+(256*bh+(65536*z26+(16777216*bo+(4294967296*z28+(1099511627776*bu+(281474976710656*bt+(72057594037927936*z31+0))))))))+0)]
theorem auk:Tg cB λzs rs=>af (bk AB.res) rs/\cB 122 zs rs:=by
 unfold Tg
 intros
 simp only[AB,bk,b4,D.bds,au,mY,gp,gZ,af,and_true,cB,xK,num,o4,qN]
 omega
def Th (S:Nat->List Int->List Int->Prop) (K:List Int->List Int->Prop):Prop:=
 ∀z0:Int,0<=z0->z0<=255->
 ∀aB:Int,0<=aB->aB<=255->
 ∀z2:Int,0<=z2->z2<=255->
 ∀z3:Int,0<=z3->z3<=255->
 ∀z4:Int,0<=z4->z4<=255->
 ∀z5:Int,0<=z5->z5<=255->
 ∀a7:Int,0<=a7->a7<=255->
 ∀aJ:Int,0<=aJ->aJ<=255->
 ∀aI:Int,0<=aI->aI<=255->
 ∀z9:Int,0<=z9->z9<=255->
 ∀aP:Int,0<=aP->aP<=255->
 ∀aG:Int,0<=aG->aG<=255->
 ∀z12:Int,0<=z12->z12<=255->
 ∀ai:Int,0<=ai->ai<=255->
 ∀aq:Int,0<=aq->aq<=255->
 ∀aF:Int,0<=aF->aF<=255->
 ∀aO:Int,0<=aO->aO<=255->
 ∀aH:Int,0<=aH->aH<=255->
 ∀aR:Int,0<=aR->aR<=255->
 ∀aS:Int,0<=aS->aS<=255->
 ∀z20:Int,0<=z20->z20<=255->
 ∀z21:Int,0<=z21->z21<=255->
 ∀z22:Int,0<=z22->z22<=255->
 ∀aY:Int,0<=aY->aY<=255->
 ∀z24:Int,0<=z24->z24<=255->
 ∀bh:Int,0<=bh->bh<=255->
 ∀z26:Int,0<=z26->z26<=255->
 ∀bo:Int,0<=bo->bo<=255->
 ∀z28:Int,0<=z28->z28<=255->
 ∀bu:Int,0<=bu->bu<=255->
 ∀bt:Int,0<=bt->bt<=255->
 ∀z31:Int,0<=z31->z31<=255->
 ∀aL:Int,0<=aL->aL<=255->
 ∀a8:Int,0<=a8->a8<=255->
 ∀bn:Int,0<=bn->bn<=255->
 ∀bg:Int,0<=bg->bg<=255->
 ∀bB:Int,0<=bB->bB<=255->
 ∀z37:Int,0<=z37->z37<=255->
 ∀bP:Int,0<=bP->bP<=255->
 ∀bI:Int,0<=bI->bI<=255->
 ∀z40:Int,0<=z40->z40<=255->
 ∀bY:Int,0<=bY->bY<=255->
 ∀bT:Int,0<=bT->bT<=255->
 ∀cf:Int,0<=cf->cf<=255->
 ∀ct:Int,0<=ct->ct<=255->
 ∀b7:Int,0<=b7->b7<=255->
 ∀z46:Int,0<=z46->z46<=255->
 ∀b6:Int,0<=b6->b6<=255->
 ∀cd:Int,0<=cd->cd<=255->
 ∀z49:Int,0<=z49->z49<=255->
 ∀cm:Int,0<=cm->cm<=255->
 ∀z51:Int,0<=z51->z51<=255->
 ∀bX:Int,0<=bX->bX<=255->
 ∀z53:Int,0<=z53->z53<=255->
 ∀cn:Int,0<=cn->cn<=255->
 ∀cv:Int,0<=cv->cv<=255->
 ∀cA:Int,0<=cA->cA<=255->
 ∀cp:Int,0<=cp->cp<=255->
 ∀cx:Int,0<=cx->cx<=255->
 ∀z59:Int,0<=z59->z59<=255->
 ∀cE:Int,0<=cE->cE<=255->
 ∀cG:Int,0<=cG->cG<=255->
 ∀cH:Int,0<=cH->cH<=255->
 ∀cq:Int,0<=cq->cq<=255->
 K [z0,aB,z2,z3,z4,z5,a7,aJ,aI,z9,aP,aG,z12,ai,aq,aF,aO,aH,aR,aS,z20,z21,z22,aY,z24,bh,z26,bo,z28,bu,bt,z31,aL,a8,bn,bg,bB,z37,bP,bI,z40,bY,bT,cf,ct,b7,z46,b6,cd,z49,cm,z51,bX,z53,cn,cv,cA,cp,cx,z59,cE,cG,cH,cq] [((1*aL+(256*a8+(65536*bn+(16777216*bg+(4294967296*bB+(1099511627776*z37+(281474976710656*bP+(72057594037927936*bI+0))))))))+0),((1*z40+(256*bY+(65536*bT+(16777216*cf+(4294967296*ct+(1099511627776*b7+(281474976710656*z46+(72057594037927936*b6+0))))))))+0),((1*cd+(256*z49+(65536*cm+(16777216*z51+(4294967296*bX+(1099511627776*z53+(281474976710656*cn+(72057594037927936*cv+0))))))))+0),((1*cA+(256*cp+(65536*cx+(16777216*z59+(4294967296*cE+(1099511627776*cG+(281474976710656*cH+(72057594037927936*cq+0))))))))+0)]
theorem aul:Th cB λzs rs=>af (bk B4.res) rs/\cB 222 zs rs:=by
 unfold Th
 intros
 simp only[B4,bk,b4,D.bds,au,mY,gp,gZ,af,and_true,cB,xL,num,tz,qe]
 omega
def Ti (S:Nat->List Int->List Int->Prop) (K:List Int->List Int->Prop):Prop:=
 ∀z0:Int,0<=z0->z0<=18446744073709551615->
 ∀aB:Int,0<=aB->aB<=18446744073709551615->
 ∀z2:Int,0<=z2->z2<=18446744073709551615->
 ∀z3:Int,0<=z3->z3<=18446744073709551615->
 ∀z4:Int,0<=z4->z4<=18446744073709551615->
 ∀z5:Int,0<=z5->z5<=18446744073709551615->
 ∀a7:Int,0<=a7->a7<=18446744073709551615->
 ∀aJ:Int,0<=aJ->aJ<=18446744073709551615->
 ∀aI:Int,(-1)<=aI->aI<=0->0<=((1*z0+((-1)*z4+0))+0)-18446744073709551616*aI->((1*z0+((-1)*z4+0))+0)-18446744073709551616*aI<18446744073709551616->
 ∀z9:Int,(-1)<=z9->z9<=0->0<=((1*aB+((-1)*z5+(1*aI+0)))+0)-18446744073709551616*z9->((1*aB+((-1)*z5+(1*aI+0)))+0)-18446744073709551616*z9<18446744073709551616->
 ∀aP:Int,(-1)<=aP->aP<=0->0<=((1*z2+((-1)*a7+(1*z9+0)))+0)-18446744073709551616*aP->((1*z2+((-1)*a7+(1*z9+0)))+0)-18446744073709551616*aP<18446744073709551616->
 ∀aG:Int,(-1)<=aG->aG<=0->0<=((1*z3+((-1)*aJ+(1*aP+0)))+0)-18446744073709551616*aG->((1*z3+((-1)*aJ+(1*aP+0)))+0)-18446744073709551616*aG<18446744073709551616->
 K [z0,aB,z2,z3,z4,z5,a7,aJ] [((1*z0+((-1)*z4+((-18446744073709551616)*aI+0)))+0),((1*aB+((-1)*z5+(1*aI+((-18446744073709551616)*z9+0))))+0),((1*z2+((-1)*a7+(1*z9+((-18446744073709551616)*aP+0))))+0),((1*z3+((-1)*aJ+(1*aP+((-18446744073709551616)*aG+0))))+0),(cond (decide ((((-1)*aG+0)+0)=(0+1))) 1 0)]
theorem XH:Ti cB λzs rs=>af (bk iB.res) rs/\cB 29 zs rs:=by
 unfold Ti
 intros
 simp only[iB,bk,b4,D.bds,au,mY,gp,gZ,af,and_true,cB,sa,num,o4,qN,tz,qe,kS,jH,Bool.cond_decide]
 split<;>omega
def Tk (S:Nat->List Int->List Int->Prop) (K:List Int->List Int->Prop):Prop:=
 ∀z0:Int,0<=z0->z0<=18446744073709551615->
 ∀aB:Int,0<=aB->aB<=18446744073709551615->
 ∀z2:Int,0<=z2->z2<=18446744073709551615->
 ∀z3:Int,0<=z3->z3<=18446744073709551615->
 ∀z4:Int,0<=z4->z4<=18446744073709551615->
 ∀z5:Int,0<=z5->z5<=18446744073709551615->
 ∀a7:Int,0<=a7->a7<=18446744073709551615->
 ∀aJ:Int,0<=aJ->aJ<=18446744073709551615->
 ∀aI:Int,0<=aI->aI<=1->0<=((1*z0+(1*z4+0))+0)-18446744073709551616*aI->((1*z0+(1*z4+0))+0)-18446744073709551616*aI<18446744073709551616->
 ∀z9:Int,0<=z9->z9<=1->0<=((1*aB+(1*z5+(1*aI+0)))+0)-18446744073709551616*z9->((1*aB+(1*z5+(1*aI+0)))+0)-18446744073709551616*z9<18446744073709551616->
 ∀aP:Int,0<=aP->aP<=1->0<=((1*z2+(1*a7+(1*z9+0)))+0)-18446744073709551616*aP->((1*z2+(1*a7+(1*z9+0)))+0)-18446744073709551616*aP<18446744073709551616->
 ∀aG:Int,0<=aG->aG<=1->0<=((1*z3+(1*aJ+(1*aP+0)))+0)-18446744073709551616*aG->((1*z3+(1*aJ+(1*aP+0)))+0)-18446744073709551616*aG<18446744073709551616->
 K [z0,aB,z2,z3,z4,z5,a7,aJ] [((1*z0+(1*z4+((-18446744073709551616)*aI+0)))+0),((1*aB+(1*z5+(1*aI+((-18446744073709551616)*z9+0))))+0),((1*z2+(1*a7+(1*z9+((-18446744073709551616)*aP+0))))+0),((1*z3+(1*aJ+(1*aP+((-18446744073709551616)*aG+0))))+0),((1*aG+0)+0)]
theorem XI:Tk cB λzs rs=>af (bk iC.res) rs/\cB 24 zs rs:=by
 unfold Tk
 intros
 simp only[iC,bk,b4,c1,D.bds,au,mY,gp,gZ,af,and_true,cB,sb,num,o4,qN,tz,qe,kS,jH]
 omega
def Tb (S:Nat->List Int->List Int->Prop) (K:List Int->List Int->Prop):Prop:=
 ∀z0:Int,0<=z0->z0<=18446744073709551615->
 ∀aB:Int,0<=aB->aB<=18446744073709551615->
 ∀z2:Int,0<=z2->z2<=18446744073709551615->
 ∀z3:Int,0<=z3->z3<=18446744073709551615->
 ∀z4:Int,0<=z4->z4<=72057594037927935->0<=((1*z0+0)+0)-256*z4->((1*z0+0)+0)-256*z4<256->
 ∀z5:Int,0<=z5->z5<=72057594037927935->0<=((1*z0+0)+0)-256*z5->((1*z0+0)+0)-256*z5<256->
 ∀a7:Int,0<=a7->a7<=281474976710655->0<=((1*z5+0)+0)-256*a7->((1*z5+0)+0)-256*a7<256->
 ∀aJ:Int,0<=aJ->aJ<=281474976710655->0<=((1*z0+0)+0)-65536*aJ->((1*z0+0)+0)-65536*aJ<65536->
 ∀aI:Int,0<=aI->aI<=1099511627775->0<=((1*aJ+0)+0)-256*aI->((1*aJ+0)+0)-256*aI<256->
 ∀z9:Int,0<=z9->z9<=1099511627775->0<=((1*z0+0)+0)-16777216*z9->((1*z0+0)+0)-16777216*z9<16777216->
 ∀aP:Int,0<=aP->aP<=4294967295->0<=((1*z9+0)+0)-256*aP->((1*z9+0)+0)-256*aP<256->
 ∀aG:Int,0<=aG->aG<=4294967295->0<=((1*z0+0)+0)-4294967296*aG->((1*z0+0)+0)-4294967296*aG<4294967296->
 ∀z12:Int,0<=z12->z12<=16777215->0<=((1*aG+0)+0)-256*z12->((1*aG+0)+0)-256*z12<256->
 ∀ai:Int,0<=ai->ai<=16777215->0<=((1*z0+0)+0)-1099511627776*ai->((1*z0+0)+0)-1099511627776*ai<1099511627776->
 ∀aq:Int,0<=aq->aq<=65535->0<=((1*ai+0)+0)-256*aq->((1*ai+0)+0)-256*aq<256->
 ∀aF:Int,0<=aF->aF<=65535->0<=((1*z0+0)+0)-281474976710656*aF->((1*z0+0)+0)-281474976710656*aF<281474976710656->
 ∀aO:Int,0<=aO->aO<=255->0<=((1*aF+0)+0)-256*aO->((1*aF+0)+0)-256*aO<256->
 ∀aH:Int,0<=aH->aH<=255->0<=((1*z0+0)+0)-72057594037927936*aH->((1*z0+0)+0)-72057594037927936*aH<72057594037927936->
 ∀aR:Int,0<=aR->aR<=72057594037927935->0<=((1*aB+0)+0)-256*aR->((1*aB+0)+0)-256*aR<256->
 ∀aS:Int,0<=aS->aS<=72057594037927935->0<=((1*aB+0)+0)-256*aS->((1*aB+0)+0)-256*aS<256->
 ∀z20:Int,0<=z20->z20<=281474976710655->0<=((1*aS+0)+0)-256*z20->((1*aS+0)+0)-256*z20<256->
 ∀z21:Int,0<=z21->z21<=281474976710655->0<=((1*aB+0)+0)-65536*z21->((1*aB+0)+0)-65536*z21<65536->
 ∀z22:Int,0<=z22->z22<=1099511627775->0<=((1*z21+0)+0)-256*z22->((1*z21+0)+0)-256*z22<256->
 ∀aY:Int,0<=aY->aY<=1099511627775->0<=((1*aB+0)+0)-16777216*aY->((1*aB+0)+0)-16777216*aY<16777216->
 ∀z24:Int,0<=z24->z24<=4294967295->0<=((1*aY+0)+0)-256*z24->((1*aY+0)+0)-256*z24<256->
 ∀bh:Int,0<=bh->bh<=4294967295->0<=((1*aB+0)+0)-4294967296*bh->((1*aB+0)+0)-4294967296*bh<4294967296->
 ∀z26:Int,0<=z26->z26<=16777215->0<=((1*bh+0)+0)-256*z26->((1*bh+0)+0)-256*z26<256->
 ∀bo:Int,0<=bo->bo<=16777215->0<=((1*aB+0)+0)-1099511627776*bo->((1*aB+0)+0)-1099511627776*bo<1099511627776->
 ∀z28:Int,0<=z28->z28<=65535->0<=((1*bo+0)+0)-256*z28->((1*bo+0)+0)-256*z28<256->
 ∀bu:Int,0<=bu->bu<=65535->0<=((1*aB+0)+0)-281474976710656*bu->((1*aB+0)+0)-281474976710656*bu<281474976710656->
 ∀bt:Int,0<=bt->bt<=255->0<=((1*bu+0)+0)-256*bt->((1*bu+0)+0)-256*bt<256->
 ∀z31:Int,0<=z31->z31<=255->0<=((1*aB+0)+0)-72057594037927936*z31->((1*aB+0)+0)-72057594037927936*z31<72057594037927936->
 ∀aL:Int,0<=aL->aL<=72057594037927935->0<=((1*z2+0)+0)-256*aL->((1*z2+0)+0)-256*aL<256->
 ∀a8:Int,0<=a8->a8<=72057594037927935->0<=((1*z2+0)+0)-256*a8->((1*z2+0)+0)-256*a8<256->
 ∀bn:Int,0<=bn->bn<=281474976710655->0<=((1*a8+0)+0)-256*bn->((1*a8+0)+0)-256*bn<256->
 ∀bg:Int,0<=bg->bg<=281474976710655->0<=((1*z2+0)+0)-65536*bg->((1*z2+0)+0)-65536*bg<65536->
 ∀bB:Int,0<=bB->bB<=1099511627775->0<=((1*bg+0)+0)-256*bB->((1*bg+0)+0)-256*bB<256->
 ∀z37:Int,0<=z37->z37<=1099511627775->0<=((1*z2+0)+0)-16777216*z37->((1*z2+0)+0)-16777216*z37<16777216->
 ∀bP:Int,0<=bP->bP<=4294967295->0<=((1*z37+0)+0)-256*bP->((1*z37+0)+0)-256*bP<256->
 ∀bI:Int,0<=bI->bI<=4294967295->0<=((1*z2+0)+0)-4294967296*bI->((1*z2+0)+0)-4294967296*bI<4294967296->
 ∀z40:Int,0<=z40->z40<=16777215->0<=((1*bI+0)+0)-256*z40->((1*bI+0)+0)-256*z40<256->
 ∀bY:Int,0<=bY->bY<=16777215->0<=((1*z2+0)+0)-1099511627776*bY->((1*z2+0)+0)-1099511627776*bY<1099511627776->
 ∀bT:Int,0<=bT->bT<=65535->0<=((1*bY+0)+0)-256*bT->((1*bY+0)+0)-256*bT<256->
 ∀cf:Int,0<=cf->cf<=65535->0<=((1*z2+0)+0)-281474976710656*cf->((1*z2+0)+0)-281474976710656*cf<281474976710656->
 ∀ct:Int,0<=ct->ct<=255->0<=((1*cf+0)+0)-256*ct->((1*cf+0)+0)-256*ct<256->
 ∀b7:Int,0<=b7->b7<=255->0<=((1*z2+0)+0)-72057594037927936*b7->((1*z2+0)+0)-72057594037927936*b7<72057594037927936->
 ∀z46:Int,0<=z46->z46<=72057594037927935->0<=((1*z3+0)+0)-256*z46->((1*z3+0)+0)-256*z46<256->
 ∀b6:Int,0<=b6->b6<=72057594037927935->0<=((1*z3+0)+0)-256*b6->((1*z3+0)+0)-256*b6<256->
 ∀cd:Int,0<=cd->cd<=281474976710655->0<=((1*b6+0)+0)-256*cd->((1*b6+0)+0)-256*cd<256->
 ∀z49:Int,0<=z49->z49<=281474976710655->0<=((1*z3+0)+0)-65536*z49->((1*z3+0)+0)-65536*z49<65536->
 ∀cm:Int,0<=cm->cm<=1099511627775->0<=((1*z49+0)+0)-256*cm->((1*z49+0)+0)-256*cm<256->
 ∀z51:Int,0<=z51->z51<=1099511627775->0<=((1*z3+0)+0)-16777216*z51->((1*z3+0)+0)-16777216*z51<16777216->
 ∀bX:Int,0<=bX->bX<=4294967295->0<=((1*z51+0)+0)-256*bX->((1*z51+0)+0)-256*bX<256->
 ∀z53:Int,0<=z53->z53<=4294967295->0<=((1*z3+0)+0)-4294967296*z53->((1*z3+0)+0)-4294967296*z53<4294967296->
 ∀cn:Int,0<=cn->cn<=16777215->0<=((1*z53+0)+0)-256*cn->((1*z53+0)+0)-256*cn<256->
 ∀cv:Int,0<=cv->cv<=16777215->0<=((1*z3+0)+0)-1099511627776*cv->((1*z3+0)+0)-1099511627776*cv<1099511627776->
 ∀cA:Int,0<=cA->cA<=65535->0<=((1*cv+0)+0)-256*cA->((1*cv+0)+0)-256*cA<256->
 ∀cp:Int,0<=cp->cp<=65535->0<=((1*z3+0)+0)-281474976710656*cp->((1*z3+0)+0)-281474976710656*cp<281474976710656->
 ∀cx:Int,0<=cx->cx<=255->0<=((1*cp+0)+0)-256*cx->((1*cp+0)+0)-256*cx<256->
 ∀z59:Int,0<=z59->z59<=255->0<=((1*z3+0)+0)-72057594037927936*z59->((1*z3+0)+0)-72057594037927936*z59<72057594037927936->
 K [z0,aB,z2,z3] [((1*z0+((-256)*z4+0))+0),((1*z5+((-256)*a7+0))+0),((1*aJ+((-256)*aI+0))+0),((1*z9+((-256)*aP+0))+0),((1*aG+((-256)*z12+0))+0),((1*ai+((-256)*aq+0))+0),((1*aF+((-256)*aO+0))+0),((1*aH+0)+0),((1*aB+((-256)*aR+0))+0),((1*aS+((-256)*z20+0))+0),((1*z21+((-256)*z22+0))+0),((1*aY+((-256)*z24+0))+0),((1*bh+((-256)*z26+0))+0),((1*bo+((-256)*z28+0))+0),((1*bu+((-256)*bt+0))+0),((1*z31+0)+0),((1*z2+((-256)*aL+0))+0),((1*a8+((-256)*bn+0))+0),((1*bg+((-256)*bB+0))+0),((1*z37+((-256)*bP+0))+0),((1*bI+((-256)*z40+0))+0),((1*bY+((-256)*bT+0))+0),((1*cf+((-256)*ct+0))+0),((1*b7+0)+0),((1*z3+((-256)*z46+0))+0),((1*b6+((-256)*cd+0))+0),((1*z49+((-256)*cm+0))+0),((1*z51+((-256)*bX+0))+0),((1*z53+((-256)*cn+0))+0),((1*cv+((-256)*cA+0))+0),((1*cp+((-256)*cx+0))+0),((1*z59+0)+0)]
theorem XG:Tb cB λzs rs=>af (bk hX.res) rs/\cB 26 zs rs:=by
 unfold Tb
 simp only[wI,wH,A8]
 intro z0 tk uO aB l1 qD z2 l2 sQ z3 qx A0 z4 B8 JA a4 oH z5 xx Rn a5 oI a7 afM Ro sA sB aJ Gs Rp sU sW aI jP u8 sV sX z9 jQ kB a9 eZ aP kW ku o8 oe aG jO kv dQ dU z12 kX kx a12 fL ai kY ky h9 ik aq kZ kz fJ fM aF j0 kA dR ef aO k0 u16 pL pM aH k5 mB ej en aR k6 mC eC eH aS k7 lz ia il z20 k8 mD a20 dV z21 k9 mE a21 eg z22 la mF a22 hq aY lb lA dC dG z24 ld lB a24 eh bh lf lC ek ei z26 lS lD a26 eo bo lg mG ib im z28 lh lE a28 eE bu lj lF ev ew bt lk lG eD ey z31 lT lH a31 eQ aL ll u32 dD ht a8 ke lI dv dx bn ln lJ dE dH bg jD lK dF dI bB lU lL dS dW z37 lp lM a37 gO bP lq mH dw dy bI lr mI dT dX z40 lu mJ a40 iq bY lV mK gi gj bT lW mL fR fS cf lX mM hh gP ct m9 mN hj hA b7 lY nr u2 vc z46 lZ mO a46 ir b6 l0 mP gM gQ cd l3 mQ hk hB z49 na mR a49 hC cm l4 ns uj uk z51 l5 mS a51 hD bX l6 mT gN gR z53 l7 mU a53 hS cn nc mV hP hT cv l8 mW u3 vd cA l9 nt ho hE cp ma nu ic iu cx mb nv u4 ve z59 mc mX a59 hG
 have gk:z4=z5:=G2 (by decide) a4 oH a5 oI
 have HT:aR=aS:=G2 (by decide) eC eH ia il
 have HV:aL=a8:=G2 (by decide) dD ht dv dx
 have Dx:z46=b6:=G2 (by decide) a46 ir gM gQ
 have vj:a7=aJ:=og (by decide) a5 oI sA sB sU sW
 have Fx:aI=z9:=og (by decide) sU sW sV sX a9 eZ
 have Dn:aP=aG:=og (by decide) a9 eZ o8 oe dQ dU
 have Dp:z12=ai:=og (by decide) dQ dU a12 fL h9 ik
 have yF:aq=aF:=og (by decide) h9 ik fJ fM dR ef
 have xf:aO=aH:=og (by decide) dR ef pL pM ej en
 have Dr:z20=z21:=og (by decide) ia il a20 dV a21 eg
 have Ds:z22=aY:=og (by decide) a21 eg a22 hq dC dG
 have Dt:z24=bh:=og (by decide) dC dG a24 eh ek ei
 have Af:z26=bo:=og (by decide) ek ei a26 eo ib im
 have Kz:z28=bu:=og (by decide) ib im a28 eE ev ew
 have KA:bt=z31:=og (by decide) ev ew eD ey a31 eQ
 have KB:bn=bg:=og (by decide) dv dx dE dH dF dI
 have Fs:bB=z37:=og (by decide) dF dI dS dW a37 gO
 have Dw:bP=bI:=og (by decide) a37 gO dw dy dT dX
 have KC:z40=bY:=og (by decide) dT dX a40 iq gi gj
 have KD:bT=cf:=og (by decide) gi gj fR fS hh gP
 have Ag:ct=b7:=og (by decide) hh gP hj hA u2 vc
 have KF:cd=z49:=og (by decide) gM gQ hk hB a49 hC
 have Dy:cm=z51:=og (by decide) a49 hC uj uk a51 hD
 have KG:bX=z53:=og (by decide) a51 hD gN gR a53 hS
 have Fu:cn=cv:=og (by decide) a53 hS hP hT u3 vd
 have DA:cA=cp:=og (by decide) u3 vd ho hE ic iu
 have KI:cx=z59:=og (by decide) ic iu u4 ve a59 hG
 clear sA sB sV sX o8 oe a12 fL fJ fM pL pM a20 dV a22 hq a24 eh a26 eo a28 eE eD ey dE dH dS dW dw dy a40 iq fR fS hj hA hk hB uj uk gN gR hP hT ho hE u4 ve
 simp only[gk,HT,HV,Dx,vj,Fx,Dn,Dp,yF,xf,Dr,Ds,Dt,Af,Kz,KA,KB,Fs,Dw,KC,KD,Ag,KF,Dy,KG,Fu,DA,KI]
 refine⟨?_,?_⟩
 ·simp only[hX,bk,hU,D.bds,au,mY,gp,gZ,af,and_true]
  refine⟨?_,?_,?_,?_,?_,?_,?_,?_,?_,?_,?_,?_,?_,?_,?_,?_,?_,?_,?_,?_,?_,?_,?_,?_,?_,?_,?_,?_,?_,?_,?_,?_,?_,?_,?_,?_,?_,?_,?_,?_,?_,?_,?_,?_,?_,?_,?_,?_,?_,?_,?_,?_,?_,?_,?_,?_,?_,?_,?_,?_,?_,?_,?_,?_⟩<;>omega
 ·simp only[cB,tX,num]
  omega
def Tl (S:Nat->List Int->List Int->Prop) (K:List Int->List Int->Prop):Prop:=
 ∀z0:Int,0<=z0->z0<=18446744073709551615->
 ∀aB:Int,0<=aB->aB<=18446744073709551615->
 ∀z2:Int,0<=z2->z2<=18446744073709551615->
 ∀z3:Int,0<=z3->z3<=18446744073709551615->
 ∀z4:Int,0<=z4->z4<=18446744073709551615->
 ∀z5:Int,0<=z5->z5<=18446744073709551615->
 ∀a7:Int,0<=a7->a7<=18446744073709551615->
 ∀aJ:Int,0<=aJ->aJ<=18446744073709551615->
 ∀aI:Int,0<=aI->aI<=340282366920938463426481119284349108225->aI=((1*z0+0)+0)*((1*z4+0)+0)->
 ∀z9:Int,0<=z9->z9<=18446744073709551614->0<=((1*aI+0)+0)-18446744073709551616*z9->((1*aI+0)+0)-18446744073709551616*z9<18446744073709551616->
 ∀aP:Int,0<=aP->aP<=340282366920938463426481119284349108225->aP=((1*z0+0)+0)*((1*z5+0)+0)->
 ∀aG:Int,0<=aG->aG<=18446744073709551614->0<=((1*aP+0)+0)-18446744073709551616*aG->((1*aP+0)+0)-18446744073709551616*aG<18446744073709551616->
 ∀z12:Int,0<=z12->z12<=1->0<=((1*z9+(1*aP+((-18446744073709551616)*aG+0)))+0)-18446744073709551616*z12->((1*z9+(1*aP+((-18446744073709551616)*aG+0)))+0)-18446744073709551616*z12<18446744073709551616->
 ∀ai:Int,0<=ai->ai<=340282366920938463426481119284349108225->ai=((1*z0+0)+0)*((1*a7+0)+0)->
 ∀aq:Int,0<=aq->aq<=18446744073709551614->0<=((1*ai+0)+0)-18446744073709551616*aq->((1*ai+0)+0)-18446744073709551616*aq<18446744073709551616->
 ∀aF:Int,0<=aF->aF<=1->0<=((1*aG+(1*z12+(1*ai+((-18446744073709551616)*aq+0))))+0)-18446744073709551616*aF->((1*aG+(1*z12+(1*ai+((-18446744073709551616)*aq+0))))+0)-18446744073709551616*aF<18446744073709551616->
 ∀aO:Int,0<=aO->aO<=340282366920938463426481119284349108225->aO=((1*z0+0)+0)*((1*aJ+0)+0)->
 ∀aH:Int,0<=aH->aH<=18446744073709551614->0<=((1*aO+0)+0)-18446744073709551616*aH->((1*aO+0)+0)-18446744073709551616*aH<18446744073709551616->
 ∀aR:Int,0<=aR->aR<=1->0<=((1*aq+(1*aF+(1*aO+((-18446744073709551616)*aH+0))))+0)-18446744073709551616*aR->((1*aq+(1*aF+(1*aO+((-18446744073709551616)*aH+0))))+0)-18446744073709551616*aR<18446744073709551616->
 ∀aS:Int,0<=aS->aS<=340282366920938463426481119284349108225->aS=((1*aB+0)+0)*((1*z4+0)+0)->
 ∀z20:Int,0<=z20->z20<=18446744073709551614->0<=((1*aS+0)+0)-18446744073709551616*z20->((1*aS+0)+0)-18446744073709551616*z20<18446744073709551616->
 ∀z21:Int,0<=z21->z21<=1->0<=((1*z9+(1*aP+((-18446744073709551616)*aG+((-18446744073709551616)*z12+(1*aS+((-18446744073709551616)*z20+0))))))+0)-18446744073709551616*z21->((1*z9+(1*aP+((-18446744073709551616)*aG+((-18446744073709551616)*z12+(1*aS+((-18446744073709551616)*z20+0))))))+0)-18446744073709551616*z21<18446744073709551616->
 ∀z22:Int,0<=z22->z22<=340282366920938463426481119284349108225->z22=((1*aB+0)+0)*((1*z5+0)+0)->
 ∀aY:Int,0<=aY->aY<=18446744073709551614->0<=((1*z22+0)+0)-18446744073709551616*aY->((1*z22+0)+0)-18446744073709551616*aY<18446744073709551616->
 ∀z24:Int,0<=z24->z24<=1->0<=((1*aG+(1*z12+(1*ai+((-18446744073709551616)*aq+((-18446744073709551616)*aF+(1*z22+((-18446744073709551616)*aY+0)))))))+0)-18446744073709551616*z24->((1*aG+(1*z12+(1*ai+((-18446744073709551616)*aq+((-18446744073709551616)*aF+(1*z22+((-18446744073709551616)*aY+0)))))))+0)-18446744073709551616*z24<18446744073709551616->
 ∀bh:Int,0<=bh->bh<=1->0<=((1*aG+(1*z12+(1*ai+((-18446744073709551616)*aq+((-18446744073709551616)*aF+(1*z20+(1*z21+(1*z22+((-18446744073709551616)*aY+((-18446744073709551616)*z24+0))))))))))+0)-18446744073709551616*bh->((1*aG+(1*z12+(1*ai+((-18446744073709551616)*aq+((-18446744073709551616)*aF+(1*z20+(1*z21+(1*z22+((-18446744073709551616)*aY+((-18446744073709551616)*z24+0))))))))))+0)-18446744073709551616*bh<18446744073709551616->
 ∀z26:Int,0<=z26->z26<=1->0<=((1*aY+(1*z24+(1*bh+0)))+0)-18446744073709551616*z26->((1*aY+(1*z24+(1*bh+0)))+0)-18446744073709551616*z26<18446744073709551616->
 ∀bo:Int,0<=bo->bo<=340282366920938463426481119284349108225->bo=((1*aB+0)+0)*((1*a7+0)+0)->
 ∀z28:Int,0<=z28->z28<=18446744073709551614->0<=((1*bo+0)+0)-18446744073709551616*z28->((1*bo+0)+0)-18446744073709551616*z28<18446744073709551616->
 ∀bu:Int,0<=bu->bu<=1->0<=((1*aq+(1*aF+(1*aO+((-18446744073709551616)*aH+((-18446744073709551616)*aR+(1*bo+((-18446744073709551616)*z28+0)))))))+0)-18446744073709551616*bu->((1*aq+(1*aF+(1*aO+((-18446744073709551616)*aH+((-18446744073709551616)*aR+(1*bo+((-18446744073709551616)*z28+0)))))))+0)-18446744073709551616*bu<18446744073709551616->
 ∀bt:Int,0<=bt->bt<=1->0<=((1*aq+(1*aF+(1*aO+((-18446744073709551616)*aH+((-18446744073709551616)*aR+(1*aY+(1*z24+(1*bh+((-18446744073709551616)*z26+(1*bo+((-18446744073709551616)*z28+((-18446744073709551616)*bu+0))))))))))))+0)-18446744073709551616*bt->((1*aq+(1*aF+(1*aO+((-18446744073709551616)*aH+((-18446744073709551616)*aR+(1*aY+(1*z24+(1*bh+((-18446744073709551616)*z26+(1*bo+((-18446744073709551616)*z28+((-18446744073709551616)*bu+0))))))))))))+0)-18446744073709551616*bt<18446744073709551616->
 ∀z31:Int,0<=z31->z31<=1->0<=((1*z28+(1*bu+(1*bt+0)))+0)-18446744073709551616*z31->((1*z28+(1*bu+(1*bt+0)))+0)-18446744073709551616*z31<18446744073709551616->
 ∀aL:Int,0<=aL->aL<=340282366920938463426481119284349108225->aL=((1*aB+0)+0)*((1*aJ+0)+0)->
 ∀a8:Int,0<=a8->a8<=18446744073709551614->0<=((1*aL+0)+0)-18446744073709551616*a8->((1*aL+0)+0)-18446744073709551616*a8<18446744073709551616->
 ∀bn:Int,0<=bn->bn<=1->0<=((1*aH+(1*aR+(1*aL+((-18446744073709551616)*a8+0))))+0)-18446744073709551616*bn->((1*aH+(1*aR+(1*aL+((-18446744073709551616)*a8+0))))+0)-18446744073709551616*bn<18446744073709551616->
 ∀bg:Int,0<=bg->bg<=1->0<=((1*aH+(1*aR+(1*z28+(1*bu+(1*bt+((-18446744073709551616)*z31+(1*aL+((-18446744073709551616)*a8+((-18446744073709551616)*bn+0)))))))))+0)-18446744073709551616*bg->((1*aH+(1*aR+(1*z28+(1*bu+(1*bt+((-18446744073709551616)*z31+(1*aL+((-18446744073709551616)*a8+((-18446744073709551616)*bn+0)))))))))+0)-18446744073709551616*bg<18446744073709551616->
 ∀bB:Int,0<=bB->bB<=1->0<=((1*a8+(1*bn+(1*bg+0)))+0)-18446744073709551616*bB->((1*a8+(1*bn+(1*bg+0)))+0)-18446744073709551616*bB<18446744073709551616->
 ∀z37:Int,0<=z37->z37<=340282366920938463426481119284349108225->z37=((1*z2+0)+0)*((1*z4+0)+0)->
 ∀bP:Int,0<=bP->bP<=18446744073709551614->0<=((1*z37+0)+0)-18446744073709551616*bP->((1*z37+0)+0)-18446744073709551616*bP<18446744073709551616->
 ∀bI:Int,0<=bI->bI<=1->0<=((1*aG+(1*z12+(1*ai+((-18446744073709551616)*aq+((-18446744073709551616)*aF+(1*z20+(1*z21+(1*z22+((-18446744073709551616)*aY+((-18446744073709551616)*z24+((-18446744073709551616)*bh+(1*z37+((-18446744073709551616)*bP+0)))))))))))))+0)-18446744073709551616*bI->((1*aG+(1*z12+(1*ai+((-18446744073709551616)*aq+((-18446744073709551616)*aF+(1*z20+(1*z21+(1*z22+((-18446744073709551616)*aY+((-18446744073709551616)*z24+((-18446744073709551616)*bh+(1*z37+((-18446744073709551616)*bP+0)))))))))))))+0)-18446744073709551616*bI<18446744073709551616->
 ∀z40:Int,0<=z40->z40<=340282366920938463426481119284349108225->z40=((1*z2+0)+0)*((1*z5+0)+0)->
 ∀bY:Int,0<=bY->bY<=18446744073709551614->0<=((1*z40+0)+0)-18446744073709551616*bY->((1*z40+0)+0)-18446744073709551616*bY<18446744073709551616->
 ∀bT:Int,0<=bT->bT<=1->0<=((1*aq+(1*aF+(1*aO+((-18446744073709551616)*aH+((-18446744073709551616)*aR+(1*aY+(1*z24+(1*bh+((-18446744073709551616)*z26+(1*bo+((-18446744073709551616)*z28+((-18446744073709551616)*bu+((-18446744073709551616)*bt+(1*z40+((-18446744073709551616)*bY+0)))))))))))))))+0)-18446744073709551616*bT->((1*aq+(1*aF+(1*aO+((-18446744073709551616)*aH+((-18446744073709551616)*aR+(1*aY+(1*z24+(1*bh+((-18446744073709551616)*z26+(1*bo+((-18446744073709551616)*z28+((-18446744073709551616)*bu+((-18446744073709551616)*bt+(1*z40+((-18446744073709551616)*bY+0)))))))))))))))+0)-18446744073709551616*bT<18446744073709551616->
 ∀cf:Int,0<=cf->cf<=1->0<=((1*aq+(1*aF+(1*aO+((-18446744073709551616)*aH+((-18446744073709551616)*aR+(1*aY+(1*z24+(1*bh+((-18446744073709551616)*z26+(1*bo+((-18446744073709551616)*z28+((-18446744073709551616)*bu+((-18446744073709551616)*bt+(1*bP+(1*bI+(1*z40+((-18446744073709551616)*bY+((-18446744073709551616)*bT+0))))))))))))))))))+0)-18446744073709551616*cf->((1*aq+(1*aF+(1*aO+((-18446744073709551616)*aH+((-18446744073709551616)*aR+(1*aY+(1*z24+(1*bh+((-18446744073709551616)*z26+(1*bo+((-18446744073709551616)*z28+((-18446744073709551616)*bu+((-18446744073709551616)*bt+(1*bP+(1*bI+(1*z40+((-18446744073709551616)*bY+((-18446744073709551616)*bT+0))))))))))))))))))+0)-18446744073709551616*cf<18446744073709551616->
 ∀ct:Int,0<=ct->ct<=1->0<=((1*bY+(1*bT+(1*cf+0)))+0)-18446744073709551616*ct->((1*bY+(1*bT+(1*cf+0)))+0)-18446744073709551616*ct<18446744073709551616->
 ∀b7:Int,0<=b7->b7<=340282366920938463426481119284349108225->b7=((1*z2+0)+0)*((1*a7+0)+0)->
 ∀z46:Int,0<=z46->z46<=18446744073709551614->0<=((1*b7+0)+0)-18446744073709551616*z46->((1*b7+0)+0)-18446744073709551616*z46<18446744073709551616->
 ∀b6:Int,0<=b6->b6<=1->0<=((1*aH+(1*aR+(1*z28+(1*bu+(1*bt+((-18446744073709551616)*z31+(1*aL+((-18446744073709551616)*a8+((-18446744073709551616)*bn+((-18446744073709551616)*bg+(1*b7+((-18446744073709551616)*z46+0))))))))))))+0)-18446744073709551616*b6->((1*aH+(1*aR+(1*z28+(1*bu+(1*bt+((-18446744073709551616)*z31+(1*aL+((-18446744073709551616)*a8+((-18446744073709551616)*bn+((-18446744073709551616)*bg+(1*b7+((-18446744073709551616)*z46+0))))))))))))+0)-18446744073709551616*b6<18446744073709551616->
 ∀cd:Int,0<=cd->cd<=1->0<=((1*aH+(1*aR+(1*z28+(1*bu+(1*bt+((-18446744073709551616)*z31+(1*aL+((-18446744073709551616)*a8+((-18446744073709551616)*bn+((-18446744073709551616)*bg+(1*bY+(1*bT+(1*cf+((-18446744073709551616)*ct+(1*b7+((-18446744073709551616)*z46+((-18446744073709551616)*b6+0)))))))))))))))))+0)-18446744073709551616*cd->((1*aH+(1*aR+(1*z28+(1*bu+(1*bt+((-18446744073709551616)*z31+(1*aL+((-18446744073709551616)*a8+((-18446744073709551616)*bn+((-18446744073709551616)*bg+(1*bY+(1*bT+(1*cf+((-18446744073709551616)*ct+(1*b7+((-18446744073709551616)*z46+((-18446744073709551616)*b6+0)))))))))))))))))+0)-18446744073709551616*cd<18446744073709551616->
 ∀z49:Int,0<=z49->z49<=1->0<=((1*z46+(1*b6+(1*cd+0)))+0)-18446744073709551616*z49->((1*z46+(1*b6+(1*cd+0)))+0)-18446744073709551616*z49<18446744073709551616->
 ∀cm:Int,0<=cm->cm<=340282366920938463426481119284349108225->cm=((1*z2+0)+0)*((1*aJ+0)+0)->
 ∀z51:Int,0<=z51->z51<=18446744073709551614->0<=((1*cm+0)+0)-18446744073709551616*z51->((1*cm+0)+0)-18446744073709551616*z51<18446744073709551616->
 ∀bX:Int,0<=bX->bX<=1->0<=((1*a8+(1*bn+(1*bg+((-18446744073709551616)*bB+(1*cm+((-18446744073709551616)*z51+0))))))+0)-18446744073709551616*bX->((1*a8+(1*bn+(1*bg+((-18446744073709551616)*bB+(1*cm+((-18446744073709551616)*z51+0))))))+0)-18446744073709551616*bX<18446744073709551616->
 ∀z53:Int,0<=z53->z53<=1->0<=((1*a8+(1*bn+(1*bg+((-18446744073709551616)*bB+(1*z46+(1*b6+(1*cd+((-18446744073709551616)*z49+(1*cm+((-18446744073709551616)*z51+((-18446744073709551616)*bX+0)))))))))))+0)-18446744073709551616*z53->((1*a8+(1*bn+(1*bg+((-18446744073709551616)*bB+(1*z46+(1*b6+(1*cd+((-18446744073709551616)*z49+(1*cm+((-18446744073709551616)*z51+((-18446744073709551616)*bX+0)))))))))))+0)-18446744073709551616*z53<18446744073709551616->
 ∀cn:Int,0<=cn->cn<=1->0<=((1*z51+(1*bX+(1*z53+0)))+0)-18446744073709551616*cn->((1*z51+(1*bX+(1*z53+0)))+0)-18446744073709551616*cn<18446744073709551616->
 ∀cv:Int,0<=cv->cv<=340282366920938463426481119284349108225->cv=((1*z3+0)+0)*((1*z4+0)+0)->
 ∀cA:Int,0<=cA->cA<=18446744073709551614->0<=((1*cv+0)+0)-18446744073709551616*cA->((1*cv+0)+0)-18446744073709551616*cA<18446744073709551616->
 ∀cp:Int,0<=cp->cp<=1->0<=((1*aq+(1*aF+(1*aO+((-18446744073709551616)*aH+((-18446744073709551616)*aR+(1*aY+(1*z24+(1*bh+((-18446744073709551616)*z26+(1*bo+((-18446744073709551616)*z28+((-18446744073709551616)*bu+((-18446744073709551616)*bt+(1*bP+(1*bI+(1*z40+((-18446744073709551616)*bY+((-18446744073709551616)*bT+((-18446744073709551616)*cf+(1*cv+((-18446744073709551616)*cA+0)))))))))))))))))))))+0)-18446744073709551616*cp->((1*aq+(1*aF+(1*aO+((-18446744073709551616)*aH+((-18446744073709551616)*aR+(1*aY+(1*z24+(1*bh+((-18446744073709551616)*z26+(1*bo+((-18446744073709551616)*z28+((-18446744073709551616)*bu+((-18446744073709551616)*bt+(1*bP+(1*bI+(1*z40+((-18446744073709551616)*bY+((-18446744073709551616)*bT+((-18446744073709551616)*cf+(1*cv+((-18446744073709551616)*cA+0)))))))))))))))))))))+0)-18446744073709551616*cp<18446744073709551616->
 ∀cx:Int,0<=cx->cx<=340282366920938463426481119284349108225->cx=((1*z3+0)+0)*((1*z5+0)+0)->
 ∀z59:Int,0<=z59->z59<=18446744073709551614->0<=((1*cx+0)+0)-18446744073709551616*z59->((1*cx+0)+0)-18446744073709551616*z59<18446744073709551616->
 ∀cE:Int,0<=cE->cE<=1->0<=((1*aH+(1*aR+(1*z28+(1*bu+(1*bt+((-18446744073709551616)*z31+(1*aL+((-18446744073709551616)*a8+((-18446744073709551616)*bn+((-18446744073709551616)*bg+(1*bY+(1*bT+(1*cf+((-18446744073709551616)*ct+(1*b7+((-18446744073709551616)*z46+((-18446744073709551616)*b6+((-18446744073709551616)*cd+(1*cx+((-18446744073709551616)*z59+0))))))))))))))))))))+0)-18446744073709551616*cE->((1*aH+(1*aR+(1*z28+(1*bu+(1*bt+((-18446744073709551616)*z31+(1*aL+((-18446744073709551616)*a8+((-18446744073709551616)*bn+((-18446744073709551616)*bg+(1*bY+(1*bT+(1*cf+((-18446744073709551616)*ct+(1*b7+((-18446744073709551616)*z46+((-18446744073709551616)*b6+((-18446744073709551616)*cd+(1*cx+((-18446744073709551616)*z59+0))))))))))))))))))))+0)-18446744073709551616*cE<18446744073709551616->
 ∀cG:Int,0<=cG->cG<=1->0<=((1*aH+(1*aR+(1*z28+(1*bu+(1*bt+((-18446744073709551616)*z31+(1*aL+((-18446744073709551616)*a8+((-18446744073709551616)*bn+((-18446744073709551616)*bg+(1*bY+(1*bT+(1*cf+((-18446744073709551616)*ct+(1*b7+((-18446744073709551616)*z46+((-18446744073709551616)*b6+((-18446744073709551616)*cd+(1*cA+(1*cp+(1*cx+((-18446744073709551616)*z59+((-18446744073709551616)*cE+0)))))))))))))))))))))))+0)-18446744073709551616*cG->((1*aH+(1*aR+(1*z28+(1*bu+(1*bt+((-18446744073709551616)*z31+(1*aL+((-18446744073709551616)*a8+((-18446744073709551616)*bn+((-18446744073709551616)*bg+(1*bY+(1*bT+(1*cf+((-18446744073709551616)*ct+(1*b7+((-18446744073709551616)*z46+((-18446744073709551616)*b6+((-18446744073709551616)*cd+(1*cA+(1*cp+(1*cx+((-18446744073709551616)*z59+((-18446744073709551616)*cE+0)))))))))))))))))))))))+0)-18446744073709551616*cG<18446744073709551616->
 ∀cH:Int,0<=cH->cH<=1->0<=((1*z59+(1*cE+(1*cG+0)))+0)-18446744073709551616*cH->((1*z59+(1*cE+(1*cG+0)))+0)-18446744073709551616*cH<18446744073709551616->
 ∀cq:Int,0<=cq->cq<=340282366920938463426481119284349108225->cq=((1*z3+0)+0)*((1*a7+0)+0)->
 ∀cU:Int,0<=cU->cU<=18446744073709551614->0<=((1*cq+0)+0)-18446744073709551616*cU->((1*cq+0)+0)-18446744073709551616*cU<18446744073709551616->
 ∀c9:Int,0<=c9->c9<=1->0<=((1*a8+(1*bn+(1*bg+((-18446744073709551616)*bB+(1*z46+(1*b6+(1*cd+((-18446744073709551616)*z49+(1*cm+((-18446744073709551616)*z51+((-18446744073709551616)*bX+((-18446744073709551616)*z53+(1*cq+((-18446744073709551616)*cU+0))))))))))))))+0)-18446744073709551616*c9->((1*a8+(1*bn+(1*bg+((-18446744073709551616)*bB+(1*z46+(1*b6+(1*cd+((-18446744073709551616)*z49+(1*cm+((-18446744073709551616)*z51+((-18446744073709551616)*bX+((-18446744073709551616)*z53+(1*cq+((-18446744073709551616)*cU+0))))))))))))))+0)-18446744073709551616*c9<18446744073709551616->
 ∀c2:Int,0<=c2->c2<=1->0<=((1*a8+(1*bn+(1*bg+((-18446744073709551616)*bB+(1*z46+(1*b6+(1*cd+((-18446744073709551616)*z49+(1*cm+((-18446744073709551616)*z51+((-18446744073709551616)*bX+((-18446744073709551616)*z53+(1*z59+(1*cE+(1*cG+((-18446744073709551616)*cH+(1*cq+((-18446744073709551616)*cU+((-18446744073709551616)*c9+0)))))))))))))))))))+0)-18446744073709551616*c2->((1*a8+(1*bn+(1*bg+((-18446744073709551616)*bB+(1*z46+(1*b6+(1*cd+((-18446744073709551616)*z49+(1*cm+((-18446744073709551616)*z51+((-18446744073709551616)*bX+((-18446744073709551616)*z53+(1*z59+(1*cE+(1*cG+((-18446744073709551616)*cH+(1*cq+((-18446744073709551616)*cU+((-18446744073709551616)*c9+0)))))))))))))))))))+0)-18446744073709551616*c2<18446744073709551616->
 ∀cX:Int,0<=cX->cX<=1->0<=((1*cU+(1*c9+(1*c2+0)))+0)-18446744073709551616*cX->((1*cU+(1*c9+(1*c2+0)))+0)-18446744073709551616*cX<18446744073709551616->
 ∀dh:Int,0<=dh->dh<=340282366920938463426481119284349108225->dh=((1*z3+0)+0)*((1*aJ+0)+0)->
 ∀cI:Int,0<=cI->cI<=18446744073709551614->0<=((1*dh+0)+0)-18446744073709551616*cI->((1*dh+0)+0)-18446744073709551616*cI<18446744073709551616->
 ∀z70:Int,0<=z70->z70<=1->0<=((1*z51+(1*bX+(1*z53+((-18446744073709551616)*cn+(1*dh+((-18446744073709551616)*cI+0))))))+0)-18446744073709551616*z70->((1*z51+(1*bX+(1*z53+((-18446744073709551616)*cn+(1*dh+((-18446744073709551616)*cI+0))))))+0)-18446744073709551616*z70<18446744073709551616->
 ∀dn:Int,0<=dn->dn<=1->0<=((1*z51+(1*bX+(1*z53+((-18446744073709551616)*cn+(1*cU+(1*c9+(1*c2+((-18446744073709551616)*cX+(1*dh+((-18446744073709551616)*cI+((-18446744073709551616)*z70+0)))))))))))+0)-18446744073709551616*dn->((1*z51+(1*bX+(1*z53+((-18446744073709551616)*cn+(1*cU+(1*c9+(1*c2+((-18446744073709551616)*cX+(1*dh+((-18446744073709551616)*cI+((-18446744073709551616)*z70+0)))))))))))+0)-18446744073709551616*dn<18446744073709551616->
 ∀z72:Int,0<=z72->z72<=1->0<=((1*cI+(1*z70+(1*dn+0)))+0)-18446744073709551616*z72->((1*cI+(1*z70+(1*dn+0)))+0)-18446744073709551616*z72<18446744073709551616->
 K [z0,aB,z2,z3,z4,z5,a7,aJ] [((1*aI+((-18446744073709551616)*z9+0))+0),((1*z9+(1*aP+((-18446744073709551616)*aG+((-18446744073709551616)*z12+(1*aS+((-18446744073709551616)*z20+((-18446744073709551616)*z21+0)))))))+0),((1*aG+(1*z12+(1*ai+((-18446744073709551616)*aq+((-18446744073709551616)*aF+(1*z20+(1*z21+(1*z22+((-18446744073709551616)*aY+((-18446744073709551616)*z24+((-18446744073709551616)*bh+(1*z37+((-18446744073709551616)*bP+((-18446744073709551616)*bI+0))))))))))))))+0),((1*aq+(1*aF+(1*aO+((-18446744073709551616)*aH+((-18446744073709551616)*aR+(1*aY+(1*z24+(1*bh+((-18446744073709551616)*z26+(1*bo+((-18446744073709551616)*z28+((-18446744073709551616)*bu+((-18446744073709551616)*bt+(1*bP+(1*bI+(1*z40+((-18446744073709551616)*bY+((-18446744073709551616)*bT+((-18446744073709551616)*cf+(1*cv+((-18446744073709551616)*cA+((-18446744073709551616)*cp+0))))))))))))))))))))))+0),((1*aH+(1*aR+(1*z28+(1*bu+(1*bt+((-18446744073709551616)*z31+(1*aL+((-18446744073709551616)*a8+((-18446744073709551616)*bn+((-18446744073709551616)*bg+(1*bY+(1*bT+(1*cf+((-18446744073709551616)*ct+(1*b7+((-18446744073709551616)*z46+((-18446744073709551616)*b6+((-18446744073709551616)*cd+(1*cA+(1*cp+(1*cx+((-18446744073709551616)*z59+((-18446744073709551616)*cE+((-18446744073709551616)*cG+0))))))))))))))))))))))))+0),((1*a8+(1*bn+(1*bg+((-18446744073709551616)*bB+(1*z46+(1*b6+(1*cd+((-18446744073709551616)*z49+(1*cm+((-18446744073709551616)*z51+((-18446744073709551616)*bX+((-18446744073709551616)*z53+(1*z59+(1*cE+(1*cG+((-18446744073709551616)*cH+(1*cq+((-18446744073709551616)*cU+((-18446744073709551616)*c9+((-18446744073709551616)*c2+0))))))))))))))))))))+0),((1*z51+(1*bX+(1*z53+((-18446744073709551616)*cn+(1*cU+(1*c9+(1*c2+((-18446744073709551616)*cX+(1*dh+((-18446744073709551616)*cI+((-18446744073709551616)*z70+((-18446744073709551616)*dn+0))))))))))))+0),((1*cI+(1*z70+(1*dn+((-18446744073709551616)*z72+0))))+0)]
theorem aus:Tl cB λzs rs=>af (bk B5.res) rs/\cB 21 zs rs:=by
 unfold Tl
 simp only[wI,wH,A8]
 intro z0 tk uO aB l1 qD z2 l2 sQ z3 qx A0 z4 B8 JA z5 xx Rn a7 afM Ro aJ Gs Rp aI jP u8 my z9 jQ kB a9 eZ aP kW ku mg aG jO kv dQ dU z12 kX kx a12 fL ai kY ky mh aq kZ kz fJ fM aF j0 kA dR ef aO k0 u16 mi aH k5 mB ej en aR k6 mC eC eH aS k7 lz mj z20 k8 mD a20 dV z21 k9 mE a21 eg z22 la mF ml aY lb lA dC dG z24 ld lB a24 eh bh lf lC ek ei z26 lS lD a26 eo bo lg mG mm z28 lh lE a28 eE bu lj lF ev ew bt lk lG eD ey z31 lT lH a31 eQ aL ll u32 m32 a8 ke lI dv dx bn ln lJ dE dH bg jD lK dF dI bB lU lL dS dW z37 lp lM mn bP lq mH dw dy bI lr mI dT dX z40 lu mJ mo bY lV mK gi gj bT lW mL fR fS cf lX mM hh gP ct m9 mN hj hA b7 lY nr mq z46 lZ mO a46 ir b6 l0 mP gM gQ cd l3 mQ hk hB z49 na mR a49 hC cm l4 ns mr z51 l5 mS a51 hD bX l6 mT gN gR z53 l7 mU a53 hS cn nc mV hP hT cv l8 mW mu cA l9 nt ho hE cp ma nu ic iu cx mb nv mv z59 mc mX a59 hG cE nd nw ie iv cG nf nx jk iY cH nU ny ig iw cq ng n4 mw cU me u64 fp ix c9 nh nz ij iy c2 ni nA jl iZ cX nV nB iK iM dh lv n5 mx cI nj nC iL iN z70 nk nD a70 iO dn nm nE jz jm z72 nW nF a72 jn
 have Af:z26=0:=by clear jP u8 my jQ kB a9 eZ kW ku mg jO kv dQ dU kX kx a12 fL kY ky mh kZ kz fJ fM j0 kA dR k0 u16 mi k5 mB ej en k6 mC eC eH k7 lz mj k8 a20 dV k9 a21 eg la ml lb lA dC dG ld lB a24 eh lf lC ei lD eo lg mG mm lh lE a28 eE lj lF ev ew lk lG eD ey lT lH a31 eQ ll u32 m32 ke lI dv dx ln lJ dE dH jD lK dF dI lU lL dS dW lp lM mn lq mH dw dy lr mI dT dX lu mJ mo lV mK gi gj lW mL fR fS lX mM hh gP m9 mN hj hA lY nr mq lZ mO a46 ir l0 mP gM gQ l3 mQ hk hB na mR a49 hC l4 ns mr l5 mS a51 hD l6 mT gN gR l7 mU a53 hS nc mV hP hT l8 mW mu l9 nt ho hE ma nu ic iu mb nv mv mc mX a59 hG nd nw ie iv nf nx jk iY nU ny ig iw ng n4 mw me u64 fp ix nh nz ij iy ni nA jl iZ nV nB iK iM lv n5 mx nj nC iL iN nk nD a70 iO nm nE jz jm nW nF a72 jn;omega
 have Fq:z31=0:=by clear jP u8 my jQ kB a9 eZ kW ku mg jO kv dQ dU kX kx a12 fL kY ky mh kZ kz fJ fM j0 kA dR ef k0 u16 mi k5 mB ej en k6 mC eC k7 lz mj k8 mD a20 dV k9 mE a21 eg la mF ml lb lA dC dG ld lB a24 eh lf lC ek ei lS lD a26 lg mm lh lE a28 eE lj lF ev ew lk lG ey lH eQ ll u32 m32 ke lI dv dx ln lJ dE dH jD lK dF dI lU lL dS dW lp lM mn lq mH dw dy lr mI dT dX lu mJ mo lV mK gi gj lW mL fR fS lX mM hh gP m9 mN hj hA lY nr mq lZ mO a46 ir l0 mP gM gQ l3 mQ hk hB na mR a49 hC l4 ns mr l5 mS a51 hD l6 mT gN gR l7 mU a53 hS nc mV hP hT l8 mW mu l9 nt ho hE ma nu ic iu mb nv mv mc mX a59 hG nd nw ie iv nf nx jk iY nU ny ig iw ng n4 mw me u64 fp ix nh nz ij iy ni nA jl iZ nV nB iK iM lv n5 mx nj nC iL iN nk nD a70 iO nm nE jz jm nW nF a72 jn;omega
 have Fs:bB=0:=by clear jP u8 my jQ kB a9 eZ kW ku mg jO kv dQ dU kX kx a12 fL kY ky mh kZ kz fJ fM j0 kA dR ef k0 u16 mi k5 ej en k6 eC eH k7 lz mj k8 mD a20 dV k9 mE a21 eg la mF ml lb lA dC dG ld lB a24 eh lf lC ek ei lS lD a26 eo lg mG mm lh lE a28 eE lj lF ev ew lk lG eD ey lT lH a31 ll m32 ke lI dv dx ln lJ dE dH jD lK dI lL dW lp lM mn lq mH dw dy lr mI dT dX lu mJ mo lV mK gi gj lW mL fR fS lX mM hh gP m9 mN hj hA lY nr mq lZ mO a46 ir l0 mP gM gQ l3 mQ hk hB na mR a49 hC l4 ns mr l5 mS a51 hD l6 mT gN gR l7 mU a53 hS nc mV hP hT l8 mW mu l9 nt ho hE ma nu ic iu mb nv mv mc mX a59 hG nd nw ie iv nf nx jk iY nU ny ig iw ng n4 mw me u64 fp ix nh nz ij iy ni nA jl iZ nV nB iK iM lv n5 mx nj nC iL iN nk nD a70 iO nm nE jz jm nW nF a72 jn;omega
 have Ag:ct=0:=by clear jP u8 my jQ kB a9 eZ kW ku mg jO kv dQ dU kX kx a12 fL kY ky mh kZ kz fJ fM j0 kA dR ef k0 u16 mi k5 mB ej en k6 mC eC eH k7 lz mj k8 mD a20 dV k9 mE a21 eg la mF ml lb lA dC dG ld lB a24 eh lf lC ek ei lS lD a26 eo lg mG mm lh lE a28 eE lj lF ev ew lk lG eD lT lH a31 eQ ll u32 m32 ke lI dv dx ln lJ dE dH jD lK dF dI lU lL dS dW lp lM mn lq dw dy lr dT dX lu mo lV mK gi gj lW mL fR fS lX mM gP mN hA lY nr mq lZ mO a46 ir l0 mP gM gQ l3 mQ hk hB na mR a49 hC l4 ns mr l5 mS a51 hD l6 mT gN gR l7 mU a53 hS nc mV hP hT l8 mW mu l9 nt ho hE ma nu ic iu mb nv mv mc mX a59 hG nd nw ie iv nf nx jk iY nU ny ig iw ng n4 mw me u64 fp ix nh nz ij iy ni nA jl iZ nV nB iK iM lv n5 mx nj nC iL iN nk nD a70 iO nm nE jz jm nW nF a72 jn;omega
 have yG:z49=0:=by clear jP u8 my jQ kB a9 eZ kW ku mg jO kv dQ dU kX kx a12 fL kY ky mh kZ kz fJ fM j0 kA dR ef k0 u16 mi k5 mB ej en k6 mC eC eH k7 lz mj k8 mD a20 dV k9 mE a21 eg la mF ml lb lA dC dG ld lB a24 eh lf lC ek ei lS lD a26 eo lg mG mm lh lE a28 eE lj lF ev ew lk lG eD ey lT lH a31 eQ ll u32 m32 ke lI dv dx ln lJ dE dH jD lK dF lU lL dS dW lp lM mn lq mH dw dy lr mI dT dX lu mJ mo lV mK gi gj lW mL fR fS lX mM hh gP m9 mN hj lY mq lZ mO a46 ir l0 mP gM gQ l3 mQ hB mR hC l4 ns mr l5 mS a51 hD l6 mT gN gR l7 mU a53 hS nc mV hP hT l8 mW mu l9 nt ho hE ma nu ic iu mb nv mv mc mX a59 hG nd nw ie iv nf nx jk iY nU ny ig iw ng n4 mw me u64 fp ix nh nz ij iy ni nA jl iZ nV nB iK iM lv n5 mx nj nC iL iN nk nD a70 iO nm nE jz jm nW nF a72 jn;omega
 have Fu:cn=0:=by clear jP u8 my jQ kB a9 eZ kW ku mg jO kv dQ dU kX kx a12 fL kY ky mh kZ kz fJ fM j0 kA dR ef k0 u16 mi k5 mB ej en k6 mC eC eH k7 lz mj k8 mD a20 dV k9 mE a21 eg la mF ml lb lA dC dG ld lB a24 eh lf lC ek ei lS lD a26 eo lg mG mm lh lE a28 eE lj lF ev ew lk lG eD ey lT lH a31 eQ ll u32 m32 ke lI dv dx ln lJ dE dH jD lK dF dI lU lL dS lp lM mn lq mH dw dy lr mI dT dX lu mJ mo lV mK gi gj lW mL fR fS lX mM hh gP m9 mN hj hA lY nr mq lZ mO a46 ir l0 mP gM gQ l3 mQ hk hB na mR a49 l4 mr l5 mS a51 hD l6 mT gN gR l7 mU hS mV hT l8 mW mu l9 nt ho hE ma nu ic iu mb nv mv mc mX a59 hG nd nw ie iv nf nx jk iY nU ny ig iw ng n4 mw me u64 fp ix nh nz ij iy ni nA jl iZ nV nB iK iM lv n5 mx nj nC iL iN nk nD a70 iO nm nE jz jm nW nF a72 jn;omega
 have DB:cH=0:=by clear jP u8 my jQ kB a9 eZ kW ku mg jO kv dQ dU kX kx a12 fL kY ky mh kZ kz fJ fM j0 kA dR ef k0 u16 mi k5 mB ej en k6 mC eC eH k7 lz mj k8 mD a20 dV k9 mE a21 eg la mF ml lb lA dC dG ld lB a24 eh lf lC ek ei lS lD a26 eo lg mG mm lh lE a28 eE lj lF ev ew lk lG eD ey lT lH a31 eQ ll u32 m32 ke lI dv dx ln lJ dE dH jD lK dF dI lU lL dS dW lp lM mn lq mH dw dy lr mI dT dX lu mJ mo lV mK gi gj lW mL fR fS lX mM hh gP m9 mN hj hA lY nr mq lZ mO a46 ir l0 mP gM gQ l3 mQ hk na mR a49 hC l4 ns mr l5 mS a51 hD l6 mT gN gR l7 mU a53 hS nc mV hP hT l8 mW mu l9 ho hE ma ic iu mb mv mc mX a59 hG nd nw ie iv nf nx iY ny iw ng n4 mw me u64 fp ix nh nz ij iy ni nA jl iZ nV nB iK iM lv n5 mx nj nC iL iN nk nD a70 iO nm nE jz jm nW nF a72 jn;omega
 have DC:cX=0:=by clear jP u8 my jQ kB a9 eZ kW ku mg jO kv dQ dU kX kx a12 fL kY ky mh kZ kz fJ fM j0 kA dR ef k0 u16 mi k5 mB ej en k6 mC eC eH k7 lz mj k8 mD a20 dV k9 mE a21 eg la mF ml lb lA dC dG ld lB a24 eh lf lC ek ei lS lD a26 eo lg mG mm lh lE a28 eE lj lF ev ew lk lG eD ey lT lH a31 eQ ll u32 m32 ke lI dv dx ln lJ dE dH jD lK dF dI lU lL dS dW lp lM mn lq mH dw dy lr mI dT dX lu mJ mo lV mK gi gj lW mL fR fS lX mM hh gP m9 mN hj hA lY nr mq lZ mO a46 ir l0 mP gM gQ l3 mQ hk hB na mR a49 hC l4 ns mr l5 mS a51 hD l6 mT gN gR l7 mU a53 nc mV hP hT l8 mW mu l9 nt ho hE ma nu ic iu mb nv mv mc mX a59 hG nd nw ie iv nf nx jk iY nU ny ig ng mw me u64 fp ix nh nz ij iy ni nA iZ nB iM lv n5 mx nj nC iL iN nk nD a70 iO nm nE jz jm nW nF a72 jn;omega
 have KK:z72=0:=by clear jP u8 my jQ kB a9 eZ kW ku mg jO kv dQ dU kX kx a12 fL kY ky mh kZ kz fJ fM j0 kA dR ef k0 u16 mi k5 mB ej en k6 mC eC eH k7 lz mj k8 mD a20 dV k9 mE a21 eg la mF ml lb lA dC dG ld lB a24 eh lf lC ek ei lS lD a26 eo lg mG mm lh lE a28 eE lj lF ev ew lk lG eD ey lT lH a31 eQ ll u32 m32 ke lI dv dx ln lJ dE dH jD lK dF dI lU lL dS dW lp lM mn lq mH dw dy lr mI dT dX lu mJ mo lV mK gi gj lW mL fR fS lX mM hh gP m9 mN hj hA lY nr mq lZ mO a46 ir l0 mP gM gQ l3 mQ hk hB na mR a49 hC l4 ns mr l5 mS a51 hD l6 mT gN gR l7 mU a53 hS nc mV hP l8 mW mu l9 nt ho hE ma nu ic iu mb nv mv mc mX a59 hG nd nw ie iv nf nx jk iY nU ny ig iw ng n4 mw me u64 fp ix nh nz ij iy ni nA jl iZ nV nB iK lv mx nj nC iL iN nk nD a70 iO nm nE jm nF jn;omega
 refine⟨?_,?_⟩
 ·simp only[B5,bk,xV,D.bds,au,mY,gp,gZ,af,and_true]
  clear Af Fq Fs Ag yG Fu DB DC KK
  exact⟨by clear jP u8 my jQ kB kW ku mg jO kv dQ dU kX kx a12 fL kY ky mh kZ kz fJ fM j0 kA dR ef k0 u16 mi k5 mB ej en k6 mC eC eH k7 lz mj k8 mD a20 dV k9 mE a21 eg la mF ml lb lA dC dG ld lB a24 eh lf lC ek ei lS lD a26 eo lg mG mm lh lE a28 eE lj lF ev ew lk lG eD ey lT lH a31 eQ ll u32 m32 ke lI dv dx ln lJ dE dH jD lK dF dI lU lL dS dW lp lM mn lq mH dw dy lr mI dT dX lu mJ mo lV mK gi gj lW mL fR fS lX mM hh gP m9 mN hj hA lY nr mq lZ mO a46 ir l0 mP gM gQ l3 mQ hk hB na mR a49 hC l4 ns mr l5 mS a51 hD l6 mT gN gR l7 mU a53 hS nc mV hP hT l8 mW mu l9 nt ho hE ma nu ic iu mb nv mv mc mX a59 hG nd nw ie iv nf nx jk iY nU ny ig iw ng n4 mw me u64 fp ix nh nz ij iy ni nA jl iZ nV nB iK iM lv n5 mx nj nC iL iN nk nD a70 iO nm nE jz jm nW nF a72 jn;omega,by clear jP u8 my jQ kB kW ku mg jO kv dQ dU kX kx a12 fL kY ky mh kZ kz fJ fM j0 kA dR ef k0 u16 mi k5 mB ej en k6 mC eC eH k7 lz mj k8 mD a20 dV k9 mE a21 eg la mF ml lb lA dC dG ld lB a24 eh lf lC ek ei lS lD a26 eo lg mG mm lh lE a28 eE lj lF ev ew lk lG eD ey lT lH a31 eQ ll u32 m32 ke lI dv dx ln lJ dE dH jD lK dF dI lU lL dS dW lp lM mn lq mH dw dy lr mI dT dX lu mJ mo lV mK gi gj lW mL fR fS lX mM hh gP m9 mN hj hA lY nr mq lZ mO a46 ir l0 mP gM gQ l3 mQ hk hB na mR a49 hC l4 ns mr l5 mS a51 hD l6 mT gN gR l7 mU a53 hS nc mV hP hT l8 mW mu l9 nt ho hE ma nu ic iu mb nv mv mc mX a59 hG nd nw ie iv nf nx jk iY nU ny ig iw ng n4 mw me u64 fp ix nh nz ij iy ni nA jl iZ nV nB iK iM lv n5 mx nj nC iL iN nk nD a70 iO nm nE jz jm nW nF a72 jn;omega,by clear jP u8 my jQ kB a9 eZ kW ku mg jO kv dQ dU kX kx a12 fL kY ky mh kZ kz fJ fM j0 kA dR ef k0 u16 mi k5 mB ej en k6 mC eC eH k7 lz mj k8 mD a20 dV k9 mE la mF ml lb lA dC dG ld lB a24 eh lf lC ek ei lS lD a26 eo lg mG mm lh lE a28 eE lj lF ev ew lk lG eD ey lT lH a31 eQ ll u32 m32 ke lI dv dx ln lJ dE dH jD lK dF dI lU lL dS dW lp lM mn lq mH dw dy lr mI dT dX lu mJ mo lV mK gi gj lW mL fR fS lX mM hh gP m9 mN hj hA lY nr mq lZ mO a46 ir l0 mP gM gQ l3 mQ hk hB na mR a49 hC l4 ns mr l5 mS a51 hD l6 mT gN gR l7 mU a53 hS nc mV hP hT l8 mW mu l9 nt ho hE ma nu ic iu mb nv mv mc mX a59 hG nd nw ie iv nf nx jk iY nU ny ig iw ng n4 mw me u64 fp ix nh nz ij iy ni nA jl iZ nV nB iK iM lv n5 mx nj nC iL iN nk nD a70 iO nm nE jz jm nW nF a72 jn;omega,by clear jP u8 my jQ kB a9 eZ kW ku mg jO kv dQ dU kX kx a12 fL kY ky mh kZ kz fJ fM j0 kA dR ef k0 u16 mi k5 mB ej en k6 mC eC eH k7 lz mj k8 mD a20 dV k9 mE la mF ml lb lA dC dG ld lB a24 eh lf lC ek ei lS lD a26 eo lg mG mm lh lE a28 eE lj lF ev ew lk lG eD ey lT lH a31 eQ ll u32 m32 ke lI dv dx ln lJ dE dH jD lK dF dI lU lL dS dW lp lM mn lq mH dw dy lr mI dT dX lu mJ mo lV mK gi gj lW mL fR fS lX mM hh gP m9 mN hj hA lY nr mq lZ mO a46 ir l0 mP gM gQ l3 mQ hk hB na mR a49 hC l4 ns mr l5 mS a51 hD l6 mT gN gR l7 mU a53 hS nc mV hP hT l8 mW mu l9 nt ho hE ma nu ic iu mb nv mv mc mX a59 hG nd nw ie iv nf nx jk iY nU ny ig iw ng n4 mw me u64 fp ix nh nz ij iy ni nA jl iZ nV nB iK iM lv n5 mx nj nC iL iN nk nD a70 iO nm nE jz jm nW nF a72 jn;omega,by clear jP u8 my jQ kB a9 eZ kW ku mg jO kv dQ dU kX kx a12 fL kY ky mh kZ kz fJ fM j0 kA dR ef k0 u16 mi k5 mB ej en k6 mC eC eH k7 lz mj k8 mD a20 dV k9 mE a21 eg la mF ml lb lA dC dG ld lB a24 eh lf lC ek ei lS lD a26 eo lg mG mm lh lE a28 eE lj lF ev ew lk lG eD ey lT lH a31 eQ ll u32 m32 ke lI dv dx ln lJ dE dH jD lK dF dI lU lL dS dW lp lM mn lq mH dw dy lr mI lu mJ mo lV mK gi gj lW mL fR fS lX mM hh gP m9 mN hj hA lY nr mq lZ mO a46 ir l0 mP gM gQ l3 mQ hk hB na mR a49 hC l4 ns mr l5 mS a51 hD l6 mT gN gR l7 mU a53 hS nc mV hP hT l8 mW mu l9 nt ho hE ma nu ic iu mb nv mv mc mX a59 hG nd nw ie iv nf nx jk iY nU ny ig iw ng n4 mw me u64 fp ix nh nz ij iy ni nA jl iZ nV nB iK iM lv n5 mx nj nC iL iN nk nD a70 iO nm nE jz jm nW nF a72 jn;omega,by clear jP u8 my jQ kB a9 eZ kW ku mg jO kv dQ dU kX kx a12 fL kY ky mh kZ kz fJ fM j0 kA dR ef k0 u16 mi k5 mB ej en k6 mC eC eH k7 lz mj k8 mD a20 dV k9 mE a21 eg la mF ml lb lA dC dG ld lB a24 eh lf lC ek ei lS lD a26 eo lg mG mm lh lE a28 eE lj lF ev ew lk lG eD ey lT lH a31 eQ ll u32 m32 ke lI dv dx ln lJ dE dH jD lK dF dI lU lL dS dW lp lM mn lq mH dw dy lr mI lu mJ mo lV mK gi gj lW mL fR fS lX mM hh gP m9 mN hj hA lY nr mq lZ mO a46 ir l0 mP gM gQ l3 mQ hk hB na mR a49 hC l4 ns mr l5 mS a51 hD l6 mT gN gR l7 mU a53 hS nc mV hP hT l8 mW mu l9 nt ho hE ma nu ic iu mb nv mv mc mX a59 hG nd nw ie iv nf nx jk iY nU ny ig iw ng n4 mw me u64 fp ix nh nz ij iy ni nA jl iZ nV nB iK iM lv n5 mx nj nC iL iN nk nD a70 iO nm nE jz jm nW nF a72 jn;omega,by clear jP u8 my jQ kB a9 eZ kW ku mg jO kv dQ dU kX kx a12 fL kY ky mh kZ kz fJ fM j0 kA dR ef k0 u16 mi k5 mB ej en k6 mC eC eH k7 lz mj k8 mD a20 dV k9 mE a21 eg la mF ml lb lA dC dG ld lB a24 eh lf lC ek ei lS lD a26 eo lg mG mm lh lE a28 eE lj lF ev ew lk lG eD ey lT lH a31 eQ ll u32 m32 ke lI dv dx ln lJ dE dH jD lK dF dI lU lL dS dW lp lM mn lq mH dw dy lr mI dT dX lu mJ mo lV mK gi gj lW mL fR fS lX mM hh gP m9 mN hj hA lY nr mq lZ mO a46 ir l0 mP gM gQ l3 mQ hk hB na mR a49 hC l4 ns mr l5 mS a51 hD l6 mT gN gR l7 mU a53 hS nc mV hP hT l8 mW mu l9 nt ho hE ma nu mb nv mv mc mX a59 hG nd nw ie iv nf nx jk iY nU ny ig iw ng n4 mw me u64 fp ix nh nz ij iy ni nA jl iZ nV nB iK iM lv n5 mx nj nC iL iN nk nD a70 iO nm nE jz jm nW nF a72 jn;omega,by clear jP u8 my jQ kB a9 eZ kW ku mg jO kv dQ dU kX kx a12 fL kY ky mh kZ kz fJ fM j0 kA dR ef k0 u16 mi k5 mB ej en k6 mC eC eH k7 lz mj k8 mD a20 dV k9 mE a21 eg la mF ml lb lA dC dG ld lB a24 eh lf lC ek ei lS lD a26 eo lg mG mm lh lE a28 eE lj lF ev ew lk lG eD ey lT lH a31 eQ ll u32 m32 ke lI dv dx ln lJ dE dH jD lK dF dI lU lL dS dW lp lM mn lq mH dw dy lr mI dT dX lu mJ mo lV mK gi gj lW mL fR fS lX mM hh gP m9 mN hj hA lY nr mq lZ mO a46 ir l0 mP gM gQ l3 mQ hk hB na mR a49 hC l4 ns mr l5 mS a51 hD l6 mT gN gR l7 mU a53 hS nc mV hP hT l8 mW mu l9 nt ho hE ma nu mb nv mv mc mX a59 hG nd nw ie iv nf nx jk iY nU ny ig iw ng n4 mw me u64 fp ix nh nz ij iy ni nA jl iZ nV nB iK iM lv n5 mx nj nC iL iN nk nD a70 iO nm nE jz jm nW nF a72 jn;omega,by clear jP u8 my jQ kB a9 eZ kW ku mg jO kv dQ dU kX kx a12 fL kY ky mh kZ kz fJ fM j0 kA dR ef k0 u16 mi k5 mB ej en k6 mC eC eH k7 lz mj k8 mD a20 dV k9 mE a21 eg la mF ml lb lA dC dG ld lB a24 eh lf lC ek ei lS lD a26 eo lg mG mm lh lE a28 eE lj lF ev ew lk lG eD ey lT lH a31 eQ ll u32 m32 ke lI dv dx ln lJ dE dH jD lK dF dI lU lL dS dW lp lM mn lq mH dw dy lr mI dT dX lu mJ mo lV mK gi gj lW mL fR fS lX mM hh gP m9 mN hj hA lY nr mq lZ mO a46 ir l0 mP gM gQ l3 mQ hk hB na mR a49 hC l4 ns mr l5 mS a51 hD l6 mT gN gR l7 mU a53 hS nc mV hP hT l8 mW mu l9 nt ho hE ma nu ic iu mb nv mv mc mX a59 hG nd nw ie iv nf nx nU ny ig iw ng n4 mw me u64 fp ix nh nz ij iy ni nA jl iZ nV nB iK iM lv n5 mx nj nC iL iN nk nD a70 iO nm nE jz jm nW nF a72 jn;omega,by clear jP u8 my jQ kB a9 eZ kW ku mg jO kv dQ dU kX kx a12 fL kY ky mh kZ kz fJ fM j0 kA dR ef k0 u16 mi k5 mB ej en k6 mC eC eH k7 lz mj k8 mD a20 dV k9 mE a21 eg la mF ml lb lA dC dG ld lB a24 eh lf lC ek ei lS lD a26 eo lg mG mm lh lE a28 eE lj lF ev ew lk lG eD ey lT lH a31 eQ ll u32 m32 ke lI dv dx ln lJ dE dH jD lK dF dI lU lL dS dW lp lM mn lq mH dw dy lr mI dT dX lu mJ mo lV mK gi gj lW mL fR fS lX mM hh gP m9 mN hj hA lY nr mq lZ mO a46 ir l0 mP gM gQ l3 mQ hk hB na mR a49 hC l4 ns mr l5 mS a51 hD l6 mT gN gR l7 mU a53 hS nc mV hP hT l8 mW mu l9 nt ho hE ma nu ic iu mb nv mv mc mX a59 hG nd nw ie iv nf nx nU ny ig iw ng n4 mw me u64 fp ix nh nz ij iy ni nA jl iZ nV nB iK iM lv n5 mx nj nC iL iN nk nD a70 iO nm nE jz jm nW nF a72 jn;omega,by clear jP u8 my jQ kB a9 eZ kW ku mg jO kv dQ dU kX kx a12 fL kY ky mh kZ kz fJ fM j0 kA dR ef k0 u16 mi k5 mB ej en k6 mC eC eH k7 lz mj k8 mD a20 dV k9 mE a21 eg la mF ml lb lA dC dG ld lB a24 eh lf lC ek ei lS lD a26 eo lg mG mm lh lE a28 eE lj lF ev ew lk lG eD ey lT lH a31 eQ ll u32 m32 ke lI dv dx ln lJ dE dH jD lK dF dI lU lL dS dW lp lM mn lq mH dw dy lr mI dT dX lu mJ mo lV mK gi gj lW mL fR fS lX mM hh gP m9 mN hj hA lY nr mq lZ mO a46 ir l0 mP gM gQ l3 mQ hk hB na mR a49 hC l4 ns mr l5 mS a51 hD l6 mT gN gR l7 mU a53 hS nc mV hP hT l8 mW mu l9 nt ho hE ma nu ic iu mb nv mv mc mX a59 hG nd nw ie iv nf nx jk iY nU ny ig iw ng n4 mw me u64 fp ix nh nz ij iy ni nA nV nB iK iM lv n5 mx nj nC iL iN nk nD a70 iO nm nE jz jm nW nF a72 jn;omega,by clear jP u8 my jQ kB a9 eZ kW ku mg jO kv dQ dU kX kx a12 fL kY ky mh kZ kz fJ fM j0 kA dR ef k0 u16 mi k5 mB ej en k6 mC eC eH k7 lz mj k8 mD a20 dV k9 mE a21 eg la mF ml lb lA dC dG ld lB a24 eh lf lC ek ei lS lD a26 eo lg mG mm lh lE a28 eE lj lF ev ew lk lG eD ey lT lH a31 eQ ll u32 m32 ke lI dv dx ln lJ dE dH jD lK dF dI lU lL dS dW lp lM mn lq mH dw dy lr mI dT dX lu mJ mo lV mK gi gj lW mL fR fS lX mM hh gP m9 mN hj hA lY nr mq lZ mO a46 ir l0 mP gM gQ l3 mQ hk hB na mR a49 hC l4 ns mr l5 mS a51 hD l6 mT gN gR l7 mU a53 hS nc mV hP hT l8 mW mu l9 nt ho hE ma nu ic iu mb nv mv mc mX a59 hG nd nw ie iv nf nx jk iY nU ny ig iw ng n4 mw me u64 fp ix nh nz ij iy ni nA nV nB iK iM lv n5 mx nj nC iL iN nk nD a70 iO nm nE jz jm nW nF a72 jn;omega,by clear jP u8 my jQ kB a9 eZ kW ku mg jO kv dQ dU kX kx a12 fL kY ky mh kZ kz fJ fM j0 kA dR ef k0 u16 mi k5 mB ej en k6 mC eC eH k7 lz mj k8 mD a20 dV k9 mE a21 eg la mF ml lb lA dC dG ld lB a24 eh lf lC ek ei lS lD a26 eo lg mG mm lh lE a28 eE lj lF ev ew lk lG eD ey lT lH a31 eQ ll u32 m32 ke lI dv dx ln lJ dE dH jD lK dF dI lU lL dS dW lp lM mn lq mH dw dy lr mI dT dX lu mJ mo lV mK gi gj lW mL fR fS lX mM hh gP m9 mN hj hA lY nr mq lZ mO a46 ir l0 mP gM gQ l3 mQ hk hB na mR a49 hC l4 ns mr l5 mS a51 hD l6 mT gN gR l7 mU a53 hS nc mV hP hT l8 mW mu l9 nt ho hE ma nu ic iu mb nv mv mc mX a59 hG nd nw ie iv nf nx jk iY nU ny ig iw ng n4 mw me u64 fp ix nh nz ij iy ni nA jl iZ nV nB iK iM lv n5 mx nj nC iL iN nk nD a70 iO nm nE nW nF a72 jn;omega,by clear jP u8 my jQ kB a9 eZ kW ku mg jO kv dQ dU kX kx a12 fL kY ky mh kZ kz fJ fM j0 kA dR ef k0 u16 mi k5 mB ej en k6 mC eC eH k7 lz mj k8 mD a20 dV k9 mE a21 eg la mF ml lb lA dC dG ld lB a24 eh lf lC ek ei lS lD a26 eo lg mG mm lh lE a28 eE lj lF ev ew lk lG eD ey lT lH a31 eQ ll u32 m32 ke lI dv dx ln lJ dE dH jD lK dF dI lU lL dS dW lp lM mn lq mH dw dy lr mI dT dX lu mJ mo lV mK gi gj lW mL fR fS lX mM hh gP m9 mN hj hA lY nr mq lZ mO a46 ir l0 mP gM gQ l3 mQ hk hB na mR a49 hC l4 ns mr l5 mS a51 hD l6 mT gN gR l7 mU a53 hS nc mV hP hT l8 mW mu l9 nt ho hE ma nu ic iu mb nv mv mc mX a59 hG nd nw ie iv nf nx jk iY nU ny ig iw ng n4 mw me u64 fp ix nh nz ij iy ni nA jl iZ nV nB iK iM lv n5 mx nj nC iL iN nk nD a70 iO nm nE nW nF a72 jn;omega,by clear jP u8 my jQ kB a9 eZ kW ku mg jO kv dQ dU kX kx a12 fL kY ky mh kZ kz fJ fM j0 kA dR ef k0 u16 mi k5 mB ej en k6 mC eC eH k7 lz mj k8 mD a20 dV k9 mE a21 eg la mF ml lb lA dC dG ld lB a24 eh lf lC ek ei lS lD a26 eo lg mG mm lh lE a28 eE lj lF ev ew lk lG eD ey lT lH a31 eQ ll u32 m32 ke lI dv dx ln lJ dE dH jD lK dF dI lU lL dS dW lp lM mn lq mH dw dy lr mI dT dX lu mJ mo lV mK gi gj lW mL fR fS lX mM hh gP m9 mN hj hA lY nr mq lZ mO a46 ir l0 mP gM gQ l3 mQ hk hB na mR a49 hC l4 ns mr l5 mS a51 hD l6 mT gN gR l7 mU a53 hS nc mV hP hT l8 mW mu l9 nt ho hE ma nu ic iu mb nv mv mc mX a59 hG nd nw ie iv nf nx jk iY nU ny ig iw ng n4 mw me u64 fp ix nh nz ij iy ni nA jl iZ nV nB iK iM lv n5 mx nj nC iL iN nk nD a70 iO nm nE jz jm nW nF;omega,by clear jP u8 my jQ kB a9 eZ kW ku mg jO kv dQ dU kX kx a12 fL kY ky mh kZ kz fJ fM j0 kA dR ef k0 u16 mi k5 mB ej en k6 mC eC eH k7 lz mj k8 mD a20 dV k9 mE a21 eg la mF ml lb lA dC dG ld lB a24 eh lf lC ek ei lS lD a26 eo lg mG mm lh lE a28 eE lj lF ev ew lk lG eD ey lT lH a31 eQ ll u32 m32 ke lI dv dx ln lJ dE dH jD lK dF dI lU lL dS dW lp lM mn lq mH dw dy lr mI dT dX lu mJ mo lV mK gi gj lW mL fR fS lX mM hh gP m9 mN hj hA lY nr mq lZ mO a46 ir l0 mP gM gQ l3 mQ hk hB na mR a49 hC l4 ns mr l5 mS a51 hD l6 mT gN gR l7 mU a53 hS nc mV hP hT l8 mW mu l9 nt ho hE ma nu ic iu mb nv mv mc mX a59 hG nd nw ie iv nf nx jk iY nU ny ig iw ng n4 mw me u64 fp ix nh nz ij iy ni nA jl iZ nV nB iK iM lv n5 mx nj nC iL iN nk nD a70 iO nm nE jz jm nW nF;omega⟩
 ·simp only[cB,xO,num,o4,qN,tz,qe]
  rw[avd,<-my,<-mg,<-mh,<-mi,<-mj,<-ml,<-mm,<-m32,<-mn,<-mo,<-mq,<-mr,<-mu,<-mv,<-mw,<-mx]
  clear jP u8 my jQ kB a9 eZ kW ku mg jO kv dQ dU kX kx a12 fL kY ky mh kZ kz fJ fM j0 kA dR ef k0 u16 mi k5 mB ej en k6 mC eC eH k7 lz mj k8 mD a20 dV k9 mE a21 eg la mF ml lb lA dC dG ld lB a24 eh lf lC ek ei lS lD a26 eo lg mG mm lh lE a28 eE lj lF ev ew lk lG eD ey lT lH a31 eQ ll u32 m32 ke lI dv dx ln lJ dE dH jD lK dF dI lU lL dS dW lp lM mn lq mH dw dy lr mI dT dX lu mJ mo lV mK gi gj lW mL fR fS lX mM hh gP m9 mN hj hA lY nr mq lZ mO a46 ir l0 mP gM gQ l3 mQ hk hB na mR a49 hC l4 ns mr l5 mS a51 hD l6 mT gN gR l7 mU a53 hS nc mV hP hT l8 mW mu l9 nt ho hE ma nu ic iu mb nv mv mc mX a59 hG nd nw ie iv nf nx jk iY nU ny ig iw ng n4 mw me u64 fp ix nh nz ij iy ni nA jl iZ nV nB iK iM lv n5 mx nj nC iL iN nk nD a70 iO nm nE jz jm nW nF a72 jn
  omega
def Td (S:Nat->List Int->List Int->Prop) (K:List Int->List Int->Prop):Prop:=
 ∀z0:Int,0<=z0->z0<=18446744073709551615->
 ∀aB:Int,0<=aB->aB<=18446744073709551615->
 ∀z2:Int,0<=z2->z2<=18446744073709551615->
 ∀z3:Int,0<=z3->z3<=18446744073709551615->
 ∀z4:Int,0<=z4->z4<=18446744073709551615->
 ∀z5:Int,0<=z5->z5<=18446744073709551615->
 ∀a7:Int,0<=a7->a7<=18446744073709551615->
 ∀aJ:Int,0<=aJ->aJ<=18446744073709551615->
 ∀aI:Int,0<=aI->aI<=15->0<=((1*z3+0)+0)-1152921504606846976*aI->((1*z3+0)+0)-1152921504606846976*aI<1152921504606846976->
 ∀z9:Int,0<=z9->z9<=15->0<=((1*z3+0)+0)-1152921504606846976*z9->((1*z3+0)+0)-1152921504606846976*z9<1152921504606846976->
 ∀aP:Int,0<=aP->aP<=15->0<=((16*z4+0)+0)-18446744073709551616*aP->((16*z4+0)+0)-18446744073709551616*aP<18446744073709551616->
 ∀aG:Int,0<=aG->aG<=15->0<=((1*z4+0)+0)-1152921504606846976*aG->((1*z4+0)+0)-1152921504606846976*aG<1152921504606846976->
 ∀z12:Int,0<=z12->z12<=15->0<=((16*z5+0)+0)-18446744073709551616*z12->((16*z5+0)+0)-18446744073709551616*z12<18446744073709551616->
 ∀ai:Int,0<=ai->ai<=15->0<=((1*z5+0)+0)-1152921504606846976*ai->((1*z5+0)+0)-1152921504606846976*ai<1152921504606846976->
 ∀aq:Int,0<=aq->aq<=15->0<=((16*a7+0)+0)-18446744073709551616*aq->((16*a7+0)+0)-18446744073709551616*aq<18446744073709551616->
 ∀aF:Int,0<=aF->aF<=15->0<=((1*a7+0)+0)-1152921504606846976*aF->((1*a7+0)+0)-1152921504606846976*aF<1152921504606846976->
 ∀aO:Int,0<=aO->aO<=15->0<=((16*aJ+0)+0)-18446744073709551616*aO->((16*aJ+0)+0)-18446744073709551616*aO<18446744073709551616->
 ∀aH:Int,0<=aH->aH<=15->0<=((1*aJ+0)+0)-1152921504606846976*aH->((1*aJ+0)+0)-1152921504606846976*aH<1152921504606846976->
 ∀aR:Int,0<=aR->aR<=6346243789798364140->0<=((101539900636773826256*z4+(6346243789798364141*z9+((-117067535019779019119668879883403001856)*aP+0)))+0)-18446744073709551616*aR->((101539900636773826256*z4+(6346243789798364141*z9+((-117067535019779019119668879883403001856)*aP+0)))+0)-18446744073709551616*aR<18446744073709551616->
 ∀aS:Int,0<=aS->aS<=6346243789798364140->0<=((101539900636773826256*z5+(6346243789798364141*aG+((-117067535019779019119668879883403001856)*z12+0)))+0)-18446744073709551616*aS->((101539900636773826256*z5+(6346243789798364141*aG+((-117067535019779019119668879883403001856)*z12+0)))+0)-18446744073709551616*aS<18446744073709551616->
 ∀z20:Int,0<=z20->z20<=1->0<=((101539900636773826256*z5+(6346243789798364141*aG+((-117067535019779019119668879883403001856)*z12+(1*aR+((-18446744073709551616)*aS+0)))))+0)-18446744073709551616*z20->((101539900636773826256*z5+(6346243789798364141*aG+((-117067535019779019119668879883403001856)*z12+(1*aR+((-18446744073709551616)*aS+0)))))+0)-18446744073709551616*z20<18446744073709551616->
 ∀z21:Int,0<=z21->z21<=6346243789798364140->0<=((101539900636773826256*a7+(6346243789798364141*ai+((-117067535019779019119668879883403001856)*aq+0)))+0)-18446744073709551616*z21->((101539900636773826256*a7+(6346243789798364141*ai+((-117067535019779019119668879883403001856)*aq+0)))+0)-18446744073709551616*z21<18446744073709551616->
 ∀z22:Int,0<=z22->z22<=1->0<=((101539900636773826256*a7+(6346243789798364141*ai+((-117067535019779019119668879883403001856)*aq+(1*aS+(1*z20+((-18446744073709551616)*z21+0))))))+0)-18446744073709551616*z22->((101539900636773826256*a7+(6346243789798364141*ai+((-117067535019779019119668879883403001856)*aq+(1*aS+(1*z20+((-18446744073709551616)*z21+0))))))+0)-18446744073709551616*z22<18446744073709551616->
 ∀aY:Int,0<=aY->aY<=6346243789798364140->0<=((101539900636773826256*aJ+(6346243789798364141*aF+((-117067535019779019119668879883403001856)*aO+0)))+0)-18446744073709551616*aY->((101539900636773826256*aJ+(6346243789798364141*aF+((-117067535019779019119668879883403001856)*aO+0)))+0)-18446744073709551616*aY<18446744073709551616->
 ∀z24:Int,0<=z24->z24<=1->0<=((101539900636773826256*aJ+(6346243789798364141*aF+((-117067535019779019119668879883403001856)*aO+(1*z21+(1*z22+((-18446744073709551616)*aY+0))))))+0)-18446744073709551616*z24->((101539900636773826256*aJ+(6346243789798364141*aF+((-117067535019779019119668879883403001856)*aO+(1*z21+(1*z22+((-18446744073709551616)*aY+0))))))+0)-18446744073709551616*z24<18446744073709551616->
 ∀bh:Int,0<=bh->bh<=5->0<=((6346243789798364141*aH+0)+0)-18446744073709551616*bh->((6346243789798364141*aH+0)+0)-18446744073709551616*bh<18446744073709551616->
 ∀z26:Int,0<=z26->z26<=1->0<=((6346243789798364141*aH+(1*aY+(1*z24+((-18446744073709551616)*bh+0))))+0)-18446744073709551616*z26->((6346243789798364141*aH+(1*aY+(1*z24+((-18446744073709551616)*bh+0))))+0)-18446744073709551616*z26<18446744073709551616->
 ∀bo:Int,0<=bo->bo<=1503914060200516821->0<=((24062624963208269152*z4+(1503914060200516822*z9+((-27742317777372353529505694001085284352)*aP+0)))+0)-18446744073709551616*bo->((24062624963208269152*z4+(1503914060200516822*z9+((-27742317777372353529505694001085284352)*aP+0)))+0)-18446744073709551616*bo<18446744073709551616->
 ∀z28:Int,0<=z28->z28<=1->0<=((24062624963208269152*z4+(101539900636773826256*z5+(1503914060200516822*z9+((-27742317777372353529505694001085284352)*aP+(6346243789798364141*aG+((-117067535019779019119668879883403001856)*z12+(1*aR+((-18446744073709551616)*aS+((-18446744073709551616)*z20+((-18446744073709551616)*bo+0))))))))))+0)-18446744073709551616*z28->((24062624963208269152*z4+(101539900636773826256*z5+(1503914060200516822*z9+((-27742317777372353529505694001085284352)*aP+(6346243789798364141*aG+((-117067535019779019119668879883403001856)*z12+(1*aR+((-18446744073709551616)*aS+((-18446744073709551616)*z20+((-18446744073709551616)*bo+0))))))))))+0)-18446744073709551616*z28<18446744073709551616->
 ∀bu:Int,0<=bu->bu<=1503914060200516821->0<=((24062624963208269152*z5+(1503914060200516822*aG+((-27742317777372353529505694001085284352)*z12+0)))+0)-18446744073709551616*bu->((24062624963208269152*z5+(1503914060200516822*aG+((-27742317777372353529505694001085284352)*z12+0)))+0)-18446744073709551616*bu<18446744073709551616->
 ∀bt:Int,0<=bt->bt<=1->0<=((24062624963208269152*z5+(101539900636773826256*a7+(1503914060200516822*aG+((-27742317777372353529505694001085284352)*z12+(6346243789798364141*ai+((-117067535019779019119668879883403001856)*aq+(1*aS+(1*z20+((-18446744073709551616)*z21+((-18446744073709551616)*z22+((-18446744073709551616)*bu+0)))))))))))+0)-18446744073709551616*bt->((24062624963208269152*z5+(101539900636773826256*a7+(1503914060200516822*aG+((-27742317777372353529505694001085284352)*z12+(6346243789798364141*ai+((-117067535019779019119668879883403001856)*aq+(1*aS+(1*z20+((-18446744073709551616)*z21+((-18446744073709551616)*z22+((-18446744073709551616)*bu+0)))))))))))+0)-18446744073709551616*bt<18446744073709551616->
 ∀z31:Int,0<=z31->z31<=1->0<=((24062624963208269152*z5+(101539900636773826256*a7+(1503914060200516822*aG+((-27742317777372353529505694001085284352)*z12+(6346243789798364141*ai+((-117067535019779019119668879883403001856)*aq+(1*aS+(1*z20+((-18446744073709551616)*z21+((-18446744073709551616)*z22+(1*bo+(1*z28+((-18446744073709551616)*bu+((-18446744073709551616)*bt+0))))))))))))))+0)-18446744073709551616*z31->((24062624963208269152*z5+(101539900636773826256*a7+(1503914060200516822*aG+((-27742317777372353529505694001085284352)*z12+(6346243789798364141*ai+((-117067535019779019119668879883403001856)*aq+(1*aS+(1*z20+((-18446744073709551616)*z21+((-18446744073709551616)*z22+(1*bo+(1*z28+((-18446744073709551616)*bu+((-18446744073709551616)*bt+0))))))))))))))+0)-18446744073709551616*z31<18446744073709551616->
 ∀aL:Int,0<=aL->aL<=1503914060200516821->0<=((24062624963208269152*a7+(1503914060200516822*ai+((-27742317777372353529505694001085284352)*aq+0)))+0)-18446744073709551616*aL->((24062624963208269152*a7+(1503914060200516822*ai+((-27742317777372353529505694001085284352)*aq+0)))+0)-18446744073709551616*aL<18446744073709551616->
 ∀a8:Int,0<=a8->a8<=1->0<=((24062624963208269152*a7+(101539900636773826256*aJ+(1503914060200516822*ai+((-27742317777372353529505694001085284352)*aq+(6346243789798364141*aF+((-117067535019779019119668879883403001856)*aO+(1*z21+(1*z22+((-18446744073709551616)*aY+((-18446744073709551616)*z24+((-18446744073709551616)*aL+0)))))))))))+0)-18446744073709551616*a8->((24062624963208269152*a7+(101539900636773826256*aJ+(1503914060200516822*ai+((-27742317777372353529505694001085284352)*aq+(6346243789798364141*aF+((-117067535019779019119668879883403001856)*aO+(1*z21+(1*z22+((-18446744073709551616)*aY+((-18446744073709551616)*z24+((-18446744073709551616)*aL+0)))))))))))+0)-18446744073709551616*a8<18446744073709551616->
 ∀bn:Int,0<=bn->bn<=1->0<=((24062624963208269152*a7+(101539900636773826256*aJ+(1503914060200516822*ai+((-27742317777372353529505694001085284352)*aq+(6346243789798364141*aF+((-117067535019779019119668879883403001856)*aO+(1*z21+(1*z22+((-18446744073709551616)*aY+((-18446744073709551616)*z24+(1*bu+(1*bt+(1*z31+((-18446744073709551616)*aL+((-18446744073709551616)*a8+0)))))))))))))))+0)-18446744073709551616*bn->((24062624963208269152*a7+(101539900636773826256*aJ+(1503914060200516822*ai+((-27742317777372353529505694001085284352)*aq+(6346243789798364141*aF+((-117067535019779019119668879883403001856)*aO+(1*z21+(1*z22+((-18446744073709551616)*aY+((-18446744073709551616)*z24+(1*bu+(1*bt+(1*z31+((-18446744073709551616)*aL+((-18446744073709551616)*a8+0)))))))))))))))+0)-18446744073709551616*bn<18446744073709551616->
 ∀bg:Int,0<=bg->bg<=1503914060200516821->0<=((24062624963208269152*aJ+(1503914060200516822*aF+((-27742317777372353529505694001085284352)*aO+0)))+0)-18446744073709551616*bg->((24062624963208269152*aJ+(1503914060200516822*aF+((-27742317777372353529505694001085284352)*aO+0)))+0)-18446744073709551616*bg<18446744073709551616->
 ∀bB:Int,0<=bB->bB<=1->0<=((24062624963208269152*aJ+(1503914060200516822*aF+((-27742317777372353529505694001085284352)*aO+(6346243789798364141*aH+(1*aY+(1*z24+((-18446744073709551616)*bh+((-18446744073709551616)*z26+((-18446744073709551616)*bg+0)))))))))+0)-18446744073709551616*bB->((24062624963208269152*aJ+(1503914060200516822*aF+((-27742317777372353529505694001085284352)*aO+(6346243789798364141*aH+(1*aY+(1*z24+((-18446744073709551616)*bh+((-18446744073709551616)*z26+((-18446744073709551616)*bg+0)))))))))+0)-18446744073709551616*bB<18446744073709551616->
 ∀z37:Int,0<=z37->z37<=1->0<=((24062624963208269152*aJ+(1503914060200516822*aF+((-27742317777372353529505694001085284352)*aO+(6346243789798364141*aH+(1*aY+(1*z24+((-18446744073709551616)*bh+((-18446744073709551616)*z26+(1*aL+(1*a8+(1*bn+((-18446744073709551616)*bg+((-18446744073709551616)*bB+0)))))))))))))+0)-18446744073709551616*z37->((24062624963208269152*aJ+(1503914060200516822*aF+((-27742317777372353529505694001085284352)*aO+(6346243789798364141*aH+(1*aY+(1*z24+((-18446744073709551616)*bh+((-18446744073709551616)*z26+(1*aL+(1*a8+(1*bn+((-18446744073709551616)*bg+((-18446744073709551616)*bB+0)))))))))))))+0)-18446744073709551616*z37<18446744073709551616->
 ∀bP:Int,0<=bP->bP<=1->0<=((1503914060200516822*aH+0)+0)-18446744073709551616*bP->((1503914060200516822*aH+0)+0)-18446744073709551616*bP<18446744073709551616->
 ∀bI:Int,0<=bI->bI<=1->0<=((1503914060200516822*aH+(1*bh+(1*z26+((-18446744073709551616)*bP+0))))+0)-18446744073709551616*bI->((1503914060200516822*aH+(1*bh+(1*z26+((-18446744073709551616)*bP+0))))+0)-18446744073709551616*bI<18446744073709551616->
 ∀z40:Int,0<=z40->z40<=1->0<=((1503914060200516822*aH+(1*bh+(1*z26+(1*bg+(1*bB+(1*z37+((-18446744073709551616)*bP+((-18446744073709551616)*bI+0))))))))+0)-18446744073709551616*z40->((1503914060200516822*aH+(1*bh+(1*z26+(1*bg+(1*bB+(1*z37+((-18446744073709551616)*bP+((-18446744073709551616)*bI+0))))))))+0)-18446744073709551616*z40<18446744073709551616->
 ((
  ((
   K [z0,aB,z2,z3,z4,z5,a7,aJ] [((1*z0+0)+0),((1*aB+0)+0),((1*z2+0)+0),((1*z3+((-1152921504606846976)*aI+0))+0),((101539900636773826256*z4+(6346243789798364141*z9+((-117067535019779019119668879883403001856)*aP+((-18446744073709551616)*aR+0))))+0),((24062624963208269152*z4+(101539900636773826256*z5+(1503914060200516822*z9+((-27742317777372353529505694001085284352)*aP+(6346243789798364141*aG+((-117067535019779019119668879883403001856)*z12+(1*aR+((-18446744073709551616)*aS+((-18446744073709551616)*z20+((-18446744073709551616)*bo+((-18446744073709551616)*z28+0)))))))))))+0),((24062624963208269152*z5+(101539900636773826256*a7+(1503914060200516822*aG+((-27742317777372353529505694001085284352)*z12+(6346243789798364141*ai+((-117067535019779019119668879883403001856)*aq+(1*aS+(1*z20+((-18446744073709551616)*z21+((-18446744073709551616)*z22+(1*bo+(1*z28+((-18446744073709551616)*bu+((-18446744073709551616)*bt+((-18446744073709551616)*z31+0)))))))))))))))+0),((24062624963208269152*a7+(101539900636773826256*aJ+(1503914060200516822*ai+((-27742317777372353529505694001085284352)*aq+(6346243789798364141*aF+((-117067535019779019119668879883403001856)*aO+(1*z21+(1*z22+((-18446744073709551616)*aY+((-18446744073709551616)*z24+(1*bu+(1*bt+(1*z31+((-18446744073709551616)*aL+((-18446744073709551616)*a8+((-18446744073709551616)*bn+0))))))))))))))))+0),((24062624963208269152*aJ+(1503914060200516822*aF+((-27742317777372353529505694001085284352)*aO+(6346243789798364141*aH+(1*aY+(1*z24+((-18446744073709551616)*bh+((-18446744073709551616)*z26+(1*aL+(1*a8+(1*bn+((-18446744073709551616)*bg+((-18446744073709551616)*bB+((-18446744073709551616)*z37+0))))))))))))))+0),((1503914060200516822*aH+(1*bh+(1*z26+(1*bg+(1*bB+(1*z37+((-18446744073709551616)*bP+((-18446744073709551616)*bI+((-18446744073709551616)*z40+0)))))))))+0),((1*bP+(1*bI+(1*z40+0)))+0),(0+0)]
  )/\(
   K [z0,aB,z2,z3,z4,z5,a7,aJ] [((1*z0+0)+0),((1*aB+0)+0),((1*z2+0)+0),((1*z3+((-1152921504606846976)*aI+0))+0),((101539900636773826256*z4+(6346243789798364141*z9+((-117067535019779019119668879883403001856)*aP+((-18446744073709551616)*aR+0))))+0),((24062624963208269152*z4+(101539900636773826256*z5+(1503914060200516822*z9+((-27742317777372353529505694001085284352)*aP+(6346243789798364141*aG+((-117067535019779019119668879883403001856)*z12+(1*aR+((-18446744073709551616)*aS+((-18446744073709551616)*z20+((-18446744073709551616)*bo+((-18446744073709551616)*z28+0)))))))))))+0),((24062624963208269152*z5+(101539900636773826256*a7+(1503914060200516822*aG+((-27742317777372353529505694001085284352)*z12+(6346243789798364141*ai+((-117067535019779019119668879883403001856)*aq+(1*aS+(1*z20+((-18446744073709551616)*z21+((-18446744073709551616)*z22+(1*bo+(1*z28+((-18446744073709551616)*bu+((-18446744073709551616)*bt+((-18446744073709551616)*z31+0)))))))))))))))+0),((24062624963208269152*a7+(101539900636773826256*aJ+(1503914060200516822*ai+((-27742317777372353529505694001085284352)*aq+(6346243789798364141*aF+((-117067535019779019119668879883403001856)*aO+(1*z21+(1*z22+((-18446744073709551616)*aY+((-18446744073709551616)*z24+(1*bu+(1*bt+(1*z31+((-18446744073709551616)*aL+((-18446744073709551616)*a8+((-18446744073709551616)*bn+0))))))))))))))))+0),((24062624963208269152*aJ+(1503914060200516822*aF+((-27742317777372353529505694001085284352)*aO+(6346243789798364141*aH+(1*aY+(1*z24+((-18446744073709551616)*bh+((-18446744073709551616)*z26+(1*aL+(1*a8+(1*bn+((-18446744073709551616)*bg+((-18446744073709551616)*bB+((-18446744073709551616)*z37+0))))))))))))))+0),((1503914060200516822*aH+(1*bh+(1*z26+(1*bg+(1*bB+(1*z37+((-18446744073709551616)*bP+((-18446744073709551616)*bI+((-18446744073709551616)*z40+0)))))))))+0),((1*bP+(1*bI+(1*z40+0)))+0),(0+0)]
  ))
 )/\(
  K [z0,aB,z2,z3,z4,z5,a7,aJ] [((1*z0+0)+0),((1*aB+0)+0),((1*z2+0)+0),((1*z3+((-1152921504606846976)*aI+0))+0),((101539900636773826256*z4+(6346243789798364141*z9+((-117067535019779019119668879883403001856)*aP+((-18446744073709551616)*aR+0))))+0),((24062624963208269152*z4+(101539900636773826256*z5+(1503914060200516822*z9+((-27742317777372353529505694001085284352)*aP+(6346243789798364141*aG+((-117067535019779019119668879883403001856)*z12+(1*aR+((-18446744073709551616)*aS+((-18446744073709551616)*z20+((-18446744073709551616)*bo+((-18446744073709551616)*z28+0)))))))))))+0),((24062624963208269152*z5+(101539900636773826256*a7+(1503914060200516822*aG+((-27742317777372353529505694001085284352)*z12+(6346243789798364141*ai+((-117067535019779019119668879883403001856)*aq+(1*aS+(1*z20+((-18446744073709551616)*z21+((-18446744073709551616)*z22+(1*bo+(1*z28+((-18446744073709551616)*bu+((-18446744073709551616)*bt+((-18446744073709551616)*z31+0)))))))))))))))+0),((24062624963208269152*a7+(101539900636773826256*aJ+(1503914060200516822*ai+((-27742317777372353529505694001085284352)*aq+(6346243789798364141*aF+((-117067535019779019119668879883403001856)*aO+(1*z21+(1*z22+((-18446744073709551616)*aY+((-18446744073709551616)*z24+(1*bu+(1*bt+(1*z31+((-18446744073709551616)*aL+((-18446744073709551616)*a8+((-18446744073709551616)*bn+0))))))))))))))))+0),((24062624963208269152*aJ+(1503914060200516822*aF+((-27742317777372353529505694001085284352)*aO+(6346243789798364141*aH+(1*aY+(1*z24+((-18446744073709551616)*bh+((-18446744073709551616)*z26+(1*aL+(1*a8+(1*bn+((-18446744073709551616)*bg+((-18446744073709551616)*bB+((-18446744073709551616)*z37+0))))))))))))))+0),((1503914060200516822*aH+(1*bh+(1*z26+(1*bg+(1*bB+(1*z37+((-18446744073709551616)*bP+((-18446744073709551616)*bI+((-18446744073709551616)*z40+0)))))))))+0),((1*bP+(1*bI+(1*z40+0)))+0),(0+0)]
 ))
theorem aua:Td cB λzs rs=>af (bk BX.res) rs/\cB 35 zs rs:=by
 unfold Td
 simp only[wI,wH,A8]
 intro z0 tk uO aB l1 qD z2 l2 sQ z3 qx A0 z4 B8 JA z5 xx Rn a7 afM Ro aJ Gs Rp aI jP u8 sV sX z9 jQ kB a9 eZ aP kW ku o8 oe aG jO kv dQ dU z12 kX kx a12 fL ai kY ky h9 ik aq kZ kz fJ fM aF j0 kA dR ef aO k0 u16 pL pM aH k5 mB ej en aR k6 mC eC eH aS k7 lz ia il z20 k8 mD a20 dV z21 k9 mE a21 eg z22 la mF a22 hq aY lb lA dC dG z24 ld lB a24 eh bh lf lC ek ei z26 lS lD a26 eo bo lg mG ib im z28 lh lE a28 eE bu lj lF ev ew bt lk lG eD ey z31 lT lH a31 eQ aL ll u32 dD ht a8 ke lI dv dx bn ln lJ dE dH bg jD lK dF dI bB lU lL dS dW z37 lp lM a37 gO bP lq mH dw dy bI lr mI dT dX z40 lu mJ a40 iq
 have Fx:aI=z9:=G2 (by decide) sV sX a9 eZ
 have Dn:aP=aG:=Re o8 oe dQ dU
 have Dp:z12=ai:=Re a12 fL h9 ik
 have yF:aq=aF:=Re fJ fM dR ef
 have xf:aO=aH:=Re pL pM ej en
 subst Fx;subst Dn;subst Dp;subst yF;subst xf
 refine⟨⟨?_,?_⟩,?_⟩<;>
 ·simp only[BX,bk,b4,xV,D.bds,au,mY,gp,gZ,af,and_true,cB,uK,num,o4,qN,tz,qe]
  have ah:(z0+18446744073709551616*(aB+18446744073709551616*(z2+18446744073709551616*(z3+18446744073709551616*(z4+18446744073709551616*(z5+18446744073709551616*(a7+18446744073709551616*(aJ+18446744073709551616*0))))))))/7237005577332262213973186563042994240829374041602535252466099000494570602496=aI+16*(z4+18446744073709551616*(z5+18446744073709551616*(a7+18446744073709551616*aJ))):=by
   clear eC eH ia il a20 dV a21 eg a22 hq dC dG a24 eh ek ei a26 eo ib im a28 eE ev ew eD ey a31 eQ dD ht dv dx dE dH dF dI dS dW a37 gO dw dy dT dX a40 iq
   omega
  refine⟨⟨tk,uO,l1,qD,l2,sQ,by clear ah dQ dU h9 ik dR ef ej en eC eH ia il a20 dV a21 eg a22 hq dC dG a24 eh ek ei a26 eo ib im a28 eE ev ew eD ey a31 eQ dD ht dv dx dE dH dF dI dS dW a37 gO dw dy dT dX a40 iq;omega,by clear ah dQ dU h9 ik dR ef ej en eC eH ia il a20 dV a21 eg a22 hq dC dG a24 eh ek ei a26 eo ib im a28 eE ev ew eD ey a31 eQ dD ht dv dx dE dH dF dI dS dW a37 gO dw dy dT dX a40 iq;omega,by clear ah a9 eZ dQ dU h9 ik dR ef ej en ia il a20 dV a21 eg a22 hq dC dG a24 eh ek ei a26 eo ib im a28 eE ev ew eD ey a31 eQ dD ht dv dx dE dH dF dI dS dW a37 gO dw dy dT dX a40 iq;omega,by clear ah a9 eZ dQ dU h9 ik dR ef ej en ia il a20 dV a21 eg a22 hq dC dG a24 eh ek ei a26 eo ib im a28 eE ev ew eD ey a31 eQ dD ht dv dx dE dH dF dI dS dW a37 gO dw dy dT dX a40 iq;omega,by clear ah a9 eZ dQ dU h9 ik dR ef ej en eC eH ia il a20 dV a21 eg a22 hq dC dG a24 eh ek ei a26 eo ib im ev ew eD ey a31 eQ dD ht dv dx dE dH dF dI dS dW a37 gO dw dy dT dX a40 iq;omega,by clear ah a9 eZ dQ dU h9 ik dR ef ej en eC eH ia il a20 dV a21 eg a22 hq dC dG a24 eh ek ei a26 eo ib im ev ew eD ey a31 eQ dD ht dv dx dE dH dF dI dS dW a37 gO dw dy dT dX a40 iq;omega,by clear ah a9 eZ dQ dU h9 ik dR ef ej en eC eH ia il a20 dV a21 eg a22 hq dC dG a24 eh ek ei a26 eo ib im a28 eE ev ew eD ey dD ht dv dx dE dH dF dI dS dW a37 gO dw dy dT dX a40 iq;omega,by clear ah a9 eZ dQ dU h9 ik dR ef ej en eC eH ia il a20 dV a21 eg a22 hq dC dG a24 eh ek ei a26 eo ib im a28 eE ev ew eD ey dD ht dv dx dE dH dF dI dS dW a37 gO dw dy dT dX a40 iq;omega,by clear ah a9 eZ dQ dU h9 ik dR ef ej en eC eH ia il a20 dV a21 eg a22 hq dC dG a24 eh ek ei a26 eo ib im a28 eE ev ew eD ey a31 eQ dD ht dv dx dF dI dS dW a37 gO dw dy dT dX a40 iq;omega,by clear ah a9 eZ dQ dU h9 ik dR ef ej en eC eH ia il a20 dV a21 eg a22 hq dC dG a24 eh ek ei a26 eo ib im a28 eE ev ew eD ey a31 eQ dD ht dv dx dF dI dS dW a37 gO dw dy dT dX a40 iq;omega,by clear ah a9 eZ dQ dU h9 ik dR ef ej en eC eH ia il a20 dV a21 eg a22 hq dC dG a24 eh ek ei a26 eo ib im a28 eE ev ew eD ey a31 eQ dD ht dv dx dE dH dF dI dS dW dw dy dT dX a40 iq;omega,by clear ah a9 eZ dQ dU h9 ik dR ef ej en eC eH ia il a20 dV a21 eg a22 hq dC dG a24 eh ek ei a26 eo ib im a28 eE ev ew eD ey a31 eQ dD ht dv dx dE dH dF dI dS dW dw dy dT dX a40 iq;omega,by clear ah a9 eZ dQ dU h9 ik dR ef ej en eC eH ia il a20 dV a21 eg a22 hq dC dG a24 eh ek ei a26 eo ib im a28 eE ev ew eD ey a31 eQ dD ht dv dx dE dH dF dI dS dW a37 gO dw dy dT dX;omega,by clear ah a9 eZ dQ dU h9 ik dR ef ej en eC eH ia il a20 dV a21 eg a22 hq dC dG a24 eh ek ei a26 eo ib im a28 eE ev ew eD ey a31 eQ dD ht dv dx dE dH dF dI dS dW a37 gO dw dy dT dX;omega,by clear ah a9 eZ dQ dU h9 ik dR ef ej en eC eH ia il a20 dV a21 eg a22 hq dC dG a24 eh ek ei a26 eo ib im a28 eE ev ew eD ey a31 eQ dD ht dv dx dE dH dF dI dS dW a37 gO dw dy dT dX a40 iq;omega,by clear ah a9 eZ dQ dU h9 ik dR ef ej en eC eH ia il a20 dV a21 eg a22 hq dC dG a24 eh ek ei a26 eo ib im a28 eE ev ew eD ey a31 eQ dD ht dv dx dE dH dF dI dS dW a37 gO dw dy dT dX a40 iq;omega,by decide,by decide⟩,?_,?_⟩
  ·rw[Int.emod_def,ah]
   clear ah a9 eZ dQ dU h9 ik dR ef ej en eC eH ia il a20 dV a21 eg a22 hq dC dG a24 eh ek ei a26 eo ib im a28 eE ev ew eD ey a31 eQ dD ht dv dx dE dH dF dI dS dW a37 gO dw dy dT dX a40 iq
   omega
  ·rw[ah]
   clear ah a9 eZ dQ dU h9 ik dR ef ej en eC eH ia il a20 dV a21 eg a22 hq dC dG a24 eh ek ei a26 eo ib im a28 eE ev ew eD ey a31 eQ dD ht dv dx dE dH dF dI dS dW a37 gO dw dy dT dX a40 iq
   omega
def Te (S:Nat->List Int->List Int->Prop) (K:List Int->List Int->Prop):Prop:=
 ∀z0:Int,0<=z0->z0<=18446744073709551615->
 ∀aB:Int,0<=aB->aB<=18446744073709551615->
 ∀z2:Int,0<=z2->z2<=18446744073709551615->
 ∀z3:Int,0<=z3->z3<=18446744073709551615->
 ∀z4:Int,0<=z4->z4<=18446744073709551615->∀z5:Int,0<=z5->z5<=18446744073709551615->∀a7:Int,0<=a7->a7<=18446744073709551615->∀aJ:Int,0<=aJ->aJ<=18446744073709551615->S 23 [((1*z0+0)+0),((1*aB+0)+0),((1*z2+0)+0),((1*z3+0)+0),(0+0),(0+0),(0+0),(0+0)] [z4,z5,a7,aJ]->
 K [z0,aB,z2,z3] [((1*z4+0)+0),((1*z5+0)+0),((1*a7+0)+0),((1*aJ+0)+0)]
theorem aui:Te cB λzs rs=>af (bk B3.res) rs/\cB 25 zs rs:=by
 unfold Te
 simp(maxSteps:=4000000) only[wI,wH,A8]
 intro z0 a0 fK aB b2 b8 z2 a2 b9 z3 a3 de z4 a4 oH z5 a5 oI a7 sA sB aJ sU sW aT
 simp(maxSteps:=2000000) only[cB,tY,xK,xL,sa,sb,tX,xO,uK,xJ,zd,ua,xN,tZ,xM,v8,zc,wa,wc,xP,we,o4,qN,tz,qe,jH,kS]at aT
 rw[asz]at aT
 refine⟨?_,?_⟩
 ·simp only[B3,bk,b4,D.bds,au,mY,gp,gZ,af,and_true]
  exact⟨a4,oH,a5,oI,sA,sB,sU,sW⟩
 ·exact aT
def Tn (S:Nat->List Int->List Int->Prop) (K:List Int->List Int->Prop):Prop:=
 ∀z0:Int,0<=z0->z0<=18446744073709551615->
 ∀aB:Int,0<=aB->aB<=18446744073709551615->
 ∀z2:Int,0<=z2->z2<=18446744073709551615->
 ∀z3:Int,0<=z3->z3<=18446744073709551615->
 ∀z4:Int,0<=z4->z4<=18446744073709551615->
 ∀z5:Int,0<=z5->z5<=18446744073709551615->
 ∀a7:Int,0<=a7->a7<=18446744073709551615->
 ∀aJ:Int,0<=aJ->aJ<=18446744073709551615->
 ∀aI:Int,0<=aI->aI<=18446744073709551615->∀z9:Int,0<=z9->z9<=18446744073709551615->∀aP:Int,0<=aP->aP<=18446744073709551615->∀aG:Int,0<=aG->aG<=18446744073709551615->∀z12:Int,0<=z12->z12<=18446744073709551615->∀ai:Int,0<=ai->ai<=18446744073709551615->∀aq:Int,0<=aq->aq<=18446744073709551615->∀aF:Int,0<=aF->aF<=18446744073709551615->∀aO:Int,0<=aO->aO<=18446744073709551615->∀aH:Int,0<=aH->aH<=18446744073709551615->∀aR:Int,0<=aR->aR<=18446744073709551615->∀aS:Int,0<=aS->aS<=18446744073709551615->S 35 [((1*z0+0)+0),((1*aB+0)+0),((1*z2+0)+0),((1*z3+0)+0),((1*z4+0)+0),((1*z5+0)+0),((1*a7+0)+0),((1*aJ+0)+0)] [aI,z9,aP,aG,z12,ai,aq,aF,aO,aH,aR,aS]->
 ∀z20:Int,0<=z20->z20<=18446744073709551615->∀z21:Int,0<=z21->z21<=18446744073709551615->∀z22:Int,0<=z22->z22<=18446744073709551615->∀aY:Int,0<=aY->aY<=18446744073709551615->∀z24:Int,0<=z24->z24<=1->S 24 [(0+0),(0+0),(0+0),(0+0),((1*aI+0)+0),((1*z9+0)+0),((1*aP+0)+0),((1*aG+0)+0)] [z20,z21,z22,aY,z24]->
 ∀bh:Int,0<=bh->bh<=18446744073709551615->∀z26:Int,0<=z26->z26<=18446744073709551615->∀bo:Int,0<=bo->bo<=18446744073709551615->∀z28:Int,0<=z28->z28<=18446744073709551615->∀bu:Int,0<=bu->bu<=18446744073709551615->∀bt:Int,0<=bt->bt<=18446744073709551615->∀z31:Int,0<=z31->z31<=18446744073709551615->∀aL:Int,0<=aL->aL<=18446744073709551615->∀a8:Int,0<=a8->a8<=18446744073709551615->∀bn:Int,0<=bn->bn<=18446744073709551615->∀bg:Int,0<=bg->bg<=18446744073709551615->∀bB:Int,0<=bB->bB<=18446744073709551615->S 35 [((1*z12+0)+0),((1*ai+0)+0),((1*aq+0)+0),((1*aF+0)+0),((1*aO+0)+0),((1*aH+0)+0),((1*aR+0)+0),((1*aS+0)+0)] [bh,z26,bo,z28,bu,bt,z31,aL,a8,bn,bg,bB]->
 ∀z37:Int,0<=z37->z37<=18446744073709551615->∀bP:Int,0<=bP->bP<=18446744073709551615->∀bI:Int,0<=bI->bI<=18446744073709551615->∀z40:Int,0<=z40->z40<=18446744073709551615->∀bY:Int,0<=bY->bY<=1->S 24 [((1*z20+0)+0),((1*z21+0)+0),((1*z22+0)+0),((1*aY+0)+0),(0+6346243789798364141),(0+1503914060200516822),(0+0),(0+1152921504606846976)] [z37,bP,bI,z40,bY]->
 ∀bT:Int,0<=bT->bT<=18446744073709551615->∀cf:Int,0<=cf->cf<=18446744073709551615->∀ct:Int,0<=ct->ct<=18446744073709551615->∀b7:Int,0<=b7->b7<=18446744073709551615->∀z46:Int,0<=z46->z46<=1->S 29 [((1*z37+0)+0),((1*bP+0)+0),((1*bI+0)+0),((1*z40+0)+0),((1*bh+0)+0),((1*z26+0)+0),((1*bo+0)+0),((1*z28+0)+0)] [bT,cf,ct,b7,z46]->
 ∀b6:Int,0<=b6->b6<=18446744073709551615->∀cd:Int,0<=cd->cd<=18446744073709551615->∀z49:Int,0<=z49->z49<=18446744073709551615->∀cm:Int,0<=cm->cm<=18446744073709551615->∀z51:Int,0<=z51->z51<=18446744073709551615->∀bX:Int,0<=bX->bX<=18446744073709551615->∀z53:Int,0<=z53->z53<=18446744073709551615->∀cn:Int,0<=cn->cn<=18446744073709551615->∀cv:Int,0<=cv->cv<=18446744073709551615->∀cA:Int,0<=cA->cA<=18446744073709551615->∀cp:Int,0<=cp->cp<=18446744073709551615->∀cx:Int,0<=cx->cx<=18446744073709551615->S 35 [((1*bu+0)+0),((1*bt+0)+0),((1*z31+0)+0),((1*aL+0)+0),((1*a8+0)+0),((1*bn+0)+0),((1*bg+0)+0),((1*bB+0)+0)] [b6,cd,z49,cm,z51,bX,z53,cn,cv,cA,cp,cx]->
 ∀z59:Int,0<=z59->z59<=18446744073709551615->∀cE:Int,0<=cE->cE<=18446744073709551615->∀cG:Int,0<=cG->cG<=18446744073709551615->∀cH:Int,0<=cH->cH<=18446744073709551615->∀cq:Int,0<=cq->cq<=1->S 24 [((1*bT+0)+0),((1*cf+0)+0),((1*ct+0)+0),((1*b7+0)+0),((1*b6+0)+0),((1*cd+0)+0),((1*z49+0)+0),((1*cm+0)+0)] [z59,cE,cG,cH,cq]->
 ∀cU:Int,0<=cU->cU<=18446744073709551615->∀c9:Int,0<=c9->c9<=18446744073709551615->∀c2:Int,0<=c2->c2<=18446744073709551615->∀cX:Int,0<=cX->cX<=18446744073709551615->∀dh:Int,0<=dh->dh<=18446744073709551615->∀cI:Int,0<=cI->cI<=18446744073709551615->∀z70:Int,0<=z70->z70<=18446744073709551615->∀dn:Int,0<=dn->dn<=18446744073709551615->∀z72:Int,0<=z72->z72<=18446744073709551615->∀cQ:Int,0<=cQ->cQ<=18446744073709551615->∀e1:Int,0<=e1->e1<=18446744073709551615->∀z75:Int,0<=z75->z75<=18446744073709551615->S 35 [((1*z51+0)+0),((1*bX+0)+0),((1*z53+0)+0),((1*cn+0)+0),((1*cv+0)+0),((1*cA+0)+0),((1*cp+0)+0),((1*cx+0)+0)] [cU,c9,c2,cX,dh,cI,z70,dn,z72,cQ,e1,z75]->
 ∀z76:Int,0<=z76->z76<=18446744073709551615->∀eK:Int,0<=eK->eK<=18446744073709551615->∀dA:Int,0<=dA->dA<=18446744073709551615->∀ee:Int,0<=ee->ee<=18446744073709551615->∀eF:Int,0<=eF->eF<=1->S 24 [((1*z59+0)+0),((1*cE+0)+0),((1*cG+0)+0),((1*cH+0)+0),(0+6346243789798364141),(0+1503914060200516822),(0+0),(0+1152921504606846976)] [z76,eK,dA,ee,eF]->
 ∀fH:Int,0<=fH->fH<=18446744073709551615->∀fk:Int,0<=fk->fk<=18446744073709551615->∀eV:Int,0<=eV->eV<=18446744073709551615->∀fI:Int,0<=fI->fI<=18446744073709551615->∀z85:Int,0<=z85->z85<=1->S 29 [((1*z76+0)+0),((1*eK+0)+0),((1*dA+0)+0),((1*ee+0)+0),((1*cU+0)+0),((1*c9+0)+0),((1*c2+0)+0),((1*cX+0)+0)] [fH,fk,eV,fI,z85]->
 ∃(SX:List Int->Prop) (ajt:List Int->Nat),SX [((1*fH+0)+0),((1*fk+0)+0),((1*eV+0)+0),((1*fI+0)+0)]/\(∀z87:Int,0<=z87->z87<=18446744073709551615->∀gh:Int,0<=gh->gh<=18446744073709551615->∀fl:Int,0<=fl->fl<=18446744073709551615->∀gY:Int,0<=gY->gY<=18446744073709551615->SX [z87,gh,fl,gY]->
  ∀z91:Int,0<=z91->z91<=18446744073709551615->∀fw:Int,0<=fw->fw<=18446744073709551615->∀z93:Int,0<=z93->z93<=18446744073709551615->∀gK:Int,0<=gK->gK<=18446744073709551615->∀iW:Int,0<=iW->iW<=1->S 29 [((1*z87+0)+0),((1*gh+0)+0),((1*fl+0)+0),((1*gY+0)+0),(0+6346243789798364141),(0+1503914060200516822),(0+0),(0+1152921504606846976)] [z91,fw,z93,gK,iW]->
  (((decide (((1*iW+0)+0)=(0+1)))=true->
   K [z0,aB,z2,z3,z4,z5,a7,aJ] [((1*z87+0)+0),((1*gh+0)+0),((1*fl+0)+0),((1*gY+0)+0)]
  )/\((decide (((1*iW+0)+0)=(0+1)))=false->
   (SX [((1*z91+0)+0),((1*fw+0)+0),((1*z93+0)+0),((1*gK+0)+0)]/\ajt [((1*z91+0)+0),((1*fw+0)+0),((1*z93+0)+0),((1*gK+0)+0)]<ajt [z87,gh,fl,gY])
  ))
 )
theorem auv:Tn cB λzs rs=>af (bk vz.res) rs/\cB 23 zs rs:=by
 unfold Tn
 simp(maxSteps:=4000000) only[wI,wH,A8]
 intro z0 a0 fK aB b2 b8 z2 a2 b9 z3 a3 de z4 a4 oH z5 a5 oI a7 sA sB aJ sU sW aI sV sX z9 a9 eZ aP o8 oe aG dQ dU z12 a12 fL ai h9 ik aq fJ fM aF dR ef aO pL pM aH ej en aR eC eH aS ia il aT z20 a20 dV z21 a21 eg z22 a22 hq aY dC dG z24 a24 eh s1 bh ek ei z26 a26 eo bo ib im z28 a28 eE bu ev ew bt eD ey z31 a31 eQ aL dD ht a8 dv dx bn dE dH bg dF dI bB dS dW s2 z37 a37 gO bP dw dy bI dT dX z40 a40 iq bY gi gj bS bT fR fS cf hh gP ct hj hA b7 u2 vc z46 a46 ir dg b6 gM gQ cd hk hB z49 a49 hC cm uj uk z51 a51 hD bX gN gR z53 a53 hS cn hP hT cv u3 vd cA ho hE cp ic iu cx u4 ve gz z59 a59 hG cE ie iv cG jk iY cH ig iw cq zR zY hM cU fp ix c9 ij iy c2 jl iZ cX iK iM dh zS zZ cI iL iN z70 a70 iO dn jz jm z72 a72 jn cQ yw vf e1 zT z1 z75 a75 yD ju z76 a76 vg eK wR w3 dA wS w4 ee wT w5 eF zU z6 ks fH wU w6 fk wV w7 eV wW w8 fI wX w9 z85 a85 z7 oy
 simp(maxSteps:=2000000) only[cB,tY,xK,xL,sa,sb,tX,xO,uK,xJ,zd,ua,xN,tZ,xM,v8,zc,wa,wc,xP,we,o4,qN,tz,qe,jH,kS]at aT s1 s2 bS dg gz hM ju ks oy
 simp only[Xo,asy]at*
 have agi:=r3 a20 dV a21 eg a22 hq dC dG
 have agj:=r3 a37 gO dw dy dT dX a40 iq
 have agk:=r3 fR fS hh gP hj hA u2 vc
 have agl:=r3 a59 hG ie iv jk iY ig iw
 have agm:=r3 a76 vg wR w3 wS w4 wT w5
 have agn:=r3 wU w6 wV w7 wW w8 wX w9
 have asn:=r3 sV sX a9 eZ o8 oe dQ dU
 have asi:=r3 ek ei a26 eo ib im a28 eE
 have asl:=r3 gM gQ hk hB a49 hC uj uk
 have asm:=r3 fp ix ij iy jl iZ iK iM
 have jt:=asx a0 fK b2 b8 a2 b9 a3 de a4 oH a5 oI sA sB sU sW
 obtain⟨f0,g0⟩:=aT
 obtain⟨f2,g2⟩:=s2
 obtain⟨f5,g5⟩:=gz
 obtain⟨f7,g7⟩:=ju
 refine⟨λl=>(bf l-bf [z0,aB,z2,z3,z4,z5,a7,aJ])% 7237005577332262213973186563042994240857116359379907606001950938285454250989=0,λl=>(bf l).toNat,?_,?_⟩
 ·show(bf _-bf _)% 7237005577332262213973186563042994240857116359379907606001950938285454250989=0
  clear a0 fK b2 b8 a2 b9 a3 de a4 oH a5 oI sA sB sU sW sV sX a9 eZ o8 oe dQ dU a12 fL h9 ik fJ fM dR ef pL pM ej en eC eH ia il a20 dV a21 eg a22 hq dC dG ek ei a26 eo ib im a28 eE ev ew eD ey a31 eQ dD ht dv dx dE dH dF dI dS dW a37 gO dw dy dT dX a40 iq fR fS hh gP hj hA u2 vc gM gQ hk hB a49 hC uj uk a51 hD gN gR a53 hS hP hT u3 vd ho hE ic iu u4 ve a59 hG ie iv jk iY ig iw fp ix ij iy jl iZ iK iM zS zZ iL iN a70 iO jz jm a72 jn yw vf zT z1 a75 yD a76 vg wR w3 wS w4 wT w5 wU w6 wV w7 wW w8 wX w9
  generalize bf [aI,z9,aP,aG]=aCn at*
  generalize bf [z20,z21,z22,aY]=aCc at*
  generalize bf [bh,z26,bo,z28]=aCd at*
  generalize bf [z37,bP,bI,z40]=aCf at*
  generalize bf [bT,cf,ct,b7]=aCg at*
  generalize bf [b6,cd,z49,cm]=aCh at*
  generalize bf [z59,cE,cG,cH]=aCj at*
  generalize bf [cU,c9,c2,cX]=aCk at*
  generalize bf [z76,eK,dA,ee]=aCm at*
  generalize bf [fH,fk,eV,fI]=aCo at*
  generalize bf [z0,aB,z2,z3,z4,z5,a7,aJ]=S9 at*
  generalize bf [z12,ai,aq,aF,aO,aH,aR,aS]=aB9 at*
  generalize bf [bu,bt,z31,aL,a8,bn,bg,bB]=aCe at*
  generalize bf [z51,bX,z53,cn,cv,cA,cp,cx]=aCi at*
  generalize bf [dh,cI,z70,dn,z72,cQ,e1,z75]=aCl at*
  exact av3 jt f0 g0 f2 g2 f5 g5 f7 g7 (by simpa using s1) bS dg hM ks oy a24 eh gi gj a46 ir zR zY zU z6 a85 z7 agi agj agk agl agm agn
 ·clear sV sX a9 eZ o8 oe dQ dU a12 fL h9 ik fJ fM dR ef pL pM ej en eC eH ia il a20 dV a21 eg a22 hq dC dG ek ei a26 eo ib im a28 eE ev ew eD ey a31 eQ dD ht dv dx dE dH dF dI dS dW a37 gO dw dy dT dX a40 iq fR fS hh gP hj hA u2 vc gM gQ hk hB a49 hC uj uk a51 hD gN gR a53 hS hP hT u3 vd ho hE ic iu u4 ve a59 hG ie iv jk iY ig iw fp ix ij iy jl iZ iK iM zS zZ iL iN a70 iO jz jm a72 jn yw vf zT z1 a75 yD a76 vg wR w3 wS w4 wT w5 wU w6 wV w7 wW w8 wX w9
  intro z87 a87 C3 gh CW C4 fl CX C5 gY CY C6 gU z91 a91 Fb fw E3 Fc z93 a93 Fe gK E4 Ff iW Hp Hv s
  simp(maxSteps:=2000000) only[cB,tY,xK,xL,sa,sb,tX,xO,uK,xJ,zd,ua,xN,tZ,xM,v8,zc,wa,wc,xP,we,o4,qN,tz,qe,jH,kS]at s
  simp only[Xo]at s
  have aGe:=r3 a87 C3 CW C4 CX C5 CY C6
  have aGf:=r3 a91 Fb E3 Fc a93 Fe E4 Ff
  clear s1 bS dg hM ks oy f0 g0 f2 g2 f5 g5 f7 g7 asn agi asi agj agk asl agl asm agm agn a0 fK b2 b8 a2 b9 a3 de a4 oH a5 oI sA sB sU sW
  refine⟨λh=>⟨?_,?_⟩,λh=>⟨?_,?_⟩⟩
  ·simp only[vz,bk,b4,D.bds,au,mY,gp,gZ,af,and_true]
   exact⟨a87,C3,CW,C4,CX,C5,CY,C6⟩
  ·simp only[decide_eq_true_eq]at h
   simp only[cB,tY,xK,xL,sa,sb,tX,xO,uK,xJ,zd,ua,xN,tZ,xM,v8,zc,wa,wc,xP,we]
   generalize bf [z87,gh,fl,gY]=aam at*
   generalize bf [z91,fw,z93,gK]=aan at*
   generalize bf [z0,aB,z2,z3,z4,z5,a7,aJ]=S9 at*
   subst h
   omega
  ·simp only[decide_eq_false_iff_not]at h
   generalize bf [z87,gh,fl,gY]=aam at*
   generalize bf [z91,fw,z93,gK]=aan at*
   generalize bf [z0,aB,z2,z3,z4,z5,a7,aJ]=S9 at*
   omega
  ·simp only[decide_eq_false_iff_not]at h
   show(bf _).toNat<(bf _).toNat
   generalize bf [z87,gh,fl,gY]=aam at*
   generalize bf [z91,fw,z93,gK]=aan at*
   generalize bf [z0,aB,z2,z3,z4,z5,a7,aJ]=S9 at*
   omega
def Tc (S:Nat->List Int->List Int->Prop) (K:List Int->List Int->Prop):Prop:=
 ∀z0:Int,0<=z0->z0<=255->
 ∀aB:Int,0<=aB->aB<=255->
 ∀z2:Int,0<=z2->z2<=255->
 ∀z3:Int,0<=z3->z3<=255->
 ∀z4:Int,0<=z4->z4<=255->
 ∀z5:Int,0<=z5->z5<=255->
 ∀a7:Int,0<=a7->a7<=255->
 ∀aJ:Int,0<=aJ->aJ<=255->
 ∀aI:Int,0<=aI->aI<=255->
 ∀z9:Int,0<=z9->z9<=255->
 ∀aP:Int,0<=aP->aP<=255->
 ∀aG:Int,0<=aG->aG<=255->
 ∀z12:Int,0<=z12->z12<=255->
 ∀ai:Int,0<=ai->ai<=255->
 ∀aq:Int,0<=aq->aq<=255->
 ∀aF:Int,0<=aF->aF<=255->
 ∀aO:Int,0<=aO->aO<=255->
 ∀aH:Int,0<=aH->aH<=255->
 ∀aR:Int,0<=aR->aR<=255->
 ∀aS:Int,0<=aS->aS<=255->
 ∀z20:Int,0<=z20->z20<=255->
 ∀z21:Int,0<=z21->z21<=255->
 ∀z22:Int,0<=z22->z22<=255->
 ∀aY:Int,0<=aY->aY<=255->
 ∀z24:Int,0<=z24->z24<=255->
 ∀bh:Int,0<=bh->bh<=255->
 ∀z26:Int,0<=z26->z26<=255->
 ∀bo:Int,0<=bo->bo<=255->
 ∀z28:Int,0<=z28->z28<=255->
 ∀bu:Int,0<=bu->bu<=255->
 ∀bt:Int,0<=bt->bt<=255->
 ∀z31:Int,0<=z31->z31<=255->
 ∀aL:Int,0<=aL->aL<=31->0<=((1*z0+0)+0)-8*aL->((1*z0+0)+0)-8*aL<8->
 ∀a8:Int,0<=a8->a8<=3->0<=((1*z31+0)+0)-64*a8->((1*z31+0)+0)-64*a8<64->
 K [z0,aB,z2,z3,z4,z5,a7,aJ,aI,z9,aP,aG,z12,ai,aq,aF,aO,aH,aR,aS,z20,z21,z22,aY,z24,bh,z26,bo,z28,bu,bt,z31] [((8*aL+0)+0),((1*aB+0)+0),((1*z2+0)+0),((1*z3+0)+0),((1*z4+0)+0),((1*z5+0)+0),((1*a7+0)+0),((1*aJ+0)+0),((1*aI+0)+0),((1*z9+0)+0),((1*aP+0)+0),((1*aG+0)+0),((1*z12+0)+0),((1*ai+0)+0),((1*aq+0)+0),((1*aF+0)+0),((1*aO+0)+0),((1*aH+0)+0),((1*aR+0)+0),((1*aS+0)+0),((1*z20+0)+0),((1*z21+0)+0),((1*z22+0)+0),((1*aY+0)+0),((1*z24+0)+0),((1*bh+0)+0),((1*z26+0)+0),((1*bo+0)+0),((1*z28+0)+0),((1*bu+0)+0),((1*bt+0)+0),((1*z31+((-64)*a8+0))+64)]
theorem atV:Tc cB λzs rs=>af (bk D5.res) rs/\cB 14 zs rs:=by
 unfold Tc
 simp only[wI,wH,A8]
 intros
 refine⟨?_,?_⟩
 ·simp only[D5,bk,hU,D.bds,au,mY,gp,gZ,af,and_true]
  omega
 ·simp only[cB,v8,kS,jH,o4,qN,tz,qe,mY,gp,qK,and_true,true_and]
  omega
def To (S:Nat->List Int->List Int->Prop) (K:List Int->List Int->Prop):Prop:=
 ∀z0:Int,0<=z0->z0<=255->
 ∀aB:Int,0<=aB->aB<=255->
 ∀z2:Int,0<=z2->z2<=255->
 ∀z3:Int,0<=z3->z3<=255->
 ∀z4:Int,0<=z4->z4<=255->
 ∀z5:Int,0<=z5->z5<=255->
 ∀a7:Int,0<=a7->a7<=255->
 ∀aJ:Int,0<=aJ->aJ<=255->
 ∀aI:Int,0<=aI->aI<=255->
 ∀z9:Int,0<=z9->z9<=255->
 ∀aP:Int,0<=aP->aP<=255->
 ∀aG:Int,0<=aG->aG<=255->
 ∀z12:Int,0<=z12->z12<=255->
 ∀ai:Int,0<=ai->ai<=255->
 ∀aq:Int,0<=aq->aq<=255->
 ∀aF:Int,0<=aF->aF<=255->
 ∀aO:Int,0<=aO->aO<=255->
 ∀aH:Int,0<=aH->aH<=255->
 ∀aR:Int,0<=aR->aR<=255->
 ∀aS:Int,0<=aS->aS<=255->
 ∀z20:Int,0<=z20->z20<=255->
 ∀z21:Int,0<=z21->z21<=255->
 ∀z22:Int,0<=z22->z22<=255->
 ∀aY:Int,0<=aY->aY<=255->
 ∀z24:Int,0<=z24->z24<=255->
 ∀bh:Int,0<=bh->bh<=255->
 ∀z26:Int,0<=z26->z26<=255->
 ∀bo:Int,0<=bo->bo<=255->
 ∀z28:Int,0<=z28->z28<=255->
 ∀bu:Int,0<=bu->bu<=255->
 ∀bt:Int,0<=bt->bt<=255->
 ∀z31:Int,0<=z31->z31<=255->
 ∀aL:Int,0<=aL->aL<=18446744073709551615->∀a8:Int,0<=a8->a8<=18446744073709551615->∀bn:Int,0<=bn->bn<=18446744073709551615->∀bg:Int,0<=bg->bg<=18446744073709551615->S 22 [((1*z0+0)+0),((1*aB+0)+0),((1*z2+0)+0),((1*z3+0)+0),((1*z4+0)+0),((1*z5+0)+0),((1*a7+0)+0),((1*aJ+0)+0),((1*aI+0)+0),((1*z9+0)+0),((1*aP+0)+0),((1*aG+0)+0),((1*z12+0)+0),((1*ai+0)+0),((1*aq+0)+0),((1*aF+0)+0),((1*aO+0)+0),((1*aH+0)+0),((1*aR+0)+0),((1*aS+0)+0),((1*z20+0)+0),((1*z21+0)+0),((1*z22+0)+0),((1*aY+0)+0),((1*z24+0)+0),((1*bh+0)+0),((1*z26+0)+0),((1*bo+0)+0),((1*z28+0)+0),((1*bu+0)+0),((1*bt+0)+0),((1*z31+0)+0)] [aL,a8,bn,bg]->
 ∀bB:Int,0<=bB->bB<=18446744073709551615->∀z37:Int,0<=z37->z37<=18446744073709551615->∀bP:Int,0<=bP->bP<=18446744073709551615->∀bI:Int,0<=bI->bI<=18446744073709551615->∀z40:Int,0<=z40->z40<=1->S 29 [((1*aL+0)+0),((1*a8+0)+0),((1*bn+0)+0),((1*bg+0)+0),(0+6346243789798364141),(0+1503914060200516822),(0+0),(0+1152921504606846976)] [bB,z37,bP,bI,z40]->
 K [z0,aB,z2,z3,z4,z5,a7,aJ,aI,z9,aP,aG,z12,ai,aq,aF,aO,aH,aR,aS,z20,z21,z22,aY,z24,bh,z26,bo,z28,bu,bt,z31] [(cond (decide (((1*z40+0)+0)=(0+1))) 1 0)]
theorem XK:To cB λzs rs=>af (bk oo.res) rs/\cB 13 zs rs:=by
 unfold To
 simp(maxSteps:=4000000) only[wI,wH,A8]
 intro z0 a0 fK aB b2 b8 z2 a2 b9 z3 a3 de z4 a4 oH z5 a5 oI a7 sA sB aJ sU sW aI sV sX z9 a9 eZ aP o8 oe aG dQ dU z12 a12 fL ai h9 ik aq fJ fM aF dR ef aO pL pM aH ej en aR eC eH aS ia il z20 a20 dV z21 a21 eg z22 a22 hq aY dC dG z24 a24 eh bh ek ei z26 a26 eo bo ib im z28 a28 eE bu ev ew bt eD ey z31 a31 eQ aL dD ht a8 dv dx bn dE dH bg dF dI aT bB dS dW z37 a37 gO bP dw dy bI dT dX z40 a40 iq s1
 simp(maxSteps:=2000000) only[cB,tY,xK,xL,sa,sb,tX,xO,uK,xJ,zd,ua,xN,tZ,xM,v8,zc,wa,wc,xP,we,o4,qN,tz,qe,jH,kS]at aT s1
 have jt:af (au 0 255 32) [z0,aB,z2,z3,z4,z5,a7,aJ,aI,z9,aP,aG,z12,ai,aq,aF,aO,aH,aR,aS,z20,z21,z22,aY,z24,bh,z26,bo,z28,bu,bt,z31]:=by
  simp only[au,af,and_true]
  exact⟨a0,fK,b2,b8,a2,b9,a3,de,a4,oH,a5,oI,sA,sB,sU,sW,sV,sX,a9,eZ,o8,oe,dQ,dU,a12,fL,h9,ik,fJ,fM,dR,ef,pL,pM,ej,en,eC,eH,ia,il,a20,dV,a21,eg,a22,hq,dC,dG,a24,eh,ek,ei,a26,eo,ib,im,a28,eE,ev,ew,eD,ey,a31,eQ⟩
 have m0:=agp jt
 have asj:=r3 dD ht dv dx dE dH dF dI
 have aGd:=r3 dS dW a37 gO dw dy dT dX
 rw[Xo,aT]at s1
 rw[aT]at asj
 refine⟨?_,?_⟩
 ·by_cases h:z40=1<;>simp[h,oo,bk,D.bds,af]
 ·simp only[cB,tY,xK,xL,sa,sb,tX,xO,uK,xJ,zd,ua,xN,tZ,xM,v8,zc,wa,wc,xP,we,qK,and_true]
  clear jt m0 aT a0 fK b2 b8 a2 b9 a3 de a4 oH a5 oI sA sB sU sW sV sX a9 eZ o8 oe dQ dU a12 fL h9 ik fJ fM dR ef pL pM ej en eC eH ia il a20 dV a21 eg a22 hq dC dG a24 eh ek ei a26 eo ib im a28 eE ev ew eD ey a31 eQ dD ht dv dx dE dH dF dI dS dW a37 gO dw dy dT dX
  generalize nb [z0,aB,z2,z3,z4,z5,a7,aJ,aI,z9,aP,aG,z12,ai,aq,aF,aO,aH,aR,aS,z20,z21,z22,aY,z24,bh,z26,bo,z28,bu,bt,z31]=A at*
  generalize bf [bB,z37,bP,bI]=N at*
  by_cases h:z40=1
  ·subst h;simp;omega
  ·simp[h];omega
def Tm (S:Nat->List Int->List Int->Prop) (K:List Int->List Int->Prop):Prop:=
 ∀z0:Int,0<=z0->z0<=255->
 ∀aB:Int,0<=aB->aB<=255->
 ∀z2:Int,0<=z2->z2<=255->
 ∀z3:Int,0<=z3->z3<=255->
 ∀z4:Int,0<=z4->z4<=255->
 ∀z5:Int,0<=z5->z5<=255->
 ∀a7:Int,0<=a7->a7<=255->
 ∀aJ:Int,0<=aJ->aJ<=255->
 ∀aI:Int,0<=aI->aI<=255->
 ∀z9:Int,0<=z9->z9<=255->
 ∀aP:Int,0<=aP->aP<=255->
 ∀aG:Int,0<=aG->aG<=255->
 ∀z12:Int,0<=z12->z12<=255->
 ∀ai:Int,0<=ai->ai<=255->
 ∀aq:Int,0<=aq->aq<=255->
 ∀aF:Int,0<=aF->aF<=255->
 ∀aO:Int,0<=aO->aO<=255->
 ∀aH:Int,0<=aH->aH<=255->
 ∀aR:Int,0<=aR->aR<=255->
 ∀aS:Int,0<=aS->aS<=255->
 ∀z20:Int,0<=z20->z20<=255->
 ∀z21:Int,0<=z21->z21<=255->
 ∀z22:Int,0<=z22->z22<=255->
 ∀aY:Int,0<=aY->aY<=255->
 ∀z24:Int,0<=z24->z24<=255->
 ∀bh:Int,0<=bh->bh<=255->
 ∀z26:Int,0<=z26->z26<=255->
 ∀bo:Int,0<=bo->bo<=255->
 ∀z28:Int,0<=z28->z28<=255->
 ∀bu:Int,0<=bu->bu<=255->
 ∀bt:Int,0<=bt->bt<=255->
 ∀z31:Int,0<=z31->z31<=255->
 ∀aL:Int,0<=aL->aL<=255->
 ∀a8:Int,0<=a8->a8<=255->
 ∀bn:Int,0<=bn->bn<=255->
 ∀bg:Int,0<=bg->bg<=255->
 ∀bB:Int,0<=bB->bB<=255->
 ∀z37:Int,0<=z37->z37<=255->
 ∀bP:Int,0<=bP->bP<=255->
 ∀bI:Int,0<=bI->bI<=255->
 ∀z40:Int,0<=z40->z40<=255->
 ∀bY:Int,0<=bY->bY<=255->
 ∀bT:Int,0<=bT->bT<=255->
 ∀cf:Int,0<=cf->cf<=255->
 ∀ct:Int,0<=ct->ct<=255->
 ∀b7:Int,0<=b7->b7<=255->
 ∀z46:Int,0<=z46->z46<=255->
 ∀b6:Int,0<=b6->b6<=255->
 ∀cd:Int,0<=cd->cd<=255->
 ∀z49:Int,0<=z49->z49<=255->
 ∀cm:Int,0<=cm->cm<=255->
 ∀z51:Int,0<=z51->z51<=255->
 ∀bX:Int,0<=bX->bX<=255->
 ∀z53:Int,0<=z53->z53<=255->
 ∀cn:Int,0<=cn->cn<=255->
 ∀cv:Int,0<=cv->cv<=255->
 ∀cA:Int,0<=cA->cA<=255->
 ∀cp:Int,0<=cp->cp<=255->
 ∀cx:Int,0<=cx->cx<=255->
 ∀z59:Int,0<=z59->z59<=255->
 ∀cE:Int,0<=cE->cE<=255->
 ∀cG:Int,0<=cG->cG<=255->
 ∀cH:Int,0<=cH->cH<=255->
 ∀cq:Int,0<=cq->cq<=255->
 ∀cU:Int,0<=cU->cU<=18446744073709551615->∀c9:Int,0<=c9->c9<=18446744073709551615->∀c2:Int,0<=c2->c2<=18446744073709551615->∀cX:Int,0<=cX->cX<=18446744073709551615->S 122 [((1*z0+0)+0),((1*aB+0)+0),((1*z2+0)+0),((1*z3+0)+0),((1*z4+0)+0),((1*z5+0)+0),((1*a7+0)+0),((1*aJ+0)+0),((1*aI+0)+0),((1*z9+0)+0),((1*aP+0)+0),((1*aG+0)+0),((1*z12+0)+0),((1*ai+0)+0),((1*aq+0)+0),((1*aF+0)+0),((1*aO+0)+0),((1*aH+0)+0),((1*aR+0)+0),((1*aS+0)+0),((1*z20+0)+0),((1*z21+0)+0),((1*z22+0)+0),((1*aY+0)+0),((1*z24+0)+0),((1*bh+0)+0),((1*z26+0)+0),((1*bo+0)+0),((1*z28+0)+0),((1*bu+0)+0),((1*bt+0)+0),((1*z31+0)+0),((1*aL+0)+0),((1*a8+0)+0),((1*bn+0)+0),((1*bg+0)+0),((1*bB+0)+0),((1*z37+0)+0),((1*bP+0)+0),((1*bI+0)+0),((1*z40+0)+0),((1*bY+0)+0),((1*bT+0)+0),((1*cf+0)+0),((1*ct+0)+0),((1*b7+0)+0),((1*z46+0)+0),((1*b6+0)+0),((1*cd+0)+0),((1*z49+0)+0),((1*cm+0)+0),((1*z51+0)+0),((1*bX+0)+0),((1*z53+0)+0),((1*cn+0)+0),((1*cv+0)+0),((1*cA+0)+0),((1*cp+0)+0),((1*cx+0)+0),((1*z59+0)+0),((1*cE+0)+0),((1*cG+0)+0),((1*cH+0)+0),((1*cq+0)+0)] [cU,c9,c2,cX]->
 ∀dh:Int,0<=dh->dh<=18446744073709551615->∀cI:Int,0<=cI->cI<=18446744073709551615->∀z70:Int,0<=z70->z70<=18446744073709551615->∀dn:Int,0<=dn->dn<=18446744073709551615->S 222 [((1*z0+0)+0),((1*aB+0)+0),((1*z2+0)+0),((1*z3+0)+0),((1*z4+0)+0),((1*z5+0)+0),((1*a7+0)+0),((1*aJ+0)+0),((1*aI+0)+0),((1*z9+0)+0),((1*aP+0)+0),((1*aG+0)+0),((1*z12+0)+0),((1*ai+0)+0),((1*aq+0)+0),((1*aF+0)+0),((1*aO+0)+0),((1*aH+0)+0),((1*aR+0)+0),((1*aS+0)+0),((1*z20+0)+0),((1*z21+0)+0),((1*z22+0)+0),((1*aY+0)+0),((1*z24+0)+0),((1*bh+0)+0),((1*z26+0)+0),((1*bo+0)+0),((1*z28+0)+0),((1*bu+0)+0),((1*bt+0)+0),((1*z31+0)+0),((1*aL+0)+0),((1*a8+0)+0),((1*bn+0)+0),((1*bg+0)+0),((1*bB+0)+0),((1*z37+0)+0),((1*bP+0)+0),((1*bI+0)+0),((1*z40+0)+0),((1*bY+0)+0),((1*bT+0)+0),((1*cf+0)+0),((1*ct+0)+0),((1*b7+0)+0),((1*z46+0)+0),((1*b6+0)+0),((1*cd+0)+0),((1*z49+0)+0),((1*cm+0)+0),((1*z51+0)+0),((1*bX+0)+0),((1*z53+0)+0),((1*cn+0)+0),((1*cv+0)+0),((1*cA+0)+0),((1*cp+0)+0),((1*cx+0)+0),((1*z59+0)+0),((1*cE+0)+0),((1*cG+0)+0),((1*cH+0)+0),((1*cq+0)+0)] [dh,cI,z70,dn]->
 ∀z72:Int,0<=z72->z72<=18446744073709551615->∀cQ:Int,0<=cQ->cQ<=18446744073709551615->∀e1:Int,0<=e1->e1<=18446744073709551615->∀z75:Int,0<=z75->z75<=18446744073709551615->S 23 [((1*cU+0)+0),((1*c9+0)+0),((1*c2+0)+0),((1*cX+0)+0),((1*dh+0)+0),((1*cI+0)+0),((1*z70+0)+0),((1*dn+0)+0)] [z72,cQ,e1,z75]->
 ∀z76:Int,0<=z76->z76<=255->∀eK:Int,0<=eK->eK<=255->∀dA:Int,0<=dA->dA<=255->∀ee:Int,0<=ee->ee<=255->∀eF:Int,0<=eF->eF<=255->∀fH:Int,0<=fH->fH<=255->∀fk:Int,0<=fk->fk<=255->∀eV:Int,0<=eV->eV<=255->∀fI:Int,0<=fI->fI<=255->∀z85:Int,0<=z85->z85<=255->∀fv:Int,0<=fv->fv<=255->∀z87:Int,0<=z87->z87<=255->∀gh:Int,0<=gh->gh<=255->∀fl:Int,0<=fl->fl<=255->∀gY:Int,0<=gY->gY<=255->∀z91:Int,0<=z91->z91<=255->∀fw:Int,0<=fw->fw<=255->∀z93:Int,0<=z93->z93<=255->∀gK:Int,0<=gK->gK<=255->∀iW:Int,0<=iW->iW<=255->∀cR:Int,0<=cR->cR<=255->∀p7:Int,0<=p7->p7<=255->∀pC:Int,0<=pC->pC<=255->∀kC:Int,0<=kC->kC<=255->∀nH:Int,0<=nH->nH<=255->∀sf:Int,0<=sf->sf<=255->∀sg:Int,0<=sg->sg<=255->∀si:Int,0<=si->si<=255->∀sj:Int,0<=sj->sj<=255->∀z105:Int,0<=z105->z105<=255->∀sk:Int,0<=sk->sk<=255->∀z107:Int,0<=z107->z107<=255->S 26 [((1*z72+0)+0),((1*cQ+0)+0),((1*e1+0)+0),((1*z75+0)+0)] [z76,eK,dA,ee,eF,fH,fk,eV,fI,z85,fv,z87,gh,fl,gY,z91,fw,z93,gK,iW,cR,p7,pC,kC,nH,sf,sg,si,sj,z105,sk,z107]->
 K [z0,aB,z2,z3,z4,z5,a7,aJ,aI,z9,aP,aG,z12,ai,aq,aF,aO,aH,aR,aS,z20,z21,z22,aY,z24,bh,z26,bo,z28,bu,bt,z31,aL,a8,bn,bg,bB,z37,bP,bI,z40,bY,bT,cf,ct,b7,z46,b6,cd,z49,cm,z51,bX,z53,cn,cv,cA,cp,cx,z59,cE,cG,cH,cq] [((1*z76+0)+0),((1*eK+0)+0),((1*dA+0)+0),((1*ee+0)+0),((1*eF+0)+0),((1*fH+0)+0),((1*fk+0)+0),((1*eV+0)+0),((1*fI+0)+0),((1*z85+0)+0),((1*fv+0)+0),((1*z87+0)+0),((1*gh+0)+0),((1*fl+0)+0),((1*gY+0)+0),((1*z91+0)+0),((1*fw+0)+0),((1*z93+0)+0),((1*gK+0)+0),((1*iW+0)+0),((1*cR+0)+0),((1*p7+0)+0),((1*pC+0)+0),((1*kC+0)+0),((1*nH+0)+0),((1*sf+0)+0),((1*sg+0)+0),((1*si+0)+0),((1*sj+0)+0),((1*z105+0)+0),((1*sk+0)+0),((1*z107+0)+0)]
theorem XJ:Tm cB λzs rs=>af (bk oQ.res) rs/\cB 11 zs rs:=by
 unfold Tm
 simp(maxSteps:=4000000) only[wI,wH,A8]
 intro z0 a0 fK aB b2 b8 z2 a2 b9 z3 a3 de z4 a4 oH z5 a5 oI a7 sA sB aJ sU sW aI sV sX z9 a9 eZ aP o8 oe aG dQ dU z12 a12 fL ai h9 ik aq fJ fM aF dR ef aO pL pM aH ej en aR eC eH aS ia il z20 a20 dV z21 a21 eg z22 a22 hq aY dC dG z24 a24 eh bh ek ei z26 a26 eo bo ib im z28 a28 eE bu ev ew bt eD ey z31 a31 eQ aL dD ht a8 dv dx bn dE dH bg dF dI bB dS dW z37 a37 gO bP dw dy bI dT dX z40 a40 iq bY gi gj bT fR fS cf hh gP ct hj hA b7 u2 vc z46 a46 ir b6 gM gQ cd hk hB z49 a49 hC cm uj uk z51 a51 hD bX gN gR z53 a53 hS cn hP hT cv u3 vd cA ho hE cp ic iu cx u4 ve z59 a59 hG cE ie iv cG jk iY cH ig iw cq zR zY cU fp ix c9 ij iy c2 jl iZ cX iK iM aT dh zS zZ cI iL iN z70 a70 iO dn jz jm s1 z72 a72 jn cQ yw vf e1 zT z1 z75 a75 yD s2 z76 a76 vg eK wR w3 dA wS w4 ee wT w5 eF zU z6 fH wU w6 fk wV w7 eV wW w8 fI wX w9 z85 a85 z7 fv CV C2 z87 a87 C3 gh CW C4 fl CX C5 gY CY C6 z91 a91 Fb fw E3 Fc z93 a93 Fe gK E4 Ff iW Hp Hv cR J8 Kd p7 Ty T0 pC Tz T1 kC TA T2 nH Tq TP sf Tr TQ sg Ts TR si Tt TS sj Tu TT z105 a105 TU sk Tv TV z107 a107 TW bS
 simp(maxSteps:=2000000) only[cB,tY,xK,xL,sa,sb,tX,xO,uK,xJ,zd,ua,xN,tZ,xM,v8,zc,wa,wc,xP,we,o4,qN,tz,qe,jH,kS]at aT s1 s2 bS
 refine⟨?_,?_⟩
 ·simp only[oQ,bk,hU,D.bds,au,mY,gp,gZ,af,and_true]
  exact⟨a76,vg,wR,w3,wS,w4,wT,w5,zU,z6,wU,w6,wV,w7,wW,w8,wX,w9,a85,z7,CV,C2,a87,C3,CW,C4,CX,C5,CY,C6,a91,Fb,E3,Fc,a93,Fe,E4,Ff,Hp,Hv,J8,Kd,Ty,T0,Tz,T1,TA,T2,Tq,TP,Tr,TQ,Ts,TR,Tt,TS,Tu,TT,a105,TU,Tv,TV,a107,TW⟩
 ·simp only[cB,tY,xK,xL,sa,sb,tX,xO,uK,xJ,zd,ua,xN,tZ,xM,v8,zc,wa,wc,xP,we]
  rw[bS,s2]
  have aw:bf [cU,c9,c2,cX,dh,cI,z70,dn]=bf [cU,c9,c2,cX]+115792089237316195423570985008687907853269984665640564039457584007913129639936*bf [dh,cI,z70,dn]:=by simp only[num];omega
  have aD:nb [z0,aB,z2,z3,z4,z5,a7,aJ,aI,z9,aP,aG,z12,ai,aq,aF,aO,aH,aR,aS,z20,z21,z22,aY,z24,bh,z26,bo,z28,bu,bt,z31,aL,a8,bn,bg,bB,z37,bP,bI,z40,bY,bT,cf,ct,b7,z46,b6,cd,z49,cm,z51,bX,z53,cn,cv,cA,cp,cx,z59,cE,cG,cH,cq]=nb [z0,aB,z2,z3,z4,z5,a7,aJ,aI,z9,aP,aG,z12,ai,aq,aF,aO,aH,aR,aS,z20,z21,z22,aY,z24,bh,z26,bo,z28,bu,bt,z31]+115792089237316195423570985008687907853269984665640564039457584007913129639936*nb [aL,a8,bn,bg,bB,z37,bP,bI,z40,bY,bT,cf,ct,b7,z46,b6,cd,z49,cm,z51,bX,z53,cn,cv,cA,cp,cx,z59,cE,cG,cH,cq]:=by simp only[num];omega
  rw[aw,aD,aT,s1]
def Tj (S:Nat->List Int->List Int->Prop) (K:List Int->List Int->Prop):Prop:=
 ∀z0:Int,0<=z0->z0<=255->
 ∀aB:Int,0<=aB->aB<=255->
 ∀z2:Int,0<=z2->z2<=255->
 ∀z3:Int,0<=z3->z3<=255->
 ∀z4:Int,0<=z4->z4<=255->
 ∀z5:Int,0<=z5->z5<=255->
 ∀a7:Int,0<=a7->a7<=255->
 ∀aJ:Int,0<=aJ->aJ<=255->
 ∀aI:Int,0<=aI->aI<=255->
 ∀z9:Int,0<=z9->z9<=255->
 ∀aP:Int,0<=aP->aP<=255->
 ∀aG:Int,0<=aG->aG<=255->
 ∀z12:Int,0<=z12->z12<=255->
 ∀ai:Int,0<=ai->ai<=255->
 ∀aq:Int,0<=aq->aq<=255->
 ∀aF:Int,0<=aF->aF<=255->
 ∀aO:Int,0<=aO->aO<=255->
 ∀aH:Int,0<=aH->aH<=255->
 ∀aR:Int,0<=aR->aR<=255->
 ∀aS:Int,0<=aS->aS<=255->
 ∀z20:Int,0<=z20->z20<=255->
 ∀z21:Int,0<=z21->z21<=255->
 ∀z22:Int,0<=z22->z22<=255->
 ∀aY:Int,0<=aY->aY<=255->
 ∀z24:Int,0<=z24->z24<=255->
 ∀bh:Int,0<=bh->bh<=255->
 ∀z26:Int,0<=z26->z26<=255->
 ∀bo:Int,0<=bo->bo<=255->
 ∀z28:Int,0<=z28->z28<=255->
 ∀bu:Int,0<=bu->bu<=255->
 ∀bt:Int,0<=bt->bt<=255->
 ∀z31:Int,0<=z31->z31<=255->
 ∀aL:Int,0<=aL->aL<=255->
 ∀a8:Int,0<=a8->a8<=255->
 ∀bn:Int,0<=bn->bn<=255->
 ∀bg:Int,0<=bg->bg<=255->
 ∀bB:Int,0<=bB->bB<=255->
 ∀z37:Int,0<=z37->z37<=255->
 ∀bP:Int,0<=bP->bP<=255->
 ∀bI:Int,0<=bI->bI<=255->
 ∀z40:Int,0<=z40->z40<=255->
 ∀bY:Int,0<=bY->bY<=255->
 ∀bT:Int,0<=bT->bT<=255->
 ∀cf:Int,0<=cf->cf<=255->
 ∀ct:Int,0<=ct->ct<=255->
 ∀b7:Int,0<=b7->b7<=255->
 ∀z46:Int,0<=z46->z46<=255->
 ∀b6:Int,0<=b6->b6<=255->
 ∀cd:Int,0<=cd->cd<=255->
 ∀z49:Int,0<=z49->z49<=255->
 ∀cm:Int,0<=cm->cm<=255->
 ∀z51:Int,0<=z51->z51<=255->
 ∀bX:Int,0<=bX->bX<=255->
 ∀z53:Int,0<=z53->z53<=255->
 ∀cn:Int,0<=cn->cn<=255->
 ∀cv:Int,0<=cv->cv<=255->
 ∀cA:Int,0<=cA->cA<=255->
 ∀cp:Int,0<=cp->cp<=255->
 ∀cx:Int,0<=cx->cx<=255->
 ∀z59:Int,0<=z59->z59<=255->
 ∀cE:Int,0<=cE->cE<=255->
 ∀cG:Int,0<=cG->cG<=255->
 ∀cH:Int,0<=cH->cH<=255->
 ∀cq:Int,0<=cq->cq<=255->
 ∀cU:Int,0<=cU->cU<=255->
 ∀c9:Int,0<=c9->c9<=255->
 ∀c2:Int,0<=c2->c2<=255->
 ∀cX:Int,0<=cX->cX<=255->
 ∀dh:Int,0<=dh->dh<=255->
 ∀cI:Int,0<=cI->cI<=255->
 ∀z70:Int,0<=z70->z70<=255->
 ∀dn:Int,0<=dn->dn<=255->
 ∀z72:Int,0<=z72->z72<=255->
 ∀cQ:Int,0<=cQ->cQ<=255->
 ∀e1:Int,0<=e1->e1<=255->
 ∀z75:Int,0<=z75->z75<=255->
 ∀z76:Int,0<=z76->z76<=255->
 ∀eK:Int,0<=eK->eK<=255->
 ∀dA:Int,0<=dA->dA<=255->
 ∀ee:Int,0<=ee->ee<=255->
 ∀eF:Int,0<=eF->eF<=255->
 ∀fH:Int,0<=fH->fH<=255->
 ∀fk:Int,0<=fk->fk<=255->
 ∀eV:Int,0<=eV->eV<=255->
 ∀fI:Int,0<=fI->fI<=255->
 ∀z85:Int,0<=z85->z85<=255->
 ∀fv:Int,0<=fv->fv<=255->
 ∀z87:Int,0<=z87->z87<=255->
 ∀gh:Int,0<=gh->gh<=255->
 ∀fl:Int,0<=fl->fl<=255->
 ∀gY:Int,0<=gY->gY<=255->
 ∀z91:Int,0<=z91->z91<=255->
 ∀fw:Int,0<=fw->fw<=255->
 ∀z93:Int,0<=z93->z93<=255->
 ∀gK:Int,0<=gK->gK<=255->
 ∀iW:Int,0<=iW->iW<=255->
 ∀cR:Int,0<=cR->cR<=18446744073709551615->∀p7:Int,0<=p7->p7<=18446744073709551615->∀pC:Int,0<=pC->pC<=18446744073709551615->∀kC:Int,0<=kC->kC<=18446744073709551615->S 22 [((1*z0+0)+0),((1*aB+0)+0),((1*z2+0)+0),((1*z3+0)+0),((1*z4+0)+0),((1*z5+0)+0),((1*a7+0)+0),((1*aJ+0)+0),((1*aI+0)+0),((1*z9+0)+0),((1*aP+0)+0),((1*aG+0)+0),((1*z12+0)+0),((1*ai+0)+0),((1*aq+0)+0),((1*aF+0)+0),((1*aO+0)+0),((1*aH+0)+0),((1*aR+0)+0),((1*aS+0)+0),((1*z20+0)+0),((1*z21+0)+0),((1*z22+0)+0),((1*aY+0)+0),((1*z24+0)+0),((1*bh+0)+0),((1*z26+0)+0),((1*bo+0)+0),((1*z28+0)+0),((1*bu+0)+0),((1*bt+0)+0),((1*z31+0)+0)] [cR,p7,pC,kC]->
 ∀nH:Int,0<=nH->nH<=18446744073709551615->∀sf:Int,0<=sf->sf<=18446744073709551615->∀sg:Int,0<=sg->sg<=18446744073709551615->∀si:Int,0<=si->si<=18446744073709551615->S 22 [((1*aL+0)+0),((1*a8+0)+0),((1*bn+0)+0),((1*bg+0)+0),((1*bB+0)+0),((1*z37+0)+0),((1*bP+0)+0),((1*bI+0)+0),((1*z40+0)+0),((1*bY+0)+0),((1*bT+0)+0),((1*cf+0)+0),((1*ct+0)+0),((1*b7+0)+0),((1*z46+0)+0),((1*b6+0)+0),((1*cd+0)+0),((1*z49+0)+0),((1*cm+0)+0),((1*z51+0)+0),((1*bX+0)+0),((1*z53+0)+0),((1*cn+0)+0),((1*cv+0)+0),((1*cA+0)+0),((1*cp+0)+0),((1*cx+0)+0),((1*z59+0)+0),((1*cE+0)+0),((1*cG+0)+0),((1*cH+0)+0),((1*cq+0)+0)] [nH,sf,sg,si]->
 ∀sj:Int,0<=sj->sj<=18446744073709551615->∀z105:Int,0<=z105->z105<=18446744073709551615->∀sk:Int,0<=sk->sk<=18446744073709551615->∀z107:Int,0<=z107->z107<=18446744073709551615->∀yc:Int,0<=yc->yc<=18446744073709551615->∀z109:Int,0<=z109->z109<=18446744073709551615->∀yd:Int,0<=yd->yd<=18446744073709551615->∀ye:Int,0<=ye->ye<=18446744073709551615->S 21 [((1*cR+0)+0),((1*p7+0)+0),((1*pC+0)+0),((1*kC+0)+0),((1*nH+0)+0),((1*sf+0)+0),((1*sg+0)+0),((1*si+0)+0)] [sj,z105,sk,z107,yc,z109,yd,ye]->
 ∀wx:Int,0<=wx->wx<=18446744073709551615->∀wy:Int,0<=wy->wy<=18446744073709551615->∀qG:Int,0<=qG->qG<=18446744073709551615->∀rr:Int,0<=rr->rr<=18446744073709551615->S 23 [((1*sj+0)+0),((1*z105+0)+0),((1*sk+0)+0),((1*z107+0)+0),((1*yc+0)+0),((1*z109+0)+0),((1*yd+0)+0),((1*ye+0)+0)] [wx,wy,qG,rr]->
 ∀z116:Int,0<=z116->z116<=18446744073709551615->∀z117:Int,0<=z117->z117<=18446744073709551615->∀qH:Int,0<=qH->qH<=18446744073709551615->∀z119:Int,0<=z119->z119<=18446744073709551615->S 22 [((1*cU+0)+0),((1*c9+0)+0),((1*c2+0)+0),((1*cX+0)+0),((1*dh+0)+0),((1*cI+0)+0),((1*z70+0)+0),((1*dn+0)+0),((1*z72+0)+0),((1*cQ+0)+0),((1*e1+0)+0),((1*z75+0)+0),((1*z76+0)+0),((1*eK+0)+0),((1*dA+0)+0),((1*ee+0)+0),((1*eF+0)+0),((1*fH+0)+0),((1*fk+0)+0),((1*eV+0)+0),((1*fI+0)+0),((1*z85+0)+0),((1*fv+0)+0),((1*z87+0)+0),((1*gh+0)+0),((1*fl+0)+0),((1*gY+0)+0),((1*z91+0)+0),((1*fw+0)+0),((1*z93+0)+0),((1*gK+0)+0),((1*iW+0)+0)] [z116,z117,qH,z119]->
 ∀wz:Int,0<=wz->wz<=18446744073709551615->∀wA:Int,0<=wA->wA<=18446744073709551615->∀wB:Int,0<=wB->wB<=18446744073709551615->∀wC:Int,0<=wC->wC<=18446744073709551615->S 25 [((1*z116+0)+0),((1*z117+0)+0),((1*qH+0)+0),((1*z119+0)+0)] [wz,wA,wB,wC]->
 ∀z124:Int,0<=z124->z124<=18446744073709551615->∀wD:Int,0<=wD->wD<=18446744073709551615->∀wE:Int,0<=wE->wE<=18446744073709551615->∀z127:Int,0<=z127->z127<=18446744073709551615->∀zq:Int,0<=zq->zq<=1->S 24 [((1*wx+0)+0),((1*wy+0)+0),((1*qG+0)+0),((1*rr+0)+0),((1*wz+0)+0),((1*wA+0)+0),((1*wB+0)+0),((1*wC+0)+0)] [z124,wD,wE,z127,zq]->
 ∀yf:Int,0<=yf->yf<=18446744073709551615->∀z130:Int,0<=z130->z130<=18446744073709551615->∀z131:Int,0<=z131->z131<=18446744073709551615->∀yg:Int,0<=yg->yg<=18446744073709551615->S 25 [((1*z124+0)+0),((1*wD+0)+0),((1*wE+0)+0),((1*z127+0)+0)] [yf,z130,z131,yg]->
 ∀oX:Int,0<=oX->oX<=255->∀p6:Int,0<=p6->p6<=255->∀ru:Int,0<=ru->ru<=255->∀yh:Int,0<=yh->yh<=255->∀yi:Int,0<=yi->yi<=255->∀z138:Int,0<=z138->z138<=255->∀z139:Int,0<=z139->z139<=255->∀yj:Int,0<=yj->yj<=255->∀z141:Int,0<=z141->z141<=255->∀ED:Int,0<=ED->ED<=255->∀z143:Int,0<=z143->z143<=255->∀EE:Int,0<=EE->EE<=255->∀z145:Int,0<=z145->z145<=255->∀z146:Int,0<=z146->z146<=255->∀EF:Int,0<=EF->EF<=255->∀z148:Int,0<=z148->z148<=255->∀EG:Int,0<=EG->EG<=255->∀EH:Int,0<=EH->EH<=255->∀EI:Int,0<=EI->EI<=255->∀z152:Int,0<=z152->z152<=255->∀EJ:Int,0<=EJ->EJ<=255->∀z154:Int,0<=z154->z154<=255->∀EK:Int,0<=EK->EK<=255->∀z156:Int,0<=z156->z156<=255->∀z157:Int,0<=z157->z157<=255->∀wF:Int,0<=wF->wF<=255->∀z159:Int,0<=z159->z159<=255->∀z160:Int,0<=z160->z160<=255->∀M5:Int,0<=M5->M5<=255->∀z162:Int,0<=z162->z162<=255->∀oa:Int,0<=oa->oa<=255->∀z164:Int,0<=z164->z164<=255->S 26 [((1*yf+0)+0),((1*z130+0)+0),((1*z131+0)+0),((1*yg+0)+0)] [oX,p6,ru,yh,yi,z138,z139,yj,z141,ED,z143,EE,z145,z146,EF,z148,EG,EH,EI,z152,EJ,z154,EK,z156,z157,wF,z159,z160,M5,z162,oa,z164]->
 K [z0,aB,z2,z3,z4,z5,a7,aJ,aI,z9,aP,aG,z12,ai,aq,aF,aO,aH,aR,aS,z20,z21,z22,aY,z24,bh,z26,bo,z28,bu,bt,z31,aL,a8,bn,bg,bB,z37,bP,bI,z40,bY,bT,cf,ct,b7,z46,b6,cd,z49,cm,z51,bX,z53,cn,cv,cA,cp,cx,z59,cE,cG,cH,cq,cU,c9,c2,cX,dh,cI,z70,dn,z72,cQ,e1,z75,z76,eK,dA,ee,eF,fH,fk,eV,fI,z85,fv,z87,gh,fl,gY,z91,fw,z93,gK,iW] [((1*oX+0)+0),((1*p6+0)+0),((1*ru+0)+0),((1*yh+0)+0),((1*yi+0)+0),((1*z138+0)+0),((1*z139+0)+0),((1*yj+0)+0),((1*z141+0)+0),((1*ED+0)+0),((1*z143+0)+0),((1*EE+0)+0),((1*z145+0)+0),((1*z146+0)+0),((1*EF+0)+0),((1*z148+0)+0),((1*EG+0)+0),((1*EH+0)+0),((1*EI+0)+0),((1*z152+0)+0),((1*EJ+0)+0),((1*z154+0)+0),((1*EK+0)+0),((1*z156+0)+0),((1*z157+0)+0),((1*wF+0)+0),((1*z159+0)+0),((1*z160+0)+0),((1*M5+0)+0),((1*z162+0)+0),((1*oa+0)+0),((1*z164+0)+0)]
theorem aun:Tj cB λzs rs=>af (bk D6.res) rs/\cB 8 zs rs:=by
 unfold Tj
 simp(maxSteps:=4000000) only[wI,wH,A8]
 intro z0 a0 fK aB b2 b8 z2 a2 b9 z3 a3 de z4 a4 oH z5 a5 oI a7 sA sB aJ sU sW aI sV sX z9 a9 eZ aP o8 oe aG dQ dU z12 a12 fL ai h9 ik aq fJ fM aF dR ef aO pL pM aH ej en aR eC eH aS ia il z20 a20 dV z21 a21 eg z22 a22 hq aY dC dG z24 a24 eh bh ek ei z26 a26 eo bo ib im z28 a28 eE bu ev ew bt eD ey z31 a31 eQ aL dD ht a8 dv dx bn dE dH bg dF dI bB dS dW z37 a37 gO bP dw dy bI dT dX z40 a40 iq bY gi gj bT fR fS cf hh gP ct hj hA b7 u2 vc z46 a46 ir b6 gM gQ cd hk hB z49 a49 hC cm uj uk z51 a51 hD bX gN gR z53 a53 hS cn hP hT cv u3 vd cA ho hE cp ic iu cx u4 ve z59 a59 hG cE ie iv cG jk iY cH ig iw cq zR zY cU fp ix c9 ij iy c2 jl iZ cX iK iM dh zS zZ cI iL iN z70 a70 iO dn jz jm z72 a72 jn cQ yw vf e1 zT z1 z75 a75 yD z76 a76 vg eK wR w3 dA wS w4 ee wT w5 eF zU z6 fH wU w6 fk wV w7 eV wW w8 fI wX w9 z85 a85 z7 fv CV C2 z87 a87 C3 gh CW C4 fl CX C5 gY CY C6 z91 a91 Fb fw E3 Fc z93 a93 Fe gK E4 Ff iW Hp Hv cR J8 Kd p7 Ty T0 pC Tz T1 kC TA T2 aT nH Tq TP sf Tr TQ sg Ts TR si Tt TS s1 sj Tu TT z105 a105 TU sk Tv TV z107 a107 TW yc aki akI z109 a109 akJ yd akj akK ye akk akL s2 wx aas abd wy aat abe qG Tw TX rr Tx TY bS z116 a116 TZ z117 a117 abf qH aau abg z119 a119 akM dg wz aav abh wA aaw abi wB aax abj wC aay abk gz z124 a124 abl wD aaz abm wE aaA abn z127 a127 abo zq aCp aCT hM yf akl akN z130 a130 akO z131 a131 akP yg akm akQ ju oX aaB abp p6 aaC abq ru aaD abr yh aaE abt yi aaF abu z138 a138 abv z139 a139 abw yj aaG abx z141 a141 aby ED aaH abz z143 a143 abA EE aaI abB z145 a145 abC z146 a146 abD EF aaJ abE z148 a148 abF EG aaK abG EH aaL abH EI aaM abI z152 a152 abJ EJ aaN abK z154 a154 abL EK aaO abM z156 a156 abN z157 a157 abO wF aaP abP z159 a159 abQ z160 a160 abR M5 aaQ abS z162 a162 abT oa aaR abU z164 a164 abV ks
 simp(maxSteps:=2000000) only[cB,tY,xK,xL,sa,sb,tX,xO,uK,xJ,zd,ua,xN,tZ,xM,v8,zc,wa,wc,xP,we,o4,qN,tz,qe,jH,kS]at aT s1 s2 bS dg gz hM ju ks
 have n112:=r3 aas abd aat abe Tw TX Tx TY
 have n120:=r3 aav abh aaw abi aax abj aay abk
 have n124:=r3 a124 abl aaz abm aaA abn a127 abo
 refine⟨?_,?_⟩
 ·simp only[D6,bk,hU,D.bds,au,mY,gp,gZ,af,and_true]
  exact⟨aaB,abp,aaC,abq,aaD,abr,aaE,abt,aaF,abu,a138,abv,a139,abw,aaG,abx,a141,aby,aaH,abz,a143,abA,aaI,abB,a145,abC,a146,abD,aaJ,abE,a148,abF,aaK,abG,aaL,abH,aaM,abI,a152,abJ,aaN,abK,a154,abL,aaO,abM,a156,abN,a157,abO,aaP,abP,a159,abQ,a160,abR,aaQ,abS,a162,abT,aaR,abU,a164,abV⟩
 ·simp only[cB,tY,xK,xL,sa,sb,tX,xO,uK,xJ,zd,ua,xN,tZ,xM,v8,zc,wa,wc,xP,we,o4,qN,tz,qe,jH,kS]
  rw[ks,ju]
  rw[s2,aT,s1]at bS
  rw[dg]at gz
  clear aT s1 s2 dg ju ks a0 fK b2 b8 a2 b9 a3 de a4 oH a5 oI sA sB sU sW sV sX a9 eZ o8 oe dQ dU a12 fL h9 ik fJ fM dR ef pL pM ej en eC eH ia il a20 dV a21 eg a22 hq dC dG a24 eh ek ei a26 eo ib im a28 eE ev ew eD ey a31 eQ dD ht dv dx dE dH dF dI dS dW a37 gO dw dy dT dX a40 iq gi gj fR fS hh gP hj hA u2 vc a46 ir gM gQ hk hB a49 hC uj uk a51 hD gN gR a53 hS hP hT u3 vd ho hE ic iu u4 ve a59 hG ie iv jk iY ig iw zR zY fp ix ij iy jl iZ iK iM zS zZ iL iN a70 iO jz jm a72 jn yw vf zT z1 a75 yD a76 vg wR w3 wS w4 wT w5 zU z6 wU w6 wV w7 wW w8 wX w9 a85 z7 CV C2 a87 C3 CW C4 CX C5 CY C6 a91 Fb E3 Fc a93 Fe E4 Ff Hp Hv J8 Kd Ty T0 Tz T1 TA T2 Tq TP Tr TQ Ts TR Tt TS Tu TT a105 TU Tv TV a107 TW aki akI a109 akJ akj akK akk akL aas abd aat abe Tw TX Tx TY a116 TZ a117 abf aau abg a119 akM aav abh aaw abi aax abj aay abk a124 abl aaz abm aaA abn a127 abo akl akN a130 akO a131 akP akm akQ aaB abp aaC abq aaD abr aaE abt aaF abu a138 abv a139 abw aaG abx a141 aby aaH abz a143 abA aaI abB a145 abC a146 abD aaJ abE a148 abF aaK abG aaL abH aaM abI a152 abJ aaN abK a154 abL aaO abM a156 abN a157 abO aaP abP a159 abQ a160 abR aaQ abS a162 abT aaR abU a164 abV
  generalize bf [wx,wy,qG,rr]=aB8 at*
  generalize bf [wz,wA,wB,wC]=aCa at*
  generalize bf [z124,wD,wE,z127]=aCb at*
  generalize nb [z0,aB,z2,z3,z4,z5,a7,aJ,aI,z9,aP,aG,z12,ai,aq,aF,aO,aH,aR,aS,z20,z21,z22,aY,z24,bh,z26,bo,z28,bu,bt,z31]*nb [aL,a8,bn,bg,bB,z37,bP,bI,z40,bY,bT,cf,ct,b7,z46,b6,cd,z49,cm,z51,bX,z53,cn,cv,cA,cp,cx,z59,cE,cG,cH,cq]=M at*
  generalize nb [cU,c9,c2,cX,dh,cI,z70,dn,z72,cQ,e1,z75,z76,eK,dA,ee,eF,fH,fk,eV,fI,z85,fv,z87,gh,fl,gY,z91,fw,z93,gK,iW]=C at*
  omega
end Go.oF
namespace Go.Fd
open Go.ch
def R9 (S:Nat->List (List Int)->List (List Int)->Prop) (K:List (List Int)->List (List Int)->Prop):Prop:=
 ∀r0:List Int,af (au 0 9223372036854775807 5) r0->
 ∀z5:Int,0<=z5->z5<=4095->0<=(U r0 0 0)-2251799813685248*z5->(U r0 0 0)-2251799813685248*z5<2251799813685248->
 ∀a7:Int,0<=a7->a7<=4095->0<=(U r0 0 0)-2251799813685248*a7->(U r0 0 0)-2251799813685248*a7<2251799813685248->
 ∀aJ:Int,0<=aJ->aJ<=4096->0<=((U r0 1 0)+z5)-2251799813685248*aJ->((U r0 1 0)+z5)-2251799813685248*aJ<2251799813685248->
 ∀aI:Int,0<=aI->aI<=4096->0<=((U r0 1 0)+z5)-2251799813685248*aI->((U r0 1 0)+z5)-2251799813685248*aI<2251799813685248->
 ∀z9:Int,0<=z9->z9<=4096->0<=((U r0 2 0)+aJ)-2251799813685248*z9->((U r0 2 0)+aJ)-2251799813685248*z9<2251799813685248->
 ∀aP:Int,0<=aP->aP<=4096->0<=((U r0 2 0)+aJ)-2251799813685248*aP->((U r0 2 0)+aJ)-2251799813685248*aP<2251799813685248->
 ∀aG:Int,0<=aG->aG<=4096->0<=((U r0 3 0)+z9)-2251799813685248*aG->((U r0 3 0)+z9)-2251799813685248*aG<2251799813685248->
 ∀z12:Int,0<=z12->z12<=4096->0<=((U r0 3 0)+z9)-2251799813685248*z12->((U r0 3 0)+z9)-2251799813685248*z12<2251799813685248->
 ∀ai:Int,0<=ai->ai<=4096->0<=((U r0 4 0)+aG)-2251799813685248*ai->((U r0 4 0)+aG)-2251799813685248*ai<2251799813685248->
 ∀aq:Int,0<=aq->aq<=4096->0<=((U r0 4 0)+aG)-2251799813685248*aq->((U r0 4 0)+aG)-2251799813685248*aq<2251799813685248->
 ∀aF:Int,0<=aF->aF<=1->0<=((U r0 0 0)+(((-2251799813685248)*a7)+(19*ai)))-2251799813685248*aF->((U r0 0 0)+(((-2251799813685248)*a7)+(19*ai)))-2251799813685248*aF<2251799813685248->
 ∀aO:Int,0<=aO->aO<=1->0<=((U r0 0 0)+(((-2251799813685248)*a7)+(19*ai)))-2251799813685248*aO->((U r0 0 0)+(((-2251799813685248)*a7)+(19*ai)))-2251799813685248*aO<2251799813685248->
 ∀aH:Int,0<=aH->aH<=1->0<=((U r0 1 0)+(z5+(((-2251799813685248)*aI)+aF)))-2251799813685248*aH->((U r0 1 0)+(z5+(((-2251799813685248)*aI)+aF)))-2251799813685248*aH<2251799813685248->
 ∀aR:Int,0<=aR->aR<=1->0<=((U r0 1 0)+(z5+(((-2251799813685248)*aI)+aF)))-2251799813685248*aR->((U r0 1 0)+(z5+(((-2251799813685248)*aI)+aF)))-2251799813685248*aR<2251799813685248->
 ∀aS:Int,0<=aS->aS<=1->0<=((U r0 2 0)+(aJ+(((-2251799813685248)*aP)+aH)))-2251799813685248*aS->((U r0 2 0)+(aJ+(((-2251799813685248)*aP)+aH)))-2251799813685248*aS<2251799813685248->
 ∀z20:Int,0<=z20->z20<=1->0<=((U r0 2 0)+(aJ+(((-2251799813685248)*aP)+aH)))-2251799813685248*z20->((U r0 2 0)+(aJ+(((-2251799813685248)*aP)+aH)))-2251799813685248*z20<2251799813685248->
 ∀z21:Int,0<=z21->z21<=1->0<=((U r0 3 0)+(z9+(((-2251799813685248)*z12)+aS)))-2251799813685248*z21->((U r0 3 0)+(z9+(((-2251799813685248)*z12)+aS)))-2251799813685248*z21<2251799813685248->
 ∀z22:Int,0<=z22->z22<=1->0<=((U r0 3 0)+(z9+(((-2251799813685248)*z12)+aS)))-2251799813685248*z22->((U r0 3 0)+(z9+(((-2251799813685248)*z12)+aS)))-2251799813685248*z22<2251799813685248->
 ∀aY:Int,0<=aY->aY<=1->0<=((U r0 4 0)+(aG+(((-2251799813685248)*aq)+z21)))-2251799813685248*aY->((U r0 4 0)+(aG+(((-2251799813685248)*aq)+z21)))-2251799813685248*aY<2251799813685248->
 ∀z24:Int,0<=z24->z24<=1->0<=((U r0 4 0)+(aG+(((-2251799813685248)*aq)+z21)))-2251799813685248*z24->((U r0 4 0)+(aG+(((-2251799813685248)*aq)+z21)))-2251799813685248*z24<2251799813685248->
 K [r0] [[((U r0 0 0)+(((-2251799813685248)*a7)+((19*ai)+(((-2251799813685248)*aO)+(19*aY))))),((U r0 1 0)+(z5+(((-2251799813685248)*aI)+(aF+((-2251799813685248)*aR))))),((U r0 2 0)+(aJ+(((-2251799813685248)*aP)+(aH+((-2251799813685248)*z20))))),((U r0 3 0)+(z9+(((-2251799813685248)*z12)+(aS+((-2251799813685248)*z22))))),((U r0 4 0)+(aG+(((-2251799813685248)*aq)+(z21+((-2251799813685248)*z24)))))]]
theorem atQ (G):R9 (jI G) (ji kc.res 46):=by
 unfold R9
 intro r0 i0 z5 a5 oI fh d5 a7 sA sB hH d6 aJ sU sW qi d7 aI sV sX pN d8 z9 a9 eZ s4 d9 aP o8 oe ur d10 aG dQ dU z8 d11 z12 a12 fL C9 d12 ai h9 ik Da d13 aq fJ fM HC d14 aF dR ef Db d15 aO pL pM HD d16 aH ej en Dc d17 aR eC eH HE d18 aS ia il Dd d19 z20 a20 dV HF d20 z21 a21 eg aW d21 z22 a22 hq De d22 aY dC dG Bs d23 z24 a24 eh Df d24
 refine⟨?_,?_⟩
 ·obtain⟨eU,ag,ad,ao,cZ,rfl,zf,zg,zh,zi,zj,zk,zl,zm,zn,zo⟩:=Ay i0
  simp only[jH,kS]at*
  have oS:z5=a7:=dup fh d5 hH d6
  subst oS
  have po:aJ=aI:=dup qi d7 pN d8
  subst po
  have XR:z9=aP:=dup s4 d9 ur d10
  subst XR
  have XS:aG=z12:=dup z8 d11 C9 d12
  subst XS
  have XT:ai=aq:=dup Da d13 HC d14
  subst XT
  have Mk:aF=aO:=dup Db d15 HD d16
  subst Mk
  have Ml:aH=aR:=dup Dc d17 HE d18
  subst Ml
  have Mm:aS=z20:=dup Dd d19 HF d20
  subst Mm
  have Mn:z21=z22:=dup aW d21 De d22
  subst Mn
  have Mo:aY=z24:=dup Bs d23 Df d24
  subst Mo
  simp only[kc,bk,D.bds,gk,au,mY,gp,gZ,uT,G4,af,and_true]
  omega
 ·show v5 [((U r0 0 0)+(((-2251799813685248)*a7)+((19*ai)+(((-2251799813685248)*aO)+(19*aY))))),((U r0 1 0)+(z5+(((-2251799813685248)*aI)+(aF+((-2251799813685248)*aR))))),((U r0 2 0)+(aJ+(((-2251799813685248)*aP)+(aH+((-2251799813685248)*z20))))),((U r0 3 0)+(z9+(((-2251799813685248)*z12)+(aS+((-2251799813685248)*z22))))),((U r0 4 0)+(aG+(((-2251799813685248)*aq)+(z21+((-2251799813685248)*z24)))))]% 57896044618658097711785492504343953926634992332820282019728792003956564819949=v5 r0% 57896044618658097711785492504343953926634992332820282019728792003956564819949/\v5 [((U r0 0 0)+(((-2251799813685248)*a7)+((19*ai)+(((-2251799813685248)*aO)+(19*aY))))),((U r0 1 0)+(z5+(((-2251799813685248)*aI)+(aF+((-2251799813685248)*aR))))),((U r0 2 0)+(aJ+(((-2251799813685248)*aP)+(aH+((-2251799813685248)*z20))))),((U r0 3 0)+(z9+(((-2251799813685248)*z12)+(aS+((-2251799813685248)*z22))))),((U r0 4 0)+(aG+(((-2251799813685248)*aq)+(z21+((-2251799813685248)*z24)))))]<57896044618658097711785492504343953926634992332820282019728792003956564819949+38
  obtain⟨eU,ag,ad,ao,cZ,rfl,zf,zg,zh,zi,zj,zk,zl,zm,zn,zo⟩:=Ay i0
  simp only[jH,kS]at*
  have oS:z5=a7:=dup fh d5 hH d6
  subst oS
  have po:aJ=aI:=dup qi d7 pN d8
  subst po
  have XR:z9=aP:=dup s4 d9 ur d10
  subst XR
  have XS:aG=z12:=dup z8 d11 C9 d12
  subst XS
  have XT:ai=aq:=dup Da d13 HC d14
  subst XT
  have Mk:aF=aO:=dup Db d15 HD d16
  subst Mk
  have Ml:aH=aR:=dup Dc d17 HE d18
  subst Ml
  have Mm:aS=z20:=dup Dd d19 HF d20
  subst Mm
  have Mn:z21=z22:=dup aW d21 De d22
  subst Mn
  have Mo:aY=z24:=dup Bs d23 Df d24
  subst Mo
  have e:v5 [(eU+(((-2251799813685248)*z5)+((19*ai)+(((-2251799813685248)*aF)+(19*aY))))),(ag+(z5+(((-2251799813685248)*aJ)+(aF+((-2251799813685248)*aH))))),(ad+(aJ+(((-2251799813685248)*z9)+(aH+((-2251799813685248)*aS))))),(ao+(z9+(((-2251799813685248)*aG)+(aS+((-2251799813685248)*z21))))),(cZ+(aG+(((-2251799813685248)*ai)+(z21+((-2251799813685248)*aY)))))]=v5 [eU,ag,ad,ao,cZ]+57896044618658097711785492504343953926634992332820282019728792003956564819949*(-(ai+aY)):=by
   clear a5 oI fh d5 sA sB hH d6 sU sW qi d7 sV sX pN d8 a9 eZ s4 d9 o8 oe ur d10 dQ dU z8 d11 a12 fL C9 d12 h9 ik Da d13 fJ fM HC d14 dR ef Db d15 pL pM HD d16 ej en Dc d17 eC eH HE d18 ia il Dd d19 a20 dV HF d20 a21 eg aW d21 a22 hq De d22 dC dG Bs d23 a24 eh Df d24
   simp only[CA]
   omega
  refine⟨?_,?_⟩
  ·show v5 [(eU+(((-2251799813685248)*z5)+((19*ai)+(((-2251799813685248)*aF)+(19*aY))))),(ag+(z5+(((-2251799813685248)*aJ)+(aF+((-2251799813685248)*aH))))),(ad+(aJ+(((-2251799813685248)*z9)+(aH+((-2251799813685248)*aS))))),(ao+(z9+(((-2251799813685248)*aG)+(aS+((-2251799813685248)*z21))))),(cZ+(aG+(((-2251799813685248)*ai)+(z21+((-2251799813685248)*aY)))))]% 57896044618658097711785492504343953926634992332820282019728792003956564819949=v5 [eU,ag,ad,ao,cZ]% 57896044618658097711785492504343953926634992332820282019728792003956564819949
   rw[e,zx]
  ·show v5 [(eU+(((-2251799813685248)*z5)+((19*ai)+(((-2251799813685248)*aF)+(19*aY))))),(ag+(z5+(((-2251799813685248)*aJ)+(aF+((-2251799813685248)*aH))))),(ad+(aJ+(((-2251799813685248)*z9)+(aH+((-2251799813685248)*aS))))),(ao+(z9+(((-2251799813685248)*aG)+(aS+((-2251799813685248)*z21))))),(cZ+(aG+(((-2251799813685248)*ai)+(z21+((-2251799813685248)*aY)))))]<57896044618658097711785492504343953926634992332820282019728792003956564819949+38
   clear e
   simp only[CA]
   omega
def Sj (S:Nat->List (List Int)->List (List Int)->Prop) (K:List (List Int)->List (List Int)->Prop):Prop:=
 ∀r0:List Int,af (au 0 255 32) r0->
 ∀aL:Int,0<=aL->aL<=8191->0<=((U r0 0 0)+((256*(U r0 1 0))+((65536*(U r0 2 0))+((16777216*(U r0 3 0))+((4294967296*(U r0 4 0))+((1099511627776*(U r0 5 0))+((281474976710656*(U r0 6 0))+(72057594037927936*(U r0 7 0)))))))))-2251799813685248*aL->((U r0 0 0)+((256*(U r0 1 0))+((65536*(U r0 2 0))+((16777216*(U r0 3 0))+((4294967296*(U r0 4 0))+((1099511627776*(U r0 5 0))+((281474976710656*(U r0 6 0))+(72057594037927936*(U r0 7 0)))))))))-2251799813685248*aL<2251799813685248->
 ∀a8:Int,0<=a8->a8<=8191->0<=((U r0 0 0)+((256*(U r0 1 0))+((65536*(U r0 2 0))+((16777216*(U r0 3 0))+((4294967296*(U r0 4 0))+((1099511627776*(U r0 5 0))+((281474976710656*(U r0 6 0))+(72057594037927936*(U r0 7 0)))))))))-2251799813685248*a8->((U r0 0 0)+((256*(U r0 1 0))+((65536*(U r0 2 0))+((16777216*(U r0 3 0))+((4294967296*(U r0 4 0))+((1099511627776*(U r0 5 0))+((281474976710656*(U r0 6 0))+(72057594037927936*(U r0 7 0)))))))))-2251799813685248*a8<2251799813685248->
 ∀bn:Int,0<=bn->bn<=8191->0<=((8192*(U r0 8 0))+((2097152*(U r0 9 0))+((536870912*(U r0 10 0))+((137438953472*(U r0 11 0))+((35184372088832*(U r0 12 0))+((9007199254740992*(U r0 13 0))+((2305843009213693952*(U r0 14 0))+(590295810358705651712*(U r0 15 0)))))))))-18446744073709551616*bn->((8192*(U r0 8 0))+((2097152*(U r0 9 0))+((536870912*(U r0 10 0))+((137438953472*(U r0 11 0))+((35184372088832*(U r0 12 0))+((9007199254740992*(U r0 13 0))+((2305843009213693952*(U r0 14 0))+(590295810358705651712*(U r0 15 0)))))))))-18446744073709551616*bn<18446744073709551616->
 ∀bg:Int,0<=bg->bg<=8191->0<=((8192*(U r0 8 0))+((2097152*(U r0 9 0))+((536870912*(U r0 10 0))+((137438953472*(U r0 11 0))+((35184372088832*(U r0 12 0))+((9007199254740992*(U r0 13 0))+((2305843009213693952*(U r0 14 0))+((590295810358705651712*(U r0 15 0))+(a8+((-18446744073709551616)*bn))))))))))-2251799813685248*bg->((8192*(U r0 8 0))+((2097152*(U r0 9 0))+((536870912*(U r0 10 0))+((137438953472*(U r0 11 0))+((35184372088832*(U r0 12 0))+((9007199254740992*(U r0 13 0))+((2305843009213693952*(U r0 14 0))+((590295810358705651712*(U r0 15 0))+(a8+((-18446744073709551616)*bn))))))))))-2251799813685248*bg<2251799813685248->
 ∀bB:Int,0<=bB->bB<=67108863->0<=((U r0 8 0)+((256*(U r0 9 0))+((65536*(U r0 10 0))+((16777216*(U r0 11 0))+((4294967296*(U r0 12 0))+((1099511627776*(U r0 13 0))+((281474976710656*(U r0 14 0))+(72057594037927936*(U r0 15 0)))))))))-274877906944*bB->((U r0 8 0)+((256*(U r0 9 0))+((65536*(U r0 10 0))+((16777216*(U r0 11 0))+((4294967296*(U r0 12 0))+((1099511627776*(U r0 13 0))+((281474976710656*(U r0 14 0))+(72057594037927936*(U r0 15 0)))))))))-274877906944*bB<274877906944->
 ∀z37:Int,0<=z37->z37<=67108863->0<=((67108864*(U r0 16 0))+((17179869184*(U r0 17 0))+((4398046511104*(U r0 18 0))+((1125899906842624*(U r0 19 0))+((288230376151711744*(U r0 20 0))+((73786976294838206464*(U r0 21 0))+((18889465931478580854784*(U r0 22 0))+(4835703278458516698824704*(U r0 23 0)))))))))-18446744073709551616*z37->((67108864*(U r0 16 0))+((17179869184*(U r0 17 0))+((4398046511104*(U r0 18 0))+((1125899906842624*(U r0 19 0))+((288230376151711744*(U r0 20 0))+((73786976294838206464*(U r0 21 0))+((18889465931478580854784*(U r0 22 0))+(4835703278458516698824704*(U r0 23 0)))))))))-18446744073709551616*z37<18446744073709551616->
 ∀bP:Int,0<=bP->bP<=8191->0<=((67108864*(U r0 16 0))+((17179869184*(U r0 17 0))+((4398046511104*(U r0 18 0))+((1125899906842624*(U r0 19 0))+((288230376151711744*(U r0 20 0))+((73786976294838206464*(U r0 21 0))+((18889465931478580854784*(U r0 22 0))+((4835703278458516698824704*(U r0 23 0))+(bB+((-18446744073709551616)*z37))))))))))-2251799813685248*bP->((67108864*(U r0 16 0))+((17179869184*(U r0 17 0))+((4398046511104*(U r0 18 0))+((1125899906842624*(U r0 19 0))+((288230376151711744*(U r0 20 0))+((73786976294838206464*(U r0 21 0))+((18889465931478580854784*(U r0 22 0))+((4835703278458516698824704*(U r0 23 0))+(bB+((-18446744073709551616)*z37))))))))))-2251799813685248*bP<2251799813685248->
 ∀bI:Int,0<=bI->bI<=549755813887->0<=((U r0 16 0)+((256*(U r0 17 0))+((65536*(U r0 18 0))+((16777216*(U r0 19 0))+((4294967296*(U r0 20 0))+((1099511627776*(U r0 21 0))+((281474976710656*(U r0 22 0))+(72057594037927936*(U r0 23 0)))))))))-33554432*bI->((U r0 16 0)+((256*(U r0 17 0))+((65536*(U r0 18 0))+((16777216*(U r0 19 0))+((4294967296*(U r0 20 0))+((1099511627776*(U r0 21 0))+((281474976710656*(U r0 22 0))+(72057594037927936*(U r0 23 0)))))))))-33554432*bI<33554432->
 ∀z40:Int,0<=z40->z40<=549755813887->0<=((549755813888*(U r0 24 0))+((140737488355328*(U r0 25 0))+((36028797018963968*(U r0 26 0))+((9223372036854775808*(U r0 27 0))+((2361183241434822606848*(U r0 28 0))+((604462909807314587353088*(U r0 29 0))+((154742504910672534362390528*(U r0 30 0))+(39614081257132168796771975168*(U r0 31 0)))))))))-18446744073709551616*z40->((549755813888*(U r0 24 0))+((140737488355328*(U r0 25 0))+((36028797018963968*(U r0 26 0))+((9223372036854775808*(U r0 27 0))+((2361183241434822606848*(U r0 28 0))+((604462909807314587353088*(U r0 29 0))+((154742504910672534362390528*(U r0 30 0))+(39614081257132168796771975168*(U r0 31 0)))))))))-18446744073709551616*z40<18446744073709551616->
 ∀bY:Int,0<=bY->bY<=8191->0<=((549755813888*(U r0 24 0))+((140737488355328*(U r0 25 0))+((36028797018963968*(U r0 26 0))+((9223372036854775808*(U r0 27 0))+((2361183241434822606848*(U r0 28 0))+((604462909807314587353088*(U r0 29 0))+((154742504910672534362390528*(U r0 30 0))+((39614081257132168796771975168*(U r0 31 0))+(bI+((-18446744073709551616)*z40))))))))))-2251799813685248*bY->((549755813888*(U r0 24 0))+((140737488355328*(U r0 25 0))+((36028797018963968*(U r0 26 0))+((9223372036854775808*(U r0 27 0))+((2361183241434822606848*(U r0 28 0))+((604462909807314587353088*(U r0 29 0))+((154742504910672534362390528*(U r0 30 0))+((39614081257132168796771975168*(U r0 31 0))+(bI+((-18446744073709551616)*z40))))))))))-2251799813685248*bY<2251799813685248->
 ∀bT:Int,0<=bT->bT<=4503599627370495->0<=((U r0 24 0)+((256*(U r0 25 0))+((65536*(U r0 26 0))+((16777216*(U r0 27 0))+((4294967296*(U r0 28 0))+((1099511627776*(U r0 29 0))+((281474976710656*(U r0 30 0))+(72057594037927936*(U r0 31 0)))))))))-4096*bT->((U r0 24 0)+((256*(U r0 25 0))+((65536*(U r0 26 0))+((16777216*(U r0 27 0))+((4294967296*(U r0 28 0))+((1099511627776*(U r0 29 0))+((281474976710656*(U r0 30 0))+(72057594037927936*(U r0 31 0)))))))))-4096*bT<4096->
 ∀GL:List Int,af (au 0 4503599627370495 5) GL->S 46 [[((U r0 0 0)+((256*(U r0 1 0))+((65536*(U r0 2 0))+((16777216*(U r0 3 0))+((4294967296*(U r0 4 0))+((1099511627776*(U r0 5 0))+((281474976710656*(U r0 6 0))+((72057594037927936*(U r0 7 0))+((-2251799813685248)*aL))))))))),((8192*(U r0 8 0))+((2097152*(U r0 9 0))+((536870912*(U r0 10 0))+((137438953472*(U r0 11 0))+((35184372088832*(U r0 12 0))+((9007199254740992*(U r0 13 0))+((2305843009213693952*(U r0 14 0))+((590295810358705651712*(U r0 15 0))+(a8+(((-18446744073709551616)*bn)+((-2251799813685248)*bg))))))))))),((67108864*(U r0 16 0))+((17179869184*(U r0 17 0))+((4398046511104*(U r0 18 0))+((1125899906842624*(U r0 19 0))+((288230376151711744*(U r0 20 0))+((73786976294838206464*(U r0 21 0))+((18889465931478580854784*(U r0 22 0))+((4835703278458516698824704*(U r0 23 0))+(bB+(((-18446744073709551616)*z37)+((-2251799813685248)*bP))))))))))),((549755813888*(U r0 24 0))+((140737488355328*(U r0 25 0))+((36028797018963968*(U r0 26 0))+((9223372036854775808*(U r0 27 0))+((2361183241434822606848*(U r0 28 0))+((604462909807314587353088*(U r0 29 0))+((154742504910672534362390528*(U r0 30 0))+((39614081257132168796771975168*(U r0 31 0))+(bI+(((-18446744073709551616)*z40)+((-2251799813685248)*bY))))))))))),bT]] [GL]->
 K [r0] [GL]
theorem aub (G):Sj (jI G) (ji rX.res 29):=by
 unfold Sj
 intro r0 i0 aL dD ht Bt d32 a8 dv dx s3 d33 bn dE dH Dg d34 bg dF dI HG d35 bB dS dW Dh d36 z37 a37 gO Bu d37 bP dw dy HH d38 bI dT dX Di d39 z40 a40 iq Dj d40 bY gi gj HI d41 bT fR fS Dk d42 GL i43 aT
 have aT:v5 GL% 57896044618658097711785492504343953926634992332820282019728792003956564819949=v5 [((U r0 0 0)+((256*(U r0 1 0))+((65536*(U r0 2 0))+((16777216*(U r0 3 0))+((4294967296*(U r0 4 0))+((1099511627776*(U r0 5 0))+((281474976710656*(U r0 6 0))+((72057594037927936*(U r0 7 0))+((-2251799813685248)*aL))))))))),((8192*(U r0 8 0))+((2097152*(U r0 9 0))+((536870912*(U r0 10 0))+((137438953472*(U r0 11 0))+((35184372088832*(U r0 12 0))+((9007199254740992*(U r0 13 0))+((2305843009213693952*(U r0 14 0))+((590295810358705651712*(U r0 15 0))+(a8+(((-18446744073709551616)*bn)+((-2251799813685248)*bg))))))))))),((67108864*(U r0 16 0))+((17179869184*(U r0 17 0))+((4398046511104*(U r0 18 0))+((1125899906842624*(U r0 19 0))+((288230376151711744*(U r0 20 0))+((73786976294838206464*(U r0 21 0))+((18889465931478580854784*(U r0 22 0))+((4835703278458516698824704*(U r0 23 0))+(bB+(((-18446744073709551616)*z37)+((-2251799813685248)*bP))))))))))),((549755813888*(U r0 24 0))+((140737488355328*(U r0 25 0))+((36028797018963968*(U r0 26 0))+((9223372036854775808*(U r0 27 0))+((2361183241434822606848*(U r0 28 0))+((604462909807314587353088*(U r0 29 0))+((154742504910672534362390528*(U r0 30 0))+((39614081257132168796771975168*(U r0 31 0))+(bI+(((-18446744073709551616)*z40)+((-2251799813685248)*bY))))))))))),bT]% 57896044618658097711785492504343953926634992332820282019728792003956564819949/\v5 GL<57896044618658097711785492504343953926634992332820282019728792003956564819949+38:=aT.1
 refine⟨?_,?_⟩
 ·exact va i43
 ·show v5 GL% 57896044618658097711785492504343953926634992332820282019728792003956564819949=nb r0% 57896044618658097711785492504343953926634992332820282019728792003956564819949
  obtain⟨eU,ag,ad,ao,cZ,iV,jG,n7,n8,n9,oA,gX,jF,n6,wu,wv,xW,xX,xY,xZ,x0,x1,x2,x3,x4,x5,x6,x7,x8,x9,ya,yb,rfl,zf,zg,zh,zi,zj,zk,zl,zm,zn,zo,aHC,aHD,aHE,aHF,aHG,aHH,aHI,aHJ,aHK,aHL,aGS,aGT,aGU,aGV,aGW,aGX,aGY,aGZ,aG0,aG1,aG2,aG3,aG4,aG5,aG6,aG7,aG8,aG9,aHa,aHb,aHd,aHe,aHf,aHg,aHh,aHi,aHj,aHk,aHl,aHm,aHn,aHo,aHp,aHq,aHr,aHs,aHt,aHu,aHv,aHw,aHy,aHz,aHA,aHB⟩:=LV i0
  simp only[jH,kS]at*
  have avs:aL=a8:=dup Bt d32 s3 d33
  subst avs
  have Mq:bB=8192*bn+bg:=by
   clear Bt d32 dv dx s3 d33 dE dH dF dI dS dW a37 gO Bu d37 dw dy HH d38 dT dX Di d39 a40 iq Dj d40 gi gj HI d41 fR fS Dk d42 aT
   omega
  have ag5:bI=8192*z37+bP:=by
   clear dD ht Bt d32 dv dx s3 d33 dE dH Dg d34 dF dI HG d35 Dh d36 a37 gO dw dy dT dX a40 iq Dj d40 gi gj HI d41 fR fS Dk d42 aT
   clear Mq
   omega
  have XW:bT=8192*z40+bY:=by
   clear dD ht Bt d32 dv dx s3 d33 dE dH Dg d34 dF dI HG d35 dS dW Dh d36 a37 gO Bu d37 dw dy HH d38 Di d39 a40 iq gi gj fR fS aT
   clear Mq ag5
   omega
  rw[aT.1]
  congr 1
  clear dD ht Bt d32 dv dx s3 d33 dE dH Dg d34 dF dI HG d35 dS dW Dh d36 a37 gO Bu d37 dw dy HH d38 dT dX Di d39 a40 iq Dj d40 gi gj HI d41 fR fS Dk d42 aT
  subst XW
  subst ag5
  subst Mq
  simp only[num]
  omega
def R8 (S:Nat->List (List Int)->List (List Int)->Prop) (K:List (List Int)->List (List Int)->Prop):Prop:=
 ∀r0:List Int,af (au 0 4503599627370495 5) r0->
 ∀av:List Int,af (au 0 4503599627370495 5) av->S 46 [r0] [av]->
 ∀aP:Int,0<=aP->aP<=2->0<=((U av 0 0)+19)-2251799813685248*aP->((U av 0 0)+19)-2251799813685248*aP<2251799813685248->
 ∀aG:Int,0<=aG->aG<=2->0<=((U av 1 0)+aP)-2251799813685248*aG->((U av 1 0)+aP)-2251799813685248*aG<2251799813685248->
 ∀z12:Int,0<=z12->z12<=2->0<=((U av 2 0)+aG)-2251799813685248*z12->((U av 2 0)+aG)-2251799813685248*z12<2251799813685248->
 ∀ai:Int,0<=ai->ai<=2->0<=((U av 3 0)+z12)-2251799813685248*ai->((U av 3 0)+z12)-2251799813685248*ai<2251799813685248->
 ∀aq:Int,0<=aq->aq<=2->0<=((U av 4 0)+ai)-2251799813685248*aq->((U av 4 0)+ai)-2251799813685248*aq<2251799813685248->
 ∀aF:Int,0<=aF->aF<=2->0<=((U av 0 0)+(19*aq))-2251799813685248*aF->((U av 0 0)+(19*aq))-2251799813685248*aF<2251799813685248->
 ∀aO:Int,0<=aO->aO<=2->0<=((U av 0 0)+(19*aq))-2251799813685248*aO->((U av 0 0)+(19*aq))-2251799813685248*aO<2251799813685248->
 ∀aH:Int,0<=aH->aH<=2->0<=((U av 1 0)+aF)-2251799813685248*aH->((U av 1 0)+aF)-2251799813685248*aH<2251799813685248->
 ∀aR:Int,0<=aR->aR<=2->0<=((U av 1 0)+aF)-2251799813685248*aR->((U av 1 0)+aF)-2251799813685248*aR<2251799813685248->
 ∀aS:Int,0<=aS->aS<=2->0<=((U av 2 0)+aH)-2251799813685248*aS->((U av 2 0)+aH)-2251799813685248*aS<2251799813685248->
 ∀z20:Int,0<=z20->z20<=2->0<=((U av 2 0)+aH)-2251799813685248*z20->((U av 2 0)+aH)-2251799813685248*z20<2251799813685248->
 ∀z21:Int,0<=z21->z21<=2->0<=((U av 3 0)+aS)-2251799813685248*z21->((U av 3 0)+aS)-2251799813685248*z21<2251799813685248->
 ∀z22:Int,0<=z22->z22<=2->0<=((U av 3 0)+aS)-2251799813685248*z22->((U av 3 0)+aS)-2251799813685248*z22<2251799813685248->
 ∀aY:Int,0<=aY->aY<=2->0<=((U av 4 0)+z21)-2251799813685248*aY->((U av 4 0)+z21)-2251799813685248*aY<2251799813685248->
 ∀z24:Int,0<=z24->z24<=2->0<=((U av 4 0)+z21)-2251799813685248*z24->((U av 4 0)+z21)-2251799813685248*z24<2251799813685248->
 ∀bh:Int,0<=bh->bh<=8796093022207->0<=((U av 0 0)+((19*aq)+((-2251799813685248)*aO)))-256*bh->((U av 0 0)+((19*aq)+((-2251799813685248)*aO)))-256*bh<256->
 ∀z26:Int,0<=z26->z26<=8796093022207->0<=((U av 0 0)+((19*aq)+((-2251799813685248)*aO)))-256*z26->((U av 0 0)+((19*aq)+((-2251799813685248)*aO)))-256*z26<256->
 ∀bo:Int,0<=bo->bo<=34359738367->0<=z26-256*bo->z26-256*bo<256->
 ∀z28:Int,0<=z28->z28<=34359738367->0<=((U av 0 0)+((19*aq)+((-2251799813685248)*aO)))-65536*z28->((U av 0 0)+((19*aq)+((-2251799813685248)*aO)))-65536*z28<65536->
 ∀bu:Int,0<=bu->bu<=134217727->0<=z28-256*bu->z28-256*bu<256->
 ∀bt:Int,0<=bt->bt<=134217727->0<=((U av 0 0)+((19*aq)+((-2251799813685248)*aO)))-16777216*bt->((U av 0 0)+((19*aq)+((-2251799813685248)*aO)))-16777216*bt<16777216->
 ∀z31:Int,0<=z31->z31<=524287->0<=bt-256*z31->bt-256*z31<256->
 ∀aL:Int,0<=aL->aL<=524287->0<=((U av 0 0)+((19*aq)+((-2251799813685248)*aO)))-4294967296*aL->((U av 0 0)+((19*aq)+((-2251799813685248)*aO)))-4294967296*aL<4294967296->
 ∀a8:Int,0<=a8->a8<=2047->0<=aL-256*a8->aL-256*a8<256->
 ∀bn:Int,0<=bn->bn<=2047->0<=((U av 0 0)+((19*aq)+((-2251799813685248)*aO)))-1099511627776*bn->((U av 0 0)+((19*aq)+((-2251799813685248)*aO)))-1099511627776*bn<1099511627776->
 ∀bg:Int,0<=bg->bg<=7->0<=bn-256*bg->bn-256*bg<256->
 ∀bB:Int,0<=bB->bB<=7->0<=((U av 0 0)+((19*aq)+((-2251799813685248)*aO)))-281474976710656*bB->((U av 0 0)+((19*aq)+((-2251799813685248)*aO)))-281474976710656*bB<281474976710656->
 ∀z37:Int,0<=z37->z37<=70368744177663->0<=((8*(U av 1 0))+((8*aF)+((-18014398509481984)*aR)))-256*z37->((8*(U av 1 0))+((8*aF)+((-18014398509481984)*aR)))-256*z37<256->
 ∀bP:Int,0<=bP->bP<=70368744177663->0<=((U av 1 0)+(aF+((-2251799813685248)*aR)))-32*bP->((U av 1 0)+(aF+((-2251799813685248)*aR)))-32*bP<32->
 ∀bI:Int,0<=bI->bI<=274877906943->0<=bP-256*bI->bP-256*bI<256->
 ∀z40:Int,0<=z40->z40<=274877906943->0<=((U av 1 0)+(aF+((-2251799813685248)*aR)))-8192*z40->((U av 1 0)+(aF+((-2251799813685248)*aR)))-8192*z40<8192->
 ∀bY:Int,0<=bY->bY<=1073741823->0<=z40-256*bY->z40-256*bY<256->
 ∀bT:Int,0<=bT->bT<=1073741823->0<=((U av 1 0)+(aF+((-2251799813685248)*aR)))-2097152*bT->((U av 1 0)+(aF+((-2251799813685248)*aR)))-2097152*bT<2097152->
 ∀cf:Int,0<=cf->cf<=4194303->0<=bT-256*cf->bT-256*cf<256->
 ∀ct:Int,0<=ct->ct<=4194303->0<=((U av 1 0)+(aF+((-2251799813685248)*aR)))-536870912*ct->((U av 1 0)+(aF+((-2251799813685248)*aR)))-536870912*ct<536870912->
 ∀b7:Int,0<=b7->b7<=16383->0<=ct-256*b7->ct-256*b7<256->
 ∀z46:Int,0<=z46->z46<=16383->0<=((U av 1 0)+(aF+((-2251799813685248)*aR)))-137438953472*z46->((U av 1 0)+(aF+((-2251799813685248)*aR)))-137438953472*z46<137438953472->
 ∀b6:Int,0<=b6->b6<=63->0<=z46-256*b6->z46-256*b6<256->
 ∀cd:Int,0<=cd->cd<=63->0<=((U av 1 0)+(aF+((-2251799813685248)*aR)))-35184372088832*cd->((U av 1 0)+(aF+((-2251799813685248)*aR)))-35184372088832*cd<35184372088832->
 ∀z49:Int,0<=z49->z49<=562949953421311->0<=((64*(U av 2 0))+((64*aH)+((-144115188075855872)*z20)))-256*z49->((64*(U av 2 0))+((64*aH)+((-144115188075855872)*z20)))-256*z49<256->
 ∀cm:Int,0<=cm->cm<=562949953421311->0<=((U av 2 0)+(aH+((-2251799813685248)*z20)))-4*cm->((U av 2 0)+(aH+((-2251799813685248)*z20)))-4*cm<4->
 ∀z51:Int,0<=z51->z51<=2199023255551->0<=cm-256*z51->cm-256*z51<256->
 ∀bX:Int,0<=bX->bX<=2199023255551->0<=((U av 2 0)+(aH+((-2251799813685248)*z20)))-1024*bX->((U av 2 0)+(aH+((-2251799813685248)*z20)))-1024*bX<1024->
 ∀z53:Int,0<=z53->z53<=8589934591->0<=bX-256*z53->bX-256*z53<256->
 ∀cn:Int,0<=cn->cn<=8589934591->0<=((U av 2 0)+(aH+((-2251799813685248)*z20)))-262144*cn->((U av 2 0)+(aH+((-2251799813685248)*z20)))-262144*cn<262144->
 ∀cv:Int,0<=cv->cv<=33554431->0<=cn-256*cv->cn-256*cv<256->
 ∀cA:Int,0<=cA->cA<=33554431->0<=((U av 2 0)+(aH+((-2251799813685248)*z20)))-67108864*cA->((U av 2 0)+(aH+((-2251799813685248)*z20)))-67108864*cA<67108864->
 ∀cp:Int,0<=cp->cp<=131071->0<=cA-256*cp->cA-256*cp<256->
 ∀cx:Int,0<=cx->cx<=131071->0<=((U av 2 0)+(aH+((-2251799813685248)*z20)))-17179869184*cx->((U av 2 0)+(aH+((-2251799813685248)*z20)))-17179869184*cx<17179869184->
 ∀z59:Int,0<=z59->z59<=511->0<=cx-256*z59->cx-256*z59<256->
 ∀cE:Int,0<=cE->cE<=511->0<=((U av 2 0)+(aH+((-2251799813685248)*z20)))-4398046511104*cE->((U av 2 0)+(aH+((-2251799813685248)*z20)))-4398046511104*cE<4398046511104->
 ∀cG:Int,0<=cG->cG<=1->0<=cE-256*cG->cE-256*cG<256->
 ∀cH:Int,0<=cH->cH<=1->0<=((U av 2 0)+(aH+((-2251799813685248)*z20)))-1125899906842624*cH->((U av 2 0)+(aH+((-2251799813685248)*z20)))-1125899906842624*cH<1125899906842624->
 ∀cq:Int,0<=cq->cq<=17592186044415->0<=((2*(U av 3 0))+((2*aS)+((-4503599627370496)*z22)))-256*cq->((2*(U av 3 0))+((2*aS)+((-4503599627370496)*z22)))-256*cq<256->
 ∀cU:Int,0<=cU->cU<=17592186044415->0<=((U av 3 0)+(aS+((-2251799813685248)*z22)))-128*cU->((U av 3 0)+(aS+((-2251799813685248)*z22)))-128*cU<128->
 ∀c9:Int,0<=c9->c9<=68719476735->0<=cU-256*c9->cU-256*c9<256->
 ∀c2:Int,0<=c2->c2<=68719476735->0<=((U av 3 0)+(aS+((-2251799813685248)*z22)))-32768*c2->((U av 3 0)+(aS+((-2251799813685248)*z22)))-32768*c2<32768->
 ∀cX:Int,0<=cX->cX<=268435455->0<=c2-256*cX->c2-256*cX<256->
 ∀dh:Int,0<=dh->dh<=268435455->0<=((U av 3 0)+(aS+((-2251799813685248)*z22)))-8388608*dh->((U av 3 0)+(aS+((-2251799813685248)*z22)))-8388608*dh<8388608->
 ∀cI:Int,0<=cI->cI<=1048575->0<=dh-256*cI->dh-256*cI<256->
 ∀z70:Int,0<=z70->z70<=1048575->0<=((U av 3 0)+(aS+((-2251799813685248)*z22)))-2147483648*z70->((U av 3 0)+(aS+((-2251799813685248)*z22)))-2147483648*z70<2147483648->
 ∀dn:Int,0<=dn->dn<=4095->0<=z70-256*dn->z70-256*dn<256->
 ∀z72:Int,0<=z72->z72<=4095->0<=((U av 3 0)+(aS+((-2251799813685248)*z22)))-549755813888*z72->((U av 3 0)+(aS+((-2251799813685248)*z22)))-549755813888*z72<549755813888->
 ∀cQ:Int,0<=cQ->cQ<=15->0<=z72-256*cQ->z72-256*cQ<256->
 ∀e1:Int,0<=e1->e1<=15->0<=((U av 3 0)+(aS+((-2251799813685248)*z22)))-140737488355328*e1->((U av 3 0)+(aS+((-2251799813685248)*z22)))-140737488355328*e1<140737488355328->
 ∀z75:Int,0<=z75->z75<=140737488355327->0<=((16*(U av 4 0))+((16*z21)+((-36028797018963968)*z24)))-256*z75->((16*(U av 4 0))+((16*z21)+((-36028797018963968)*z24)))-256*z75<256->
 ∀z76:Int,0<=z76->z76<=140737488355327->0<=((U av 4 0)+(z21+((-2251799813685248)*z24)))-16*z76->((U av 4 0)+(z21+((-2251799813685248)*z24)))-16*z76<16->
 ∀eK:Int,0<=eK->eK<=549755813887->0<=z76-256*eK->z76-256*eK<256->
 ∀dA:Int,0<=dA->dA<=549755813887->0<=((U av 4 0)+(z21+((-2251799813685248)*z24)))-4096*dA->((U av 4 0)+(z21+((-2251799813685248)*z24)))-4096*dA<4096->
 ∀ee:Int,0<=ee->ee<=2147483647->0<=dA-256*ee->dA-256*ee<256->
 ∀eF:Int,0<=eF->eF<=2147483647->0<=((U av 4 0)+(z21+((-2251799813685248)*z24)))-1048576*eF->((U av 4 0)+(z21+((-2251799813685248)*z24)))-1048576*eF<1048576->
 ∀fH:Int,0<=fH->fH<=8388607->0<=eF-256*fH->eF-256*fH<256->
 ∀fk:Int,0<=fk->fk<=8388607->0<=((U av 4 0)+(z21+((-2251799813685248)*z24)))-268435456*fk->((U av 4 0)+(z21+((-2251799813685248)*z24)))-268435456*fk<268435456->
 ∀eV:Int,0<=eV->eV<=32767->0<=fk-256*eV->fk-256*eV<256->
 ∀fI:Int,0<=fI->fI<=32767->0<=((U av 4 0)+(z21+((-2251799813685248)*z24)))-68719476736*fI->((U av 4 0)+(z21+((-2251799813685248)*z24)))-68719476736*fI<68719476736->
 ∀z85:Int,0<=z85->z85<=127->0<=fI-256*z85->fI-256*z85<256->
 ∀fv:Int,0<=fv->fv<=127->0<=((U av 4 0)+(z21+((-2251799813685248)*z24)))-17592186044416*fv->((U av 4 0)+(z21+((-2251799813685248)*z24)))-17592186044416*fv<17592186044416->
 K [r0] [[((U av 0 0)+((19*aq)+(((-2251799813685248)*aO)+((-256)*bh)))),(z26+((-256)*bo)),(z28+((-256)*bu)),(bt+((-256)*z31)),(aL+((-256)*a8)),(bn+((-256)*bg)),((8*(U av 1 0))+((8*aF)+(((-18014398509481984)*aR)+(bB+((-256)*z37))))),(bP+((-256)*bI)),(z40+((-256)*bY)),(bT+((-256)*cf)),(ct+((-256)*b7)),(z46+((-256)*b6)),((64*(U av 2 0))+((64*aH)+(((-144115188075855872)*z20)+(cd+((-256)*z49))))),(cm+((-256)*z51)),(bX+((-256)*z53)),(cn+((-256)*cv)),(cA+((-256)*cp)),(cx+((-256)*z59)),(cE+((-256)*cG)),((2*(U av 3 0))+((2*aS)+(((-4503599627370496)*z22)+(cH+((-256)*cq))))),(cU+((-256)*c9)),(c2+((-256)*cX)),(dh+((-256)*cI)),(z70+((-256)*dn)),(z72+((-256)*cQ)),((16*(U av 4 0))+((16*z21)+(((-36028797018963968)*z24)+(e1+((-256)*z75))))),(z76+((-256)*eK)),(dA+((-256)*ee)),(eF+((-256)*fH)),(fk+((-256)*eV)),(fI+((-256)*z85)),fv]]
structure wP (p:Prop):Prop where
 h:p
theorem b4 {a b c d:Prop} (ha:a) (hb:b) (hc:c) (hd:d):wP (a/\b/\c/\d):=⟨ha,hb,hc,hd⟩
theorem XG (G):R8 (jI G) (ji hX.res 31):=by
 unfold R8
 intro r0 i0 av i5 aT aP o8 oe ur d10 aG dQ dU z8 d11 z12 a12 fL C9 d12 ai h9 ik Da d13 aq fJ fM HC d14 aF dR ef Db d15 aO pL pM HD d16 aH ej en Dc d17 aR eC eH HE d18 aS ia il Dd d19 z20 a20 dV HF d20 z21 a21 eg aW d21 z22 a22 hq De d22 aY dC dG Bs d23 z24 a24 eh Df d24 bh ek ei Fj d25 z26 a26 eo acj d26 bo ib im Oe d27 z28 a28 eE Of d28 bu ev ew ack d29 bt eD ey Oh d30 z31 a31 eQ Oi d31 aL dD ht Bt d32 a8 dv dx s3 d33 bn dE dH Dg d34 bg dF dI HG d35 bB dS dW Dh d36 z37 a37 gO Bu d37 bP dw dy HH d38 bI dT dX Di d39 z40 a40 iq Dj d40 bY gi gj HI d41 bT fR fS Dk d42 cf hh gP Oj d43 ct hj hA acm d44 b7 u2 vc Ok d45 z46 a46 ir Ol d46 b6 gM gQ acn d47 cd hk hB Om d48 z49 a49 hC On d49 cm uj uk aco d50 z51 a51 hD Oo d51 bX gN gR Oq d52 z53 a53 hS acp d53 cn hP hT Ot d54 cv u3 vd Ou d55 cA ho hE acq d56 cp ic iu Ov d57 cx u4 ve Ow d58 z59 a59 hG acr d59 cE ie iv Ox d60 cG jk iY Oy d61 cH ig iw acs d62 cq zR zY Oz d63 cU fp ix OA d64 c9 ij iy acu d65 c2 jl iZ OB d66 cX iK iM OC d67 dh zS zZ acv d68 cI iL iN OD d69 z70 a70 iO OE d70 dn jz jm acx d71 z72 a72 jn OF d72 cQ yw vf OG d73 e1 zT z1 acy d74 z75 a75 yD OH d75 z76 a76 vg OI d76 eK wR w3 acz d77 dA wS w4 OJ d78 ee wT w5 OK d79 eF zU z6 OL d80 fH wU w6 Kl d81 fk wV w7 Km d82 eV wW w8 OM d83 fI wX w9 Kn d84 z85 a85 z7 Ko d85 fv CV C2 ON d86
 have Dn:=b4 o8 oe ur d10;have al9:=b4 dQ dU z8 d11;have Dp:=b4 a12 fL C9 d12;have O5:=b4 h9 ik Da d13
 have yF:=b4 fJ fM HC d14;have HS:=b4 dR ef Db d15;have xf:=b4 pL pM HD d16;have O6:=b4 ej en Dc d17
 have Dq:=b4 eC eH HE d18;have HT:=b4 ia il Dd d19;have Dr:=b4 a20 dV HF d20;have O7:=b4 a21 eg aW d21
 have Ds:=b4 a22 hq De d22;have Ky:=b4 dC dG Bs d23;have Dt:=b4 a24 eh Df d24;have Du:=b4 ek ei Fj d25
 have Af:=b4 a26 eo acj d26;have Fp:=b4 ib im Oe d27;have Kz:=b4 a28 eE Of d28;have By:=b4 ev ew ack d29
 have KA:=b4 eD ey Oh d30;have Fq:=b4 a31 eQ Oi d31;have HU:=b4 dD ht Bt d32;have HV:=b4 dv dx s3 d33
 have KB:=b4 dE dH Dg d34;have HW:=b4 dF dI HG d35;have Fs:=b4 dS dW Dh d36;have Dv:=b4 a37 gO Bu d37
 have Dw:=b4 dw dy HH d38;have Ft:=b4 dT dX Di d39;have KC:=b4 a40 iq Dj d40;have Bz:=b4 gi gj HI d41
 have KD:=b4 fR fS Dk d42;have KE:=b4 hh gP Oj d43;have Ag:=b4 hj hA acm d44;have O8:=b4 u2 vc Ok d45
 have Uz:=b4 a46 ir Ol d46;have Dx:=b4 gM gQ acn d47;have KF:=b4 hk hB Om d48;have yG:=b4 a49 hC On d49
 have Dy:=b4 uj uk aco d50;have Dz:=b4 a51 hD Oo d51;have KG:=b4 gN gR Oq d52;have Ah:=b4 a53 hS acp d53
 have Fu:=b4 hP hT Ot d54;have HX:=b4 u3 vd Ou d55;have DA:=b4 ho hE acq d56;have KH:=b4 ic iu Ov d57
 have KI:=b4 u4 ve Ow d58;have Fv:=b4 a59 hG acr d59;have UA:=b4 ie iv Ox d60;have UB:=b4 jk iY Oy d61
 have DB:=b4 ig iw acs d62;have yH:=b4 zR zY Oz d63;have UC:=b4 fp ix OA d64;have Ai:=b4 ij iy acu d65
 have UD:=b4 jl iZ OB d66;have DC:=b4 iK iM OC d67;have HY:=b4 zS zZ acv d68;have KJ:=b4 iL iN OD d69
 have UE:=b4 a70 iO OE d70;have Fw:=b4 jz jm acx d71;have KK:=b4 a72 jn OF d72;have UF:=b4 yw vf OG d73
 have HZ:=b4 zT z1 acy d74;have DD:=b4 a75 yD OH d75;have UG:=b4 a76 vg OI d76;have Aj:=b4 wR w3 acz d77
 have UH:=b4 wS w4 OJ d78;have H0:=b4 wT w5 OK d79;have UI:=b4 zU z6 OL d80;have KL:=b4 wU w6 Kl d81
 have UJ:=b4 wV w7 Km d82;have O9:=b4 wW w8 OM d83;have UK:=b4 wX w9 Kn d84;have UL:=b4 a85 z7 Ko d85
 have UM:=b4 CV C2 ON d86
 clear o8 oe ur d10 dQ dU z8 d11 a12 fL C9 d12 h9 ik Da d13 fJ fM HC d14 dR ef Db d15 pL pM HD d16 ej en Dc d17 eC eH HE d18 ia il Dd d19 a20 dV HF d20 a21 eg aW d21 a22 hq De d22 dC dG Bs d23 a24 eh Df d24 ek ei Fj d25 a26 eo acj d26 ib im Oe d27 a28 eE Of d28 ev ew ack d29 eD ey Oh d30 a31 eQ Oi d31 dD ht Bt d32 dv dx s3 d33 dE dH Dg d34 dF dI HG d35 dS dW Dh d36 a37 gO Bu d37 dw dy HH d38 dT dX Di d39 a40 iq Dj d40 gi gj HI d41 fR fS Dk d42 hh gP Oj d43 hj hA acm d44 u2 vc Ok d45 a46 ir Ol d46 gM gQ acn d47 hk hB Om d48 a49 hC On d49 uj uk aco d50 a51 hD Oo d51 gN gR Oq d52 a53 hS acp d53 hP hT Ot d54 u3 vd Ou d55 ho hE acq d56 ic iu Ov d57 u4 ve Ow d58 a59 hG acr d59 ie iv Ox d60 jk iY Oy d61 ig iw acs d62 zR zY Oz d63 fp ix OA d64 ij iy acu d65 jl iZ OB d66 iK iM OC d67 zS zZ acv d68 iL iN OD d69 a70 iO OE d70 jz jm acx d71 a72 jn OF d72 yw vf OG d73 zT z1 acy d74 a75 yD OH d75 a76 vg OI d76 wR w3 acz d77 wS w4 OJ d78 wT w5 OK d79 zU z6 OL d80 wU w6 Kl d81 wV w7 Km d82 wW w8 OM d83 wX w9 Kn d84 a85 z7 Ko d85 CV C2 ON d86
 have aT:v5 av% 57896044618658097711785492504343953926634992332820282019728792003956564819949=v5 r0% 57896044618658097711785492504343953926634992332820282019728792003956564819949/\v5 av<57896044618658097711785492504343953926634992332820282019728792003956564819949+38:=aT.1
 have aT:=wP.mk aT
 refine⟨?_,?_⟩
 ·obtain⟨eU,ag,ad,ao,cZ,rfl,zf,zg,zh,zi,zj,zk,zl,zm,zn,zo⟩:=Ay i5
  have f0:=wP.mk (CG zf zg);have f1:=wP.mk (CG zh zi);have f2:=wP.mk (CG zj zk);have f3:=wP.mk (CG zl zm);have f4:=wP.mk (CG zn zo)
  clear zf zg zh zi zj zk zl zm zn zo
  simp only[jH,kS]at*
  simp only[hX,bk,D.bds,hU,au,mY,gp,gZ,uT,G4,af,and_true]
  exact⟨by have:=yF.h;have:=xf.h;have:=Du.h;omega,
   by have:=yF.h;have:=xf.h;have:=Du.h;omega,
   by have:=Af.h;have:=Fp.h;omega,
   by have:=Af.h;have:=Fp.h;omega,
   by have:=Kz.h;have:=By.h;omega,
   by have:=Kz.h;have:=By.h;omega,
   by have:=KA.h;have:=Fq.h;omega,
   by have:=KA.h;have:=Fq.h;omega,
   by have:=HU.h;have:=HV.h;omega,
   by have:=HU.h;have:=HV.h;omega,
   by have:=KB.h;have:=HW.h;omega,
   by have:=KB.h;have:=HW.h;omega,
   by have:=HS.h;have:=Dq.h;have:=Fs.h;have:=Dv.h;omega,
   by have:=HS.h;have:=Dq.h;have:=Fs.h;have:=Dv.h;omega,
   by have:=Dw.h;have:=Ft.h;omega,
   by have:=Dw.h;have:=Ft.h;omega,
   by have:=KC.h;have:=Bz.h;omega,
   by have:=KC.h;have:=Bz.h;omega,
   by have:=KD.h;have:=KE.h;omega,
   by have:=KD.h;have:=KE.h;omega,
   by have:=Ag.h;have:=O8.h;omega,
   by have:=Ag.h;have:=O8.h;omega,
   by have:=Uz.h;have:=Dx.h;omega,
   by have:=Uz.h;have:=Dx.h;omega,
   by have:=O6.h;have:=Dr.h;have:=KF.h;have:=yG.h;omega,
   by have:=O6.h;have:=Dr.h;have:=KF.h;have:=yG.h;omega,
   by have:=Dy.h;have:=Dz.h;omega,
   by have:=Dy.h;have:=Dz.h;omega,
   by have:=KG.h;have:=Ah.h;omega,
   by have:=KG.h;have:=Ah.h;omega,
   by have:=Fu.h;have:=HX.h;omega,
   by have:=Fu.h;have:=HX.h;omega,
   by have:=DA.h;have:=KH.h;omega,
   by have:=DA.h;have:=KH.h;omega,
   by have:=KI.h;have:=Fv.h;omega,
   by have:=KI.h;have:=Fv.h;omega,
   by have:=UA.h;have:=UB.h;omega,
   by have:=UA.h;have:=UB.h;omega,
   by have:=HT.h;have:=Ds.h;have:=DB.h;have:=yH.h;omega,
   by have:=HT.h;have:=Ds.h;have:=DB.h;have:=yH.h;omega,
   by have:=UC.h;have:=Ai.h;omega,
   by have:=UC.h;have:=Ai.h;omega,
   by have:=UD.h;have:=DC.h;omega,
   by have:=UD.h;have:=DC.h;omega,
   by have:=HY.h;have:=KJ.h;omega,
   by have:=HY.h;have:=KJ.h;omega,
   by have:=UE.h;have:=Fw.h;omega,
   by have:=UE.h;have:=Fw.h;omega,
   by have:=KK.h;have:=UF.h;omega,
   by have:=KK.h;have:=UF.h;omega,
   by have:=O7.h;have:=Dt.h;have:=HZ.h;have:=DD.h;omega,
   by have:=O7.h;have:=Dt.h;have:=HZ.h;have:=DD.h;omega,
   by have:=UG.h;have:=Aj.h;omega,
   by have:=UG.h;have:=Aj.h;omega,
   by have:=UH.h;have:=H0.h;omega,
   by have:=UH.h;have:=H0.h;omega,
   by have:=UI.h;have:=KL.h;omega,
   by have:=UI.h;have:=KL.h;omega,
   by have:=UJ.h;have:=O9.h;omega,
   by have:=UJ.h;have:=O9.h;omega,
   by have:=UK.h;have:=UL.h;omega,
   by have:=UK.h;have:=UL.h;omega,
   by have:=UM.h;omega,
   by have:=UM.h;omega⟩
 ·show nb [((U av 0 0)+((19*aq)+(((-2251799813685248)*aO)+((-256)*bh)))),(z26+((-256)*bo)),(z28+((-256)*bu)),(bt+((-256)*z31)),(aL+((-256)*a8)),(bn+((-256)*bg)),((8*(U av 1 0))+((8*aF)+(((-18014398509481984)*aR)+(bB+((-256)*z37))))),(bP+((-256)*bI)),(z40+((-256)*bY)),(bT+((-256)*cf)),(ct+((-256)*b7)),(z46+((-256)*b6)),((64*(U av 2 0))+((64*aH)+(((-144115188075855872)*z20)+(cd+((-256)*z49))))),(cm+((-256)*z51)),(bX+((-256)*z53)),(cn+((-256)*cv)),(cA+((-256)*cp)),(cx+((-256)*z59)),(cE+((-256)*cG)),((2*(U av 3 0))+((2*aS)+(((-4503599627370496)*z22)+(cH+((-256)*cq))))),(cU+((-256)*c9)),(c2+((-256)*cX)),(dh+((-256)*cI)),(z70+((-256)*dn)),(z72+((-256)*cQ)),((16*(U av 4 0))+((16*z21)+(((-36028797018963968)*z24)+(e1+((-256)*z75))))),(z76+((-256)*eK)),(dA+((-256)*ee)),(eF+((-256)*fH)),(fk+((-256)*eV)),(fI+((-256)*z85)),fv]=v5 r0% 57896044618658097711785492504343953926634992332820282019728792003956564819949
  have aU:=azj i5
  obtain⟨eU,ag,ad,ao,cZ,rfl,zf,zg,zh,zi,zj,zk,zl,zm,zn,zo⟩:=Ay i5
  have f0:=wP.mk (CG zf zg);have f1:=wP.mk (CG zh zi);have f2:=wP.mk (CG zj zk);have f3:=wP.mk (CG zl zm);have f4:=wP.mk (CG zn zo)
  clear zf zg zh zi zj zk zl zm zn zo
  simp only[jH,kS]at*
  have Mk:aF=aO:=by
   have:=HS.h;have:=xf.h;have:=f0.h;have:=f1.h;have:=f2.h;have:=f3.h;have:=f4.h
   omega
  subst Mk
  have Ml:aH=aR:=by
   have:=O6.h;have:=Dq.h;have:=f0.h;have:=f1.h;have:=f2.h;have:=f3.h;have:=f4.h
   omega
  subst Ml
  have Mm:aS=z20:=by
   have:=HT.h;have:=Dr.h;have:=f0.h;have:=f1.h;have:=f2.h;have:=f3.h;have:=f4.h
   omega
  subst Mm
  have Mn:z21=z22:=by
   have:=O7.h;have:=Ds.h;have:=f0.h;have:=f1.h;have:=f2.h;have:=f3.h;have:=f4.h
   omega
  subst Mn
  have Mo:aY=z24:=by
   have:=Ky.h;have:=Dt.h;have:=f0.h;have:=f1.h;have:=f2.h;have:=f3.h;have:=f4.h
   omega
  subst Mo
  have avo:bh=z26:=by
   have:=Du.h;have:=Af.h;have:=f0.h;have:=f1.h;have:=f2.h;have:=f3.h;have:=f4.h
   omega
  subst avo
  have avp:bo=z28:=by
   have:=Du.h;have:=Fp.h;have:=Kz.h;have:=f0.h;have:=f1.h;have:=f2.h;have:=f3.h;have:=f4.h
   omega
  subst avp
  have avq:bu=bt:=by
   have:=Du.h;have:=Fp.h;have:=By.h;have:=KA.h;have:=f0.h;have:=f1.h;have:=f2.h;have:=f3.h;have:=f4.h
   omega
  subst avq
  have avr:z31=aL:=by
   have:=Du.h;have:=Fp.h;have:=By.h;have:=Fq.h;have:=HU.h;have:=f0.h;have:=f1.h;have:=f2.h;have:=f3.h;have:=f4.h
   omega
  subst avr
  have avt:a8=bn:=by
   have:=Du.h;have:=Fp.h;have:=By.h;have:=Fq.h;have:=HV.h;have:=KB.h;have:=f0.h;have:=f1.h;have:=f2.h;have:=f3.h;have:=f4.h
   omega
  subst avt
  have Mq:bg=bB:=by
   have:=Du.h;have:=Fp.h;have:=By.h;have:=Fq.h;have:=HV.h;have:=HW.h;have:=Fs.h;have:=f0.h;have:=f1.h;have:=f2.h;have:=f3.h;have:=f4.h
   omega
  subst Mq
  have avu:z37=bP:=by
   have:=Dv.h;have:=Dw.h;have:=f0.h;have:=f1.h;have:=f2.h;have:=f3.h;have:=f4.h
   omega
  subst avu
  have avv:bI=z40:=by
   have:=Dv.h;have:=Ft.h;have:=KC.h;have:=f0.h;have:=f1.h;have:=f2.h;have:=f3.h;have:=f4.h
   omega
  subst avv
  have XW:bY=bT:=by
   have:=Dv.h;have:=Ft.h;have:=Bz.h;have:=KD.h;have:=f0.h;have:=f1.h;have:=f2.h;have:=f3.h;have:=f4.h
   omega
  subst XW
  have avw:cf=ct:=by
   have:=Dv.h;have:=Ft.h;have:=Bz.h;have:=KE.h;have:=Ag.h;have:=f0.h;have:=f1.h;have:=f2.h;have:=f3.h;have:=f4.h
   omega
  subst avw
  have avx:b7=z46:=by
   have:=Dv.h;have:=Ft.h;have:=Bz.h;have:=KE.h;have:=O8.h;have:=Uz.h;have:=f0.h;have:=f1.h;have:=f2.h;have:=f3.h;have:=f4.h
   omega
  subst avx
  have avy:b6=cd:=by
   have:=Dv.h;have:=Ft.h;have:=Bz.h;have:=KE.h;have:=O8.h;have:=Dx.h;have:=KF.h;have:=f0.h;have:=f1.h;have:=f2.h;have:=f3.h;have:=f4.h
   omega
  subst avy
  have avz:z49=cm:=by
   have:=yG.h;have:=Dy.h;have:=f0.h;have:=f1.h;have:=f2.h;have:=f3.h;have:=f4.h
   omega
  subst avz
  have avA:z51=bX:=by
   have:=yG.h;have:=Dz.h;have:=KG.h;have:=f0.h;have:=f1.h;have:=f2.h;have:=f3.h;have:=f4.h
   omega
  subst avA
  have avB:z53=cn:=by
   have:=yG.h;have:=Dz.h;have:=Ah.h;have:=Fu.h;have:=f0.h;have:=f1.h;have:=f2.h;have:=f3.h;have:=f4.h
   omega
  subst avB
  have avC:cv=cA:=by
   have:=yG.h;have:=Dz.h;have:=Ah.h;have:=HX.h;have:=DA.h;have:=f0.h;have:=f1.h;have:=f2.h;have:=f3.h;have:=f4.h
   omega
  subst avC
  have avD:cp=cx:=by
   have:=yG.h;have:=Dz.h;have:=Ah.h;have:=HX.h;have:=KH.h;have:=KI.h;have:=f0.h;have:=f1.h;have:=f2.h;have:=f3.h;have:=f4.h
   omega
  subst avD
  have avE:z59=cE:=by
   have:=yG.h;have:=Dz.h;have:=Ah.h;have:=HX.h;have:=KH.h;have:=Fv.h;have:=UA.h;have:=f0.h;have:=f1.h;have:=f2.h;have:=f3.h;have:=f4.h
   omega
  subst avE
  have avF:cG=cH:=by
   have:=yG.h;have:=Dz.h;have:=Ah.h;have:=HX.h;have:=KH.h;have:=Fv.h;have:=UB.h;have:=DB.h;have:=f0.h;have:=f1.h;have:=f2.h;have:=f3.h;have:=f4.h
   omega
  subst avF
  have avG:cq=cU:=by
   have:=yH.h;have:=UC.h;have:=f0.h;have:=f1.h;have:=f2.h;have:=f3.h;have:=f4.h
   omega
  subst avG
  have avH:c9=c2:=by
   have:=yH.h;have:=Ai.h;have:=UD.h;have:=f0.h;have:=f1.h;have:=f2.h;have:=f3.h;have:=f4.h
   omega
  subst avH
  have avI:cX=dh:=by
   have:=yH.h;have:=Ai.h;have:=DC.h;have:=HY.h;have:=f0.h;have:=f1.h;have:=f2.h;have:=f3.h;have:=f4.h
   omega
  subst avI
  have avJ:cI=z70:=by
   have:=yH.h;have:=Ai.h;have:=DC.h;have:=KJ.h;have:=UE.h;have:=f0.h;have:=f1.h;have:=f2.h;have:=f3.h;have:=f4.h
   omega
  subst avJ
  have avK:dn=z72:=by
   have:=yH.h;have:=Ai.h;have:=DC.h;have:=KJ.h;have:=Fw.h;have:=KK.h;have:=f0.h;have:=f1.h;have:=f2.h;have:=f3.h;have:=f4.h
   omega
  subst avK
  have avL:cQ=e1:=by
   have:=yH.h;have:=Ai.h;have:=DC.h;have:=KJ.h;have:=Fw.h;have:=UF.h;have:=HZ.h;have:=f0.h;have:=f1.h;have:=f2.h;have:=f3.h;have:=f4.h
   omega
  subst avL
  have avM:z75=z76:=by
   have:=DD.h;have:=UG.h;have:=f0.h;have:=f1.h;have:=f2.h;have:=f3.h;have:=f4.h
   omega
  subst avM
  have avN:eK=dA:=by
   have:=DD.h;have:=Aj.h;have:=UH.h;have:=f0.h;have:=f1.h;have:=f2.h;have:=f3.h;have:=f4.h
   omega
  subst avN
  have avO:ee=eF:=by
   have:=DD.h;have:=Aj.h;have:=H0.h;have:=UI.h;have:=f0.h;have:=f1.h;have:=f2.h;have:=f3.h;have:=f4.h
   omega
  subst avO
  have X0:fH=fk:=by
   have:=DD.h;have:=Aj.h;have:=H0.h;have:=KL.h;have:=UJ.h;have:=f0.h;have:=f1.h;have:=f2.h;have:=f3.h;have:=f4.h
   omega
  subst X0
  have avP:eV=fI:=by
   have:=DD.h;have:=Aj.h;have:=H0.h;have:=KL.h;have:=O9.h;have:=UK.h;have:=f0.h;have:=f1.h;have:=f2.h;have:=f3.h;have:=f4.h
   omega
  subst avP
  have avR:z85=fv:=by
   have:=DD.h;have:=Aj.h;have:=H0.h;have:=KL.h;have:=O9.h;have:=UL.h;have:=UM.h;have:=f0.h;have:=f1.h;have:=f2.h;have:=f3.h;have:=f4.h
   omega
  subst avR
  have ac6:nb [(eU+((19*aq)+(((-2251799813685248)*aF)+((-256)*bh)))),(bh+((-256)*bo)),(bo+((-256)*bu)),(bu+((-256)*z31)),(z31+((-256)*a8)),(a8+((-256)*bg)),((8*ag)+((8*aF)+(((-18014398509481984)*aH)+(bg+((-256)*z37))))),(z37+((-256)*bI)),(bI+((-256)*bY)),(bY+((-256)*cf)),(cf+((-256)*b7)),(b7+((-256)*b6)),((64*ad)+((64*aH)+(((-144115188075855872)*aS)+(b6+((-256)*z49))))),(z49+((-256)*z51)),(z51+((-256)*z53)),(z53+((-256)*cv)),(cv+((-256)*cp)),(cp+((-256)*z59)),(z59+((-256)*cG)),((2*ao)+((2*aS)+(((-4503599627370496)*z21)+(cG+((-256)*cq))))),(cq+((-256)*c9)),(c9+((-256)*cX)),(cX+((-256)*cI)),(cI+((-256)*dn)),(dn+((-256)*cQ)),((16*cZ)+((16*z21)+(((-36028797018963968)*aY)+(cQ+((-256)*z75))))),(z75+((-256)*eK)),(eK+((-256)*ee)),(ee+((-256)*fH)),(fH+((-256)*eV)),(eV+((-256)*z85)),z85]=v5 [eU,ag,ad,ao,cZ]+19*aq-57896044618658097711785492504343953926634992332820282019728792003956564819968*aY:=by
   have:=f0.h;have:=f1.h;have:=f2.h;have:=f3.h;have:=f4.h
   simp only[num]
   omega
  rw[ac6]
  clear ac6
  obtain⟨ahA,v7⟩:=aT.h
  rw[<-ahA]
  clear ahA
  have aq8:0<=eU+19-2251799813685248*aP/\eU+19-2251799813685248*aP<2251799813685248:=by
   have:=Dn.h;have:=f0.h;have:=f1.h;have:=f2.h;have:=f3.h;have:=f4.h;clear aU v7
   omega
  have aq9:0<=ag+aP-2251799813685248*aG/\ag+aP-2251799813685248*aG<2251799813685248:=by
   have:=al9.h;have:=f0.h;have:=f1.h;have:=f2.h;have:=f3.h;have:=f4.h;clear aU v7
   omega
  have ara:0<=ad+aG-2251799813685248*z12/\ad+aG-2251799813685248*z12<2251799813685248:=by
   have:=Dp.h;have:=f0.h;have:=f1.h;have:=f2.h;have:=f3.h;have:=f4.h;clear aU v7
   omega
  have arb:0<=ao+z12-2251799813685248*ai/\ao+z12-2251799813685248*ai<2251799813685248:=by
   have:=O5.h;have:=f0.h;have:=f1.h;have:=f2.h;have:=f3.h;have:=f4.h;clear aU v7
   omega
  have arc:0<=cZ+ai-2251799813685248*aq/\cZ+ai-2251799813685248*aq<2251799813685248:=by
   have:=yF.h;have:=f0.h;have:=f1.h;have:=f2.h;have:=f3.h;have:=f4.h;clear aU v7
   omega
  have k1:=adr aq8 aq9 ara arb arc
  have ard:0<=eU+19*aq-2251799813685248*aF/\eU+19*aq-2251799813685248*aF<2251799813685248:=by
   have:=HS.h;have:=f0.h;have:=f1.h;have:=f2.h;have:=f3.h;have:=f4.h;clear aU v7
   omega
  have arf:0<=ag+aF-2251799813685248*aH/\ag+aF-2251799813685248*aH<2251799813685248:=by
   have:=O6.h;have:=f0.h;have:=f1.h;have:=f2.h;have:=f3.h;have:=f4.h;clear aU v7
   omega
  have arh:0<=ad+aH-2251799813685248*aS/\ad+aH-2251799813685248*aS<2251799813685248:=by
   have:=HT.h;have:=f0.h;have:=f1.h;have:=f2.h;have:=f3.h;have:=f4.h;clear aU v7
   omega
  have ari:0<=ao+aS-2251799813685248*z21/\ao+aS-2251799813685248*z21<2251799813685248:=by
   have:=O7.h;have:=f0.h;have:=f1.h;have:=f2.h;have:=f3.h;have:=f4.h;clear aU v7
   omega
  have arj:0<=cZ+z21-2251799813685248*aY/\cZ+z21-2251799813685248*aY<2251799813685248:=by
   have:=Ky.h;have:=f0.h;have:=f1.h;have:=f2.h;have:=f3.h;have:=f4.h;clear aU v7
   omega
  have k2:=adr ard arf arh ari arj
  have:=f0.h;have:=f1.h;have:=f2.h;have:=f3.h;have:=f4.h
  have afG:eU+19-2251799813685248*aP+2251799813685248*(ag+aP-2251799813685248*aG)+5070602400912917605986812821504*(ad+aG-2251799813685248*z12)+11417981541647679048466287755595961091061972992*(ao+z12-2251799813685248*ai)+25711008708143844408671393477458601640355247900524685364822016*(cZ+ai-2251799813685248*aq)=v5 [eU,ag,ad,ao,cZ]+19-57896044618658097711785492504343953926634992332820282019728792003956564819968*aq:=by
   clear aU v7 k1 k2
   simp only[CA]
   omega
  have ark:eU+19*aq-2251799813685248*aF+2251799813685248*(ag+aF-2251799813685248*aH)+5070602400912917605986812821504*(ad+aH-2251799813685248*aS)+11417981541647679048466287755595961091061972992*(ao+aS-2251799813685248*z21)+25711008708143844408671393477458601640355247900524685364822016*(cZ+z21-2251799813685248*aY)=v5 [eU,ag,ad,ao,cZ]+19*aq-57896044618658097711785492504343953926634992332820282019728792003956564819968*aY:=by
   clear aU v7 k1 k2 afG
   simp only[CA]
   omega
  rw[afG]at k1
  rw[ark]at k2
  exact canon aU v7 k1.1 k1.2 k2.1 k2.2
def Sp (S:Nat->List (List Int)->List (List Int)->Prop) (K:List (List Int)->List (List Int)->Prop):Prop:=
 ∀r0:List Int,af (au 0 4503599627370495 5) r0->∀av:List Int,af (au 0 4503599627370495 5) av->
 ∀ck:List Int,af (au 0 4503599627370495 5) ck->S 46 [[((U r0 0 0)+(U av 0 0)),((U r0 1 0)+(U av 1 0)),((U r0 2 0)+(U av 2 0)),((U r0 3 0)+(U av 3 0)),((U r0 4 0)+(U av 4 0))]] [ck]->
 K [r0,av] [ck]
theorem XI (G):Sp (jI G) (ji iC.res 34):=by
 unfold Sp
 intro r0 i0 av i5 ck i10 aT
 have aT:v5 ck% 57896044618658097711785492504343953926634992332820282019728792003956564819949=v5 [((U r0 0 0)+(U av 0 0)),((U r0 1 0)+(U av 1 0)),((U r0 2 0)+(U av 2 0)),((U r0 3 0)+(U av 3 0)),((U r0 4 0)+(U av 4 0))]% 57896044618658097711785492504343953926634992332820282019728792003956564819949/\v5 ck<57896044618658097711785492504343953926634992332820282019728792003956564819949+38:=aT.1
 refine⟨?_,?_⟩
 ·exact va i10
 ·show v5 ck% 57896044618658097711785492504343953926634992332820282019728792003956564819949=(v5 r0+v5 av)% 57896044618658097711785492504343953926634992332820282019728792003956564819949
  rw[aT.1]
  clear aT
  obtain⟨eU,ag,ad,ao,cZ,rfl,zf,zg,zh,zi,zj,zk,zl,zm,zn,zo⟩:=Ay i0
  obtain⟨tu,an,aj,ay,pz,rfl,aiv,aiw,aiz,aiA,aiB,aiC,aiD,aiE,aiF,aiG⟩:=Ay i5
  simp only[jH,kS,CA]
  congr 1
  omega
def Sm (S:Nat->List (List Int)->List (List Int)->Prop) (K:List (List Int)->List (List Int)->Prop):Prop:=
 ∀r0:List Int,af (au 0 4503599627370495 5) r0->∀av:List Int,af (au 0 4503599627370495 5) av->
 ∀ck:List Int,af (au 0 4503599627370495 5) ck->S 46 [[(((U r0 0 0)+((-1)*(U av 0 0)))+9007199254740916),(((U r0 1 0)+((-1)*(U av 1 0)))+9007199254740988),(((U r0 2 0)+((-1)*(U av 2 0)))+9007199254740988),(((U r0 3 0)+((-1)*(U av 3 0)))+9007199254740988),(((U r0 4 0)+((-1)*(U av 4 0)))+9007199254740988)]] [ck]->
 K [r0,av] [ck]
theorem XH (G):Sm (jI G) (ji iB.res 32):=by
 unfold Sm
 intro r0 i0 av i5 ck i10 aT
 have aT:v5 ck% 57896044618658097711785492504343953926634992332820282019728792003956564819949=v5 [(((U r0 0 0)+((-1)*(U av 0 0)))+9007199254740916),(((U r0 1 0)+((-1)*(U av 1 0)))+9007199254740988),(((U r0 2 0)+((-1)*(U av 2 0)))+9007199254740988),(((U r0 3 0)+((-1)*(U av 3 0)))+9007199254740988),(((U r0 4 0)+((-1)*(U av 4 0)))+9007199254740988)]% 57896044618658097711785492504343953926634992332820282019728792003956564819949/\v5 ck<57896044618658097711785492504343953926634992332820282019728792003956564819949+38:=aT.1
 refine⟨?_,?_⟩
 ·exact va i10
 ·show v5 ck% 57896044618658097711785492504343953926634992332820282019728792003956564819949=(v5 r0-v5 av)% 57896044618658097711785492504343953926634992332820282019728792003956564819949
  rw[aT.1]
  clear aT
  obtain⟨eU,ag,ad,ao,cZ,rfl,zf,zg,zh,zi,zj,zk,zl,zm,zn,zo⟩:=Ay i0
  obtain⟨tu,an,aj,ay,pz,rfl,aiv,aiw,aiz,aiA,aiB,aiC,aiD,aiE,aiF,aiG⟩:=Ay i5
  simp only[jH,kS]
  have e:v5 [((eU+((-1)*tu))+9007199254740916),((ag+((-1)*an))+9007199254740988),((ad+((-1)*aj))+9007199254740988),((ao+((-1)*ay))+9007199254740988),((cZ+((-1)*pz))+9007199254740988)]=v5 [eU,ag,ad,ao,cZ]-v5 [tu,an,aj,ay,pz]+57896044618658097711785492504343953926634992332820282019728792003956564819949*4:=by simp only[CA];omega
  rw[e,zx]
def Sx (S:Nat->List (List Int)->List (List Int)->Prop) (K:List (List Int)->List (List Int)->Prop):Prop:=
 ∀r0:List Int,af (au 0 4503599627370495 5) r0->∀av:List Int,af (au 0 4503599627370495 5) av->
 ∀aP:Int,0<=aP->aP<=20282409603651661416747996545025->aP=(U r0 0 0)*(U av 0 0)->
 ∀aG:Int,0<=aG->aG<=1099511627775->0<=aP-18446744073709551616*aG->aP-18446744073709551616*aG<18446744073709551616->
 ∀z12:Int,0<=z12->z12<=20282409603651661416747996545025->z12=(U r0 0 0)*(U av 1 0)->
 ∀ai:Int,0<=ai->ai<=1099511627775->0<=z12-18446744073709551616*ai->z12-18446744073709551616*ai<18446744073709551616->
 ∀aq:Int,0<=aq->aq<=20282409603651661416747996545025->aq=(U r0 0 0)*(U av 2 0)->
 ∀aF:Int,0<=aF->aF<=1099511627775->0<=aq-18446744073709551616*aF->aq-18446744073709551616*aF<18446744073709551616->
 ∀aO:Int,0<=aO->aO<=20282409603651661416747996545025->aO=(U r0 0 0)*(U av 3 0)->
 ∀aH:Int,0<=aH->aH<=1099511627775->0<=aO-18446744073709551616*aH->aO-18446744073709551616*aH<18446744073709551616->
 ∀aR:Int,0<=aR->aR<=20282409603651661416747996545025->aR=(U r0 0 0)*(U av 4 0)->
 ∀aS:Int,0<=aS->aS<=1099511627775->0<=aR-18446744073709551616*aS->aR-18446744073709551616*aS<18446744073709551616->
 ∀z20:Int,0<=z20->z20<=20282409603651661416747996545025->z20=(U r0 1 0)*(U av 0 0)->
 ∀z21:Int,0<=z21->z21<=1099511627775->0<=z20-18446744073709551616*z21->z20-18446744073709551616*z21<18446744073709551616->
 ∀z22:Int,0<=z22->z22<=1->0<=(z12+(((-18446744073709551616)*ai)+(z20+((-18446744073709551616)*z21))))-18446744073709551616*z22->(z12+(((-18446744073709551616)*ai)+(z20+((-18446744073709551616)*z21))))-18446744073709551616*z22<18446744073709551616->
 ∀aY:Int,0<=aY->aY<=20282409603651661416747996545025->aY=(U r0 1 0)*(U av 1 0)->
 ∀z24:Int,0<=z24->z24<=1099511627775->0<=aY-18446744073709551616*z24->aY-18446744073709551616*z24<18446744073709551616->
 ∀bh:Int,0<=bh->bh<=1->0<=(aq+(((-18446744073709551616)*aF)+(aY+((-18446744073709551616)*z24))))-18446744073709551616*bh->(aq+(((-18446744073709551616)*aF)+(aY+((-18446744073709551616)*z24))))-18446744073709551616*bh<18446744073709551616->
 ∀z26:Int,0<=z26->z26<=20282409603651661416747996545025->z26=(U r0 1 0)*(U av 2 0)->
 ∀bo:Int,0<=bo->bo<=1099511627775->0<=z26-18446744073709551616*bo->z26-18446744073709551616*bo<18446744073709551616->
 ∀z28:Int,0<=z28->z28<=1->0<=(aO+(((-18446744073709551616)*aH)+(z26+((-18446744073709551616)*bo))))-18446744073709551616*z28->(aO+(((-18446744073709551616)*aH)+(z26+((-18446744073709551616)*bo))))-18446744073709551616*z28<18446744073709551616->
 ∀bu:Int,0<=bu->bu<=20282409603651661416747996545025->bu=(U r0 1 0)*(U av 3 0)->
 ∀bt:Int,0<=bt->bt<=1099511627775->0<=bu-18446744073709551616*bt->bu-18446744073709551616*bt<18446744073709551616->
 ∀z31:Int,0<=z31->z31<=1->0<=(aR+(((-18446744073709551616)*aS)+(bu+((-18446744073709551616)*bt))))-18446744073709551616*z31->(aR+(((-18446744073709551616)*aS)+(bu+((-18446744073709551616)*bt))))-18446744073709551616*z31<18446744073709551616->
 ∀aL:Int,0<=aL->aL<=385365782469381566918211934355475->aL=(U r0 1 0)*(19*(U av 4 0))->
 ∀a8:Int,0<=a8->a8<=20890720927743->0<=aL-18446744073709551616*a8->aL-18446744073709551616*a8<18446744073709551616->
 ∀bn:Int,0<=bn->bn<=1->0<=(aP+(((-18446744073709551616)*aG)+(aL+((-18446744073709551616)*a8))))-18446744073709551616*bn->(aP+(((-18446744073709551616)*aG)+(aL+((-18446744073709551616)*a8))))-18446744073709551616*bn<18446744073709551616->
 ∀bg:Int,0<=bg->bg<=20282409603651661416747996545025->bg=(U r0 2 0)*(U av 0 0)->
 ∀bB:Int,0<=bB->bB<=1099511627775->0<=bg-18446744073709551616*bB->bg-18446744073709551616*bB<18446744073709551616->
 ∀z37:Int,0<=z37->z37<=1->0<=(aq+(((-18446744073709551616)*aF)+(aY+(((-18446744073709551616)*z24)+(((-18446744073709551616)*bh)+(bg+((-18446744073709551616)*bB)))))))-18446744073709551616*z37->(aq+(((-18446744073709551616)*aF)+(aY+(((-18446744073709551616)*z24)+(((-18446744073709551616)*bh)+(bg+((-18446744073709551616)*bB)))))))-18446744073709551616*z37<18446744073709551616->
 ∀bP:Int,0<=bP->bP<=20282409603651661416747996545025->bP=(U r0 2 0)*(U av 1 0)->
 ∀bI:Int,0<=bI->bI<=1099511627775->0<=bP-18446744073709551616*bI->bP-18446744073709551616*bI<18446744073709551616->
 ∀z40:Int,0<=z40->z40<=1->0<=(aO+(((-18446744073709551616)*aH)+(z26+(((-18446744073709551616)*bo)+(((-18446744073709551616)*z28)+(bP+((-18446744073709551616)*bI)))))))-18446744073709551616*z40->(aO+(((-18446744073709551616)*aH)+(z26+(((-18446744073709551616)*bo)+(((-18446744073709551616)*z28)+(bP+((-18446744073709551616)*bI)))))))-18446744073709551616*z40<18446744073709551616->
 ∀bY:Int,0<=bY->bY<=20282409603651661416747996545025->bY=(U r0 2 0)*(U av 2 0)->
 ∀bT:Int,0<=bT->bT<=1099511627775->0<=bY-18446744073709551616*bT->bY-18446744073709551616*bT<18446744073709551616->
 ∀cf:Int,0<=cf->cf<=1->0<=(aR+(((-18446744073709551616)*aS)+(bu+(((-18446744073709551616)*bt)+(((-18446744073709551616)*z31)+(bY+((-18446744073709551616)*bT)))))))-18446744073709551616*cf->(aR+(((-18446744073709551616)*aS)+(bu+(((-18446744073709551616)*bt)+(((-18446744073709551616)*z31)+(bY+((-18446744073709551616)*bT)))))))-18446744073709551616*cf<18446744073709551616->
 ∀ct:Int,0<=ct->ct<=385365782469381566918211934355475->ct=(U r0 2 0)*(19*(U av 3 0))->
 ∀b7:Int,0<=b7->b7<=20890720927743->0<=ct-18446744073709551616*b7->ct-18446744073709551616*b7<18446744073709551616->
 ∀z46:Int,0<=z46->z46<=1->0<=(aP+(((-18446744073709551616)*aG)+(aL+(((-18446744073709551616)*a8)+(((-18446744073709551616)*bn)+(ct+((-18446744073709551616)*b7)))))))-18446744073709551616*z46->(aP+(((-18446744073709551616)*aG)+(aL+(((-18446744073709551616)*a8)+(((-18446744073709551616)*bn)+(ct+((-18446744073709551616)*b7)))))))-18446744073709551616*z46<18446744073709551616->
 ∀b6:Int,0<=b6->b6<=385365782469381566918211934355475->b6=(U r0 2 0)*(19*(U av 4 0))->
 ∀cd:Int,0<=cd->cd<=20890720927743->0<=b6-18446744073709551616*cd->b6-18446744073709551616*cd<18446744073709551616->
 ∀z49:Int,0<=z49->z49<=1->0<=(z12+(((-18446744073709551616)*ai)+(z20+(((-18446744073709551616)*z21)+(((-18446744073709551616)*z22)+(b6+((-18446744073709551616)*cd)))))))-18446744073709551616*z49->(z12+(((-18446744073709551616)*ai)+(z20+(((-18446744073709551616)*z21)+(((-18446744073709551616)*z22)+(b6+((-18446744073709551616)*cd)))))))-18446744073709551616*z49<18446744073709551616->
 ∀cm:Int,0<=cm->cm<=20282409603651661416747996545025->cm=(U r0 3 0)*(U av 0 0)->
 ∀z51:Int,0<=z51->z51<=1099511627775->0<=cm-18446744073709551616*z51->cm-18446744073709551616*z51<18446744073709551616->
 ∀bX:Int,0<=bX->bX<=1->0<=(aO+(((-18446744073709551616)*aH)+(z26+(((-18446744073709551616)*bo)+(((-18446744073709551616)*z28)+(bP+(((-18446744073709551616)*bI)+(((-18446744073709551616)*z40)+(cm+((-18446744073709551616)*z51))))))))))-18446744073709551616*bX->(aO+(((-18446744073709551616)*aH)+(z26+(((-18446744073709551616)*bo)+(((-18446744073709551616)*z28)+(bP+(((-18446744073709551616)*bI)+(((-18446744073709551616)*z40)+(cm+((-18446744073709551616)*z51))))))))))-18446744073709551616*bX<18446744073709551616->
 ∀z53:Int,0<=z53->z53<=20282409603651661416747996545025->z53=(U r0 3 0)*(U av 1 0)->
 ∀cn:Int,0<=cn->cn<=1099511627775->0<=z53-18446744073709551616*cn->z53-18446744073709551616*cn<18446744073709551616->
 ∀cv:Int,0<=cv->cv<=1->0<=(aR+(((-18446744073709551616)*aS)+(bu+(((-18446744073709551616)*bt)+(((-18446744073709551616)*z31)+(bY+(((-18446744073709551616)*bT)+(((-18446744073709551616)*cf)+(z53+((-18446744073709551616)*cn))))))))))-18446744073709551616*cv->(aR+(((-18446744073709551616)*aS)+(bu+(((-18446744073709551616)*bt)+(((-18446744073709551616)*z31)+(bY+(((-18446744073709551616)*bT)+(((-18446744073709551616)*cf)+(z53+((-18446744073709551616)*cn))))))))))-18446744073709551616*cv<18446744073709551616->
 ∀cA:Int,0<=cA->cA<=385365782469381566918211934355475->cA=(U r0 3 0)*(19*(U av 2 0))->
 ∀cp:Int,0<=cp->cp<=20890720927743->0<=cA-18446744073709551616*cp->cA-18446744073709551616*cp<18446744073709551616->
 ∀cx:Int,0<=cx->cx<=1->0<=(aP+(((-18446744073709551616)*aG)+(aL+(((-18446744073709551616)*a8)+(((-18446744073709551616)*bn)+(ct+(((-18446744073709551616)*b7)+(((-18446744073709551616)*z46)+(cA+((-18446744073709551616)*cp))))))))))-18446744073709551616*cx->(aP+(((-18446744073709551616)*aG)+(aL+(((-18446744073709551616)*a8)+(((-18446744073709551616)*bn)+(ct+(((-18446744073709551616)*b7)+(((-18446744073709551616)*z46)+(cA+((-18446744073709551616)*cp))))))))))-18446744073709551616*cx<18446744073709551616->
 ∀z59:Int,0<=z59->z59<=385365782469381566918211934355475->z59=(U r0 3 0)*(19*(U av 3 0))->
 ∀cE:Int,0<=cE->cE<=20890720927743->0<=z59-18446744073709551616*cE->z59-18446744073709551616*cE<18446744073709551616->
 ∀cG:Int,0<=cG->cG<=1->0<=(z12+(((-18446744073709551616)*ai)+(z20+(((-18446744073709551616)*z21)+(((-18446744073709551616)*z22)+(b6+(((-18446744073709551616)*cd)+(((-18446744073709551616)*z49)+(z59+((-18446744073709551616)*cE))))))))))-18446744073709551616*cG->(z12+(((-18446744073709551616)*ai)+(z20+(((-18446744073709551616)*z21)+(((-18446744073709551616)*z22)+(b6+(((-18446744073709551616)*cd)+(((-18446744073709551616)*z49)+(z59+((-18446744073709551616)*cE))))))))))-18446744073709551616*cG<18446744073709551616->
 ∀cH:Int,0<=cH->cH<=385365782469381566918211934355475->cH=(U r0 3 0)*(19*(U av 4 0))->
 ∀cq:Int,0<=cq->cq<=20890720927743->0<=cH-18446744073709551616*cq->cH-18446744073709551616*cq<18446744073709551616->
 ∀cU:Int,0<=cU->cU<=1->0<=(aq+(((-18446744073709551616)*aF)+(aY+(((-18446744073709551616)*z24)+(((-18446744073709551616)*bh)+(bg+(((-18446744073709551616)*bB)+(((-18446744073709551616)*z37)+(cH+((-18446744073709551616)*cq))))))))))-18446744073709551616*cU->(aq+(((-18446744073709551616)*aF)+(aY+(((-18446744073709551616)*z24)+(((-18446744073709551616)*bh)+(bg+(((-18446744073709551616)*bB)+(((-18446744073709551616)*z37)+(cH+((-18446744073709551616)*cq))))))))))-18446744073709551616*cU<18446744073709551616->
 ∀c9:Int,0<=c9->c9<=20282409603651661416747996545025->c9=(U r0 4 0)*(U av 0 0)->
 ∀c2:Int,0<=c2->c2<=1099511627775->0<=c9-18446744073709551616*c2->c9-18446744073709551616*c2<18446744073709551616->
 ∀cX:Int,0<=cX->cX<=1->0<=(aR+(((-18446744073709551616)*aS)+(bu+(((-18446744073709551616)*bt)+(((-18446744073709551616)*z31)+(bY+(((-18446744073709551616)*bT)+(((-18446744073709551616)*cf)+(z53+(((-18446744073709551616)*cn)+(((-18446744073709551616)*cv)+(c9+((-18446744073709551616)*c2)))))))))))))-18446744073709551616*cX->(aR+(((-18446744073709551616)*aS)+(bu+(((-18446744073709551616)*bt)+(((-18446744073709551616)*z31)+(bY+(((-18446744073709551616)*bT)+(((-18446744073709551616)*cf)+(z53+(((-18446744073709551616)*cn)+(((-18446744073709551616)*cv)+(c9+((-18446744073709551616)*c2)))))))))))))-18446744073709551616*cX<18446744073709551616->
 ∀dh:Int,0<=dh->dh<=385365782469381566918211934355475->dh=(U r0 4 0)*(19*(U av 1 0))->
 ∀cI:Int,0<=cI->cI<=20890720927743->0<=dh-18446744073709551616*cI->dh-18446744073709551616*cI<18446744073709551616->
 ∀z70:Int,0<=z70->z70<=1->0<=(aP+(((-18446744073709551616)*aG)+(aL+(((-18446744073709551616)*a8)+(((-18446744073709551616)*bn)+(ct+(((-18446744073709551616)*b7)+(((-18446744073709551616)*z46)+(cA+(((-18446744073709551616)*cp)+(((-18446744073709551616)*cx)+(dh+((-18446744073709551616)*cI)))))))))))))-18446744073709551616*z70->(aP+(((-18446744073709551616)*aG)+(aL+(((-18446744073709551616)*a8)+(((-18446744073709551616)*bn)+(ct+(((-18446744073709551616)*b7)+(((-18446744073709551616)*z46)+(cA+(((-18446744073709551616)*cp)+(((-18446744073709551616)*cx)+(dh+((-18446744073709551616)*cI)))))))))))))-18446744073709551616*z70<18446744073709551616->
 ∀dn:Int,0<=dn->dn<=385365782469381566918211934355475->dn=(U r0 4 0)*(19*(U av 2 0))->
 ∀z72:Int,0<=z72->z72<=20890720927743->0<=dn-18446744073709551616*z72->dn-18446744073709551616*z72<18446744073709551616->
 ∀cQ:Int,0<=cQ->cQ<=1->0<=(z12+(((-18446744073709551616)*ai)+(z20+(((-18446744073709551616)*z21)+(((-18446744073709551616)*z22)+(b6+(((-18446744073709551616)*cd)+(((-18446744073709551616)*z49)+(z59+(((-18446744073709551616)*cE)+(((-18446744073709551616)*cG)+(dn+((-18446744073709551616)*z72)))))))))))))-18446744073709551616*cQ->(z12+(((-18446744073709551616)*ai)+(z20+(((-18446744073709551616)*z21)+(((-18446744073709551616)*z22)+(b6+(((-18446744073709551616)*cd)+(((-18446744073709551616)*z49)+(z59+(((-18446744073709551616)*cE)+(((-18446744073709551616)*cG)+(dn+((-18446744073709551616)*z72)))))))))))))-18446744073709551616*cQ<18446744073709551616->
 ∀e1:Int,0<=e1->e1<=385365782469381566918211934355475->e1=(U r0 4 0)*(19*(U av 3 0))->
 ∀z75:Int,0<=z75->z75<=20890720927743->0<=e1-18446744073709551616*z75->e1-18446744073709551616*z75<18446744073709551616->
 ∀z76:Int,0<=z76->z76<=1->0<=(aq+(((-18446744073709551616)*aF)+(aY+(((-18446744073709551616)*z24)+(((-18446744073709551616)*bh)+(bg+(((-18446744073709551616)*bB)+(((-18446744073709551616)*z37)+(cH+(((-18446744073709551616)*cq)+(((-18446744073709551616)*cU)+(e1+((-18446744073709551616)*z75)))))))))))))-18446744073709551616*z76->(aq+(((-18446744073709551616)*aF)+(aY+(((-18446744073709551616)*z24)+(((-18446744073709551616)*bh)+(bg+(((-18446744073709551616)*bB)+(((-18446744073709551616)*z37)+(cH+(((-18446744073709551616)*cq)+(((-18446744073709551616)*cU)+(e1+((-18446744073709551616)*z75)))))))))))))-18446744073709551616*z76<18446744073709551616->
 ∀eK:Int,0<=eK->eK<=385365782469381566918211934355475->eK=(U r0 4 0)*(19*(U av 4 0))->
 ∀dA:Int,0<=dA->dA<=20890720927743->0<=eK-18446744073709551616*dA->eK-18446744073709551616*dA<18446744073709551616->
 ∀ee:Int,0<=ee->ee<=1->0<=(aO+(((-18446744073709551616)*aH)+(z26+(((-18446744073709551616)*bo)+(((-18446744073709551616)*z28)+(bP+(((-18446744073709551616)*bI)+(((-18446744073709551616)*z40)+(cm+(((-18446744073709551616)*z51)+(((-18446744073709551616)*bX)+(eK+((-18446744073709551616)*dA)))))))))))))-18446744073709551616*ee->(aO+(((-18446744073709551616)*aH)+(z26+(((-18446744073709551616)*bo)+(((-18446744073709551616)*z28)+(bP+(((-18446744073709551616)*bI)+(((-18446744073709551616)*z40)+(cm+(((-18446744073709551616)*z51)+(((-18446744073709551616)*bX)+(eK+((-18446744073709551616)*dA)))))))))))))-18446744073709551616*ee<18446744073709551616->
 ∀eF:Int,0<=eF->eF<=1->0<=(aP+(((-18446744073709551616)*aG)+(aL+(((-18446744073709551616)*a8)+(((-18446744073709551616)*bn)+(ct+(((-18446744073709551616)*b7)+(((-18446744073709551616)*z46)+(cA+(((-18446744073709551616)*cp)+(((-18446744073709551616)*cx)+(dh+(((-18446744073709551616)*cI)+((-18446744073709551616)*z70))))))))))))))-18446744073709551616*eF->(aP+(((-18446744073709551616)*aG)+(aL+(((-18446744073709551616)*a8)+(((-18446744073709551616)*bn)+(ct+(((-18446744073709551616)*b7)+(((-18446744073709551616)*z46)+(cA+(((-18446744073709551616)*cp)+(((-18446744073709551616)*cx)+(dh+(((-18446744073709551616)*cI)+((-18446744073709551616)*z70))))))))))))))-18446744073709551616*eF<18446744073709551616->
 ∀fH:Int,0<=fH->fH<=8191->0<=(aP+(((-18446744073709551616)*aG)+(aL+(((-18446744073709551616)*a8)+(((-18446744073709551616)*bn)+(ct+(((-18446744073709551616)*b7)+(((-18446744073709551616)*z46)+(cA+(((-18446744073709551616)*cp)+(((-18446744073709551616)*cx)+(dh+(((-18446744073709551616)*cI)+(((-18446744073709551616)*z70)+((-18446744073709551616)*eF)))))))))))))))-2251799813685248*fH->(aP+(((-18446744073709551616)*aG)+(aL+(((-18446744073709551616)*a8)+(((-18446744073709551616)*bn)+(ct+(((-18446744073709551616)*b7)+(((-18446744073709551616)*z46)+(cA+(((-18446744073709551616)*cp)+(((-18446744073709551616)*cx)+(dh+(((-18446744073709551616)*cI)+(((-18446744073709551616)*z70)+((-18446744073709551616)*eF)))))))))))))))-2251799813685248*fH<2251799813685248->
 ∀fk:Int,0<=fk->fk<=8191->0<=(aP+(((-18446744073709551616)*aG)+(aL+(((-18446744073709551616)*a8)+(((-18446744073709551616)*bn)+(ct+(((-18446744073709551616)*b7)+(((-18446744073709551616)*z46)+(cA+(((-18446744073709551616)*cp)+(((-18446744073709551616)*cx)+(dh+(((-18446744073709551616)*cI)+(((-18446744073709551616)*z70)+((-18446744073709551616)*eF)))))))))))))))-2251799813685248*fk->(aP+(((-18446744073709551616)*aG)+(aL+(((-18446744073709551616)*a8)+(((-18446744073709551616)*bn)+(ct+(((-18446744073709551616)*b7)+(((-18446744073709551616)*z46)+(cA+(((-18446744073709551616)*cp)+(((-18446744073709551616)*cx)+(dh+(((-18446744073709551616)*cI)+(((-18446744073709551616)*z70)+((-18446744073709551616)*eF)))))))))))))))-2251799813685248*fk<2251799813685248->
 ∀eV:Int,0<=eV->eV<=1->0<=((8192*aG)+(z12+(((-18446744073709551616)*ai)+(z20+(((-18446744073709551616)*z21)+(((-18446744073709551616)*z22)+((8192*a8)+((8192*bn)+((8192*b7)+((8192*z46)+(b6+(((-18446744073709551616)*cd)+(((-18446744073709551616)*z49)+((8192*cp)+((8192*cx)+(z59+(((-18446744073709551616)*cE)+(((-18446744073709551616)*cG)+((8192*cI)+((8192*z70)+(dn+(((-18446744073709551616)*z72)+(((-18446744073709551616)*cQ)+((8192*eF)+fk))))))))))))))))))))))))-18446744073709551616*eV->((8192*aG)+(z12+(((-18446744073709551616)*ai)+(z20+(((-18446744073709551616)*z21)+(((-18446744073709551616)*z22)+((8192*a8)+((8192*bn)+((8192*b7)+((8192*z46)+(b6+(((-18446744073709551616)*cd)+(((-18446744073709551616)*z49)+((8192*cp)+((8192*cx)+(z59+(((-18446744073709551616)*cE)+(((-18446744073709551616)*cG)+((8192*cI)+((8192*z70)+(dn+(((-18446744073709551616)*z72)+(((-18446744073709551616)*cQ)+((8192*eF)+fk))))))))))))))))))))))))-18446744073709551616*eV<18446744073709551616->
 ∀fI:Int,0<=fI->fI<=8191->0<=((8192*aG)+(z12+(((-18446744073709551616)*ai)+(z20+(((-18446744073709551616)*z21)+(((-18446744073709551616)*z22)+((8192*a8)+((8192*bn)+((8192*b7)+((8192*z46)+(b6+(((-18446744073709551616)*cd)+(((-18446744073709551616)*z49)+((8192*cp)+((8192*cx)+(z59+(((-18446744073709551616)*cE)+(((-18446744073709551616)*cG)+((8192*cI)+((8192*z70)+(dn+(((-18446744073709551616)*z72)+(((-18446744073709551616)*cQ)+((8192*eF)+(fk+((-18446744073709551616)*eV))))))))))))))))))))))))))-2251799813685248*fI->((8192*aG)+(z12+(((-18446744073709551616)*ai)+(z20+(((-18446744073709551616)*z21)+(((-18446744073709551616)*z22)+((8192*a8)+((8192*bn)+((8192*b7)+((8192*z46)+(b6+(((-18446744073709551616)*cd)+(((-18446744073709551616)*z49)+((8192*cp)+((8192*cx)+(z59+(((-18446744073709551616)*cE)+(((-18446744073709551616)*cG)+((8192*cI)+((8192*z70)+(dn+(((-18446744073709551616)*z72)+(((-18446744073709551616)*cQ)+((8192*eF)+(fk+((-18446744073709551616)*eV))))))))))))))))))))))))))-2251799813685248*fI<2251799813685248->
 ∀z85:Int,0<=z85->z85<=8191->0<=((8192*aG)+(z12+(((-18446744073709551616)*ai)+(z20+(((-18446744073709551616)*z21)+(((-18446744073709551616)*z22)+((8192*a8)+((8192*bn)+((8192*b7)+((8192*z46)+(b6+(((-18446744073709551616)*cd)+(((-18446744073709551616)*z49)+((8192*cp)+((8192*cx)+(z59+(((-18446744073709551616)*cE)+(((-18446744073709551616)*cG)+((8192*cI)+((8192*z70)+(dn+(((-18446744073709551616)*z72)+(((-18446744073709551616)*cQ)+((8192*eF)+(fk+((-18446744073709551616)*eV))))))))))))))))))))))))))-2251799813685248*z85->((8192*aG)+(z12+(((-18446744073709551616)*ai)+(z20+(((-18446744073709551616)*z21)+(((-18446744073709551616)*z22)+((8192*a8)+((8192*bn)+((8192*b7)+((8192*z46)+(b6+(((-18446744073709551616)*cd)+(((-18446744073709551616)*z49)+((8192*cp)+((8192*cx)+(z59+(((-18446744073709551616)*cE)+(((-18446744073709551616)*cG)+((8192*cI)+((8192*z70)+(dn+(((-18446744073709551616)*z72)+(((-18446744073709551616)*cQ)+((8192*eF)+(fk+((-18446744073709551616)*eV))))))))))))))))))))))))))-2251799813685248*z85<2251799813685248->
 ∀fv:Int,0<=fv->fv<=1->0<=((8192*ai)+(aq+(((-18446744073709551616)*aF)+((8192*z21)+((8192*z22)+(aY+(((-18446744073709551616)*z24)+(((-18446744073709551616)*bh)+(bg+(((-18446744073709551616)*bB)+(((-18446744073709551616)*z37)+((8192*cd)+((8192*z49)+((8192*cE)+((8192*cG)+(cH+(((-18446744073709551616)*cq)+(((-18446744073709551616)*cU)+((8192*z72)+((8192*cQ)+(e1+(((-18446744073709551616)*z75)+(((-18446744073709551616)*z76)+((8192*eV)+z85))))))))))))))))))))))))-18446744073709551616*fv->((8192*ai)+(aq+(((-18446744073709551616)*aF)+((8192*z21)+((8192*z22)+(aY+(((-18446744073709551616)*z24)+(((-18446744073709551616)*bh)+(bg+(((-18446744073709551616)*bB)+(((-18446744073709551616)*z37)+((8192*cd)+((8192*z49)+((8192*cE)+((8192*cG)+(cH+(((-18446744073709551616)*cq)+(((-18446744073709551616)*cU)+((8192*z72)+((8192*cQ)+(e1+(((-18446744073709551616)*z75)+(((-18446744073709551616)*z76)+((8192*eV)+z85))))))))))))))))))))))))-18446744073709551616*fv<18446744073709551616->
 ∀z87:Int,0<=z87->z87<=8191->0<=((8192*ai)+(aq+(((-18446744073709551616)*aF)+((8192*z21)+((8192*z22)+(aY+(((-18446744073709551616)*z24)+(((-18446744073709551616)*bh)+(bg+(((-18446744073709551616)*bB)+(((-18446744073709551616)*z37)+((8192*cd)+((8192*z49)+((8192*cE)+((8192*cG)+(cH+(((-18446744073709551616)*cq)+(((-18446744073709551616)*cU)+((8192*z72)+((8192*cQ)+(e1+(((-18446744073709551616)*z75)+(((-18446744073709551616)*z76)+((8192*eV)+(z85+((-18446744073709551616)*fv))))))))))))))))))))))))))-2251799813685248*z87->((8192*ai)+(aq+(((-18446744073709551616)*aF)+((8192*z21)+((8192*z22)+(aY+(((-18446744073709551616)*z24)+(((-18446744073709551616)*bh)+(bg+(((-18446744073709551616)*bB)+(((-18446744073709551616)*z37)+((8192*cd)+((8192*z49)+((8192*cE)+((8192*cG)+(cH+(((-18446744073709551616)*cq)+(((-18446744073709551616)*cU)+((8192*z72)+((8192*cQ)+(e1+(((-18446744073709551616)*z75)+(((-18446744073709551616)*z76)+((8192*eV)+(z85+((-18446744073709551616)*fv))))))))))))))))))))))))))-2251799813685248*z87<2251799813685248->
 ∀gh:Int,0<=gh->gh<=8191->0<=((8192*ai)+(aq+(((-18446744073709551616)*aF)+((8192*z21)+((8192*z22)+(aY+(((-18446744073709551616)*z24)+(((-18446744073709551616)*bh)+(bg+(((-18446744073709551616)*bB)+(((-18446744073709551616)*z37)+((8192*cd)+((8192*z49)+((8192*cE)+((8192*cG)+(cH+(((-18446744073709551616)*cq)+(((-18446744073709551616)*cU)+((8192*z72)+((8192*cQ)+(e1+(((-18446744073709551616)*z75)+(((-18446744073709551616)*z76)+((8192*eV)+(z85+((-18446744073709551616)*fv))))))))))))))))))))))))))-2251799813685248*gh->((8192*ai)+(aq+(((-18446744073709551616)*aF)+((8192*z21)+((8192*z22)+(aY+(((-18446744073709551616)*z24)+(((-18446744073709551616)*bh)+(bg+(((-18446744073709551616)*bB)+(((-18446744073709551616)*z37)+((8192*cd)+((8192*z49)+((8192*cE)+((8192*cG)+(cH+(((-18446744073709551616)*cq)+(((-18446744073709551616)*cU)+((8192*z72)+((8192*cQ)+(e1+(((-18446744073709551616)*z75)+(((-18446744073709551616)*z76)+((8192*eV)+(z85+((-18446744073709551616)*fv))))))))))))))))))))))))))-2251799813685248*gh<2251799813685248->
 ∀fl:Int,0<=fl->fl<=1->0<=((8192*aF)+(aO+(((-18446744073709551616)*aH)+((8192*z24)+((8192*bh)+(z26+(((-18446744073709551616)*bo)+(((-18446744073709551616)*z28)+((8192*bB)+((8192*z37)+(bP+(((-18446744073709551616)*bI)+(((-18446744073709551616)*z40)+(cm+(((-18446744073709551616)*z51)+(((-18446744073709551616)*bX)+((8192*cq)+((8192*cU)+((8192*z75)+((8192*z76)+(eK+(((-18446744073709551616)*dA)+(((-18446744073709551616)*ee)+((8192*fv)+gh))))))))))))))))))))))))-18446744073709551616*fl->((8192*aF)+(aO+(((-18446744073709551616)*aH)+((8192*z24)+((8192*bh)+(z26+(((-18446744073709551616)*bo)+(((-18446744073709551616)*z28)+((8192*bB)+((8192*z37)+(bP+(((-18446744073709551616)*bI)+(((-18446744073709551616)*z40)+(cm+(((-18446744073709551616)*z51)+(((-18446744073709551616)*bX)+((8192*cq)+((8192*cU)+((8192*z75)+((8192*z76)+(eK+(((-18446744073709551616)*dA)+(((-18446744073709551616)*ee)+((8192*fv)+gh))))))))))))))))))))))))-18446744073709551616*fl<18446744073709551616->
 ∀gY:Int,0<=gY->gY<=8191->0<=((8192*aF)+(aO+(((-18446744073709551616)*aH)+((8192*z24)+((8192*bh)+(z26+(((-18446744073709551616)*bo)+(((-18446744073709551616)*z28)+((8192*bB)+((8192*z37)+(bP+(((-18446744073709551616)*bI)+(((-18446744073709551616)*z40)+(cm+(((-18446744073709551616)*z51)+(((-18446744073709551616)*bX)+((8192*cq)+((8192*cU)+((8192*z75)+((8192*z76)+(eK+(((-18446744073709551616)*dA)+(((-18446744073709551616)*ee)+((8192*fv)+(gh+((-18446744073709551616)*fl))))))))))))))))))))))))))-2251799813685248*gY->((8192*aF)+(aO+(((-18446744073709551616)*aH)+((8192*z24)+((8192*bh)+(z26+(((-18446744073709551616)*bo)+(((-18446744073709551616)*z28)+((8192*bB)+((8192*z37)+(bP+(((-18446744073709551616)*bI)+(((-18446744073709551616)*z40)+(cm+(((-18446744073709551616)*z51)+(((-18446744073709551616)*bX)+((8192*cq)+((8192*cU)+((8192*z75)+((8192*z76)+(eK+(((-18446744073709551616)*dA)+(((-18446744073709551616)*ee)+((8192*fv)+(gh+((-18446744073709551616)*fl))))))))))))))))))))))))))-2251799813685248*gY<2251799813685248->
 ∀z91:Int,0<=z91->z91<=8191->0<=((8192*aF)+(aO+(((-18446744073709551616)*aH)+((8192*z24)+((8192*bh)+(z26+(((-18446744073709551616)*bo)+(((-18446744073709551616)*z28)+((8192*bB)+((8192*z37)+(bP+(((-18446744073709551616)*bI)+(((-18446744073709551616)*z40)+(cm+(((-18446744073709551616)*z51)+(((-18446744073709551616)*bX)+((8192*cq)+((8192*cU)+((8192*z75)+((8192*z76)+(eK+(((-18446744073709551616)*dA)+(((-18446744073709551616)*ee)+((8192*fv)+(gh+((-18446744073709551616)*fl))))))))))))))))))))))))))-2251799813685248*z91->((8192*aF)+(aO+(((-18446744073709551616)*aH)+((8192*z24)+((8192*bh)+(z26+(((-18446744073709551616)*bo)+(((-18446744073709551616)*z28)+((8192*bB)+((8192*z37)+(bP+(((-18446744073709551616)*bI)+(((-18446744073709551616)*z40)+(cm+(((-18446744073709551616)*z51)+(((-18446744073709551616)*bX)+((8192*cq)+((8192*cU)+((8192*z75)+((8192*z76)+(eK+(((-18446744073709551616)*dA)+(((-18446744073709551616)*ee)+((8192*fv)+(gh+((-18446744073709551616)*fl))))))))))))))))))))))))))-2251799813685248*z91<2251799813685248->
 ∀fw:Int,0<=fw->fw<=1->0<=((8192*aH)+(aR+(((-18446744073709551616)*aS)+((8192*bo)+((8192*z28)+(bu+(((-18446744073709551616)*bt)+(((-18446744073709551616)*z31)+((8192*bI)+((8192*z40)+(bY+(((-18446744073709551616)*bT)+(((-18446744073709551616)*cf)+((8192*z51)+((8192*bX)+(z53+(((-18446744073709551616)*cn)+(((-18446744073709551616)*cv)+(c9+(((-18446744073709551616)*c2)+(((-18446744073709551616)*cX)+((8192*dA)+((8192*ee)+((8192*fl)+z91))))))))))))))))))))))))-18446744073709551616*fw->((8192*aH)+(aR+(((-18446744073709551616)*aS)+((8192*bo)+((8192*z28)+(bu+(((-18446744073709551616)*bt)+(((-18446744073709551616)*z31)+((8192*bI)+((8192*z40)+(bY+(((-18446744073709551616)*bT)+(((-18446744073709551616)*cf)+((8192*z51)+((8192*bX)+(z53+(((-18446744073709551616)*cn)+(((-18446744073709551616)*cv)+(c9+(((-18446744073709551616)*c2)+(((-18446744073709551616)*cX)+((8192*dA)+((8192*ee)+((8192*fl)+z91))))))))))))))))))))))))-18446744073709551616*fw<18446744073709551616->
 ∀z93:Int,0<=z93->z93<=8191->0<=((8192*aH)+(aR+(((-18446744073709551616)*aS)+((8192*bo)+((8192*z28)+(bu+(((-18446744073709551616)*bt)+(((-18446744073709551616)*z31)+((8192*bI)+((8192*z40)+(bY+(((-18446744073709551616)*bT)+(((-18446744073709551616)*cf)+((8192*z51)+((8192*bX)+(z53+(((-18446744073709551616)*cn)+(((-18446744073709551616)*cv)+(c9+(((-18446744073709551616)*c2)+(((-18446744073709551616)*cX)+((8192*dA)+((8192*ee)+((8192*fl)+(z91+((-18446744073709551616)*fw))))))))))))))))))))))))))-2251799813685248*z93->((8192*aH)+(aR+(((-18446744073709551616)*aS)+((8192*bo)+((8192*z28)+(bu+(((-18446744073709551616)*bt)+(((-18446744073709551616)*z31)+((8192*bI)+((8192*z40)+(bY+(((-18446744073709551616)*bT)+(((-18446744073709551616)*cf)+((8192*z51)+((8192*bX)+(z53+(((-18446744073709551616)*cn)+(((-18446744073709551616)*cv)+(c9+(((-18446744073709551616)*c2)+(((-18446744073709551616)*cX)+((8192*dA)+((8192*ee)+((8192*fl)+(z91+((-18446744073709551616)*fw))))))))))))))))))))))))))-2251799813685248*z93<2251799813685248->
 ∀gK:Int,0<=gK->gK<=8191->0<=((8192*aH)+(aR+(((-18446744073709551616)*aS)+((8192*bo)+((8192*z28)+(bu+(((-18446744073709551616)*bt)+(((-18446744073709551616)*z31)+((8192*bI)+((8192*z40)+(bY+(((-18446744073709551616)*bT)+(((-18446744073709551616)*cf)+((8192*z51)+((8192*bX)+(z53+(((-18446744073709551616)*cn)+(((-18446744073709551616)*cv)+(c9+(((-18446744073709551616)*c2)+(((-18446744073709551616)*cX)+((8192*dA)+((8192*ee)+((8192*fl)+(z91+((-18446744073709551616)*fw))))))))))))))))))))))))))-2251799813685248*gK->((8192*aH)+(aR+(((-18446744073709551616)*aS)+((8192*bo)+((8192*z28)+(bu+(((-18446744073709551616)*bt)+(((-18446744073709551616)*z31)+((8192*bI)+((8192*z40)+(bY+(((-18446744073709551616)*bT)+(((-18446744073709551616)*cf)+((8192*z51)+((8192*bX)+(z53+(((-18446744073709551616)*cn)+(((-18446744073709551616)*cv)+(c9+(((-18446744073709551616)*c2)+(((-18446744073709551616)*cX)+((8192*dA)+((8192*ee)+((8192*fl)+(z91+((-18446744073709551616)*fw))))))))))))))))))))))))))-2251799813685248*gK<2251799813685248->
 ∀iW:Int,0<=iW->iW<=8191->0<=((155648*aS)+((155648*bt)+((155648*z31)+((155648*bT)+((155648*cf)+((155648*cn)+((155648*cv)+((155648*c2)+((155648*cX)+((155648*fw)+(19*gK)))))))))))-2251799813685248*iW->((155648*aS)+((155648*bt)+((155648*z31)+((155648*bT)+((155648*cf)+((155648*cn)+((155648*cv)+((155648*c2)+((155648*cX)+((155648*fw)+(19*gK)))))))))))-2251799813685248*iW<2251799813685248->
 ∀cR:Int,0<=cR->cR<=8191->0<=((155648*aS)+((155648*bt)+((155648*z31)+((155648*bT)+((155648*cf)+((155648*cn)+((155648*cv)+((155648*c2)+((155648*cX)+((155648*fw)+(19*gK)))))))))))-2251799813685248*cR->((155648*aS)+((155648*bt)+((155648*z31)+((155648*bT)+((155648*cf)+((155648*cn)+((155648*cv)+((155648*c2)+((155648*cX)+((155648*fw)+(19*gK)))))))))))-2251799813685248*cR<2251799813685248->
 ∀vW:List Int,af (au 0 4503599627370495 5) vW->S 46 [[(aP+(((-18446744073709551616)*aG)+((155648*aS)+((155648*bt)+((155648*z31)+(aL+(((-18446744073709551616)*a8)+(((-18446744073709551616)*bn)+((155648*bT)+((155648*cf)+(ct+(((-18446744073709551616)*b7)+(((-18446744073709551616)*z46)+((155648*cn)+((155648*cv)+(cA+(((-18446744073709551616)*cp)+(((-18446744073709551616)*cx)+((155648*c2)+((155648*cX)+(dh+(((-18446744073709551616)*cI)+(((-18446744073709551616)*z70)+(((-18446744073709551616)*eF)+(((-2251799813685248)*fH)+((155648*fw)+((19*gK)+((-2251799813685248)*iW)))))))))))))))))))))))))))),((8192*aG)+(z12+(((-18446744073709551616)*ai)+(z20+(((-18446744073709551616)*z21)+(((-18446744073709551616)*z22)+((8192*a8)+((8192*bn)+((8192*b7)+((8192*z46)+(b6+(((-18446744073709551616)*cd)+(((-18446744073709551616)*z49)+((8192*cp)+((8192*cx)+(z59+(((-18446744073709551616)*cE)+(((-18446744073709551616)*cG)+((8192*cI)+((8192*z70)+(dn+(((-18446744073709551616)*z72)+(((-18446744073709551616)*cQ)+((8192*eF)+(fk+(((-18446744073709551616)*eV)+(((-2251799813685248)*fI)+cR))))))))))))))))))))))))))),((8192*ai)+(aq+(((-18446744073709551616)*aF)+((8192*z21)+((8192*z22)+(aY+(((-18446744073709551616)*z24)+(((-18446744073709551616)*bh)+(bg+(((-18446744073709551616)*bB)+(((-18446744073709551616)*z37)+((8192*cd)+((8192*z49)+((8192*cE)+((8192*cG)+(cH+(((-18446744073709551616)*cq)+(((-18446744073709551616)*cU)+((8192*z72)+((8192*cQ)+(e1+(((-18446744073709551616)*z75)+(((-18446744073709551616)*z76)+((8192*eV)+(z85+(((-18446744073709551616)*fv)+((-2251799813685248)*z87))))))))))))))))))))))))))),((8192*aF)+(aO+(((-18446744073709551616)*aH)+((8192*z24)+((8192*bh)+(z26+(((-18446744073709551616)*bo)+(((-18446744073709551616)*z28)+((8192*bB)+((8192*z37)+(bP+(((-18446744073709551616)*bI)+(((-18446744073709551616)*z40)+(cm+(((-18446744073709551616)*z51)+(((-18446744073709551616)*bX)+((8192*cq)+((8192*cU)+((8192*z75)+((8192*z76)+(eK+(((-18446744073709551616)*dA)+(((-18446744073709551616)*ee)+((8192*fv)+(gh+(((-18446744073709551616)*fl)+((-2251799813685248)*gY))))))))))))))))))))))))))),((8192*aH)+(aR+(((-18446744073709551616)*aS)+((8192*bo)+((8192*z28)+(bu+(((-18446744073709551616)*bt)+(((-18446744073709551616)*z31)+((8192*bI)+((8192*z40)+(bY+(((-18446744073709551616)*bT)+(((-18446744073709551616)*cf)+((8192*z51)+((8192*bX)+(z53+(((-18446744073709551616)*cn)+(((-18446744073709551616)*cv)+(c9+(((-18446744073709551616)*c2)+(((-18446744073709551616)*cX)+((8192*dA)+((8192*ee)+((8192*fl)+(z91+(((-18446744073709551616)*fw)+((-2251799813685248)*z93)))))))))))))))))))))))))))]] [vW]->
 K [r0,av] [vW]
theorem auH (G):Sx (jI G) (ji gG.res 33):=by
 unfold Sx
 intro r0 i0 av i5 aP o8 oe Dn aG dQ dU z8 d11 z12 a12 fL Dp ai h9 ik Da d13 aq fJ fM yF aF dR ef Db d15 aO pL pM xf aH ej en Dc d17 aR eC eH Dq aS ia il Dd d19 z20 a20 dV Dr z21 a21 eg aW d21 z22 a22 hq De d22 aY dC dG Ky z24 a24 eh Df d24 bh ek ei Fj d25 z26 a26 eo Af bo ib im Oe d27 z28 a28 eE Of d28 bu ev ew By bt eD ey Oh d30 z31 a31 eQ Oi d31 aL dD ht HU a8 dv dx s3 d33 bn dE dH Dg d34 bg dF dI HW bB dS dW Dh d36 z37 a37 gO Bu d37 bP dw dy Dw bI dT dX Di d39 z40 a40 iq Dj d40 bY gi gj Bz bT fR fS Dk d42 cf hh gP Oj d43 ct hj hA Ag b7 u2 vc Ok d45 z46 a46 ir Ol d46 b6 gM gQ Dx cd hk hB Om d48 z49 a49 hC On d49 cm uj uk Dy z51 a51 hD Oo d51 bX gN gR Oq d52 z53 a53 hS Ah cn hP hT Ot d54 cv u3 vd Ou d55 cA ho hE DA cp ic iu Ov d57 cx u4 ve Ow d58 z59 a59 hG Fv cE ie iv Ox d60 cG jk iY Oy d61 cH ig iw DB cq zR zY Oz d63 cU fp ix OA d64 c9 ij iy Ai c2 jl iZ OB d66 cX iK iM OC d67 dh zS zZ HY cI iL iN OD d69 z70 a70 iO OE d70 dn jz jm Fw z72 a72 jn OF d72 cQ yw vf OG d73 e1 zT z1 HZ z75 a75 yD OH d75 z76 a76 vg OI d76 eK wR w3 Aj dA wS w4 OJ d78 ee wT w5 OK d79 eF zU z6 OL d80 fH wU w6 Kl d81 fk wV w7 Km d82 eV wW w8 OM d83 fI wX w9 Kn d84 z85 a85 z7 Ko d85 fv CV C2 ON d86 z87 a87 C3 acA d87 gh CW C4 acB d88 fl CX C5 alc d89 gY CY C6 acC d90 z91 a91 Fb acD d91 fw E3 Fc ald d92 z93 a93 Fe acE d93 gK E4 Ff acF d94 iW Hp Hv acG d95 cR J8 Kd acH d96 vW i97 aT
 have aT:v5 vW% 57896044618658097711785492504343953926634992332820282019728792003956564819949=v5 [(aP+(((-18446744073709551616)*aG)+((155648*aS)+((155648*bt)+((155648*z31)+(aL+(((-18446744073709551616)*a8)+(((-18446744073709551616)*bn)+((155648*bT)+((155648*cf)+(ct+(((-18446744073709551616)*b7)+(((-18446744073709551616)*z46)+((155648*cn)+((155648*cv)+(cA+(((-18446744073709551616)*cp)+(((-18446744073709551616)*cx)+((155648*c2)+((155648*cX)+(dh+(((-18446744073709551616)*cI)+(((-18446744073709551616)*z70)+(((-18446744073709551616)*eF)+(((-2251799813685248)*fH)+((155648*fw)+((19*gK)+((-2251799813685248)*iW)))))))))))))))))))))))))))),((8192*aG)+(z12+(((-18446744073709551616)*ai)+(z20+(((-18446744073709551616)*z21)+(((-18446744073709551616)*z22)+((8192*a8)+((8192*bn)+((8192*b7)+((8192*z46)+(b6+(((-18446744073709551616)*cd)+(((-18446744073709551616)*z49)+((8192*cp)+((8192*cx)+(z59+(((-18446744073709551616)*cE)+(((-18446744073709551616)*cG)+((8192*cI)+((8192*z70)+(dn+(((-18446744073709551616)*z72)+(((-18446744073709551616)*cQ)+((8192*eF)+(fk+(((-18446744073709551616)*eV)+(((-2251799813685248)*fI)+cR))))))))))))))))))))))))))),((8192*ai)+(aq+(((-18446744073709551616)*aF)+((8192*z21)+((8192*z22)+(aY+(((-18446744073709551616)*z24)+(((-18446744073709551616)*bh)+(bg+(((-18446744073709551616)*bB)+(((-18446744073709551616)*z37)+((8192*cd)+((8192*z49)+((8192*cE)+((8192*cG)+(cH+(((-18446744073709551616)*cq)+(((-18446744073709551616)*cU)+((8192*z72)+((8192*cQ)+(e1+(((-18446744073709551616)*z75)+(((-18446744073709551616)*z76)+((8192*eV)+(z85+(((-18446744073709551616)*fv)+((-2251799813685248)*z87))))))))))))))))))))))))))),((8192*aF)+(aO+(((-18446744073709551616)*aH)+((8192*z24)+((8192*bh)+(z26+(((-18446744073709551616)*bo)+(((-18446744073709551616)*z28)+((8192*bB)+((8192*z37)+(bP+(((-18446744073709551616)*bI)+(((-18446744073709551616)*z40)+(cm+(((-18446744073709551616)*z51)+(((-18446744073709551616)*bX)+((8192*cq)+((8192*cU)+((8192*z75)+((8192*z76)+(eK+(((-18446744073709551616)*dA)+(((-18446744073709551616)*ee)+((8192*fv)+(gh+(((-18446744073709551616)*fl)+((-2251799813685248)*gY))))))))))))))))))))))))))),((8192*aH)+(aR+(((-18446744073709551616)*aS)+((8192*bo)+((8192*z28)+(bu+(((-18446744073709551616)*bt)+(((-18446744073709551616)*z31)+((8192*bI)+((8192*z40)+(bY+(((-18446744073709551616)*bT)+(((-18446744073709551616)*cf)+((8192*z51)+((8192*bX)+(z53+(((-18446744073709551616)*cn)+(((-18446744073709551616)*cv)+(c9+(((-18446744073709551616)*c2)+(((-18446744073709551616)*cX)+((8192*dA)+((8192*ee)+((8192*fl)+(z91+(((-18446744073709551616)*fw)+((-2251799813685248)*z93)))))))))))))))))))))))))))]% 57896044618658097711785492504343953926634992332820282019728792003956564819949/\v5 vW<57896044618658097711785492504343953926634992332820282019728792003956564819949+38:=aT.1
 refine⟨?_,?_⟩
 ·exact va i97
 ·show v5 vW% 57896044618658097711785492504343953926634992332820282019728792003956564819949=v5 r0*v5 av% 57896044618658097711785492504343953926634992332820282019728792003956564819949
  obtain⟨eU,ag,ad,ao,cZ,rfl,zf,zg,zh,zi,zj,zk,zl,zm,zn,zo⟩:=Ay i0
  obtain⟨tu,an,aj,ay,pz,rfl,aiv,aiw,aiz,aiA,aiB,aiC,aiD,aiE,aiF,aiG⟩:=Ay i5
  simp only[jH,kS]at*
  have X0:fH=fk:=dup Kl d81 Km d82
  subst X0
  have avQ:fI=z85:=dup Kn d84 Ko d85
  subst avQ
  have avS:z87=gh:=dup acA d87 acB d88
  subst avS
  have avT:gY=z91:=dup acC d90 acD d91
  subst avT
  have avU:z93=gK:=dup acE d93 acF d94
  subst avU
  have avV:iW=cR:=dup acG d95 acH d96
  subst avV
  have ac8:v5 [(aP+(((-18446744073709551616)*aG)+((155648*aS)+((155648*bt)+((155648*z31)+(aL+(((-18446744073709551616)*a8)+(((-18446744073709551616)*bn)+((155648*bT)+((155648*cf)+(ct+(((-18446744073709551616)*b7)+(((-18446744073709551616)*z46)+((155648*cn)+((155648*cv)+(cA+(((-18446744073709551616)*cp)+(((-18446744073709551616)*cx)+((155648*c2)+((155648*cX)+(dh+(((-18446744073709551616)*cI)+(((-18446744073709551616)*z70)+(((-18446744073709551616)*eF)+(((-2251799813685248)*fH)+((155648*fw)+((19*z93)+((-2251799813685248)*iW)))))))))))))))))))))))))))),((8192*aG)+(z12+(((-18446744073709551616)*ai)+(z20+(((-18446744073709551616)*z21)+(((-18446744073709551616)*z22)+((8192*a8)+((8192*bn)+((8192*b7)+((8192*z46)+(b6+(((-18446744073709551616)*cd)+(((-18446744073709551616)*z49)+((8192*cp)+((8192*cx)+(z59+(((-18446744073709551616)*cE)+(((-18446744073709551616)*cG)+((8192*cI)+((8192*z70)+(dn+(((-18446744073709551616)*z72)+(((-18446744073709551616)*cQ)+((8192*eF)+(fH+(((-18446744073709551616)*eV)+(((-2251799813685248)*fI)+iW))))))))))))))))))))))))))),((8192*ai)+(aq+(((-18446744073709551616)*aF)+((8192*z21)+((8192*z22)+(aY+(((-18446744073709551616)*z24)+(((-18446744073709551616)*bh)+(bg+(((-18446744073709551616)*bB)+(((-18446744073709551616)*z37)+((8192*cd)+((8192*z49)+((8192*cE)+((8192*cG)+(cH+(((-18446744073709551616)*cq)+(((-18446744073709551616)*cU)+((8192*z72)+((8192*cQ)+(e1+(((-18446744073709551616)*z75)+(((-18446744073709551616)*z76)+((8192*eV)+(fI+(((-18446744073709551616)*fv)+((-2251799813685248)*z87))))))))))))))))))))))))))),((8192*aF)+(aO+(((-18446744073709551616)*aH)+((8192*z24)+((8192*bh)+(z26+(((-18446744073709551616)*bo)+(((-18446744073709551616)*z28)+((8192*bB)+((8192*z37)+(bP+(((-18446744073709551616)*bI)+(((-18446744073709551616)*z40)+(cm+(((-18446744073709551616)*z51)+(((-18446744073709551616)*bX)+((8192*cq)+((8192*cU)+((8192*z75)+((8192*z76)+(eK+(((-18446744073709551616)*dA)+(((-18446744073709551616)*ee)+((8192*fv)+(z87+(((-18446744073709551616)*fl)+((-2251799813685248)*gY))))))))))))))))))))))))))),((8192*aH)+(aR+(((-18446744073709551616)*aS)+((8192*bo)+((8192*z28)+(bu+(((-18446744073709551616)*bt)+(((-18446744073709551616)*z31)+((8192*bI)+((8192*z40)+(bY+(((-18446744073709551616)*bT)+(((-18446744073709551616)*cf)+((8192*z51)+((8192*bX)+(z53+(((-18446744073709551616)*cn)+(((-18446744073709551616)*cv)+(c9+(((-18446744073709551616)*c2)+(((-18446744073709551616)*cX)+((8192*dA)+((8192*ee)+((8192*fl)+(gY+(((-18446744073709551616)*fw)+((-2251799813685248)*z93)))))))))))))))))))))))))))]=(1*aP+2251799813685248*z12+5070602400912917605986812821504*aq+11417981541647679048466287755595961091061972992*aO+25711008708143844408671393477458601640355247900524685364822016*aR+2251799813685248*z20+5070602400912917605986812821504*aY+11417981541647679048466287755595961091061972992*z26+25711008708143844408671393477458601640355247900524685364822016*bu+1*aL+5070602400912917605986812821504*bg+11417981541647679048466287755595961091061972992*bP+25711008708143844408671393477458601640355247900524685364822016*bY+1*ct+2251799813685248*b6+11417981541647679048466287755595961091061972992*cm+25711008708143844408671393477458601640355247900524685364822016*z53+1*cA+2251799813685248*z59+5070602400912917605986812821504*cH+25711008708143844408671393477458601640355247900524685364822016*c9+1*dh+2251799813685248*dn+5070602400912917605986812821504*e1+11417981541647679048466287755595961091061972992*eK)+57896044618658097711785492504343953926634992332820282019728792003956564819949*(-(8192*aS+8192*bt+8192*z31+8192*bT+8192*cf+8192*cn+8192*cv+8192*c2+8192*cX+8192*fw+1*z93)):=by
   clear o8 oe Dn dQ dU z8 d11 a12 fL Dp h9 ik Da d13 fJ fM yF dR ef Db d15 pL pM xf ej en Dc d17 eC eH Dq ia il Dd d19 a20 dV Dr a21 eg aW d21 a22 hq De d22 dC dG Ky a24 eh Df d24 ek ei Fj d25 a26 eo Af ib im Oe d27 a28 eE Of d28 ev ew By eD ey Oh d30 a31 eQ Oi d31 dD ht HU dv dx s3 d33 dE dH Dg d34 dF dI HW dS dW Dh d36 a37 gO Bu d37 dw dy Dw dT dX Di d39 a40 iq Dj d40 gi gj Bz fR fS Dk d42 hh gP Oj d43 hj hA Ag u2 vc Ok d45 a46 ir Ol d46 gM gQ Dx hk hB Om d48 a49 hC On d49 uj uk Dy a51 hD Oo d51 gN gR Oq d52 a53 hS Ah hP hT Ot d54 u3 vd Ou d55 ho hE DA ic iu Ov d57 u4 ve Ow d58 a59 hG Fv ie iv Ox d60 jk iY Oy d61 ig iw DB zR zY Oz d63 fp ix OA d64 ij iy Ai jl iZ OB d66 iK iM OC d67 zS zZ HY iL iN OD d69 a70 iO OE d70 jz jm Fw a72 jn OF d72 yw vf OG d73 zT z1 HZ a75 yD OH d75 a76 vg OI d76 wR w3 Aj wS w4 OJ d78 wT w5 OK d79 zU z6 OL d80 wU w6 Kl d81 wV w7 Km d82 wW w8 OM d83 wX w9 Kn d84 a85 z7 Ko d85 CV C2 ON d86 a87 C3 acA d87 CW C4 acB d88 CX C5 alc d89 CY C6 acC d90 a91 Fb acD d91 E3 Fc ald d92 a93 Fe acE d93 E4 Ff acF d94 Hp Hv acG d95 J8 Kd acH d96 aT
   simp only[CA]
   omega
  rw[aT.1,ac8,zx]
  clear ac8 aT
  rw[Dn,Dp,yF,xf,Dq,Dr,Ky,Af,By,HU,HW,Dw,Bz,Ag,Dx,Dy,Ah,DA,Fv,DB,Ai,HY,Fw,HZ,Aj]
  rw[CA,CA,axY,zx]
end Go.Fd
namespace Go.Fd
open Go.ch
def Sw (S:Nat->List (List Int)->List (List Int)->Prop) (K:List (List Int)->List (List Int)->Prop):Prop:=
 ∀r0:List Int,af (au 0 4503599627370495 5) r0->
 ∀av:List Int,af (au 0 4503599627370495 5) av->S 33 [r0,r0] [av]->
 K [r0] [av]
theorem auD (G):Sw (jI G) (ji m8.res 47):=by
 unfold Sw
 intro r0 i0 av i5 aT
 have aT:v5 av% 57896044618658097711785492504343953926634992332820282019728792003956564819949=v5 r0*v5 r0% 57896044618658097711785492504343953926634992332820282019728792003956564819949:=aT.1
 refine⟨?_,?_⟩
 ·exact va i5
 ·show v5 av% 57896044618658097711785492504343953926634992332820282019728792003956564819949=v5 r0*v5 r0% 57896044618658097711785492504343953926634992332820282019728792003956564819949
  exact aT
def Sn (S:Nat->List (List Int)->List (List Int)->Prop) (K:List (List Int)->List (List Int)->Prop):Prop:=
 ∀r0:List Int,af (au 0 4503599627370495 5) r0->
 ∀av:List Int,af (au 0 4503599627370495 5) av->S 32 [[0,0,0,0,0],r0] [av]->
 K [r0] [av]
theorem auo (G):Sn (jI G) (ji pT.res 50):=by
 unfold Sn
 intro r0 i0 av i5 aT
 have aT:v5 av% 57896044618658097711785492504343953926634992332820282019728792003956564819949=(v5 [0,0,0,0,0]-v5 r0)% 57896044618658097711785492504343953926634992332820282019728792003956564819949:=aT.1
 refine⟨?_,?_⟩
 ·exact va i5
 ·show v5 av% 57896044618658097711785492504343953926634992332820282019728792003956564819949=(0-v5 r0)% 57896044618658097711785492504343953926634992332820282019728792003956564819949
  rw[show v5 [0,0,0,0,0]=0 by decide]at aT
  exact aT
def Sq (S:Nat->List (List Int)->List (List Int)->Prop) (K:List (List Int)->List (List Int)->Prop):Prop:=
 ∀r0:List Int,af (au 0 4503599627370495 5) r0->∀av:List Int,af (au 0 18446744073709551615 4) av->
 ∃(NH:List (List Int)->Prop) (R4:List (List Int)->Nat),NH [[255],[1,0,0,0,0]]/\(∀aP:Int,(-1)<=aP->aP<=255->∀rm:List Int,af (au 0 4503599627370495 5) rm->NH [[aP],rm]->
  (((decide (0<=aP))=true->
   ∀iF:List Int,af (au 0 4503599627370495 5) iF->S 47 [rm] [iF]->
   ∀z21:Int,0<=z21->z21<=3->0<=aP-64*z21->aP-64*z21<64->
   ∀z22:Int,0<=z22->z22<=18446744073709551615->z22=U av (z21).toNat 0->
   ∀aY:Int,0<=aY->aY<=3->0<=aP-64*aY->aP-64*aY<64->
   ∀z24:Int,0<=z24->z24<=18446744073709551615->z24=z22/2^((aP+((-64)*aY))).toNat->
   ∀bh:Int,0<=bh->bh<=9223372036854775807->0<=z24-2*bh->z24-2*bh<2->
   (((decide ((z24+((-2)*bh))=1))=true->
    ∀Cr:List Int,af (au 0 4503599627370495 5) Cr->S 33 [iF,r0] [Cr]->
    (NH [[(aP+(-1))],Cr]/\R4 [[(aP+(-1))],Cr]<R4 [[aP],rm])
   )/\((decide ((z24+((-2)*bh))=1))=false->
    (NH [[(aP+(-1))],iF]/\R4 [[(aP+(-1))],iF]<R4 [[aP],rm])
   ))
  )/\((decide (0<=aP))=false->
   K [r0,av] [rm]
  ))
 )
theorem aut (G):Sq (jI G) (SZ G):=by
 unfold Sq
 intro r0 i0 av i5
 refine⟨λl=>match l with|[[i],r]=>v5 r% 57896044618658097711785492504343953926634992332820282019728792003956564819949=cO (v5 r0) ((bf av).toNat/2^(i+1).toNat)/\r=xI G r0 (bf av).toNat (255-i).toNat|_=>False,λl=>match l with|[[i],_]=>(i+1).toNat|_=>0,?_,?_⟩
 ·show v5 [1,0,0,0,0]% 57896044618658097711785492504343953926634992332820282019728792003956564819949=cO (v5 r0) ((bf av).toNat/2^(255+1:Int).toNat)/\[1,0,0,0,0]=xI G r0 (bf av).toNat (255-255:Int).toNat
  refine⟨?_,rfl⟩
  rw[ax4 i5,Cf]
  decide
 ·intro aP o8 oe rm i11 gU
  have gU:v5 rm% 57896044618658097711785492504343953926634992332820282019728792003956564819949=cO (v5 r0) ((bf av).toNat/2^(aP+1).toNat)/\rm=xI G r0 (bf av).toNat (255-aP).toNat:=gU
  refine⟨λh0=>?_,λh0=>?_⟩
  ·skip
   simp only[gn,kj,je,kT,decide_eq_true_eq,decide_eq_false_iff_not]at h0
   intro iF i16 aT z21 a21 eg aW d21 z22 a22 hq Ds aY dC dG Bs d23 z24 a24 eh Dt bh ek ei Fj d25
   have Q7:=aT.2
   have aT:v5 iF% 57896044618658097711785492504343953926634992332820282019728792003956564819949=v5 rm*v5 rm% 57896044618658097711785492504343953926634992332820282019728792003956564819949:=aT.1
   refine⟨λh1=>?_,λh1=>?_⟩
   ·skip
    simp only[gn,kj,je,kT,decide_eq_true_eq,decide_eq_false_iff_not]at h1
    intro Cr i26 s1
    have Q8:=s1.2
    have s1:v5 Cr% 57896044618658097711785492504343953926634992332820282019728792003956564819949=v5 iF*v5 r0% 57896044618658097711785492504343953926634992332820282019728792003956564819949:=s1.1
    obtain⟨i,rfl⟩:=sn h0
    have hb:=ab5 i5 oe aW d21 Ds Bs d23 Dt Fj d25
    have yI:((i:Int)+1).toNat=i+1:=by omega
    have Fy:((i:Int)+(-1)+1).toNat=i:=by omega
    obtain⟨gU,hF⟩:=gU
    rw[yI]at gU
    have yJ:(255-(i:Int)).toNat=255-i:=by omega
    have Fz:(255-((i:Int)+(-1))).toNat=(255-i)+1:=by omega
    have FA:255-(255-i)=i:=by omega
    rw[yJ]at hF
    have g0:iF=G 47 rm:=by have:=Q7;simpa using this
    have g1:Cr=G 33 (iF++r0):=by have:=Q8;simpa using this
    have cT:(bf av).toNat/2^i% 2=1:=by omega
    refine⟨⟨?_,?_⟩,?_⟩
    ·show v5 Cr% 57896044618658097711785492504343953926634992332820282019728792003956564819949=cO (v5 r0) ((bf av).toNat/2^((i:Int)+(-1)+1).toNat)
     rw[Fy,avi cT,s1,<-sM (v5 iF),aT,sS (v5 rm) (v5 rm),gU]
    ·show Cr=xI G r0 (bf av).toNat (255-((i:Int)+(-1))).toNat
     rw[Fz,xI,FA,<-hF,<-g0]
     have:((bf av).toNat/2^i% 2==1)=true:=by simpa using cT
     rw[this,cond_true,<-g1]
    ·show((i:Int)+(-1)+1).toNat<((i:Int)+1).toNat
     omega
   ·skip
    simp only[gn,kj,je,kT,decide_eq_true_eq,decide_eq_false_iff_not]at h1
    obtain⟨i,rfl⟩:=sn h0
    have hb:=ab5 i5 oe aW d21 Ds Bs d23 Dt Fj d25
    have yI:((i:Int)+1).toNat=i+1:=by omega
    have Fy:((i:Int)+(-1)+1).toNat=i:=by omega
    obtain⟨gU,hF⟩:=gU
    rw[yI]at gU
    have yJ:(255-(i:Int)).toNat=255-i:=by omega
    have Fz:(255-((i:Int)+(-1))).toNat=(255-i)+1:=by omega
    have FA:255-(255-i)=i:=by omega
    rw[yJ]at hF
    have g0:iF=G 47 rm:=by have:=Q7;simpa using this
    have cT:(bf av).toNat/2^i% 2≠1:=by omega
    refine⟨⟨?_,?_⟩,?_⟩
    ·show v5 iF% 57896044618658097711785492504343953926634992332820282019728792003956564819949=cO (v5 r0) ((bf av).toNat/2^((i:Int)+(-1)+1).toNat)
     rw[Fy,avh cT,aT,sS (v5 rm) (v5 rm),gU]
    ·show iF=xI G r0 (bf av).toNat (255-((i:Int)+(-1))).toNat
     rw[Fz,xI,FA,<-hF,<-g0]
     have:((bf av).toNat/2^i% 2==1)=false:=by simpa using cT
     rw[this,cond_false]
    ·show((i:Int)+(-1)+1).toNat<((i:Int)+1).toNat
     omega
  ·skip
   simp only[gn,kj,je,kT,decide_eq_true_eq,decide_eq_false_iff_not]at h0
   obtain⟨gU,hF⟩:=gU
   have yI:(aP+1).toNat=0:=by omega
   have yJ:(255-aP).toNat=256:=by omega
   rw[yI]at gU
   rw[yJ]at hF
   refine⟨⟨va i11,?_⟩,?_⟩
   ·show v5 rm% 57896044618658097711785492504343953926634992332820282019728792003956564819949=cO (v5 r0) (bf av).toNat
    simpa using gU
   ·show [rm].flatten=xI G r0 (bf av).toNat 256
    simpa using hF
def Sk (S:Nat->List (List Int)->List (List Int)->Prop) (K:List (List Int)->List (List Int)->Prop):Prop:=
 ∀r0:List Int,af (au 0 4503599627370495 5) r0->
 ∀av:List Int,af (au 0 4503599627370495 5) av->S 43 [r0,[18446744073709551595,18446744073709551615,18446744073709551615,9223372036854775807]] [av]->
 K [r0] [av]
theorem auh (G):Sk (jI G) (ji rY.res 35):=by
 unfold Sk
 intro r0 i0 av i5 aT
 have aT:v5 av% 57896044618658097711785492504343953926634992332820282019728792003956564819949=cO (v5 r0) (bf [18446744073709551595,18446744073709551615,18446744073709551615,9223372036854775807]).toNat:=aT.1
 refine⟨?_,?_⟩
 ·exact va i5
 ·show v5 av% 57896044618658097711785492504343953926634992332820282019728792003956564819949=cO (v5 r0) xg
  rw[amk]at aT
  exact aT
def Sv (S:Nat->List (List Int)->List (List Int)->Prop) (K:List (List Int)->List (List Int)->Prop):Prop:=
 ∀r0:List Int,af (au 0 4503599627370495 5) r0->∀av:List Int,af (au 0 4503599627370495 5) av->
 ∀ck:List Int,af (au 0 255 32) ck->S 31 [r0] [ck]->
 ∀pr:List Int,af (au 0 255 32) pr->S 31 [av] [pr]->
 K [r0,av] [[(cond (decide (ck=pr)) 1 0)]]
theorem auy (G):Sv (jI G) (ji re.res 48):=by
 unfold Sv
 intro r0 i0 av i5 ck i10 aT pr i42 s1
 have aT:nb ck=v5 r0% 57896044618658097711785492504343953926634992332820282019728792003956564819949:=aT.1
 have s1:nb pr=v5 av% 57896044618658097711785492504343953926634992332820282019728792003956564819949:=s1.1
 refine⟨?_,?_⟩
 ·simp only[re,bk,D.bds,mY,gp,uT,G4,af,and_true]
  rw[HN]
  exact T5
 ·show(cond (decide (ck=pr)) 1 0)=bit (v5 r0% 57896044618658097711785492504343953926634992332820282019728792003956564819949=v5 av% 57896044618658097711785492504343953926634992332820282019728792003956564819949)
  rw[HN,<-aT,<-s1]
  exact ab4 ⟨λh=>by rw[h],λh=>xA i10 i42 h⟩
def So (S:Nat->List (List Int)->List (List Int)->Prop) (K:List (List Int)->List (List Int)->Prop):Prop:=
 ∀r0:List Int,af (au 0 4503599627370495 5) r0->
 ∀av:List Int,af (au 0 255 32) av->S 31 [r0] [av]->
 ∀z37:Int,0<=z37->z37<=127->0<=(U av 0 0)-2*z37->(U av 0 0)-2*z37<2->
 K [r0] [[(cond (decide (((U av 0 0)+((-2)*z37))=1)) 1 0)]]
theorem aur (G):So (jI G) (ji ra.res 49):=by
 unfold So
 intro r0 i0 av i5 aT z37 a37 gO Bu d37
 have aT:nb av=v5 r0% 57896044618658097711785492504343953926634992332820282019728792003956564819949:=aT.1
 refine⟨?_,?_⟩
 ·simp only[ra,bk,D.bds,mY,gp,uT,G4,af,and_true]
  rw[HN]
  exact T5
 ·show(cond (decide (((U av 0 0)+((-2)*z37))=1)) 1 0)=v5 r0% 57896044618658097711785492504343953926634992332820282019728792003956564819949% 2
  rw[HN,<-aT]
  have hp:=asp av
  unfold bit
  split<;>omega
def Su (S:Nat->List (List Int)->List (List Int)->Prop) (K:List (List Int)->List (List Int)->Prop):Prop:=
 ∀r0:List Int,af (au 0 4503599627370495 5) r0->
 ∀av:List Int,af (au 0 4503599627370495 5) av->S 43 [r0,[18446744073709551614,18446744073709551615,18446744073709551615,1152921504606846975]] [av]->
 ∀ck:List Int,af (au 0 4503599627370495 5) ck->S 47 [av] [ck]->
 ∀aF:Int,0<=aF->aF<=1->S 48 [ck,r0] [[aF]]->
 (((decide (aF=1))=true->
  ∀aO:Int,0<=aO->aO<=1->S 49 [av] [[aO]]->
  (((decide (aO=1))=true->
   ∀Jd:List Int,af (au 0 4503599627370495 5) Jd->S 50 [av] [Jd]->
   K [r0] [Jd,[(cond (true) 1 0)]]
  )/\((decide (aO=1))=false->
   K [r0] [av,[(cond (true) 1 0)]]
  ))
 )/\((decide (aF=1))=false->
  ∀iF:List Int,af (au 0 4503599627370495 5) iF->S 33 [av,[1718705420411056,234908883556509,2233514472574048,2117202627021982,765476049583133]] [iF]->
  ∀Cq:List Int,af (au 0 4503599627370495 5) Cq->S 47 [iF] [Cq]->
  ∀z26:Int,0<=z26->z26<=1->S 48 [Cq,r0] [[z26]]->
  (((decide (z26=1))=true->
   ∀bo:Int,0<=bo->bo<=1->S 49 [iF] [[bo]]->
   (((decide (bo=1))=true->
    ∀Je:List Int,af (au 0 4503599627370495 5) Je->S 50 [iF] [Je]->
    K [r0] [Je,[(cond (true) 1 0)]]
   )/\((decide (bo=1))=false->
    K [r0] [iF,[(cond (true) 1 0)]]
   ))
  )/\((decide (z26=1))=false->
   ∀QV:List Int,af (au 0 4503599627370495 5) QV->S 33 [iF,[1718705420411056,234908883556509,2233514472574048,2117202627021982,765476049583133]] [QV]->
   K [r0] [[0,0,0,0,0],[(cond (false) 1 0)]]
  ))
 ))
theorem auw (G):Su (jI G) (ji tT.res 30):=by
 unfold Su
 intro r0 i0 av i5 aT ck i10 s1 aF dR ef s2
 have aT:v5 av% 57896044618658097711785492504343953926634992332820282019728792003956564819949=cO (v5 r0) (bf [18446744073709551614,18446744073709551615,18446744073709551615,1152921504606846975]).toNat:=aT.1
 have s1:v5 ck% 57896044618658097711785492504343953926634992332820282019728792003956564819949=v5 av*v5 av% 57896044618658097711785492504343953926634992332820282019728792003956564819949:=s1.1
 have s2:aF=bit (v5 ck% 57896044618658097711785492504343953926634992332820282019728792003956564819949=v5 r0% 57896044618658097711785492504343953926634992332820282019728792003956564819949):=s2.1
 refine⟨λh0=>?_,λh0=>?_⟩
 ·skip
  simp only[gn,kj,je,kT,decide_eq_true_eq,decide_eq_false_iff_not]at h0
  intro aO pL pM bS
  have bS:aO=v5 av% 57896044618658097711785492504343953926634992332820282019728792003956564819949% 2:=bS.1
  refine⟨λh1=>?_,λh1=>?_⟩
  ·skip
   simp only[gn,kj,je,kT,decide_eq_true_eq,decide_eq_false_iff_not]at h1
   intro Jd i17 dg
   have dg:v5 Jd% 57896044618658097711785492504343953926634992332820282019728792003956564819949=(0-v5 av)% 57896044618658097711785492504343953926634992332820282019728792003956564819949:=dg.1
   refine⟨?_,?_⟩
   ·exact II i17 ⟨by decide,by decide,trivial⟩
   ·show(v5 Jd% 57896044618658097711785492504343953926634992332820282019728792003956564819949,(cond (true) 1 0))=n3 (v5 r0% 57896044618658097711785492504343953926634992332820282019728792003956564819949)
    rw[KN,<-AP]at aT
    have m0:v5 ck% 57896044618658097711785492504343953926634992332820282019728792003956564819949=(v5 av% 57896044618658097711785492504343953926634992332820282019728792003956564819949)*(v5 av% 57896044618658097711785492504343953926634992332820282019728792003956564819949)% 57896044618658097711785492504343953926634992332820282019728792003956564819949:=by rw[s1,sS]
    rw[aT]at m0
    rw[s2]at h0
    have e4:=Bq h0
    rw[m0]at e4
    unfold n3
    simp only
    rw[if_pos e4]
    rw[aT]at bS
    rw[if_pos (by omega)]
    have aw:(0-v5 av)% 57896044618658097711785492504343953926634992332820282019728792003956564819949=(0-v5 av% 57896044618658097711785492504343953926634992332820282019728792003956564819949)% 57896044618658097711785492504343953926634992332820282019728792003956564819949:=by omega
    rw[dg,aw,aT]
    rfl
  ·skip
   simp only[gn,kj,je,kT,decide_eq_true_eq,decide_eq_false_iff_not]at h1
   refine⟨?_,?_⟩
   ·exact II i5 ⟨by decide,by decide,trivial⟩
   ·show(v5 av% 57896044618658097711785492504343953926634992332820282019728792003956564819949,(cond (true) 1 0))=n3 (v5 r0% 57896044618658097711785492504343953926634992332820282019728792003956564819949)
    rw[KN,<-AP]at aT
    have m0:v5 ck% 57896044618658097711785492504343953926634992332820282019728792003956564819949=(v5 av% 57896044618658097711785492504343953926634992332820282019728792003956564819949)*(v5 av% 57896044618658097711785492504343953926634992332820282019728792003956564819949)% 57896044618658097711785492504343953926634992332820282019728792003956564819949:=by rw[s1,sS]
    rw[aT]at m0
    rw[s2]at h0
    have e4:=Bq h0
    rw[m0]at e4
    unfold n3
    simp only
    rw[if_pos e4]
    rw[aT]at bS
    rw[if_neg (by omega),aT]
    rfl
 ·skip
  simp only[gn,kj,je,kT,decide_eq_true_eq,decide_eq_false_iff_not]at h0
  intro iF i16 bS Cq i21 dg z26 a26 eo gz
  have bS:v5 iF% 57896044618658097711785492504343953926634992332820282019728792003956564819949=v5 av*v5 [1718705420411056,234908883556509,2233514472574048,2117202627021982,765476049583133]% 57896044618658097711785492504343953926634992332820282019728792003956564819949:=bS.1
  have dg:v5 Cq% 57896044618658097711785492504343953926634992332820282019728792003956564819949=v5 iF*v5 iF% 57896044618658097711785492504343953926634992332820282019728792003956564819949:=dg.1
  have gz:z26=bit (v5 Cq% 57896044618658097711785492504343953926634992332820282019728792003956564819949=v5 r0% 57896044618658097711785492504343953926634992332820282019728792003956564819949):=gz.1
  refine⟨λh2=>?_,λh2=>?_⟩
  ·skip
   simp only[gn,kj,je,kT,decide_eq_true_eq,decide_eq_false_iff_not]at h2
   intro bo ib im hM
   have hM:bo=v5 iF% 57896044618658097711785492504343953926634992332820282019728792003956564819949% 2:=hM.1
   refine⟨λh3=>?_,λh3=>?_⟩
   ·skip
    simp only[gn,kj,je,kT,decide_eq_true_eq,decide_eq_false_iff_not]at h3
    intro Je i28 ju
    have ju:v5 Je% 57896044618658097711785492504343953926634992332820282019728792003956564819949=(0-v5 iF)% 57896044618658097711785492504343953926634992332820282019728792003956564819949:=ju.1
    refine⟨?_,?_⟩
    ·exact II i28 ⟨by decide,by decide,trivial⟩
    ·show(v5 Je% 57896044618658097711785492504343953926634992332820282019728792003956564819949,(cond (true) 1 0))=n3 (v5 r0% 57896044618658097711785492504343953926634992332820282019728792003956564819949)
     rw[KN,<-AP]at aT
     have m0:v5 ck% 57896044618658097711785492504343953926634992332820282019728792003956564819949=(v5 av% 57896044618658097711785492504343953926634992332820282019728792003956564819949)*(v5 av% 57896044618658097711785492504343953926634992332820282019728792003956564819949)% 57896044618658097711785492504343953926634992332820282019728792003956564819949:=by rw[s1,sS]
     rw[aT]at m0
     rw[s2]at h0
     have e4:=Hy h0
     rw[m0]at e4
     unfold n3
     simp only
     rw[if_neg e4]
     rw[YU,<-sM,aT]at bS
     have gW:v5 Cq% 57896044618658097711785492504343953926634992332820282019728792003956564819949=(v5 iF% 57896044618658097711785492504343953926634992332820282019728792003956564819949)*(v5 iF% 57896044618658097711785492504343953926634992332820282019728792003956564819949)% 57896044618658097711785492504343953926634992332820282019728792003956564819949:=by rw[dg,sS]
     rw[bS]at gW
     rw[gz]at h2
     have bm:=Bq h2
     rw[gW]at bm
     rw[if_pos bm]
     rw[bS]at hM
     rw[if_pos (by omega)]
     have aw:(0-v5 iF)% 57896044618658097711785492504343953926634992332820282019728792003956564819949=(0-v5 iF% 57896044618658097711785492504343953926634992332820282019728792003956564819949)% 57896044618658097711785492504343953926634992332820282019728792003956564819949:=by omega
     rw[ju,aw,bS]
     rfl
   ·skip
    simp only[gn,kj,je,kT,decide_eq_true_eq,decide_eq_false_iff_not]at h3
    refine⟨?_,?_⟩
    ·exact II i16 ⟨by decide,by decide,trivial⟩
    ·show(v5 iF% 57896044618658097711785492504343953926634992332820282019728792003956564819949,(cond (true) 1 0))=n3 (v5 r0% 57896044618658097711785492504343953926634992332820282019728792003956564819949)
     rw[KN,<-AP]at aT
     have m0:v5 ck% 57896044618658097711785492504343953926634992332820282019728792003956564819949=(v5 av% 57896044618658097711785492504343953926634992332820282019728792003956564819949)*(v5 av% 57896044618658097711785492504343953926634992332820282019728792003956564819949)% 57896044618658097711785492504343953926634992332820282019728792003956564819949:=by rw[s1,sS]
     rw[aT]at m0
     rw[s2]at h0
     have e4:=Hy h0
     rw[m0]at e4
     unfold n3
     simp only
     rw[if_neg e4]
     rw[YU,<-sM,aT]at bS
     have gW:v5 Cq% 57896044618658097711785492504343953926634992332820282019728792003956564819949=(v5 iF% 57896044618658097711785492504343953926634992332820282019728792003956564819949)*(v5 iF% 57896044618658097711785492504343953926634992332820282019728792003956564819949)% 57896044618658097711785492504343953926634992332820282019728792003956564819949:=by rw[dg,sS]
     rw[bS]at gW
     rw[gz]at h2
     have bm:=Bq h2
     rw[gW]at bm
     rw[if_pos bm]
     rw[bS]at hM
     rw[if_neg (by omega),bS]
     rfl
  ·skip
   simp only[gn,kj,je,kT,decide_eq_true_eq,decide_eq_false_iff_not]at h2
   intro QV i27 hM
   have hM:v5 QV% 57896044618658097711785492504343953926634992332820282019728792003956564819949=v5 iF*v5 [1718705420411056,234908883556509,2233514472574048,2117202627021982,765476049583133]% 57896044618658097711785492504343953926634992332820282019728792003956564819949:=hM.1
   refine⟨?_,?_⟩
   ·simp[tT,bk,D.bds,gk,au,af]
   ·show(v5 [0,0,0,0,0]% 57896044618658097711785492504343953926634992332820282019728792003956564819949,(cond (false) 1 0))=n3 (v5 r0% 57896044618658097711785492504343953926634992332820282019728792003956564819949)
    rw[KN,<-AP]at aT
    have m0:v5 ck% 57896044618658097711785492504343953926634992332820282019728792003956564819949=(v5 av% 57896044618658097711785492504343953926634992332820282019728792003956564819949)*(v5 av% 57896044618658097711785492504343953926634992332820282019728792003956564819949)% 57896044618658097711785492504343953926634992332820282019728792003956564819949:=by rw[s1,sS]
    rw[aT]at m0
    rw[s2]at h0
    have e4:=Hy h0
    rw[m0]at e4
    unfold n3
    simp only
    rw[if_neg e4]
    rw[YU,<-sM,aT]at bS
    have gW:v5 Cq% 57896044618658097711785492504343953926634992332820282019728792003956564819949=(v5 iF% 57896044618658097711785492504343953926634992332820282019728792003956564819949)*(v5 iF% 57896044618658097711785492504343953926634992332820282019728792003956564819949)% 57896044618658097711785492504343953926634992332820282019728792003956564819949:=by rw[dg,sS]
    rw[bS]at gW
    rw[gz]at h2
    have bm:=Hy h2
    rw[gW]at bm
    rw[if_neg bm]
    decide
def Ss (S:Nat->List (List Int)->List (List Int)->Prop) (K:List (List Int)->List (List Int)->Prop):Prop:=
 ∀r0:List Int,af (au 0 255 32) r0->
 ∀a6:List Int,af (au 0 4503599627370495 5) a6->S 29 [r0] [a6]->
 ∀kr:List Int,af (au 0 255 32) kr->S 31 [a6] [kr]->
 K [r0] [kr]
theorem XJ (G):Ss (jI G) (ji oQ.res 14):=by
 unfold Ss
 intro r0 i0 a6 i32 aT kr i37 s1
 have aT:v5 a6% 57896044618658097711785492504343953926634992332820282019728792003956564819949=nb r0% 57896044618658097711785492504343953926634992332820282019728792003956564819949:=aT.1
 have s1:nb kr=v5 a6% 57896044618658097711785492504343953926634992332820282019728792003956564819949:=s1.1
 refine⟨?_,?_⟩
 ·exact va i37
 ·show nb kr=nb r0% 57896044618658097711785492504343953926634992332820282019728792003956564819949
  rw[s1,aT]
def St (S:Nat->List (List Int)->List (List Int)->Prop) (K:List (List Int)->List (List Int)->Prop):Prop:=
 ∀r0:List Int,af (au 0 255 32) r0->
 ∀a6:List Int,af (au 0 255 32) a6->S 14 [r0] [a6]->
 K [r0] [[(cond (decide (a6=r0)) 1 0)]]
theorem XK (G):St (jI G) (ji oo.res 22):=by
 unfold St
 intro r0 i0 a6 i32 aT
 have aT:nb a6=nb r0% 57896044618658097711785492504343953926634992332820282019728792003956564819949:=aT.1
 refine⟨?_,?_⟩
 ·simp only[oo,bk,D.bds,mY,gp,uT,G4,af,and_true]
  rw[HN]
  exact T5
 ·show(cond (decide (a6=r0)) 1 0)=bit (nb r0<57896044618658097711785492504343953926634992332820282019728792003956564819949)
  rw[HN]
  have jt:=Xl i0
  have e:a6=r0↔nb r0<57896044618658097711785492504343953926634992332820282019728792003956564819949:=by
   refine⟨λh=>?_,λh=>xA i32 i0 (by rw[aT];omega)⟩
   rw[h]at aT
   omega
  exact ab4 e
end Go.Fd
set_option maxRecDepth 100000
namespace Go.fZ
open Go Go.ch
def cr:dt->Nat->Option gB:=λ_ _=>none
def c8:Nat->List Nat:=λ_=>[]
def IL:bZ:=⟨93,440,[HR,HR],[HR]⟩
def BY:bZ:=⟨64,448,[uu],[uu]⟩
def BZ:bZ:=⟨66,449,[uu],[uu]⟩
def B0:bZ:=⟨67,450,[uu],[uu]⟩
def B1:bZ:=⟨68,451,[uu],[uu]⟩
def vA:fE:=⟨70,443,[mf,.d arl],[QK],71⟩
def arN:dt->Nat->Option gB:=λf r=>match f,r with
 |70,6=>some ⟨[0,1,5],[(6,0,18446744073709551615),(7,-1,9223372036854775807)],[(1,0,0,0)],[],[],[],[]⟩
 |_,_=>none
def arZ:Nat->List Nat:=λn=>[1,1,1]
def arq:fE:=⟨71,461,[mf],[mf],71⟩
def Mg:kl:=⟨arq,23,true⟩
def Qh:fE:=⟨71,472,[mf,mf],[mf],75⟩
def GD:kl:=⟨Qh,23,true⟩
def Qi:fE:=⟨71,469,[mf,mf,mf],[mf],75⟩
def GF:kl:=⟨Qi,23,true⟩
def B2:bZ:=⟨63,467,[al4],[uu]⟩
def Gm:fE:=⟨98,463,[ar2],[QJ],66⟩
def Qe:fE:=⟨69,465,[mf],[QK],73⟩
def vY:qT:=⟨Qe,[.int .u64 7640891576956012808,.int .u64 13503953896175478587,.int .u64 4354685564936845355,.int .u64 11912009170470909681,.int .u64 5840696475078001361,.int .u64 11170449401992604703,.int .u64 2270897969802886507,.int .u64 6620516959819538809,.int .i64 80,.fn 63,.fn 64,.fn 66,.fn 67,.fn 68],103,[.int .i64 8]⟩
def Qo:dt->Nat->Option gB:=λf r=>match f,r with
 |92,3=>some ⟨[0],[(5,16,9223372036854775807)],[],[],[(4,[.int .u64 0 18446744073709551615],32)],[],[]⟩
 |92,8=>some ⟨[0,106,107],[(108,0,9223372036854775807),(6,0,18446744073709551615),(7,0,18446744073709551615),(8,0,18446744073709551615),(9,0,18446744073709551615),(10,0,18446744073709551615),(11,0,18446744073709551615),(12,0,18446744073709551615),(13,0,18446744073709551615)],[],[],[],[],[]⟩
 |69,15=>some ⟨[3,5,13,47,48],[(14,-1,7)],[],[],[(11,[.int .u8 0 255],5)],[],[]⟩
 |_,_=>none
def afZ:Nat->List Nat:=λn=>cond (aM n 4) [8,1] (cond (aM n 166) [8,1] [1,1,1,1])
def Qj:fE:=⟨36,453,[mf],[.d fp],71⟩
def Ej:kl:=⟨Qj,23,false⟩
def Qk:fE:=⟨36,473,[mf,mf],[.d fp],75⟩
def GG:kl:=⟨Qk,23,false⟩
def Ql:fE:=⟨36,471,[mf,mf,mf],[.d fp],75⟩
def GH:kl:=⟨Ql,23,false⟩
def L2:bZ:=⟨15,112,[dD],[dD,adg]⟩
def Gq:bZ:=⟨18,114,[dD],[dD]⟩
def L1:bZ:=⟨16,115,[dD,dD,dD],[dD,adg]⟩
def L0:bZ:=⟨14,151,[dD],[.bool]⟩
def B6:bZ:=⟨35,152,[fp],[dD]⟩
def LZ:bZ:=⟨20,153,[dD,dD,dD],[dD]⟩
def Gp:bZ:=⟨38,154,[dD],[dD]⟩
def Qf:fE:=⟨17,674,[mf,mf],[.d dD],75⟩
def I2:kl:=⟨Qf,23,false⟩
def Qg:fE:=⟨17,675,[mf,mf,mf],[.d dD],75⟩
def Ei:kl:=⟨Qg,23,false⟩
def BU:fE:=⟨8,680,[.d dD],[.d dD],0⟩
def BV:fE:=⟨9,681,[.d dD,mf],[.d fp],75⟩
def BW:fE:=⟨7,682,[.d dD,mf,.d fp],[.d .bool],75⟩
def Gn:fE:=⟨6,683,[],[.d .bool],0⟩
def LY:fE:=⟨3,684,[.d dD,mf],[.d .bool],0⟩
def sh:Nat->List Nat×List Nat
 |440=>([1,1],[1])
 |448=>([1],[1])
 |449=>([1],[1])
 |450=>([1],[1])
 |451=>([1],[1])
 |443=>([1],[1])
 |461=>([1],[1])
 |472=>([1,1],[1])
 |469=>([1,1,1],[1])
 |467=>([1],[1])
 |463=>([1],[1])
 |465=>([1],[1])
 |453=>([1],[64])
 |473=>([1,1],[64])
 |471=>([1,1,1],[64])
 |112=>([32],[32,1])
 |114=>([32],[32])
 |115=>([32,32,32],[32,1])
 |151=>([32],[1])
 |152=>([64],[32])
 |153=>([32,32,32],[32])
 |154=>([32],[32])
 |674=>([1,1],[32])
 |675=>([1,1,1],[32])
 |680=>([32],[32])
 |681=>([32,1],[64])
 |682=>([32,1,64],[1])
 |683=>([],[1])
 |684=>([32,1],[1])
 |_=>([],[])
abbrev Hl (P:Program) (gl:fa) (c:bZ) (cal:fy) (li:dt->Nat->Option gB) (lsh:Nat->List Nat) (lens:List Nat) (B:(Nat->List (List Int)->List (List Int)->Prop)->(List (List Int)->List (List Int)->Prop)->Prop):Prop:=∀S K,jj sh lsh S K lens (bk c.args) c.res (c.tree P gl cal li 600 6)=B S K
end Go.fZ
namespace Go.fZ
open Go Go.ch Go.Proofs
theorem ayY:Hl Tryd.prog gT IL (jK [] []) cr c8 [1,1] Z6:=λ_ _=>by kernel_rfl
theorem ayD:Hl Tryd.prog gT BY (jK [] []) cr c8 [1] ZX:=λ_ _=>by kernel_rfl
theorem ayE:Hl Tryd.prog gT BZ (jK [] []) cr c8 [1] ZY:=λ_ _=>by kernel_rfl
theorem ayF:Hl Tryd.prog gT B0 (jK [] []) cr c8 [1] ZZ:=λ_ _=>by kernel_rfl
theorem ayG:Hl Tryd.prog gT B1 (jK [] []) cr c8 [1] Z0:=λ_ _=>by kernel_rfl
theorem ayZ (S K):qg sh arZ S K [1] (dz vA.args) vA.res (vA.tree (m2 []) Tryd.prog gT (jK [] [IL]) arN 600 6)=Z7 S K:=by kernel_rfl
theorem ayH:Hl Tryd.prog gT B2 (jK [] []) cr c8 [1] Z1:=λ_ _=>by kernel_rfl
theorem ayp (S K):qg sh c8 S K [1] (dz Gm.args) Gm.res (Gm.tree (m2 []) Tryd.prog gT (jK [] []) cr 600 6)=ZR S K:=by kernel_rfl
theorem ay1 (S K):qg sh c8 S K [1] (dz Qj.args) Qj.res (Ej.tree (Ct [vY] (rj [Mg] (m2 [vA]))) Tryd.prog gT (jK [] []) cr 600 6)=Z8 S K:=by kernel_rfl
end Go.fZ
namespace Go.fZ
open Go Go.ch Go.Proofs
theorem ayj (S K):qg sh afZ S K [1] (dz Qe.args) Qe.res (vY.tree (N9 Tryd.prog gT (jK [] [B2,BY,BZ,B0,B1]) (HJ (m2 [Gm]) Tryd.prog gT (jK [] [B2,BY,BZ,B0,B1]) Qo 600 6) Qo 600 [(1,0,0,18446744073709551615),(1,1,0,18446744073709551615),(1,2,0,18446744073709551615),(1,3,0,18446744073709551615),(1,4,0,18446744073709551615),(1,5,0,18446744073709551615),(1,6,0,18446744073709551615),(1,7,0,18446744073709551615)] 97))=ZQ S K:=by kernel_rfl
end Go.fZ
namespace Go.fZ
open Go Go.ch Go.Proofs
theorem ayW (S K):qg sh c8 S K [1,1] (dz Qh.args) Qh.res (GD.tree (m2 []) Tryd.prog gT (jK [] []) cr 600 6)=Z4 S K:=by kernel_rfl
theorem ayX (S K):qg sh c8 S K [1,1,1] (dz Qi.args) Qi.res (GF.tree (m2 []) Tryd.prog gT (jK [] []) cr 600 6)=Z5 S K:=by kernel_rfl
theorem ay2 (S K):qg sh c8 S K [1,1] (dz Qk.args) Qk.res (GG.tree (Ct [vY] (rj [GD] (m2 [vA]))) Tryd.prog gT (jK [] []) cr 600 6)=Z9 S K:=by kernel_rfl
theorem ay3 (S K):qg sh c8 S K [1,1,1] (dz Ql.args) Ql.res (GH.tree (Ct [vY] (rj [GF] (m2 [vA]))) Tryd.prog gT (jK [] []) cr 600 6)=aaa S K:=by kernel_rfl
end Go.fZ
namespace Go.fZ
open Go Go.ch Go.Proofs
theorem ayM (S K):qg sh c8 S K [1,1] (dz Qf.args) Qf.res (I2.tree (rj [GG] (m2 [])) Tryd.prog gT (jK [] [B6]) cr 600 6)=Z2 S K:=by kernel_rfl
theorem ayN (S K):qg sh c8 S K [1,1,1] (dz Qg.args) Qg.res (Ei.tree (rj [GH] (m2 [])) Tryd.prog gT (jK [] [B6]) cr 600 6)=Z3 S K:=by kernel_rfl
theorem ayy (S K):qg sh c8 S K [32] (dz BU.args) BU.res (BU.tree (rj [Ej] (m2 [])) Tryd.prog gT (jK [] [Gp,Gq]) cr 600 6)=ZU S K:=by kernel_rfl
theorem ayz (S K):qg sh c8 S K [32,1] (dz BV.args) BV.res (BV.tree (rj [Ej,I2,Ei] (m2 [])) Tryd.prog gT (jK [] [Gp,Gq,LZ]) cr 600 6)=ZV S K:=by kernel_rfl
theorem ayA (S K):qg sh c8 S K [32,1,64] (dz BW.args) BW.res (BW.tree (rj [Ei] (m2 [])) Tryd.prog gT (jK [] [L0,L2,L1]) cr 600 6)=ZW S K:=by kernel_rfl
theorem ayw (S K):qg sh c8 S K [] (dz Gn.args) Gn.res (Gn.tree (m2 [BU,BV,BW]) Tryd.prog gT (jK [] []) cr 600 6)=ZS S K:=by kernel_rfl
theorem ayx (S K):qg sh c8 S K [32,1] (dz LY.args) LY.res (LY.tree (m2 [Gn,BU,BV,BW]) Tryd.prog gT (jK [] []) cr 600 6)=ZT S K:=by kernel_rfl
end Go.fZ
