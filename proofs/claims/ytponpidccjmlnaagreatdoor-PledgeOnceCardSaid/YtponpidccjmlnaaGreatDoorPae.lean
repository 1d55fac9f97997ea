/- Pae: a part of the proof of statements of this seat. -/
import Derived.Test.YtponpidccjmlnaaGreatDoorPad
import Derived.Test.YtponpidccjmlnaaGreatDoorPac
import Derived.Test.YtponpidccjmlnaaGreatDoorProg
import Derived.KernelRfl
open Bool renaming and_eq_true->aK,and_false->Gl
open Go renaming FuncId->cy
open Go.Op renaming bytesLess->dj
open List renaming getD->af,length_cons->dv,map_map->j5,length_map->j6,mem_cons->lR,take_of_length_le->mq,take_left'->KE,drop_left'->RV,mem_filter->avX,length_filter_le->avY,any_cons->av2
open Nat renaming beq->aA,le_refl->a6,zero_le->mr,not_lt_zero->R3
open Option.some renaming injEq->aG
open Prod.mk renaming injEq->cj,inj->RM
set_option maxRecDepth 100000
set_option linter.unusedVariables false
set_option linter.unusedSimpArgs false
namespace Go.cd
open Go Go.bg
def Sz (S:Nat->List (List Int)->List (List Int)->Prop) (K:List (List Int)->List (List Int)->Prop):Prop:=
 ∀aV:List Int,aO (c7 0 18446744073709551615 20) aV->∀uL:List Int,aO (c7 0 255 32) uL->∀Fv:List Int,aO (c7 0 18446744073709551615 20) Fv
 ->S 648 [] [Fv]->∃(GB:List (List Int)->Prop) (KO:List (List Int)->Nat),GB [[255],Fv]/\(eW (-1) 255 λgx=>∀e3:List Int,aO (c7 0
 18446744073709551615 20) e3->GB [[gx],e3]->(aD (decide (0<=gx)) (∀sX:List Int,aO (c7 0 18446744073709551615 20) sX->S 651 [[(af e3 0
 0),(af e3 1 0),(af e3 2 0),(af e3 3 0),(af e3 4 0),(af e3 5 0),(af e3 6 0),(af e3 7 0),(af e3 8
 0),(af e3 9 0),(af e3 10 0),(af e3 11 0),(af e3 12 0),(af e3 13 0),(af e3 14 0)]] [sX]->cc 0 31 gx 8 λix
 =>Jk λlP=>lP=af uL (ix).toNat 0->cc 0 31 gx 8 λz116=>Jk λz117=>z117=lP/2^((gx+((-8)*z116))).toNat->cc 0 127
 z117 2 λiI=>(aD (decide ((z117+((-2)*iI))=1)) (∀Jo:List Int,aO (c7 0 18446744073709551615 20) Jo->S 650 [sX,aV] [Jo]->(GB [[(gx
 +(-1))],Jo]/\KO [[(gx+(-1))],Jo]<KO [[gx],e3])) ((GB [[(gx+(-1))],sX]/\KO [[(gx+(-1))],sX]<KO [[gx],e3])))) (K [aV,uL]
 [[(af e3 0 0),(af e3 1 0),(af e3 2 0),(af e3 3 0),(af e3 4 0)],[(af e3 5 0),(af e3 6 0),(af e3 7
 0),(af e3 8 0),(af e3 9 0)],[(af e3 10 0),(af e3 11 0),(af e3 12 0),(af e3 13 0),(af e3 14
 0)],[(af e3 15 0),(af e3 16 0),(af e3 17 0),(af e3 18 0),(af e3 19 0)]])))
def SQ (S:Nat->List (List Int)->List (List Int)->Prop) (K:List (List Int)->List (List Int)->Prop):Prop:=
 ∀aV:List Int,aO (c7 0 255 32) aV->aH 23 [0,(af aV 0 0)] λdh=>aH 23 [dh,(af aV 1 0)] λdN=>aH 23 [dN,(af aV 2 0)] λ
 dX=>aH 23 [dX,(af aV 3 0)] λdu=>aH 23 [du,(af aV 4 0)] λcY=>aH 23 [cY,(af aV 5 0)] λz37=>aH 23 [z37,(af aV
 6 0)] λcZ=>aH 23 [cZ,(af aV 7 0)] λej=>aH 23 [ej,(af aV 8 0)] λz40=>aH 23 [z40,(af aV 9 0)] λdB=>aH 23
 [dB,(af aV 10 0)] λc0=>aH 23 [c0,(af aV 11 0)] λda=>aH 23 [da,(af aV 12 0)] λa8=>aH 23 [a8,(af aV 13 0)] λ
 bL=>aH 23 [bL,(af aV 14 0)] λz46=>aH 23 [z46,(af aV 15 0)] λdi=>aH 23 [di,(af aV 16 0)] λfU=>aH 23 [fU,(af
 aV 17 0)] λz49=>aH 23 [z49,(af aV 18 0)] λfe=>aH 23 [fe,(af aV 19 0)] λz51=>aH 23 [z51,(af aV 20 0)] λeP=>aH 23
 [eP,(af aV 21 0)] λz53=>aH 23 [z53,(af aV 22 0)] λfG=>aH 23 [fG,(af aV 23 0)] λeJ=>aH 23 [eJ,(af aV 24 0)] λ
 eF=>aH 23 [eF,(af aV 25 0)] λek=>aH 23 [ek,(af aV 26 0)] λeG=>aH 23 [eG,(af aV 27 0)] λz59=>aH 23 [z59,(af
 aV 28 0)] λgm=>aH 23 [gm,(af aV 29 0)] λkx=>aH 23 [kx,(af aV 30 0)] λky=>aH 23 [ky,(af aV 31 0)] λiV=>aa 71
 [iV]/\∀fp:List Int,aO (c7 0 255 64) fp->S 453 [[iV]] [fp]->∀y2:List Int,aO (c7 0 255 32) y2->S 654 [[(af fp 0 0),(af
 fp 1 0),(af fp 2 0),(af fp 3 0),(af fp 4 0),(af fp 5 0),(af fp 6 0),(af fp 7 0),(af fp 8 0),(af
 fp 9 0),(af fp 10 0),(af fp 11 0),(af fp 12 0),(af fp 13 0),(af fp 14 0),(af fp 15 0),(af fp 16
 0),(af fp 17 0),(af fp 18 0),(af fp 19 0),(af fp 20 0),(af fp 21 0),(af fp 22 0),(af fp 23 0),(af
 fp 24 0),(af fp 25 0),(af fp 26 0),(af fp 27 0),(af fp 28 0),(af fp 29 0),(af fp 30 0),(af fp 31 0)]]
 [y2]->∀wJ:List Int,aO (c7 0 18446744073709551615 20) wJ->S 647 [] [wJ]->∀lI:List Int,aO (c7 0 18446744073709551615 20) lI->S 652
 [wJ,y2] [lI]->∀BN:List Int,aO (c7 0 255 32) BN->S 653 [[(af lI 0 0),(af lI 1 0),(af lI 2 0),(af lI 3
 0),(af lI 4 0),(af lI 5 0),(af lI 6 0),(af lI 7 0),(af lI 8 0),(af lI 9 0),(af lI 10 0),(af
 lI 11 0),(af lI 12 0),(af lI 13 0),(af lI 14 0)]] [BN]->K [aV] [BN]
def SD (S:Nat->List (List Int)->List (List Int)->Prop) (K:List (List Int)->List (List Int)->Prop):Prop:=
 ∀aV:List Int,aO (c7 0 ch 7) aV->(aa 81 [(af aV 0 0),(af aV 1 0),(af aV 2 0),(af aV 3 0),(af aV 4 0),(af aV 5
 0),(af aV 6 0)]->aH 27 [(af aV 5 0)] λz7=>bF 0 [(af aV 5 0)] λav=>bY λz9=>aa 22 [z7,0,av]/\aH 22 [z7,0,av] λaC
 =>aa 71 [aC]/\∀lH:List Int,aO (c7 0 255 32) lH->S 452 [[aC]] [lH]->∀fb:List Int,aO (c7 0 255 32) fb->S 655 [lH] [fb]->aH 23
 [0,(af fb 0 0)] λz75=>aH 23 [z75,(af fb 1 0)] λz76=>aH 23 [z76,(af fb 2 0)] λkz=>aH 23 [kz,(af fb 3 0)] λ
 m4=>aH 23 [m4,(af fb 4 0)] λm5=>aH 23 [m5,(af fb 5 0)] λm6=>aH 23 [m6,(af fb 6 0)] λqA=>aH 23 [qA,(af
 fb 7 0)] λqB=>aH 23 [qB,(af fb 8 0)] λqC=>aH 23 [qC,(af fb 9 0)] λqD=>aH 23 [qD,(af fb 10 0)] λz85=>aH 23
 [z85,(af fb 11 0)] λqE=>aH 23 [qE,(af fb 12 0)] λz87=>aH 23 [z87,(af fb 13 0)] λqF=>aH 23 [qF,(af fb 14 0)]
 λqG=>aH 23 [qG,(af fb 15 0)] λqH=>aH 23 [qH,(af fb 16 0)] λz91=>aH 23 [z91,(af fb 17 0)] λqI=>aH 23
 [qI,(af fb 18 0)] λz93=>aH 23 [z93,(af fb 19 0)] λm7=>aH 23 [m7,(af fb 20 0)] λpV=>aH 23 [pV,(af fb 21 0)]
 λpW=>aH 23 [pW,(af fb 22 0)] λu1=>aH 23 [u1,(af fb 23 0)] λfH=>aH 23 [fH,(af fb 24 0)] λhQ=>aH 23
 [hQ,(af fb 25 0)] λjo=>aH 23 [jo,(af fb 26 0)] λpR=>aH 23 [pR,(af fb 27 0)] λnN=>aH 23 [nN,(af fb
 28 0)] λpS=>aH 23 [pS,(af fb 29 0)] λmg=>aH 23 [mg,(af fb 30 0)] λz105=>aH 23 [z105,(af fb 31 0)] λlO=>
 aa 48 [lO]/\cu λz107=>S 618 [[lO]] [[z107]]->K [aV] [[z107]])
def SH (S:Nat->List (List Int)->List (List Int)->Prop) (K:List (List Int)->List (List Int)->Prop):Prop:=
 cX λz0=>cu λah=>cQ λz2=>bY λz3=>bF 20 [z0] λz4=>aa 22 [z0,0,z4]/\aH 22 [z0,0,z4] λz5=>ea λaq=>S 602 [[z5]] [[aq]]->(aD
 (decide (aq=1)) (∃(GA:List (List Int)->Prop) (KN:List (List Int)->Nat),GA [[0]]/\(fB λav=>GA [[av]]->(aD (decide (av<z4)) (aa 30 [av,z4]
 /\aa 21 [z0,av]/\bW 21 [z0,av,0] λz9=>bW 21 [z0,av,1] λaC=>bW 21 [z0,av,2] λbf=>bW 21 [z0,av,3] λz12=>bW 21 [z0,av,4] λag=>
 bW 21 [z0,av,5] λak=>bW 21 [z0,av,6] λaI=>df 4 [aI,0] λaT=>(aD (decide (aT=1)) (aa 81 [z9,aC,bf,z12,ag,ak,aI]/\cu λbE=>S
 656 [[z9,aC,bf,z12,ag,ak,aI]] [[bE]]->df 4 [bE,ah] λbr=>(aD (decide (br=1)) (K [[z0],[ah]] [[(cond (true) 1 0)]]) (dT (av+
 9223372036854775809) 18446744073709551616 λbH=>aa 39 [((av+((-18446744073709551616)*bH))+1),0,9223372036854775807]/\(GA [[((av+
 ((-18446744073709551616)*bH))+1)]]/\KN [[((av+((-18446744073709551616)*bH))+1)]]<KN [[av]])))) (dT (av+9223372036854775809)
 18446744073709551616 λbE=>aa 39 [((av+((-18446744073709551616)*bE))+1),0,9223372036854775807]/\(GA [[((av+((-18446744073709551616)*bE))+
 1)]]/\KN [[((av+((-18446744073709551616)*bE))+1)]]<KN [[av]])))) (K [[z0],[ah]] [[(cond (false) 1 0)]])))) (K [[z0],[ah]] [[(cond (false) 1 0)]]))
theorem t15 {a b:Int} {r:List Int} (h:aO (c7 a b 20) r):[[af r 0 0,af r 1 0,af r 2 0,af r 3 0,af r 4 0,af r 5 0,af r 6 0,af r 7 0,af r 8 0,af r 9 0,af r 10 0,af r 11 0,af r 12 0,af r 13 0,af r 14 0]].flatten=r.take 15:=by
 match r,h with
 |[x0,x1,x2,gP,gw,gD,gQ,kt,ku,kv,k6,fi,gC,j2,wX,wY,B6,B7,B8,B9],_=>rfl
theorem aca {a b:Int} {r:List Int} (h:aO (c7 a b 32) r):[af r 0 0,af r 1 0,af r 2 0,af r 3 0,af r 4 0,af r 5 0,af r 6 0,af r 7 0,af r 8 0,af r 9 0,af r 10 0,af r 11 0,af r 12 0,af r 13 0,af r 14 0,af r 15 0,af r 16 0,af r 17 0,af r 18 0,af r 19 0,af r 20 0,af r 21 0,af r 22 0,af r 23 0,af r 24 0,af r 25 0,af r 26 0,af r 27 0,af r 28 0,af r 29 0,af r 30 0,af r 31 0]=r:=by
 match r,h with
 |[x0,x1,x2,gP,gw,gD,gQ,kt,ku,kv,k6,fi,gC,j2,wX,wY,B6,B7,B8,B9,J4,J5,J6,J7,J8,J9,Ka,Kb,Kc,Kd,Ke,Kf],_=>rfl
theorem t32 {a b:Int} {r:List Int} (h:aO (c7 a b 64) r):[[af r 0 0,af r 1 0,af r 2 0,af r 3 0,af r 4 0,af r 5 0,af r 6 0,af r 7 0,af r 8 0,af r 9 0,af r 10 0,af r 11 0,af r 12 0,af r 13 0,af r 14 0,af r 15 0,af r 16 0,af r 17 0,af r 18 0,af r 19 0,af r 20 0,af r 21 0,af r 22 0,af r 23 0,af r 24 0,af r 25 0,af r 26 0,af r 27 0,af r 28 0,af r 29 0,af r 30 0,af r 31 0]].flatten=r.take 32:=by
 have ht:aO (c7 a b 32) (r.take 32):=by
  have hs:∀(n k:Nat) (l:List Int),aO (c7 a b (n+k)) l->aO (c7 a b n) (l.take n):=λn=>by
   induction n with
   |zero=>intro k l _;exact trivial
   |succ n ih=>
    intro k l hl
    rw[Nat.succ_add]at hl
    match l,hl with
    |x::l,hl=>exact⟨hl.1,hl.2.1,ih k l hl.2.2⟩
  exact hs 32 32 r h
 rw[List.flatten_cons,List.flatten_nil,List.append_nil,<-aca ht]
 simp[af,List.getElem?_take]
def abc (G:Nat->List Int->List Int) (p n:List Int) (bl:List (List Int)):Prop:=∃(k:Nat) (r:List Int),bl=[[255-(k:Int)],r]/\k<=256/\r=uE G p n k
theorem aot (G):Sz (tx G) (bO (tx G) [rI] 652):=by
 intro aV i0 uL i20 Fv i52 iw
 have iw:[Fv].flatten=G 648 []:=iw
 rw[nr]at iw
 refine⟨abc G aV uL,zM,⟨0,_,rfl,by decide,iw⟩,?_⟩
 rintro gx awf awh e3 i74 ⟨k,r,e,hk,hr⟩
 obtain⟨rfl,rfl⟩:gx=255-(k:Int)/\e3=r:=by simpa using e
 refine⟨λh sX i94 s1 z21 a21 acv au d21 z22 _ _ sw dg abz acw Dd d23 z24 _ _ vF cK _ _ LH d25=>?_,λh=>?_⟩
 ·have h:=of_decide_eq_true h
  obtain⟨i,hi⟩:∃i:Nat,(255:Int)-k=i:=⟨255-k,by omega⟩
  rw[hi]at au d21 Dd d23 vF⊢
  have hb:=TR (w:=8) (.inl rfl) (r:=uL) (i:=i) au d21 a21 sw Dd d23 vF LH d25
  have s1:sX=G 651 ((uE G aV uL k).take 15):=by
   have s1:[sX].flatten=G 651 _:=s1
   rwa [nr,t15 i74,hr]at s1
  have cD:i=255-k:=by omega
  have hm:∀x y:List Int,zM [[(i:Int)+(-1)],x]<zM [[(i:Int)],y]:=λx y=>by show((i:Int)+(-1)+1).toNat<((i:Int)+1).toNat;omega
  have hn:(i:Int)+(-1)=255-((k+1:Nat):Int):=by omega
  refine⟨λhq sW i26 s2=>⟨⟨k+1,sW,by rw[hn],by omega,?_⟩,hm _ _⟩,λhq=>⟨⟨k+1,sX,by rw[hn],by omega,?_⟩,hm _ _⟩⟩
  ·have s2:[sW].flatten=G 650 [sX,aV].flatten:=s2
   rw[nr,vA]at s2
   unfold uE
   rw[<-s1,<-cD,<-hb,hq,s2];rfl
  ·unfold uE
   rw[<-s1,<-cD,<-hb,hq];rfl
 ·have h:=of_decide_eq_false h
  have hk:k=256:=by omega
  subst hk
  have cm:aV.length=20:=gi i0
  refine⟨by rw[UN i74];exact i74,?_⟩
  show _=uE G ([aV,uL].flatten.take 20) ([aV,uL].flatten.drop 20) 256
  rw[UN i74,vA,KE cm,RV cm,hr]
theorem pu {c y x:Int} (h:y=aB 23 [c,x]):ab y=ab c++[[x]]:=by rw[h];simp only[aB,dW]
theorem bX {r:List Int} {c y:Int} (k:Nat) (hl:r.length=32) (hk:k<32) (hc:ab c=(r.take k).map λx=>[x]) (h:y=aB 23 [c,af r k 0]):ab y=(r.take (k+1)).map λx=>[x]:=by
 rw[pu h,hc,List.take_add_one,List.getElem?_eq_getElem (by omega),List.map_append]
 simp[af,show k<r.length by omega]
theorem YO {r:List Int} {z:Int} (h:ab z=r.map λx=>[x]):ck z=r/\gX z=r.map λx=>UInt8.ofNat x.toNat:=by
 refine⟨by unfold ck;rw[h,j5];exact List.map_id r,by unfold gX;rw[h,j5];rfl⟩
theorem aoJ (G):SQ (lh G) (eL (lh G) [.d sb] 655):=by
 intro aV i0 dh _ _ tK dN _ _ HJ dX _ _ Ar du _ _ As cY _ _ vH z37 _ _ HK cZ _ _ xL ej _ _ Vg z40 _ _ Vh dB _ _ MK c0 _ _ pn da _ _ vI a8 _ _ ML bL _ _ At z46 _ _ vJ di _ _ Au fU _ _ xM z49 _ _ Vj fe _ _ Vk z51 _ _ HL eP _ _ Vl z53 _ _ Vm fG _ _ Vn eJ _ _ Vo eF _ _ vK ek _ _ Av eG _ _ MM z59 _ _ Aw gm _ _ afZ kx _ _ af0 ky _ _ af1 iV _ _ af2
 have cm:aV.length=32:=gi i0
 have hrow:ab iV=aV.map λx=>[x]:=by
  have h:=bX 31 cm (by decide) (bX 30 cm (by decide) (bX 29 cm (by decide) (bX 28 cm (by decide) (bX 27 cm (by decide) (bX 26 cm (by decide) (bX 25 cm (by decide) (bX 24 cm (by decide) (bX 23 cm (by decide) (bX 22 cm (by decide) (bX 21 cm (by decide) (bX 20 cm (by decide) (bX 19 cm (by decide) (bX 18 cm (by decide) (bX 17 cm (by decide) (bX 16 cm (by decide) (bX 15 cm (by decide) (bX 14 cm (by decide) (bX 13 cm (by decide) (bX 12 cm (by decide) (bX 11 cm (by decide) (bX 10 cm (by decide) (bX 9 cm (by decide) (bX 8 cm (by decide) (bX 7 cm (by decide) (bX 6 cm (by decide) (bX 5 cm (by decide) (bX 4 cm (by decide) (bX 3 cm (by decide) (bX 2 cm (by decide) (bX 1 cm (by decide) (bX 0 cm (by decide) (by rw[Go.bg.fD];rfl) tK) HJ) Ar) As) vH) HK) xL) Vg) Vh) MK) pn) vI) ML) At) vJ) Au) xM) Vj) Vk) HL) Vl) Vm) Vn) Vo) vK) Av) MM) Aw) afZ) af0) af1) af2
  rwa [mq (by omega)]at h
 refine⟨by show(ab iV).length<=_;rw[hrow,j6,cm];decide,λfp i64 s1 y2 i128 s2 wJ i160 fR lI i180 nF BN i200 nG=>⟨by rw[nr];exact i200,?_⟩⟩
 show [BN]=[Fm G aV]
 have s1:[fp]=[qw cC (ck iV)]:=s1
 rw[(YO hrow).1]at s1
 have s1:fp=qw cC aV:=by simpa using s1
 have s2:[y2].flatten=G 654 _:=s2
 have fR:[wJ].flatten=G 647 []:=fR
 have nF:[lI].flatten=uE G ([wJ,y2].flatten.take 20) ([wJ,y2].flatten.drop 20) 256:=nF
 have nG:[BN].flatten=G 653 _:=nG
 have l1:wJ.length=20:=gi i160
 rw[nr,t32 i64,s1]at s2
 rw[nr]at fR
 rw[nr,vA,KE l1,RV l1,s2,fR]at nF
 rw[nr,t15 i180,nF]at nG
 rw[nG];rfl
theorem aow (G):SD (lh G) (eL (lh G) [.d .str] 656):=by
 intro aV i0 hl z7 _ _ h7 av _ _ cq z9 _ _
 have hl:(U (aV.getD 5 0)).length<=1000000000:=hl
 have h7:ab z7=(U (aV.getD 5 0)).map λb=>[(b.toNat:Int)]:=by rw[h7];exact acY _
 have cq:av=((U (aV.getD 5 0)).length:Int):=cq
 have cq:av=((ab z7).length:Int):=by rw[cq,h7,j6]
 refine⟨(iU (y:=0) cq).1,λaC _ _ c8=>?_⟩
 have c8:=(iU (y:=aC) cq).2 c8
 rw[h7]at c8
 refine⟨?_,λlH i11 s1 fb i43 s2 z75 _ _ af3 z76 _ _ af4 kz _ _ af5 m4 _ _ af6 m5 _ _ af7 m6 _ _ af8 qA _ _ af9 qB _ _ aga qC _ _ agb qD _ _ agc z85 _ _ agd qE _ _ age z87 _ _ agf qF _ _ agh qG _ _ agi qH _ _ agj z91 _ _ agk qI _ _ agl z93 _ _ agm m7 _ _ agn pV _ _ ago pW _ _ agp u1 _ _ agq fH _ _ agr hQ _ _ ags jo _ _ HE pR _ _ afO nN _ _ afP pS _ _ afQ mg _ _ afR z105 _ _ afS lO _ _ afT=>?_⟩
 ·show(ab aC).length<=_;rw[c8,j6];exact hl
 have cm:fb.length=32:=gi i43
 have hrow:ab lO=fb.map λx=>[x]:=by
  have h:=bX 31 cm (by decide) (bX 30 cm (by decide) (bX 29 cm (by decide) (bX 28 cm (by decide) (bX 27 cm (by decide) (bX 26 cm (by decide) (bX 25 cm (by decide) (bX 24 cm (by decide) (bX 23 cm (by decide) (bX 22 cm (by decide) (bX 21 cm (by decide) (bX 20 cm (by decide) (bX 19 cm (by decide) (bX 18 cm (by decide) (bX 17 cm (by decide) (bX 16 cm (by decide) (bX 15 cm (by decide) (bX 14 cm (by decide) (bX 13 cm (by decide) (bX 12 cm (by decide) (bX 11 cm (by decide) (bX 10 cm (by decide) (bX 9 cm (by decide) (bX 8 cm (by decide) (bX 7 cm (by decide) (bX 6 cm (by decide) (bX 5 cm (by decide) (bX 4 cm (by decide) (bX 3 cm (by decide) (bX 2 cm (by decide) (bX 1 cm (by decide) (bX 0 cm (by decide) (by rw[Go.bg.fD];rfl) af3) af4) af5) af6) af7) af8) af9) aga) agb) agc) agd) age) agf) agh) agi) agj) agk) agl) agm) agn) ago) agp) agq) agr) ags) HE) afO) afP) afQ) afR) afS) afT
  rwa [mq (by omega)]at h
 refine⟨by show(ab lO).length<=_;rw[hrow,j6,cm];decide,λz107 g0 g1 fR=>⟨⟨g0,g1,trivial⟩,?_⟩⟩
 have s1:[lH]=[qw cB (ck aC)]:=s1
 have s1:lH=qw cB (ck aC):=by simpa using s1
 have sn:ck aC=(U (aV.getD 5 0)).map λb=>(b.toNat:Int):=by unfold ck;rw[c8,j5];rfl
 have s2:[fb]=[Fm G lH]:=s2
 have s2:fb=Fm G lH:=by simpa using s2
 have fR:U z107=gM (gX lO):=fR
 show U z107=nB G (U (aV.getD 5 0))
 rw[fR,(YO hrow).2,s2,s1,sn];rfl
def Tv (key:ay->ay) (z0:Int) (k:ay) (bl:List (List Int)):Prop:=∃i:Nat,bl=[[(i:Int)]]/\i<=(a7 z0).length/\∀j,j<i->(((a7 z0).getD j cG).hV.isEmpty&&decide (key ((a7 z0).getD j cG).s3=k))=false
theorem aco {l:List cW} {p:cW->Bool} {i:Nat} (hi:i<l.length) (h:p (l.getD i cG)=true):l.any p=true:=List.any_eq_true.2 ⟨l.getD i cG,by simp[af,hi],h⟩
theorem acp {l:List cW} {p:cW->Bool} (h:∀j,j<l.length->p (l.getD j cG)=false):l.any p=false:=by
 rw[List.any_eq_false]
 intro b hb
 obtain⟨j,hj,rfl⟩:=List.mem_iff_getElem.1 hb
 have:=h j hj
 simpa [af,hj]using this
theorem aoA (G):SH (lh G) (eL (lh G) [.d .bool] 657):=by
 intro z0 a0 a1 ah _ _ z2 _ z3 _ _ z4 b0 b1 h4
 have h4:z4=((ab z0).length:Int):=h4
 have hlen:=sR z0
 have W:=λy=>iU (z:=z0) (y:=y) h4
 have bA:∀b:Bool,qy (nB G) (a7 z0) (U ah)=b->eL (lh G) [.d .bool] 657 [[z0],[ah]] [[cond b 1 0]]:=λb h=>⟨by cases b<;>exact⟨by decide,by decide,trivial⟩,by show cond b (1:Int) 0=bh (qy (nB G) (a7 z0) (U ah));rw[h];rfl⟩
 refine⟨(W 0).1,λz5 _ _ h5 aq _ _ h6=>?_⟩
 have h6:=il (show aq=bh (gA (a7 z5)) from h6)
 rw[ji ((W z5).2 h5)]at h6
 refine⟨λhr=>?_,λhr=>bA false (by unfold qy;rw[<-h6,hr];rfl)⟩
 have hr:=h6.symm.trans hr
 refine⟨Tv (nB G) z0 (U ah),GH z0,⟨0,rfl,mr _,λj h=>absurd h (R3 j)⟩,?_⟩
 rintro av bT c1 ⟨i,e,hi,hI⟩
 obtain rfl:av=i:=by simpa using e
 refine⟨λhlt=>?_,λfa=>bA false (by
  have fa:=of_decide_eq_false fa
  unfold qy;rw[acp (λj hj=>hI j (by omega)),Gl])⟩
 have hlt:=of_decide_eq_true hlt
 have dZ:i<(ab z0).length:=by omega
 have step:(((a7 z0).getD i cG).hV.isEmpty&&decide (nB G ((a7 z0).getD i cG).s3=U ah))=false->∀z:Int,0<=z->z<=1->0<=((i:Int)+9223372036854775809)-18446744073709551616*z->((i:Int)+9223372036854775809)-18446744073709551616*z<18446744073709551616->aa 39 [((i:Int)+(-18446744073709551616)*z)+1,0,9223372036854775807]/\Tv (nB G) z0 (U ah) [[((i:Int)+(-18446744073709551616)*z)+1]]/\GH z0 [[((i:Int)+(-18446744073709551616)*z)+1]]<GH z0 [[(i:Int)]]:=λhf z _ _ d2 d3=>by
  rw[ams (by omega) d2 d3]
  refine⟨⟨by omega,by omega⟩,⟨i+1,rfl,by omega,λj hj=>?_⟩,by show(a7 z0).length-(((i+1:Nat):Int)).toNat<(a7 z0).length-((i:Int)).toNat;omega⟩
  rcases Nat.lt_or_ge j i with h|h
  ·exact hI j h
  ·obtain rfl:j=i:=by omega
   exact hf
 refine⟨⟨by omega,by omega⟩,⟨by omega,by omega⟩,λz9 _ _ bU aC _ _ c8 bf _ _ e0 z12 _ _ gd ag _ _ gr ak _ _ eD aI _ _ iN aT _ _ jc=>?_⟩
 have hrow:=Jv (k:=i) rfl bU c8 e0 gd gr eD iN dZ
 have hb:=Ho jc
 rw[Qa (k:=i) rfl iN dZ]at hb
 refine⟨λhq=>⟨?_,λbE _ _ lp=>?_⟩,λhq=>step (by rw[<-hb,hq];rfl)⟩
 ·show(U ak).length<=1000000000
  have aZ:=((FB _).1 hr).2 i (by omega)
  have hs:=(aK _ _▸(aK _ _▸aZ.1).2).1
  have:U ak=((a7 z0).getD i cG).s3:=by rw[<-hrow];rfl
  rw[this]
  unfold mb at hs
  simp only[aK]at hs
  have:=Nat.le_of_ble_eq_true hs.2.1
  omega
 have lp:U bE=nB G (gN [z9,aC,bf,z12,ag,ak,aI]).s3:=lp
 rw[hrow]at lp
 refineλbr _ _ mH=>?_
 have hd:=np mH
 rw[lp]at hd
 refine⟨λoP=>bA true ?_,λoP=>step (by rw[<-hb,hq,<-hd,oP];rfl)⟩
 unfold qy
 rw[hr,aco (p:=λp=>p.hV.isEmpty&&decide (nB G p.s3=U ah)) (i:=i) (by omega) (by rw[<-hb,hq,<-hd,oP];rfl)];rfl
end Go.cd
namespace Go.cd
open Go Go.bg
def SI (S:Nat->List (List Int)->List (List Int)->Prop) (K:List (List Int)->List (List Int)->Prop):Prop:=
 ∀aV:List Int,aO (c7 0 ch 7) aV->S 608 [] [aV]->cX λz7=>eW 0 21 λav=>S 606 [[0],aV] [[z7],[av]]->cQ λz9=>bY λaC=>bF 20 [z7] λ
 bf=>∀BM:List Int,aO (c7 0 ch 7) BM->S 608 [] [BM]->aa 22 [z7,0,bf]/\aH 22 [z7,0,bf] λbH=>cX λz20=>cX λz21=>eW 0 21 λz22
 =>S 607 [[bH],[(af BM 1 0),(af BM 2 0)],[1786254407]] [[z20],[z21],[z22]]->cQ λdg=>bY λz24=>bF 20 [z20] λcK=>cQ λz26=>
 bY λdM=>bF 20 [z21] λz28=>∀BO:List Int,aO (c7 0 ch 7) BO->S 608 [] [BO]->aa 22 [z20,0,cK]/\aH 22 [z20,0,cK] λcY=>cX λz37
 =>cX λcZ=>eW 0 21 λej=>S 607 [[cY],[(af BO 1 0),(af BO 2 0)],[1786254664]] [[z37],[cZ],[ej]]->cQ λz40=>bY λdB=>bF
 20 [z37] λc0=>cQ λda=>bY λa8=>bF 20 [cZ] λbL=>(aD (decide (av=0)) ((aD (decide (z22=0)) ((aD (decide (ej=0)) ((aD (decide (z28=
 1)) ((aD (decide (bL=0)) ((aD (decide (c0=1)) (aa 30 [0,c0]/\aa 21 [z37,0]/\bW 21 [z37,0,6] λz46=>df 4 [z46,1786254407] λdi=>(aD
 (decide (di=1)) (∀fC:List Int,aO (c7 0 ch 7) fC->S 608 [] [fC]->aa 81 [(af fC 0 0),(af fC 1 0),(af fC 2 0),(af
 fC 3 0),(af fC 4 0),(af fC 5 0),(af fC 6 0)]/\cu λeJ=>S 656 [fC] [[eJ]]->aa 22 [z7,0,bf]/\aH 22 [z7,0,bf] λeF=>
 ea λek=>S 657 [[eF],[eJ]] [[ek]]->(aD (decide (ek=1)) (∀qu:List Int,aO (c7 0 ch 7) qu->S 608 [] [qu]->aa 81 [(af qu 0
 0),(af qu 1 0),(af qu 2 0),(af qu 3 0),(af qu 4 0),(af qu 5 0),(af qu 6 0)]/\cu λjq=>S 656 [qu] [[jq]]
 ->aa 22 [z20,0,cK]/\aH 22 [z20,0,cK] λjJ=>ea λjK=>S 657 [[jJ],[jq]] [[jK]]->K [] [[(cond ((!(decide (jK=1)))) 1 0)]]) (K [] [[(cond
 (false) 1 0)]]))) (K [] [[(cond (false) 1 0)]]))) (K [] [[(cond (false) 1 0)]]))) (K [] [[(cond (false) 1 0)]]))) (K [] [[(cond (false) 1 0)]]))) (K [] [[(cond
 (false) 1 0)]]))) (K [] [[(cond (false) 1 0)]]))) (K [] [[(cond (false) 1 0)]]))
def pG:cW:=⟨[116],([101,109,97,105,108],[97,64,98,46,99]),[33,114,58,104],[64,115,58,104],[115,101,101,100],[]⟩
def BD:cW:={pG with hV:=[64,97,58,104]}
theorem I4:gN om=pG:=by decide+kernel
theorem aqz:oz [] pG=([pG],0):=by decide+kernel
theorem aqc:oy [pG] pG.who [64,97,58,104]=([BD],[BD],0):=by decide+kernel
theorem aqd:oy [BD] pG.who [64,98,58,104]=([BD],[],0):=by decide+kernel
theorem apJ:gA [pG]=true:=by decide+kernel
theorem Zq:U 1786254407=[64,97,58,104]:=by decide+kernel
theorem aqY:U 1786254664=[64,98,58,104]:=by decide+kernel
theorem aoB (G):SI (lh G) (eL (lh G) [.d .bool] 658):=by
 intro aV _ iw z7 _ _ av _ _ s1 z9 _ aC _ _ bf _ _ e0 BM _ s2
 have iw:aV=om:=iw
 have s2:BM=om:=s2
 subst iw
 subst s2
 have s1:(a7 z7,av)=oz (a7 0) (gN om):=s1
 rw[BH,I4,aqz]at s1
 simp only[cj]at s1
 have e0:bf=((ab z7).length:Int):=e0
 have bA:eL (lh G) [.d .bool] 658 [] [[cond true 1 0]]:=⟨⟨by decide,by decide,trivial⟩,(rfl:(1:Int)=1)⟩
 refine⟨(iU (y:=0) e0).1,λbH _ _ ns z20 _ _ z21 _ _ z22 _ _ fR dg _ z24 _ _ cK _ _ nt z26 _ dM _ _ z28 _ _ Aq BO _ nF=>?_⟩
 have ns:=ji ((iU (y:=bH) e0).2 ns)
 have nF:BO=om:=nF
 subst nF
 have fR:(a7 z20,a7 z21,z22)=oy (a7 bH) pG.who (U 1786254407):=by
  have fR:(a7 z20,a7 z21,z22)=oy (a7 bH) (gN om).who (U 1786254407):=fR
  rwa [I4]at fR
 rw[ns,s1.1,Zq,aqc]at fR
 simp only[cj]at fR
 have nt:cK=((ab z20).length:Int):=nt
 have Aq:z28=((ab z21).length:Int):=Aq
 refine⟨(iU (y:=0) nt).1,λcY _ _ vH z37 _ _ cZ _ _ ej _ _ nG z40 _ dB _ _ c0 _ _ pn da _ a8 _ _ bL _ _ At=>?_⟩
 have vH:=ji ((iU (y:=cY) nt).2 vH)
 have nG:(a7 z37,a7 cZ,ej)=oy (a7 cY) pG.who (U 1786254664):=by
  have nG:(a7 z37,a7 cZ,ej)=oy (a7 cY) (gN om).who (U 1786254664):=nG
  rwa [I4]at nG
 rw[vH,fR.1,aqY,aqd]at nG
 simp only[cj]at nG
 have pn:c0=((ab z37).length:Int):=pn
 have At:bL=((ab cZ).length:Int):=At
 have akH:z28=1:=by rw[Aq,<-sR,fR.2.1];rfl
 have akK:c0=1:=by rw[pn,<-sR,nG.1];rfl
 have akL:bL=0:=by rw[At,<-sR,nG.2.1];rfl
 have no:∀{z v:Int} {P:Prop},z=v->decide (z=v)=false->P:=λh h2=>absurd h (of_decide_eq_false h2)
 refine⟨λ_=>⟨λ_=>⟨λ_=>⟨λ_=>⟨λ_=>⟨λ_=>?_,no akK⟩,no akL⟩,no akH⟩,no nG.2.2⟩,no fR.2.2⟩,no s1.2⟩
 have aiA:0<(ab z37).length:=by omega
 refine⟨⟨by decide,by omega⟩,⟨by decide,by omega⟩,λz46 _ _ vJ di _ _ Au=>?_⟩
 have hd:=np Au
 rw[Qa (k:=0) rfl vJ aiA,nG.1,Zq]at hd
 have hd:decide (di=1)=true:=hd
 have amq:∀{b:Bool} {P:Prop},b=true->b=false->P:=λh h2=>by rw[h]at h2;cases h2
 refine⟨λ_ fC _ JC=>?_,amq hd⟩
 have JC:fC=om:=JC
 subst JC
 have hk:(U (om.getD 5 0)).length<=1000000000:=by decide+kernel
 refine⟨hk,λeJ _ _ wM=>⟨(iU (y:=0) e0).1,λeF _ _ vK ek _ _ wN=>?_⟩⟩
 have wM:U eJ=nB G (gN om).s3:=wM
 rw[I4]at wM
 have vK:=ji ((iU (y:=eF) e0).2 vK)
 have wN:ek=bh (qy (nB G) (a7 eF) (U eJ)):=wN
 rw[vK,s1.1,wM]at wN
 have q2:qy (nB G) [pG] (nB G pG.s3)=true:=by
  unfold qy
  rw[apJ,Bool.true_and,av2,show pG.hV.isEmpty=true from rfl,decide_eq_true rfl];rfl
 rw[q2]at wN
 refine⟨λ_ qu _ Qj=>?_,no wN⟩
 have Qj:qu=om:=Qj
 subst Qj
 refine⟨hk,λjq _ _ ax8=>⟨(iU (y:=0) nt).1,λjJ _ _ MN jK _ _ FI=>?_⟩⟩
 have MN:=ji ((iU (y:=jJ) nt).2 MN)
 have FI:jK=bh (qy (nB G) (a7 jJ) (U jq)):=FI
 rw[MN,fR.1]at FI
 have adX:qy (nB G) [BD] (U jq)=false:=by
  unfold qy
  rw[av2,show BD.hV.isEmpty=false from rfl,Bool.false_and,Bool.false_or,List.any_nil,Gl]
 rw[adX]at FI
 rw[FI]
 exact bA
end Go.cd
namespace Go.cd
open Go Go.bg
def Sx (S:Nat->List (List Int)->List (List Int)->Prop) (K:List (List Int)->List (List Int)->Prop):Prop:=
 cX λz0=>cQ λah=>bY λz2=>bF 20 [z0] λz3=>ea λz4=>S 658 [] [[z4]]->(aD ((!(decide (z4=1)))) (K [[z0]] [[(cond (false) 1 0)]]) ((aD
 (decide (100<z3)) (K [[z0]] [[(cond (true) 1 0)]]) (aH 23 [0,0] λz5=>aH 23 [z5,0] λaq=>aH 23 [aq,0] λz7=>aH 23 [z7,0] λav=>aH 23
 [av,0] λz9=>aH 23 [z9,0] λaC=>∃(CU:List (List Int)->Prop) (CQ:List (List Int)->Nat),CU [[0],[aC],[0],[0],[(-1)]]/\(eW 0 200 λz12=>
 cX λag=>cX λak=>fB λaI=>bY λaT=>CU [[z12],[ag],[ak],[aI],[aT]]->cQ λbE=>(aD (decide (z12<z3)) (aa 30 [z12,z3]/\aa 21
 [z0,z12]/\ao 21 [z0,z12,2] λbr=>cc 0 51 br 5 λbH=>aa 30 [z12,z3]/\aa 21 [z0,z12]/\ao 21 [z0,z12,2] λz20=>cc 0 51 z20 5 λz21=>
 aa 2 [214749355283,(br+((-5)*bH)),((z20+((-5)*z21))+1)]/\bW 2 [214749355283,(br+((-5)*bH)),((z20+((-5)*z21))+1)] λz22=>aa 3
 [236476502788,z22]/\bW 3 [236476502788,z22] λdg=>aa 30 [z12,z3]/\aa 21 [z0,z12]/\df 21 [z0,z12,0] λz24=>(aD (decide (z24=1)) (aa 30
 [z12,z3]/\aa 21 [z0,z12]/\ao 21 [z0,z12,3] λcK=>cc 0 85 cK 3 λz26=>aa 30 [z12,z3]/\aa 21 [z0,z12]/\ao 21 [z0,z12,3] λdM=>cc 0
 85 dM 3 λz28=>aa 2 [6630441,(cK+((-3)*z26)),((dM+((-3)*z28))+1)]/\bW 2 [6630441,(cK+((-3)*z26)),((dM+((-3)*z28))+1)] λfj
 =>aa 3 [65,fj]/\bW 3 [65,fj] λee=>aa 3 [ee,27044]/\bW 3 [ee,27044] λz31=>aa 22 [ak,0,aI]/\aH 22 [ak,0,aI] λdh=>cX λ
 dN=>cX λdX=>eW 0 21 λdu=>S 607 [[dh],[124890778723732,dg],[z31]] [[dN],[dX],[du]]->cQ λcY=>bY λz37=>bF 20 [dN] λcZ=>cQ
 λej=>bY λz40=>bF 20 [dX] λdB=>(aD ((!(decide (du=0)))) (K [[z0]] [[(cond (false) 1 0)]]) (∃(Gz:List (List Int)->Prop) (KM:List
 (List Int)->Nat),Gz [[0],[ag]]/\(eW 0 6 λda=>cX λa8=>Gz [[da],[a8]]->(aD (decide (da<6)) (aa 2 [138436335117267,da,(da+1)]/\bW
 2 [138436335117267,da,(da+1)] λbL=>aa 22 [dN,0,cZ]/\aH 22 [dN,0,cZ] λz46=>∀Fu:List Int,aO (c7 0 ch 7) Fu->ea λfG=>S 604
 [[z46],[bL]] [Fu,[fG]]->aa 30 [da,6]/\aa 21 [a8,da]/\bW 21 [a8,da,0] λeJ=>df 4 [eJ,0] λeF=>(aD ((!(decide (eF=1)))) (aa 30
 [da,6]/\aa 21 [a8,da]/\bW 21 [a8,da,0] λek=>df 4 [(af Fu 6 0),ek] λeG=>(aD ((!(decide (eG=1)))) (K [[z0]] [[(cond (false) 1
 0)]]) (aa 30 [da,6]/\aa 21 [a8,da]/\(aa 67 [a8,da,1]->aH 42 [a8,da,0,(af Fu 6 0)] λz59=>(Gz [[(da+1)],[z59]]/\KM [[(da+
 1)],[z59]]<KM [[da],[a8]]))))) (aa 30 [da,6]/\aa 21 [a8,da]/\(aa 67 [a8,da,1]->aH 42 [a8,da,0,(af Fu 6 0)] λek=>(Gz
 [[(da+1)],[ek]]/\KM [[(da+1)],[ek]]<KM [[da],[a8]]))))) (aa 39 [(z12+1),0,200]/\(CU [[(z12+1)],[a8],[dN],[cZ],[z37]]/\CQ [[(z12+
 1)],[a8],[dN],[cZ],[z37]]<CQ [[z12],[ag],[ak],[aI],[aT]]))))))) (∀nE:List Int,aO (c7 0 ch 7) nE->S 608 [] [nE]->aa 30 [z12,z3]/\aa
 21 [z0,z12]/\ao 21 [z0,z12,1] λdh=>cc 0 42 dh 6 λdN=>aa 30 [z12,z3]/\aa 21 [z0,z12]/\ao 21 [z0,z12,1] λdX=>cc 0 42 dX 6 λdu
 =>aa 2 [138436335117267,(dh+((-6)*dN)),((dX+((-6)*du))+1)]/\bW 2 [138436335117267,(dh+((-6)*dN)),((dX+((-6)*du))+1)] λcY=>
 aa 22 [ak,0,aI]/\aH 22 [ak,0,aI] λz37=>cX λcZ=>eW 0 21 λej=>S 606 [[z37],[cY,124890778723732,dg,(af nE 3 0),(af nE 4
 0),(af nE 5 0),(af nE 6 0)]] [[cZ],[ej]]->cQ λz40=>bY λdB=>bF 20 [cZ] λc0=>(aD ((!(decide (ej=0)))) ((aD ((!(decide
 (ej=6)))) (K [[z0]] [[(cond (false) 1 0)]]) (∃(tv:List (List Int)->Prop) (vg:List (List Int)->Nat),tv [[0],[ag]]/\(eW 0 6 λa8=>cX λbL
 =>tv [[a8],[bL]]->(aD (decide (a8<6)) (aa 2 [138436335117267,a8,(a8+1)]/\bW 2 [138436335117267,a8,(a8+1)] λz46=>aa 22 [cZ,0,c0]/\
 aH 22 [cZ,0,c0] λdi=>∀fC:List Int,aO (c7 0 ch 7) fC->ea λeJ=>S 604 [[di],[z46]] [fC,[eJ]]->aa 30 [a8,6]/\aa 21 [bL,a8]/\
 bW 21 [bL,a8,0] λeF=>df 4 [eF,0] λek=>(aD ((!(decide (ek=1)))) (aa 30 [a8,6]/\aa 21 [bL,a8]/\bW 21 [bL,a8,0] λeG=>df 4
 [(af fC 6 0),eG] λz59=>(aD ((!(decide (z59=1)))) (K [[z0]] [[(cond (false) 1 0)]]) (aa 30 [a8,6]/\aa 21 [bL,a8]/\(aa 67 [bL,a8,1]
 ->aH 42 [bL,a8,0,(af fC 6 0)] λgm=>(tv [[(a8+1)],[gm]]/\vg [[(a8+1)],[gm]]<vg [[a8],[bL]]))))) (aa 30 [a8,6]/\aa 21
 [bL,a8]/\(aa 67 [bL,a8,1]->aH 42 [bL,a8,0,(af fC 6 0)] λeG=>(tv [[(a8+1)],[eG]]/\vg [[(a8+1)],[eG]]<vg
 [[a8],[bL]]))))) (aa 39 [(z12+1),0,200]/\(CU [[(z12+1)],[bL],[cZ],[c0],[dB]]/\CQ [[(z12+1)],[bL],[cZ],[c0],[dB]]<CQ
 [[z12],[ag],[ak],[aI],[aT]]))))))) (∃(tv:List (List Int)->Prop) (vg:List (List Int)->Nat),tv [[0],[ag]]/\(eW 0 6 λa8=>cX λbL=>tv
 [[a8],[bL]]->(aD (decide (a8<6)) (aa 2 [138436335117267,a8,(a8+1)]/\bW 2 [138436335117267,a8,(a8+1)] λz46=>aa 22 [cZ,0,c0]/\aH 22
 [cZ,0,c0] λdi=>∀fC:List Int,aO (c7 0 ch 7) fC->ea λeJ=>S 604 [[di],[z46]] [fC,[eJ]]->aa 30 [a8,6]/\aa 21 [bL,a8]/\bW 21
 [bL,a8,0] λeF=>df 4 [eF,0] λek=>(aD ((!(decide (ek=1)))) (aa 30 [a8,6]/\aa 21 [bL,a8]/\bW 21 [bL,a8,0] λeG=>df 4
 [(af fC 6 0),eG] λz59=>(aD ((!(decide (z59=1)))) (K [[z0]] [[(cond (false) 1 0)]]) (aa 30 [a8,6]/\aa 21 [bL,a8]/\(aa 67 [bL,a8,1]
 ->aH 42 [bL,a8,0,(af fC 6 0)] λgm=>(tv [[(a8+1)],[gm]]/\vg [[(a8+1)],[gm]]<vg [[a8],[bL]]))))) (aa 30 [a8,6]/\aa 21
 [bL,a8]/\(aa 67 [bL,a8,1]->aH 42 [bL,a8,0,(af fC 6 0)] λeG=>(tv [[(a8+1)],[eG]]/\vg [[(a8+1)],[eG]]<vg
 [[a8],[bL]]))))) (aa 39 [(z12+1),0,200]/\(CU [[(z12+1)],[bL],[cZ],[c0],[dB]]/\CQ [[(z12+1)],[bL],[cZ],[c0],[dB]]<CQ
 [[z12],[ag],[ak],[aI],[aT]]))))))))) (aa 22 [ak,0,aI]/\aH 22 [ak,0,aI] λbr=>ea λbH=>S 602 [[br]] [[bH]]->K [[z0]] [[(cond (decide
 (bH=1)) 1 0)]])))))))
abbrev CX (l:List cW):Prop:=l.Pairwise λa b=>dj a.tok b.tok=true
theorem apL (l:List cW):uN l=true↔CX l:=by
 unfold CX
 try dsimp only
 rw[List.pairwise_iff_getElem]
 constructor
 ·intro h i j hi hj x9
  have:=Js h x9 hj
  simpa [af,hi,hj]using this
 ·intro h
  refine(P6 l).2 λj hj h0=>?_
  have:=h (j-1) j (by omega) hj (by omega)
  simpa [af,hj,show j-1<l.length by omega]using this
theorem zc {l:List cW}:gA l=true↔l.length<=32/\(∀p∈l,l9 p=true)/\CX l:=by
 unfold gA
 try dsimp only
 rw[aK,aK,Nat.ble_eq,List.all_eq_true,apL]
theorem Jg {t:ay} {b:cW}:∀{l:List cW},CX l->(l.find? (λp=>decide (p.tok=t))=some b↔b∈l/\b.tok=t)
 |[],_=>by simp
 |a::l,h=>by
  try dsimp only
  rw[List.find?_cons]
  have h2:=List.pairwise_cons.1 h
  by_cases ha:a.tok=t
  ·try dsimp only
   rw[decide_eq_true ha]
   simp only[aG,lR]
   constructor
   ·rintro rfl;exact⟨.inl rfl,ha⟩
   ·rintro⟨rfl|hb,he⟩
    ·rfl
    ·have:=h2.1 b hb
     rw[ha,he,E3]at this;cases this
  ·try dsimp only
   rw[decide_eq_false ha]
   simp only[lR]
   try dsimp only
   rw[Jg h2.2]
   constructor
   ·rintro⟨h1,h3⟩;exact⟨.inr h1,h3⟩
   ·rintro⟨rfl|h1,h3⟩
    ·exact absurd h3 ha
    ·exact⟨h1,h3⟩
def kH (l:List cW) (t:ay):ay:=match pj l t with
 |some b=>b.hV
 |none=>[]
theorem acA {l:List cW} {t:ay} (hr:gA l=true) (h:kH l t≠[]):∃b∈l,b.tok=t/\b.hV=kH l t:=by
 have hp:=(zc.1 hr).2.2
 unfold kH pj at h⊢
 rw[hr,cond_true]at h⊢
 cases hf:l.find? (λp=>decide (p.tok=t))with
 |none=>rw[hf]at h;exact absurd rfl h
 |some b=>exact⟨b,((Jg hp).1 hf).1,((Jg hp).1 hf).2,rfl⟩
theorem acz {l:List cW} {b:cW} (hr:gA l=true) (h:b∈l):kH l b.tok=b.hV:=by
 unfold kH pj
 try dsimp only
 rw[hr,cond_true,(Jg (zc.1 hr).2.2).2 ⟨h,rfl⟩]
theorem acy {l m:List cW} {t:ay} (hl:gA l=true) (hm:gA m=true) (hk:∀b∈l,b.hV≠[]->b∈m) (h:kH l t≠[]):kH m t=kH l t:=by
 obtain⟨b,h1,h2,h3⟩:=acA hl h
 try dsimp only
 rw[<-h3,<-h2]
 exact acz hm (hk b h1 (by rw[h3];exact h))
theorem aen {S:List ay}:∀{l:List cW},CX l->(∀p∈l,p.tok∈S)->l.length<=S.length:=by
 induction S with
 |nil=>
  intro l _ h
  cases l with
  |nil=>exact a6 _
  |cons b r=>have:=h b (by simp);simp at this
 |cons s S ih=>
  intro l hs h
  have h1:=ih (l:=l.filter (λb=>decide (b.tok≠s))) (hs.filter _) λb hb=>by
   obtain⟨g1,g2⟩:=List.mem_filter.1 hb
   rcases List.mem_cons.1 (h b g1)with h3|h3
   ·exact absurd h3 (of_decide_eq_true g2)
   ·exact h3
  have h2:l.length<=(l.filter (λb=>decide (b.tok≠s))).length+1:=by
   clear h1 ih h
   induction l with
   |nil=>simp
   |cons a r ih=>
    have hc:=List.pairwise_cons.1 hs
    try dsimp only
    rw[List.filter_cons]
    by_cases ha:a.tok=s
    ·try dsimp only
     rw[decide_eq_false (λh=>h ha)]
     have:r.filter (λb=>decide (b.tok≠s))=r:=by
      try dsimp only
      rw[List.filter_eq_self]
      intro b hb
      refine decide_eq_true λh5=>?_
      have h4:=hc.1 b hb
      rw[ha,h5,E3]at h4
      cases h4
     try dsimp only
     rw[if_neg (by decide),this];exact a6 _
    ·try dsimp only
     rw[decide_eq_true ha,if_pos rfl]
     have:=ih hc.2
     simp only[dv];omega
  simp only[dv];omega
def jk (k:Nat):ay:=[([117,118,119,120,121,122]:ay).getD k 0]
def GJ (k:Nat):ay×ay:=([109,115,105,115,100,110],[49,50,51,52,53]++[([54,55,56,57,48]:ay).getD k 0])
def ZF (k:Nat):ay:=[64]++[([97,98,99]:ay).getD k 0]++[58,104]
def zo (k j:Nat):cW:=⟨jk k,GJ j,[33,114,58,104],[64,115,58,104],[115,101,101,100],[]⟩
theorem arw:∀k,k<3->mY (ZF k)=true:=by decide+kernel
theorem ZO:∀k,k<6->∀j,j<5->l9 (zo k j)=true:=by decide+kernel
def r9 (l:List cW):Prop:=gA l=true/\∀p∈l,∃k,k<6/\p.tok=jk k
theorem r9.len {l:List cW} (h:r9 l):l.length<=6:=by
 have:=aen (S:=[jk 0,jk 1,jk 2,jk 3,jk 4,jk 5]) (zc.1 h.1).2.2 λb hb=>by
  obtain⟨k,hk,he⟩:=h.2 b hb
  try dsimp only
  rw[he]
  match k,hk with
  |0,_=>simp
  |1,_=>simp
  |2,_=>simp
  |3,_=>simp
  |4,_=>simp
  |5,_=>simp
 simpa using this
theorem r9.settle {l:List cW} {who:ay×ay} {dy:ay} (h:r9 l) (hu:mY dy=true):∃m d,oy l who dy=(m,d,0)/\r9 m/\∀b∈l,b.hV≠[]->b∈m:=by
 obtain⟨h1,h2⟩:=h
 obtain⟨r1,r2,fo⟩:=zc.1 h1
 have QJ:∀p,(qv who dy p).tok=p.tok:=λp=>by unfold qv;cases oX who p<;>rfl
 refine⟨_,_,Y5 hu h1,⟨zc.2 ⟨by simpa using r1,λp hp=>?_,?_⟩,λp hp=>?_⟩,λb hb hne=>?_⟩
 ·obtain⟨q,hq,rfl⟩:=List.mem_map.1 hp
  have:=r2 q hq
  unfold qv
  cases hw:oX who q with
  |false=>exact this
  |true=>
   unfold l9 at this⊢
   simp only[cond_true,zj,aK]at this⊢
   refine⟨this.1,this.2.1,this.2.2.1,this.2.2.2.1,this.2.2.2.2.1,?_⟩
   try dsimp only
   rw[hu,Bool.or_true]
 ·refine List.pairwise_map.2 (fo.imp λ{a b} VP=>?_)
  try dsimp only
  rw[QJ,QJ];exact VP
 ·obtain⟨q,hq,rfl⟩:=List.mem_map.1 hp
  try dsimp only
  rw[QJ];exact h2 q hq
 ·refine List.mem_map.2 ⟨b,hb,?_⟩
  have:oX who b=false:=by
   unfold oX
   cases hx:b.hV with
   |nil=>exact absurd hx hne
   |cons _ _=>simp
  unfold qv
  try dsimp only
  rw[this];rfl
theorem r9.store {l:List cW} {k j:Nat} (h:r9 l) (hk:k<6) (hj:j<5):∃m e,oz l (zo k j)=(m,e)/\(e=0∨e=6)/\r9 m/\∀b∈l,b.hV≠[]->b∈m:=by
 have hlen:=h.len
 obtain⟨h1,h2⟩:=h
 obtain⟨r1,r2,fo⟩:=zc.1 h1
 unfold oz
 try dsimp only
 rw[ZO k hk j hj,show(zo k j).hV.isEmpty=true from rfl,h1]
 simp only[Bool.and_self,cond_true]
 cases ha:l.any λp=>decide (p.tok=(zo k j).tok)with
 |true=>exact⟨l,6,rfl,.inr rfl,⟨h1,h2⟩,λb hb _=>hb⟩
 |false=>
  try dsimp only
  rw[decide_eq_false (show ¬l.length=32 by omega)]
  have hn:∀b∈l,b.tok≠(zo k j).tok:=λb hb=>by
   have:=List.any_eq_false.1 ha b hb
   simpa using this
  generalize hw:zo k j=w at hn
  have ajH:l9 w=true:=hw▸ZO k hk j hj
  have AW:w.tok=jk k:=hw▸rfl
  have hm:∀b,b∈l.filter (λp=>dj p.tok w.tok)++w::l.filter (λp=>dj w.tok p.tok)↔b=w∨b∈l:=λb=>by
   try dsimp only
   rw[List.mem_append,lR,avX,avX]
   constructor
   ·rintro(⟨h3,_⟩|rfl|⟨h3,_⟩)
    ·exact .inr h3
    ·exact .inl rfl
    ·exact .inr h3
   ·rintro(rfl|h3)
    ·exact .inr (.inl rfl)
    ·rcases Pd b.tok w.tok with h4|h4|h4
     ·exact .inl ⟨h3,h4⟩
     ·exact .inr (.inr ⟨h3,h4⟩)
     ·exact absurd h4 (hn b h3)
  refine⟨_,_,rfl,.inl rfl,⟨zc.2 ⟨?_,λp hp=>?_,?_⟩,λp hp=>?_⟩,λb hb _=>(hm b).2 (.inr hb)⟩
  ·have a1:=avY (λp:cW=>dj p.tok w.tok) l
   have a2:=avY (λp:cW=>dj w.tok p.tok) l
   simp only[List.length_append,dv];omega
  ·rcases(hm p).1 hp with rfl|hp
   ·exact ajH
   ·exact r2 p hp
  ·refine List.pairwise_append.2 ⟨fo.filter _,List.pairwise_cons.2 ⟨λb hb=>(List.mem_filter.1 hb).2,fo.filter _⟩,λa ha b hb=>?_⟩
   have h3:=(List.mem_filter.1 ha).2
   rcases List.mem_cons.1 hb with rfl|hb
   ·exact h3
   ·exact E4 _ _ _ h3 (List.mem_filter.1 hb).2
  ·rcases(hm p).1 hp with rfl|hp
   ·exact⟨k,hk,AW⟩
   ·exact h2 p hp
def m1 (z:Int):List ay:=(ab z).map λrow=>U (row.getD 0 0)
theorem atA {z:Int} {k:Nat} (h:k<(ab z).length):U (((ab z).getD k []).getD 0 0)=(m1 z).getD k []:=by simp[m1,af,h]
theorem Zt:U 214749355283=[54,55,56,57,48]:=by decide+kernel
theorem Zo:U 236476502788=[49,50,51,52,53]:=by decide+kernel
theorem Zp:U 6630441=[97,98,99]:=by decide+kernel
theorem JR:U 138436335117267=[117,118,119,120,121,122]:=by decide+kernel
theorem Zr:U 65=[64]:=by decide+kernel
theorem Zs:U 27044=[58,104]:=by decide+kernel
theorem aqZ:U 124890778723732=[109,115,105,115,100,110]:=by decide+kernel
theorem QI:U 1786258745=[33,114,58,104]/\U 1786259033=[64,115,58,104]/\U 1721197221=[115,101,101,100]:=by decide+kernel
theorem JQ:U 0=[]:=by decide+kernel
theorem I3 {s k z:Int} {l:ay} {n:Nat} (hs:U s=l) (hk:k=(n:Int)) (hn:n<l.length) (hz:z=aB 2 [s,k,k+1]):U z=[l.getD n 0]:=by
 try dsimp only
 rw[hz]
 show U (dP (((U s).drop k.toNat).take ((k+1).toNat-k.toNat)))=_
 try dsimp only
 rw[fS,hs,hk,show((n:Int)).toNat=n by omega,show((n:Int)+1).toNat=n+1 by omega,show n+1-n=1 by omega,List.drop_eq_getElem_cons hn,List.take_succ_cons,List.take_zero]
 simp[af,hn]
theorem LM {a b z:Int} (h:z=aB 3 [a,b]):U z=U a++U b:=by
 try dsimp only
 rw[h]
 show U (dP (U a++U b))=_
 try dsimp only
 rw[fS]
theorem He {s k:Int} {l:ay} {n:Nat} (hk:k=(n:Int)) (hn:n+1<=l.length) (hs:U s=l):aa 2 [s,k,k+1]:=by
 show 0<=k/\k<=k+1/\k+1<=((U s).length:Int)
 try dsimp only
 rw[hs];omega
theorem LW {s z:Int} {l:ay} (hs:U s=l) (hl:l.length<=10) {r:ay} (hz:U z=r) (hr:r.length<=10):aa 3 [s,z]:=by
 show(U s).length+(U z).length<=fQ
 try dsimp only
 rw[hs,hz];unfold fQ;omega
theorem atB {w y k v:Int} {n:Nat} (hk:k=(n:Int)) (hy:y=aB 42 [w,k,0,v]):(ab y).length=(ab w).length/\m1 y=(m1 w).set n (U v):=by
 have e:ab y=(ab w).set n (((ab w).getD n []).take 0++[v]++((ab w).getD n []).drop (0+1)):=by
  try dsimp only
  rw[hy]
  show ab (rc ((ab w).set k.toNat (((ab w).getD k.toNat []).take ((0:Int)).toNat++[v]++((ab w).getD k.toNat []).drop (((0:Int)).toNat+[v].length))))=_
  try dsimp only
  rw[dW,hk,show((n:Int)).toNat=n by omega];rfl
 refine⟨by rw[e];simp,?_⟩
 unfold m1
 try dsimp only
 rw[e,List.map_set]
 simp
theorem U7 {W:List ay} {k j:Nat} {x:ay} (h:k<W.length):(W.set k x).getD j []=if k=j then x else W.getD j []:=by
 by_cases e:k=j
 ·try dsimp only
  rw[if_pos e,<-e];simp[af,h]
 ·try dsimp only
  rw[if_neg e];simp[af,List.getElem?_set_ne e]
theorem PR {G} {w c n:Int} {l:List cW} (EO:(ab w).length=6) (hl:gA l=true) (hc:gA (a7 c)=true) (mI:∀k,k<6->(m1 w).getD k []=kH l (jk k)) (hK:∀b∈l,b.hV≠[]->b∈a7 c) (hn:n=((ab c).length:Int)) {aa5:Prop} {Fin:Int->Prop}
 (agB:∀y,(ab y).length=6->(∀k,k<6->(m1 y).getD k []=kH (a7 c) (jk k))->Fin y):
 ∃(fx:List (List Int)->Prop) (gV:List (List Int)->Nat),fx [[0],[w]]/\(∀a8:Int,0<=a8->a8<=6->∀bL:Int,0<=bL->bL<=bZ->fx [[a8],[bL]]->
    (((decide (a8<6))=true->
     aa 2 [138436335117267,a8,(a8+1)]/\
     ∀z46:Int,0<=z46->z46<=ch->z46=aB 2 [138436335117267,a8,(a8+1)]->
     aa 22 [c,0,n]/\
     ∀di:Int,0<=di->di<=bZ->di=aB 22 [c,0,n]->
     ∀fC:List Int,aO (c7 0 ch 7) fC->∀eJ:Int,0<=eJ->eJ<=1->lh G 604 [[di],[z46]] [fC,[eJ]]->
     aa 30 [a8,6]/\
     aa 21 [bL,a8]/\
     ∀eF:Int,0<=eF->eF<=ch->eF=aB 21 [bL,a8,0]->
     ∀ek:Int,0<=ek->ek<=1->ek=aB 4 [eF,0]->
     ((((!(decide (ek=1))))=true->
      aa 30 [a8,6]/\
      aa 21 [bL,a8]/\
      ∀eG:Int,0<=eG->eG<=ch->eG=aB 21 [bL,a8,0]->
      ∀z59:Int,0<=z59->z59<=1->z59=aB 4 [(af fC 6 0),eG]->
      ((((!(decide (z59=1))))=true->
       aa5
      )/\(((!(decide (z59=1))))=false->
       aa 30 [a8,6]/\
       aa 21 [bL,a8]/\
       (aa 67 [bL,a8,1]->
       ∀gm:Int,0<=gm->gm<=bZ->gm=aB 42 [bL,a8,0,(af fC 6 0)]->
       (fx [[(a8+1)],[gm]]/\gV [[(a8+1)],[gm]]<gV [[a8],[bL]])
       )
      ))
     )/\(((!(decide (ek=1))))=false->
      aa 30 [a8,6]/\
      aa 21 [bL,a8]/\
      (aa 67 [bL,a8,1]->
      ∀eG:Int,0<=eG->eG<=bZ->eG=aB 42 [bL,a8,0,(af fC 6 0)]->
      (fx [[(a8+1)],[eG]]/\gV [[(a8+1)],[eG]]<gV [[a8],[bL]])
      )
     ))
    )/\((decide (a8<6))=false->
     Fin bL
    ))):=by
 refine⟨λbl=>∃(j:Nat) (y:Int),bl=[[(j:Int)],[y]]/\j<=6/\(ab y).length=6/\(∀k,k<j->(m1 y).getD k []=kH (a7 c) (jk k))/\∀k,j<=k->k<6->(m1 y).getD k []=kH l (jk k),
  λbl=>6-((bl.getD 0 []).getD 0 0).toNat,⟨0,w,rfl,by omega,EO,λk h=>absurd h (R3 k),λk _ h=>mI k h⟩,?_⟩
 rintro a8 _ _ bL _ _ ⟨j,y,e,NS,WU,h1,h2⟩
 obtain⟨rfl,rfl⟩:a8=j/\bL=y:=by simpa using e
 refine⟨λhlt=>?_,λfa=>agB _ WU λk hk=>h1 k ?_⟩
 rotate_left
 ·have:=of_decide_eq_false fa;omega
 have hlt:=of_decide_eq_true hlt
 have hj:j<6:=by omega
 refine⟨He rfl (by simp;omega) JR,λz46 _ _ vJ=>?_⟩
 have afY:U z46=jk j:=I3 JR rfl (by simpa using hj) vJ
 refine⟨(iU (y:=0) hn).1,λdi _ _ Au fC _ eJ _ _ hF=>?_⟩
 have hF:(match pj (a7 di) (U z46)with|some b=>gN fC=b/\eJ=1|none=>fC=[0,0,0,0,0,0,0]/\eJ=0):=hF
 rw[afY,ji ((iU (y:=di) hn).2 Au)]at hF
 have hb:U (fC.getD 6 0)=kH (a7 c) (jk j):=by
  unfold kH
  cases hf:pj (a7 c) (jk j)with
  |none=>rw[hf]at hF;rw[hF.1];exact JQ
  |some b=>rw[hf]at hF;exact congrArg cW.hV hF.1
 have g:aa 30 [(j:Int),6]:=⟨by omega,by omega⟩
 have g2:aa 21 [bL,(j:Int)]:=⟨by omega,by omega⟩
 have step:∀x:Int,x=aB 42 [bL,(j:Int),0,fC.getD 6 0]->(∃(i:Nat) (y:Int),[[(j:Int)+1],[x]]=[[(i:Int)],[y]]/\i<=6/\(ab y).length=6/\(∀k,k<i->(m1 y).getD k []=kH (a7 c) (jk k))/\∀k,i<=k->k<6->(m1 y).getD k []=kH l (jk k))/\6-((([[(j:Int)+1],[x]]:List (List Int)).getD 0 []).getD 0 0).toNat<6-((([[(j:Int)],[bL]]:List (List Int)).getD 0 []).getD 0 0).toNat:=λx hx=>by
  obtain⟨e1,e2⟩:=atB rfl hx
  have WQ:(m1 bL).length=6:=by simp[m1,WU]
  refine⟨⟨j+1,x,by simp,by omega,by omega,λk hk=>?_,λk hk aiv=>?_⟩,?_⟩
  ·try dsimp only
   rw[e2,U7 (by omega)]
   by_cases e:j=k
   ·try dsimp only
    rw[if_pos e,hb,e]
   ·try dsimp only
    rw[if_neg e];exact h1 k (by omega)
  ·try dsimp only
   rw[e2,U7 (by omega),if_neg (by omega)]
   exact h2 k (by omega) aiv
  ·show 6-((j:Int)+1).toNat<6-((j:Int)).toNat;omega
 refine⟨g,g2,λeF _ _ vK ek _ _ Av=>⟨λhne=>⟨g,g2,λeG _ _ MM z59 _ _ Aw=>⟨λhno=>?_,λ_=>⟨g,g2,λ_ x _ _ hx=>step x hx⟩⟩⟩,λ_=>⟨g,g2,λ_ x _ _ hx=>step x hx⟩⟩⟩
 exfalso
 have hx:U eF=kH l (jk j):=by
  try dsimp only
  rw[<-h2 j (a6 j) hj,<-atA (by omega),vK];rfl
 have Av:=np Av
 have Aw:=np Aw
 rw[MM,<-vK,hx,hb]at Aw
 rw[Av,JQ,hx]at hne
 rw[Aw]at hno
 have hne:kH l (jk j)≠[]:=by simpa using hne
 have:=acy hl hc hK hne
 rw[decide_eq_true this]at hno
 cases hno
def Tr (n:Nat) (bl:List (List Int)):Prop:=∃(i:Nat) (w c m p:Int),bl=[[(i:Int)],[w],[c],[m],[p]]/\i<=n/\(ab w).length=6/\r9 (a7 c)/\(∀k,k<6->(m1 w).getD k []=kH (a7 c) (jk k))/\m=((ab c).length:Int)
def Lg (n:Nat) (bl:List (List Int)):Nat:=n-((bl.getD 0 []).getD 0 0).toNat
theorem aor (G):Sx (lh G) (eL (lh G) [.d .bool] 661):=by
 intro z0 a0 a1 ah _ z2 _ _ z3 _ _ h3 z4 b0 b1 h4
 have bA:∀b:Bool,b=true->eL (lh G) [.d .bool] 661 [[z0]] [[cond b 1 0]]:=λb h=>by subst h;exact⟨⟨by decide,by decide,trivial⟩,(rfl:(1:Int)=1)⟩
 have h3:z3=((ab z0).length:Int):=h3
 have h4:z4=1:=h4
 refine⟨λh=>(by rw[h4]at h;cases h),λ_=>⟨λ_=>bA true rfl,λHE z5 _ _ h5 aq _ _ h6 z7 _ _ h7 av _ _ cq z9 _ _ bU aC _ _ c8=>?_⟩⟩
 have HE:=of_decide_eq_false HE
 have f23:∀{y c:Int},y=aB 23 [c,0]->ab y=ab c++[[0]]:=λ{y c} h=>by
  try dsimp only
  rw[h];show ab (rc (ab c++[[0]]))=_;exact dW _
 have Vc:ab aC=[[0],[0],[0],[0],[0],[0]]:=by rw[f23 c8,f23 bU,f23 cq,f23 h7,f23 h6,f23 h5,Go.bg.fD];rfl
 refine⟨Tr (ab z0).length,Lg (ab z0).length,⟨0,aC,0,0,-1,rfl,mr _,by rw[Vc];rfl,?_,λk hk=>?_,by rw[Go.bg.fD];rfl⟩,?_⟩
 ·try dsimp only
  rw[BH]
  exact⟨by rfl,λp h=>by cases h⟩
 ·have:m1 aC=[[],[],[],[],[],[]]:=by unfold m1;rw[Vc];simp[JQ]
  try dsimp only
  rw[this,BH]
  match k,hk with
  |0,_=>rfl
  |1,_=>rfl
  |2,_=>rfl
  |3,_=>rfl
  |4,_=>rfl
  |5,_=>rfl
 rintro z12 bT c1 ag _ _ ak _ _ aI _ _ aT _ _ ⟨i,w,c,m,p,e,hi,EO,cw,mI,hm⟩
 obtain⟨rfl,rfl,rfl,rfl,rfl⟩:z12=i/\ag=w/\ak=c/\aI=m/\aT=p:=by simpa using e
 intro bE _
 have W:=λy=>iU (z:=ak) (y:=y) hm
 refine⟨λhlt=>?_,λfa=>⟨(W 0).1,λbr _ _ mH bH _ _ ns=>?_⟩⟩
 rotate_left
 ·have ns:bH=bh (gA (a7 br)):=ns
  rw[ji ((W br).2 mH),cw.1]at ns
  exact bA _ (by rw[ns];rfl)
 have hlt:=of_decide_eq_true hlt
 have dZ:i<(ab z0).length:=by omega
 have g:aa 30 [(i:Int),z3]:=⟨by omega,by omega⟩
 have g2:aa 21 [z0,(i:Int)]:=⟨by omega,by omega⟩
 have again:∀(bp q t:Int),t=((ab bp).length:Int)->r9 (a7 bp)->∀y,(ab y).length=6->(∀k,k<6->(m1 y).getD k []=kH (a7 bp) (jk k))->aa 39 [(i:Int)+1,0,200]/\(Tr (ab z0).length [[(i:Int)+1],[y],[bp],[t],[q]]/\Lg (ab z0).length [[(i:Int)+1],[y],[bp],[t],[q]]<Lg (ab z0).length [[(i:Int)],[ag],[ak],[aI],[aT]]):=λbp q t ht hs y hy hb=>
  ⟨⟨by omega,by omega⟩,⟨i+1,y,bp,t,q,by simp,by omega,hy,hs,hb,ht⟩,by show(ab z0).length-((i:Int)+1).toNat<(ab z0).length-((i:Int)).toNat;omega⟩
 refine⟨g,g2,λbr d0 d1 mH bH d2 d3 d4 d5=>⟨g,g2,λz20 _ _ Ap z21 d6 d7 d8 d9=>?_⟩⟩
 have awq:br=z20:=by rw[mH,Ap]
 obtain⟨k,hk⟩:∃k:Nat,br+(-5)*bH=(k:Int):=⟨(br+(-5)*bH).toNat,by omega⟩
 have iC:z20+(-5)*z21=(k:Int):=by omega
 have Wm:k<5:=by omega
 try dsimp only
 rw[hk,iC]
 refine⟨He rfl (by simp;omega) Zt,λz22 _ _ sw=>?_⟩
 have Vd:=I3 Zt rfl (by simpa using Wm) sw
 refine⟨LW Zo (by simp) Vd (by simp),λdg _ _ sx=>?_⟩
 have afU:U dg=[49,50,51,52,53]++[([54,55,56,57,48]:ay).getD k 0]:=by rw[LM sx,Zo,Vd]
 have Io:(U 124890778723732,U dg)=GJ k:=by rw[aqZ,afU];rfl
 refine⟨g,g2,λz24 _ _ _=>⟨λ_=>⟨g,g2,λcK bC e1 nt z26 e2 bt eS oL=>⟨g,g2,λdM _ _ HF z28 f0 f1 f2 f3=>?_⟩⟩,λ_ nE _ Ok=>⟨g,g2,λdh bC e1 tK dN e2 bt eS oL=>⟨g,g2,λdX _ _ Ar du f0 f1 f2 f3=>?_⟩⟩⟩⟩
 ·have awr:cK=dM:=by rw[nt,HF]
  obtain⟨j,hj⟩:∃j:Nat,cK+(-3)*z26=(j:Int):=⟨(cK+(-3)*z26).toNat,by omega⟩
  have hj':dM+(-3)*z28=(j:Int):=by omega
  have AL:j<3:=by omega
  try dsimp only
  rw[hj,hj']
  refine⟨He rfl (by simp;omega) Zp,λfj _ _ HG=>?_⟩
  have Ve:=I3 Zp rfl (by simpa using AL) HG
  refine⟨LW Zr (by simp) Ve (by simp),λee _ _ HH=>?_⟩
  have Vf:U ee=[64]++[([97,98,99]:ay).getD j 0]:=by rw[LM HH,Zr,Ve]
  refine⟨LW Vf (by simp) Zs (by simp),λz31 _ _ HI=>?_⟩
  have afV:U z31=ZF j:=by rw[LM HI,Zs,Vf];rfl
  refine⟨(W 0).1,λdh _ _ tK dN _ _ dX _ _ du _ _ hs cY _ z37 _ _ cZ _ _ xL ej _ z40 _ _ dB _ _ _=>?_⟩
  have hs:(a7 dN,a7 dX,du)=oy (a7 dh) (U 124890778723732,U dg) (U z31):=hs
  have xL:cZ=((ab dN).length:Int):=xL
  rw[Io,afV,ji ((W dh).2 tK)]at hs
  obtain⟨m,d,bo,bI,b6⟩:=cw.settle (who:=GJ k) (arw j AL)
  rw[bo]at hs
  obtain⟨r1,r2⟩:=RM hs
  obtain⟨_,fo⟩:=RM r2
  rw[<-r1]at bI b6
  exact⟨λh=>(by rw[fo]at h;cases h),λ_=>PR EO cw.1 bI.1 mI b6 xL (again dN z37 cZ xL bI)⟩
 ·have aws:dh=dX:=by rw[tK,Ar]
  obtain⟨j,hj⟩:∃j:Nat,dh+(-6)*dN=(j:Int):=⟨(dh+(-6)*dN).toNat,by omega⟩
  have hj':dX+(-6)*du=(j:Int):=by omega
  have NS:j<6:=by omega
  try dsimp only
  rw[hj,hj']
  refine⟨He rfl (by simp;omega) JR,λcY _ _ vH=>?_⟩
  have afX:U cY=jk j:=I3 JR rfl (by simpa using NS) vH
  have Ok:nE=om:=Ok
  refine⟨(W 0).1,λz37 _ _ HK cZ _ _ ej _ _ hs z40 _ dB _ _ c0 _ _ pn=>?_⟩
  have hs:(a7 cZ,ej)=oz (a7 z37) ⟨U cY,(U 124890778723732,U dg),U (nE.getD 3 0),U (nE.getD 4 0),U (nE.getD 5 0),U (nE.getD 6 0)⟩:=hs
  have pn:c0=((ab cZ).length:Int):=pn
  have hp:(⟨U cY,(U 124890778723732,U dg),U (nE.getD 3 0),U (nE.getD 4 0),U (nE.getD 5 0),U (nE.getD 6 0)⟩:cW)=zo j k:=by
   try dsimp only
   rw[afX,Io,Ok]
   show(⟨jk j,GJ k,U 1786258745,U 1786259033,U 1721197221,U 0⟩:cW)=_
   try dsimp only
   rw[QI.1,QI.2.1,QI.2.2,JQ];rfl
  rw[hp,ji ((W z37).2 HK)]at hs
  obtain⟨m,d,bo,Ft,bI,b6⟩:=cw.store NS Wm
  rw[bo]at hs
  obtain⟨r1,fo⟩:=RM hs
  rw[<-r1]at bI b6
  refine⟨λ_=>⟨λh=>?_,λ_=>PR EO cw.1 bI.1 mI b6 pn (again cZ dB c0 pn bI)⟩,λ_=>PR EO cw.1 bI.1 mI b6 pn (again cZ dB c0 pn bI)⟩
  rename_i h0
  rcases Ft with Ft|Ft
  ·rw[fo,Ft]at h0;cases h0
  ·rw[fo,Ft]at h;cases h
end Go.cd
namespace Go.cd
open Go Go.bg
def eO:cy->Nat->Option dC:=λ_ _=>none
def eU:Nat->List Nat:=λ_=>[]
def nA:bz:=⟨163,73,[.str,L9],[adR]⟩
def wm:bz:=⟨118,36,[.str,L9],[.str]⟩
def alk:cy->Nat->Option dC:=λf r=>match f,r with
 |118,1=>some ⟨[1],[(0,0,0)],[],[],[],[],[]⟩
 |_,_=>none
def alQ:Nat->List Nat:=λn=>[1]
def wo:bz:=⟨119,37,[.str,L9],[.str]⟩
def alm:cy->Nat->Option dC:=λf r=>match f,r with
 |119,1=>some ⟨[1],[(0,0,0)],[],[],[],[],[]⟩
 |_,_=>none
def alR:Nat->List Nat:=λn=>[1]
def Bm:bz:=⟨85,120,[.str,Xm],[.str]⟩
def Bi:bz:=⟨85,121,[.str,Xi],[.str]⟩
def AZ:bz:=⟨59,127,[.str,Xi],[.bool]⟩
def Bh:bz:=⟨85,122,[.str,aku],[.str]⟩
def ali:cy->Nat->Option dC:=λf r=>match f,r with
 |121,1=>some ⟨[1],[(0,0,0)],[],[],[],[],[]⟩
 |122,1=>some ⟨[1],[(0,0,0)],[],[],[],[],[]⟩
 |_,_=>none
def alO:Nat->List Nat:=λn=>[1]
def A1:bz:=⟨54,125,[.str,akq],[.str,.str,.bool]⟩
def sJ:bz:=⟨54,126,[.str,akr],[.str,.str,.bool]⟩
def Ba:bz:=⟨157,44,[.str,.str],[.bool]⟩
def ak9:cy->Nat->Option dC:=λf r=>match f,r with
 |157,2=>some ⟨[0,1,7],[(8,0,9223372036854775807)],[],[],[],[],[]⟩
 |_,_=>none
def alF:Nat->List Nat:=λn=>[1]
def qm:bz:=⟨86,65,[.str,.str],[.bool]⟩
def ak6:cy->Nat->Option dC:=λf r=>match f,r with
 |86,2=>some ⟨[0,1,7],[(8,0,9223372036854775807)],[],[],[],[],[]⟩
 |_,_=>none
def alC:Nat->List Nat:=λn=>[1]
def A6:bz:=⟨128,28,[.str],[.str]⟩
def ak7:cy->Nat->Option dC:=λf r=>match f,r with
 |128,3=>some ⟨[3,8,9],[(10,0,9223372036854775807)],[(0,0,0,0)],[],[],[],[]⟩
 |_,_=>none
def alD:Nat->List Nat:=λn=>[1,1]
def akn:bz:=⟨59,128,[.str,aks],[.bool]⟩
def BL:j9:=⟨akn,41⟩
def Bj:bz:=⟨85,123,[.str,akw],[.str]⟩
def alj:cy->Nat->Option dC:=λf r=>match f,r with
 |121,1=>some ⟨[1],[(0,0,0)],[],[],[],[],[]⟩
 |122,1=>some ⟨[1],[(0,0,0)],[],[],[],[],[]⟩
 |_,_=>none
def alP:Nat->List Nat:=λn=>[1]
def Bg:bz:=⟨85,124,[.str,akt],[.str]⟩
def alh:cy->Nat->Option dC:=λf r=>match f,r with
 |121,1=>some ⟨[1],[(0,0,0)],[],[],[],[],[]⟩
 |122,1=>some ⟨[1],[(0,0,0)],[],[],[],[],[]⟩
 |_,_=>none
def alN:Nat->List Nat:=λn=>[1]
def A3:bz:=⟨87,47,[.str],[.bool]⟩
def sK:bz:=⟨57,27,[.str],[.bool]⟩
def A5:bz:=⟨126,24,[.str],[.bool]⟩
def A2:bz:=⟨89,10,[.str],[.str,Dn]⟩
def IE:bz:=⟨129,32,[.str],[GK,.bool]⟩
def IC:bz:=⟨130,33,[.str],[.str,.bool,.bool]⟩
def Bk:bz:=⟨131,34,[.str,.str],[.str]⟩
def EY:bz:=⟨90,12,[.str,.str],[.str,Dn]⟩
def Fs:j9:=⟨EY,44⟩
def A7:bz:=⟨60,15,[.str,.str],[GK,Dn]⟩
def Be:bz:=⟨35,16,[GK],[.bool]⟩
def Bn:bz:=⟨85,202,[.str,akC],[.str]⟩
def alo:cy->Nat->Option dC:=λf r=>match f,r with
 |121,1=>some ⟨[1],[(0,0,0)],[],[],[],[],[]⟩
 |122,1=>some ⟨[1],[(0,0,0)],[],[],[],[],[]⟩
 |_,_=>none
def alT:Nat->List Nat:=λn=>[1]
def Bl:bz:=⟨85,203,[.str,akB],[.str]⟩
def aln:cy->Nat->Option dC:=λf r=>match f,r with
 |121,1=>some ⟨[1],[(0,0,0)],[],[],[],[],[]⟩
 |122,1=>some ⟨[1],[(0,0,0)],[],[],[],[],[]⟩
 |_,_=>none
def alS:Nat->List Nat:=λn=>[1]
def wq:bz:=⟨21,200,[.str],[.bool]⟩
def Bf:bz:=⟨36,201,[.str],[.bool]⟩
def Bb:bz:=⟨58,400,[.str],[.bool]⟩
def ale:cy->Nat->Option dC:=λf r=>match f,r with
 |58,2=>some ⟨[0,5],[(6,0,9223372036854775807)],[],[],[],[],[]⟩
 |_,_=>none
def alK:Nat->List Nat:=λn=>[1]
def ID:bz:=⟨91,510,[.str,.str],[adO]⟩
def A0:bz:=⟨59,501,[.str,Xm],[.bool]⟩
def Bc:bz:=⟨34,600,[.str],[.bool]⟩
def wj:bz:=⟨23,601,[pp],[.bool]⟩
def oi:dL:=⟨16,602,[rC],[.d .bool],0⟩
def ala:cy->Nat->Option dC:=λf r=>match f,r with
 |16,4=>some ⟨[0,8,9],[(10,0,9223372036854775807)],[],[],[],[],[]⟩
 |_,_=>none
def alG:Nat->List Nat:=λn=>[1]
def wi:dL:=⟨24,603,[rC,.d .str],[.d Ut,.d .bool],0⟩
def ald:cy->Nat->Option dC:=λf r=>match f,r with
 |37,3=>some ⟨[0,1,2,8],[(9,0,9223372036854775807),(10,0,9223372036854775807)],[],[],[],[],[]⟩
 |_,_=>none
def alJ:Nat->List Nat:=λn=>[1,1]
def ew:kD:=⟨25,605,[.str,.str,.str,.str,.str,.str,.str],32,[.d Ut,rC],51⟩
def wh:dL:=⟨22,619,[rC],[anQ],66⟩
def uw:dL:=⟨11,606,[rC,.d pp],[rC,.d Dn],0⟩
def uv:dL:=⟨8,607,[rC,.d GK,.d .str],[rC,rC,.d Dn],0⟩
def alb:cy->Nat->Option dC:=λf r=>match f,r with
 |8,6=>some ⟨[0,2,4,24],[(25,0,9223372036854775807)],[(2,0,0,0)],[],[(9,[.str,.str,.str,.str,.str,.str,.str],32)],[],[]⟩
 |_,_=>none
def alH:Nat->List Nat:=λn=>[1,1,1,1,1]
def ux:bz:=⟨18,608,[],[pp]⟩
def yD:dL:=⟨14,604,[rC,.d .str],[.d pp,.d .bool],0⟩
def IF:dL:=⟨52,618,[.d akD,rD],[.d .str],48⟩
def wk:bz:=⟨114,440,[Ad,Ad],[Ad]⟩
def uf:bz:=⟨73,444,[oK],[oK]⟩
def uh:bz:=⟨75,445,[oK],[oK]⟩
def uj:bz:=⟨76,446,[oK],[oK]⟩
def um:bz:=⟨77,447,[oK],[oK]⟩
def ug:bz:=⟨105,448,[ki],[ki]⟩
def ui:bz:=⟨107,449,[ki],[ki]⟩
def uk:bz:=⟨108,450,[ki],[ki]⟩
def uo:bz:=⟨109,451,[ki],[ki]⟩
def yG:dL:=⟨79,442,[rD,.d akb],[wE],71⟩
def alf:cy->Nat->Option dC:=λf r=>match f,r with
 |79,6=>some ⟨[0,1,5],[(6,0,18446744073709551615),(7,-1,9223372036854775807)],[(1,0,0,0)],[],[],[],[]⟩
 |_,_=>none
def alL:Nat->List Nat:=λn=>[1,1,1]
def yH:dL:=⟨79,443,[rD,.d akf],[wE],71⟩
def alg:cy->Nat->Option dC:=λf r=>match f,r with
 |79,6=>some ⟨[0,1,5],[(6,0,18446744073709551615),(7,-1,9223372036854775807)],[(1,0,0,0)],[],[],[],[]⟩
 |_,_=>none
def alM:Nat->List Nat:=λn=>[1,1,1]
def ako:dL:=⟨80,460,[rD],[rD],71⟩
def Fi:ik:=⟨ako,60,true⟩
def akp:dL:=⟨80,461,[rD],[rD],71⟩
def Fj:ik:=⟨akp,60,true⟩
def uq:bz:=⟨72,466,[Ur],[oK]⟩
def ur:bz:=⟨104,467,[Ur],[ki]⟩
def yz:dL:=⟨148,462,[alX],[I9],66⟩
def yA:dL:=⟨162,463,[alY],[Ja],66⟩
def IA:dL:=⟨78,464,[rD],[wE],72⟩
def y3:kE:=⟨IA,[.int .u32 1779033703,.int .u32 3144134277,.int .u32 1013904242,.int .u32 2773480762,.int .u32 1359893119,.int .u32 2600822924,.int .u32 528734635,.int .u32 1541459225,.int .i64 64,.fn 72,.fn 73,.fn 75,.fn 76,.fn 77],106,[.int .i64 4]⟩
def IL:cy->Nat->Option dC:=λf r=>match f,r with
 |113,3=>some ⟨[0],[(5,16,9223372036854775807)],[],[],[(4,[.int .u32 0 4294967295],99)],[],[]⟩
 |113,8=>some ⟨[0,106,107],[(108,0,9223372036854775807),(6,0,4294967295),(7,0,4294967295),(8,0,4294967295),(9,0,4294967295),(10,0,4294967295),(11,0,4294967295),(12,0,4294967295),(13,0,4294967295)],[],[],[],[],[]⟩
 |78,15=>some ⟨[3,5,13,47,48],[(14,-1,3)],[],[],[(11,[.int .u8 0 255],5)],[],[]⟩
 |_,_=>none
def XC:Nat->List Nat:=λn=>cond (aA n 4) [8,1] (cond (aA n 102) [8,1] [1,1,1,1])
def IB:dL:=⟨110,465,[rD],[wE],73⟩
def y4:kE:=⟨IB,[.int .u64 7640891576956012808,.int .u64 13503953896175478587,.int .u64 4354685564936845355,.int .u64 11912009170470909681,.int .u64 5840696475078001361,.int .u64 11170449401992604703,.int .u64 2270897969802886507,.int .u64 6620516959819538809,.int .i64 80,.fn 104,.fn 105,.fn 107,.fn 108,.fn 109],132,[.int .i64 8]⟩
def IM:cy->Nat->Option dC:=λf r=>match f,r with
 |146,3=>some ⟨[0],[(5,16,9223372036854775807)],[],[],[(4,[.int .u64 0 18446744073709551615],85)],[],[]⟩
 |146,8=>some ⟨[0,106,107],[(108,0,9223372036854775807),(6,0,18446744073709551615),(7,0,18446744073709551615),(8,0,18446744073709551615),(9,0,18446744073709551615),(10,0,18446744073709551615),(11,0,18446744073709551615),(12,0,18446744073709551615),(13,0,18446744073709551615)],[],[],[],[],[]⟩
 |110,15=>some ⟨[3,5,13,47,48],[(14,-1,7)],[],[],[(11,[.int .u8 0 255],5)],[],[]⟩
 |_,_=>none
def XD:Nat->List Nat:=λn=>cond (aA n 4) [8,1] (cond (aA n 166) [8,1] [1,1,1,1])
def IG:dL:=⟨51,452,[rD],[.d sb],71⟩
def BF:ik:=⟨IG,60,false⟩
def IH:dL:=⟨70,453,[rD],[.d Ty],71⟩
def BG:ik:=⟨IH,60,false⟩
def A8:bz:=⟨143,662,[ki,ki],[ki,ki]⟩
def AY:bz:=⟨161,663,[ki,ki,c1],[ki,c1]⟩
def oh:bz:=⟨144,640,[f5],[f5]⟩
def ql:bz:=⟨137,641,[f5,f5],[f5]⟩
def ue:bz:=⟨138,642,[f5,f5],[f5]⟩
def jE:bz:=⟨101,643,[f5,f5],[f5]⟩
def rB:bz:=⟨136,664,[f5],[f5]⟩
def Bo:bz:=⟨140,665,[],[f5]⟩
def uc:bz:=⟨102,644,[f5],[sb]⟩
def Bd:bz:=⟨141,645,[f5,f4],[f5]⟩
def Xv:cy->Nat->Option dC:=λf r=>match f,r with
 |141,3=>some ⟨[2,3,4,5],[(6,-1,255)],[(3,0,0,18446744073709551615),(3,1,0,18446744073709551615),(3,2,0,18446744073709551615),(3,3,0,18446744073709551615),(3,4,0,18446744073709551615)],[],[],[],[]⟩
 |_,_=>none
def XF:Nat->List Nat:=λn=>[1,5]
def A4:bz:=⟨100,666,[f5],[f5]⟩
def A9:bz:=⟨103,667,[f5],[.bool]⟩
def ud:bz:=⟨96,646,[f5,f5],[rI]⟩
def yx:bz:=⟨67,647,[],[rI]⟩
def wc:bz:=⟨97,648,[],[rI]⟩
def ub:bz:=⟨139,649,[f5,f5,f5,f5],[rI]⟩
def wa:bz:=⟨99,650,[rI,rI],[rI]⟩
def we:bz:=⟨98,651,[Yr],[rI]⟩
def yC:bz:=⟨68,652,[rI,sb],[rI]⟩
def Xu:cy->Nat->Option dC:=λf r=>match f,r with
 |68,3=>some ⟨[2,3,4,5],[(6,-1,255)],[(3,0,0,18446744073709551615),(3,1,0,18446744073709551615),(3,2,0,18446744073709551615),(3,3,0,18446744073709551615),(3,4,0,18446744073709551615),(3,5,0,18446744073709551615),(3,6,0,18446744073709551615),(3,7,0,18446744073709551615),(3,8,0,18446744073709551615),(3,9,0,18446744073709551615),(3,10,0,18446744073709551615),(3,11,0,18446744073709551615),(3,12,0,18446744073709551615),(3,13,0,18446744073709551615),(3,14,0,18446744073709551615),(3,15,0,18446744073709551615),(3,16,0,18446744073709551615),(3,17,0,18446744073709551615),(3,18,0,18446744073709551615),(3,19,0,18446744073709551615)],[],[],[],[]⟩
 |_,_=>none
def XE:Nat->List Nat:=λn=>[1,20]
def yy:bz:=⟨69,653,[Yr],[sb]⟩
def yB:bz:=⟨71,654,[sb],[sb]⟩
def yF:dL:=⟨30,655,[.d sb],[.d sb],0⟩
def uu:dL:=⟨20,656,[.d pp],[.d .str],81⟩
def yE:dL:=⟨19,657,[rC,.d .str],[.d .bool],0⟩
def alc:cy->Nat->Option dC:=λf r=>match f,r with
 |48,2=>some ⟨[0,1,7],[(8,0,9223372036854775807)],[],[],[],[],[]⟩
 |_,_=>none
def alI:Nat->List Nat:=λn=>[1]
def wg:dL:=⟨6,658,[],[.d .bool],0⟩
def EX:dL:=⟨5,661,[alB],[.d .bool],0⟩
def ak8:cy->Nat->Option dC:=λf r=>match f,r with
 |5,8=>some ⟨[0,4],[(5,0,200)],[(1,0,0,0)],[],[],[(1,[.str],6)],[(3,[.str,.str,.str,.str,.str,.str,.str])]⟩
 |5,23=>some ⟨[0,3,4,5],[(13,0,6)],[(1,0,0,0)],[],[],[],[]⟩
 |_,_=>none
def alE:Nat->List Nat:=λn=>cond (aA n 11) [1,1,1,1,1] [1,1]
def sh:Nat->List Nat×List Nat
 |73=>([1,1],[1])
 |36=>([1,1],[1])
 |37=>([1,1],[1])
 |120=>([1],[1])
 |121=>([1],[1])
 |127=>([1],[1])
 |122=>([1],[1])
 |125=>([1],[1,1,1])
 |126=>([1],[1,1,1])
 |44=>([1,1],[1])
 |65=>([1,1],[1])
 |28=>([1],[1])
 |128=>([1],[1])
 |123=>([1],[1])
 |124=>([1],[1])
 |47=>([1],[1])
 |27=>([1],[1])
 |24=>([1],[1])
 |10=>([1],[1,1])
 |32=>([1],[2,1])
 |33=>([1],[1,1,1])
 |34=>([1,1],[1])
 |12=>([1,1],[1,1])
 |15=>([1,1],[2,1])
 |16=>([2],[1])
 |202=>([1],[1])
 |203=>([1],[1])
 |200=>([1],[1])
 |201=>([1],[1])
 |400=>([1],[1])
 |510=>([1,1],[1])
 |501=>([1],[1])
 |600=>([1],[1])
 |601=>([7],[1])
 |602=>([1],[1])
 |603=>([1,1],[1,1])
 |605=>([1,1,1],[1])
 |619=>([1],[1])
 |606=>([1,7],[1,1])
 |607=>([1,2,1],[1,1,1])
 |608=>([],[7])
 |604=>([1,1],[7,1])
 |618=>([1],[1])
 |440=>([1,1],[1])
 |444=>([1],[1])
 |445=>([1],[1])
 |446=>([1],[1])
 |447=>([1],[1])
 |448=>([1],[1])
 |449=>([1],[1])
 |450=>([1],[1])
 |451=>([1],[1])
 |442=>([1],[1])
 |443=>([1],[1])
 |460=>([1],[1])
 |461=>([1],[1])
 |466=>([1],[1])
 |467=>([1],[1])
 |462=>([1],[1])
 |463=>([1],[1])
 |464=>([1],[1])
 |465=>([1],[1])
 |452=>([1],[32])
 |453=>([1],[64])
 |662=>([1,1],[1,1])
 |663=>([1,1,1],[1,1])
 |640=>([5],[5])
 |641=>([5,5],[5])
 |642=>([5,5],[5])
 |643=>([5,5],[5])
 |664=>([5],[5])
 |665=>([],[5])
 |644=>([5],[32])
 |645=>([5,4],[5])
 |666=>([5],[5])
 |667=>([5],[1])
 |646=>([5,5],[20])
 |647=>([],[20])
 |648=>([],[20])
 |649=>([5,5,5,5],[20])
 |650=>([20,20],[20])
 |651=>([15],[20])
 |652=>([20,32],[20])
 |653=>([15],[32])
 |654=>([32],[32])
 |655=>([32],[32])
 |656=>([7],[1])
 |657=>([1,1],[1])
 |658=>([],[1])
 |661=>([1],[1])
 |_=>([],[])
abbrev eQ (P:Program) (gl:dO) (c:bz) (cal:eg) (li:cy->Nat->Option dC) (lsh:Nat->List Nat) (lens:List Nat) (B:(Nat->List (List Int)->List (List Int)->Prop)->(List (List Int)->List (List Int)->Prop)->Prop):Prop:=∀S K,tA sh lsh S K lens (de c.args) c.res (c.tree P gl cal li 600 6)=B S K
end Go.cd
namespace Go.cd
open Go Go.bg Go.Proofs
theorem asv:eQ Tryz.prog b8 wm (cF [] []) alk alQ [1,1] S5:=λ_ _=>by kernel_rfl
theorem asx:eQ Tryz.prog b8 wo (cF [] []) alm alR [1,1] S7:=λ_ _=>by kernel_rfl
theorem asz:eQ Tryz.prog b8 Bm (cF [] [wm,wo]) eO eU [1] S9:=λ_ _=>by kernel_rfl
theorem ast:eQ Tryz.prog b8 Bi (cF [] [wm,wo]) eO eU [1] S3:=λ_ _=>by kernel_rfl
theorem arD:eQ Tryz.prog b8 AZ (cF [] [nA]) eO eU [1] Sc:=λ_ _=>by kernel_rfl
theorem ass:eQ Tryz.prog b8 Bh (cF [] []) ali alO [1] S2:=λ_ _=>by kernel_rfl
theorem arH:eQ Tryz.prog b8 A1 (cF [] [nA]) eO eU [1] Sg:=λ_ _=>by kernel_rfl
theorem arI:eQ Tryz.prog b8 sJ (cF [] [nA]) eO eU [1] Sh:=λ_ _=>by kernel_rfl
theorem ar1:eQ Tryz.prog b8 Ba (cF [] [nA]) ak9 alF [1,1] SA:=λ_ _=>by kernel_rfl
theorem arV:eQ Tryz.prog b8 qm (cF [] [nA]) ak6 alC [1,1] Su:=λ_ _=>by kernel_rfl
theorem arX:eQ Tryz.prog b8 A6 (cF [] []) ak7 alD [1] Sw:=λ_ _=>by kernel_rfl
theorem asu:eQ Tryz.prog b8 Bj (cF [] []) alj alP [1] S4:=λ_ _=>by kernel_rfl
theorem asr:eQ Tryz.prog b8 Bg (cF [] []) alh alN [1] S1:=λ_ _=>by kernel_rfl
theorem arU:eQ Tryz.prog b8 A3 (cF [BL] [Bj,Bh,qm]) eO eU [1] St:=λ_ _=>by kernel_rfl
theorem asl:eQ Tryz.prog b8 sK (cF [] [sJ,A3,Bg,qm]) eO eU [1] SV:=λ_ _=>by kernel_rfl
theorem arW:eQ Tryz.prog b8 A5 (cF [BL] [Ba,Bi]) eO eU [1] Sv:=λ_ _=>by kernel_rfl
end Go.cd
namespace Go.cd
open Go Go.bg Go.Proofs
theorem arJ:eQ Tryz.prog b8 A2 (cF [] [Bm,A1,A5,AZ,sK,A6,nA]) eO eU [1] Si:=λ_ _=>by kernel_rfl
theorem asw:eQ Tryz.prog b8 Bk (cF [] []) eO eU [1,1] S6:=λ_ _=>by kernel_rfl
theorem asa (S K):tA sh eU S K [1,1] (de EY.args) EY.res (Fs.tree Tryz.prog b8 (cF [] [IE,IC,Bk]) eO 600 6)=SK S K:=by kernel_rfl
theorem arZ:eQ Tryz.prog b8 A7 (cF [Fs] [A2]) eO eU [1,1] Sy:=λ_ _=>by kernel_rfl
theorem asi:eQ Tryz.prog b8 Be (cF [] [A7]) eO eU [2] SS:=λ_ _=>by kernel_rfl
theorem asA:eQ Tryz.prog b8 Bn (cF [] []) alo alT [1] Ta:=λ_ _=>by kernel_rfl
theorem asy:eQ Tryz.prog b8 Bl (cF [] []) aln alS [1] S8:=λ_ _=>by kernel_rfl
theorem asB:eQ Tryz.prog b8 wq (cF [] [sJ,Bn,qm,sK]) eO eU [1] Tb:=λ_ _=>by kernel_rfl
theorem asj:eQ Tryz.prog b8 Bf (cF [] [sJ,Bl,qm,sK]) eO eU [1] SU:=λ_ _=>by kernel_rfl
theorem ase:eQ Tryz.prog b8 Bb (cF [] []) ale alK [1] SO:=λ_ _=>by kernel_rfl
theorem arG:eQ Tryz.prog b8 A0 (cF [] [nA]) eO eU [1] Sf:=λ_ _=>by kernel_rfl
theorem asf:eQ Tryz.prog b8 Bc (cF [] [Bb,A0]) eO eU [1] SP:=λ_ _=>by kernel_rfl
theorem asd:eQ Tryz.prog b8 wj (cF [] [Bc,Be,wq,Bf]) eO eU [7] SN:=λ_ _=>by kernel_rfl
theorem ar4 (S K):ja sh alG S K [1] (cH oi.args) oi.res (oi.tree (iA []) Tryz.prog b8 (cF [] [wj]) ala 600 6)=SE S K:=by kernel_rfl
theorem asc (S K):ja sh alJ S K [1,1] (cH wi.args) wi.res (wi.tree (iA []) Tryz.prog b8 (cF [] [ID]) ald 600 6)=SM S K:=by kernel_rfl
theorem ar2 (S K):ja sh eU S K [1,1] (cH yD.args) yD.res (yD.tree (iA [oi,wi]) Tryz.prog b8 (cF [] []) eO 600 6)=SC S K:=by kernel_rfl
theorem ar9 (S K):ja sh eU S K [1] (cH wh.args) wh.res (wh.tree (iA []) Tryz.prog b8 (cF [] []) eO 600 6)=SJ S K:=by kernel_rfl
theorem ar6 (S K):ja sh eU S K [1,7] (cH uw.args) uw.res (uw.tree (Iq [ew] (iA [oi,wi,wh])) Tryz.prog b8 (cF [] [wj]) eO 600 6)=SG S K:=by kernel_rfl
theorem ar5 (S K):ja sh alH S K [1,2,1] (cH uv.args) uv.res (uv.tree (iA [oi,wh]) Tryz.prog b8 (cF [] [wq]) alb 600 6)=SF S K:=by kernel_rfl
theorem asb:eQ Tryz.prog b8 ux (cF [] []) eO eU [] SL:=λ_ _=>by kernel_rfl
end Go.cd
namespace Go.cd
open Go Go.bg Go.Proofs
theorem asm:eQ Tryz.prog b8 wk (cF [] []) eO eU [1,1] SW:=λ_ _=>by kernel_rfl
theorem arK:eQ Tryz.prog b8 uf (cF [] []) eO eU [1] Sj:=λ_ _=>by kernel_rfl
theorem arM:eQ Tryz.prog b8 uh (cF [] []) eO eU [1] Sl:=λ_ _=>by kernel_rfl
theorem arO:eQ Tryz.prog b8 uj (cF [] []) eO eU [1] Sn:=λ_ _=>by kernel_rfl
theorem arQ:eQ Tryz.prog b8 um (cF [] []) eO eU [1] Sp:=λ_ _=>by kernel_rfl
theorem arL:eQ Tryz.prog b8 ug (cF [] []) eO eU [1] Sk:=λ_ _=>by kernel_rfl
theorem arN:eQ Tryz.prog b8 ui (cF [] []) eO eU [1] Sm:=λ_ _=>by kernel_rfl
theorem arP:eQ Tryz.prog b8 uk (cF [] []) eO eU [1] So:=λ_ _=>by kernel_rfl
theorem arR:eQ Tryz.prog b8 uo (cF [] []) eO eU [1] Sq:=λ_ _=>by kernel_rfl
theorem asn (S K):ja sh alL S K [1] (cH yG.args) yG.res (yG.tree (iA []) Tryz.prog b8 (cF [] [wk]) alf 600 6)=SX S K:=by kernel_rfl
theorem aso (S K):ja sh alM S K [1] (cH yH.args) yH.res (yH.tree (iA []) Tryz.prog b8 (cF [] [wk]) alg 600 6)=SY S K:=by kernel_rfl
theorem arS:eQ Tryz.prog b8 uq (cF [] []) eO eU [1] Sr:=λ_ _=>by kernel_rfl
theorem arT:eQ Tryz.prog b8 ur (cF [] []) eO eU [1] Ss:=λ_ _=>by kernel_rfl
theorem arE (S K):ja sh eU S K [1] (cH yz.args) yz.res (yz.tree (iA []) Tryz.prog b8 (cF [] []) eO 600 6)=Sd S K:=by kernel_rfl
theorem arF (S K):ja sh eU S K [1] (cH yA.args) yA.res (yA.tree (iA []) Tryz.prog b8 (cF [] []) eO 600 6)=Se S K:=by kernel_rfl
theorem asp (S K):ja sh eU S K [1] (cH IG.args) IG.res (BF.tree (y6 [y3] (qs [Fi] (iA [yG]))) Tryz.prog b8 (cF [] []) eO 600 6)=SZ S K:=by kernel_rfl
theorem asq (S K):ja sh eU S K [1] (cH IH.args) IH.res (BG.tree (y6 [y4] (qs [Fj] (iA [yH]))) Tryz.prog b8 (cF [] []) eO 600 6)=S0 S K:=by kernel_rfl
end Go.cd
namespace Go.cd
open Go Go.bg Go.Proofs
theorem arB (S K):ja sh XC S K [1] (cH IA.args) IA.res (y3.tree (zY Tryz.prog b8 (cF [] [uq,uf,uh,uj,um]) (vr (iA [yz]) Tryz.prog b8 (cF [] [uq,uf,uh,uj,um]) IL 600 6) IL 600 [(1,0,0,4294967295),(1,1,0,4294967295),(1,2,0,4294967295),(1,3,0,4294967295),(1,4,0,4294967295),(1,5,0,4294967295),(1,6,0,4294967295),(1,7,0,4294967295)] 147))=Sa S K:=by kernel_rfl
end Go.cd
namespace Go.cd
open Go Go.bg Go.Proofs
theorem arC (S K):ja sh XD S K [1] (cH IB.args) IB.res (y4.tree (zY Tryz.prog b8 (cF [] [ur,ug,ui,uk,uo]) (vr (iA [yA]) Tryz.prog b8 (cF [] [ur,ug,ui,uk,uo]) IM 600 6) IM 600 [(1,0,0,18446744073709551615),(1,1,0,18446744073709551615),(1,2,0,18446744073709551615),(1,3,0,18446744073709551615),(1,4,0,18446744073709551615),(1,5,0,18446744073709551615),(1,6,0,18446744073709551615),(1,7,0,18446744073709551615)] 147))=Sb S K:=by kernel_rfl
end Go.cd
namespace Go.cd
open Go Go.bg Go.Proofs
theorem ash:eQ Tryz.prog b8 Bd (cF [] [rB,jE]) Xv XF [5,4] SR:=λ_ _=>by kernel_rfl
end Go.cd
namespace Go.cd
open Go Go.bg Go.Proofs
theorem ar0:eQ Tryz.prog b8 yC (cF [] [wc,we,wa]) Xu XE [20,32] Sz:=λ_ _=>by kernel_rfl
theorem asg (S K):ja sh eU S K [32] (cH yF.args) yF.res (yF.tree (qs [BG] (iA [])) Tryz.prog b8 (cF [] [yB,yx,yC,yy]) eO 600 6)=SQ S K:=by kernel_rfl
theorem ar3 (S K):ja sh eU S K [7] (cH uu.args) uu.res (uu.tree (qs [BF] (iA [yF,IF])) Tryz.prog b8 (cF [] []) eO 600 6)=SD S K:=by kernel_rfl
theorem ar7 (S K):ja sh alI S K [1,1] (cH yE.args) yE.res (yE.tree (iA [oi,uu]) Tryz.prog b8 (cF [] []) alc 600 6)=SH S K:=by kernel_rfl
theorem ar8 (S K):ja sh eU S K [] (cH wg.args) wg.res (wg.tree (iA [uw,uv,yE,uu]) Tryz.prog b8 (cF [] [ux]) eO 600 6)=SI S K:=by kernel_rfl
theorem arY (S K):ja sh alE S K [1] (cH EX.args) EX.res (EX.tree (iA [wg,uv,uw,yD,oi]) Tryz.prog b8 (cF [] [ux]) ak8 600 6)=Sx S K:=by kernel_rfl
end Go.cd
